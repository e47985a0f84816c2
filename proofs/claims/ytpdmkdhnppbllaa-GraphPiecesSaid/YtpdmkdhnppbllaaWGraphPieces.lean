/-
  The walk through the law GraphPieces.
-/
import Derived.Test.YtpdmkdhnppbllaaWAwake
set_option linter.unusedVariables false
set_option linter.unusedSimpArgs false
namespace Go.Proofs
open Go.Ik Go.Ml
set_option maxRecDepth 20000 in
set_option maxHeartbeats 4000000 in
theorem GraphPieces_c {w0 : World}  {v_words : Value} {words : List Str} (w : Str) (a : Int) (b : Int) (h_words : Sl encS w0 (Iv 0 w0.heap.size) v_words words) (h_a : I64 a) (h_b : I64 b) (hok : Ml.LOk words) :
    Calls Try.prog 7 #[v_words, strV w, .int .i64 a, .int .i64 b] w0 (Ret fun rv w1 => (∃ rb : Bool, rb = true ∧ rv = .bool rb) ∧ Ext w0 w1) := by
  have hE0 : Ext w0 w0 := Mod.refl _ _
  have hle1 := h_words.le
  refine calls_enter Try.func7 rfl Try.ntmps7 rfl ?_
  refine r_seq ?_
  refine r_region ?_
  refine OL.q (Q1.assign rfl) rfl rfl ?_
  refine OL.nil ?_
  refine r_seq ?_
  refine r_seq ?_
  refine r_region ?_
  refine OL.q (Q1.move rfl) rfl rfl ?_
  refine OL.act rfl rfl (AW.callF cl11 rfl (greatT_c (w0 := w0) (l := words)  ((h_words).iv (Nat.zero_le _) (by omega))) ?_)
  rintro _ w1 ⟨⟨b1, hb1, rfl⟩, hm1⟩
  have f1 := h_words.ext hm1
  have hE1 := hE0.ext hm1
  have hs1 := hm1.size
  refine OL.q (Q1.move rfl) rfl rfl ?_
  cases b1 with
  | true =>
    replace hb1 := hb1.symm
    refine OL.sk rfl rfl ?_
    refine OL.sk rfl rfl ?_
    refine OL.sk rfl rfl ?_
    refine OL.q (Q1.pick_t rfl rfl) rfl rfl ?_
    refine OL.nil ?_
    refine r_cond_t rfl ?_
    refine r_seq ?_
    refine r_region ?_
    refine OL.act rfl rfl (AW.callF cl12 rfl (awake8_c (w0 := w1)   ) ?_)
    rintro _ w2 ⟨⟨_, rfl, rfl⟩, hm2⟩
    have f2 := f1.ext hm2
    have hE2 := hE1.ext hm2
    have hs2 := hm2.size
    refine OL.q (Q1.assign rfl) rfl rfl ?_
    refine OL.nil ?_
    refine r_ret1 Try.func7 rfl rfl ?_
    exact Ret.mk ⟨⟨_, (by rfl), rfl⟩, hE2⟩
  | false =>
    replace hb1 := hb1.symm
    refine OL.q (Q1.move rfl) rfl rfl ?_
    refine OL.q (Q1.lenS Try.underlying9 rfl) rfl rfl ?_
    refine OL.qb (Q1.gt rfl rfl) rfl rfl ?_
    intro b2 hb2
    refine OL.q (Q1.pick_f rfl rfl) rfl rfl ?_
    refine OL.nil ?_
    cases b2 with
    | true =>
      replace hb2 := of_decide_eq_true hb2.symm
      refine r_cond_t rfl ?_
      refine r_seq ?_
      refine r_region ?_
      refine OL.act rfl rfl (AW.callF cl12 rfl (awake8_c (w0 := w1)   ) ?_)
      rintro _ w2 ⟨⟨_, rfl, rfl⟩, hm2⟩
      have f2 := f1.ext hm2
      have hE2 := hE1.ext hm2
      have hs2 := hm2.size
      refine OL.q (Q1.assign rfl) rfl rfl ?_
      refine OL.nil ?_
      refine r_ret1 Try.func7 rfl rfl ?_
      exact Ret.mk ⟨⟨_, (by rfl), rfl⟩, hE2⟩
    | false =>
      replace hb2 := of_decide_eq_false hb2.symm
      refine r_cond_f rfl ?_
      refine r_skip ?_
      refine r_seq ?_
      refine r_region ?_
      refine OL.q (Q1.move rfl) rfl rfl ?_
      have hl8 := Ml.greatT_len (l := words) (by assumption)
      refine OL.act rfl rfl (AW.callF cl14 rfl (build_c (w0 := w1) (words := words)  ((f1).iv (Nat.zero_le _) (by omega)) (by assumption) (by first | assumption | omega)) ?_)
      rintro _ w2 ⟨vg1, _, rfl, ⟨lo1, hi1, hgr_1, hlo1, hhi1⟩, rfl, hm2⟩
      have f2 := f1.ext hm2
      have hE2 := hE1.ext hm2
      have hs2 := hm2.size
      have := Ml.goodL_range words
      refine OL.q (Q1.move rfl) rfl rfl ?_
      refine OL.q (Q1.extract rfl rfl) rfl rfl ?_
      refine OL.q (Q1.extract rfl rfl) rfl rfl ?_
      refine OL.q (Q1.assign rfl) rfl rfl ?_
      refine OL.q (Q1.assign rfl) rfl rfl ?_
      refine OL.nil ?_
      refine r_seq ?_
      refine r_seq ?_
      refine r_region ?_
      refine OL.q (Q1.move rfl) rfl rfl ?_
      refine OL.qb (Q1.ne rfl rfl) rfl rfl ?_
      intro b3 hb3
      refine OL.q (Q1.move rfl) rfl rfl ?_
      cases b3 with
      | true =>
        replace hb3 := bne_iff_ne.1 hb3.symm
        refine OL.sk rfl rfl ?_
        refine OL.sk rfl rfl ?_
        refine OL.q (Q1.pick_t rfl rfl) rfl rfl ?_
        refine OL.nil ?_
        refine r_cond_t rfl ?_
        refine r_seq ?_
        refine r_region ?_
        refine OL.q (Q1.move rfl) rfl rfl ?_
        have hgr1 := hgr_1
        rcases hgr_1 with ⟨hv1, hN1⟩ | ⟨b4, vn1, nds1, hv1, hN1, hrw1, hsl1, hrel1⟩
        · subst hv1
          try subst hN1
          refine OL.q (Q1.eqNil Try.underlying26 rfl rfl) rfl rfl ?_
          refine OL.q (Q1.move rfl) rfl rfl ?_
          refine OL.act rfl rfl (AW.callF cl12 rfl (awake8_c (w0 := w2)   ) ?_)
          rintro _ w3 ⟨⟨_, rfl, rfl⟩, hm3⟩
          have f3 := f2.ext hm3
          have f4 := hgr1.ext hm3
          have hE3 := hE2.ext hm3
          have hs3 := hm3.size
          refine OL.q (Q1.pick_t rfl rfl) rfl rfl ?_
          refine OL.q (Q1.assign rfl) rfl rfl ?_
          refine OL.nil ?_
          refine r_ret1 Try.func7 rfl rfl ?_
          exact Ret.mk ⟨⟨_, (by rfl), rfl⟩, hE3⟩
        · exact absurd (by exact Ml.gnodes_no (by assumption)) hN1
      | false =>
        replace hb3 := bne_eq_false_iff_eq.1 hb3.symm
        refine OL.q (Q1.move rfl) rfl rfl ?_
        have hgr1 := hgr_1
        rcases hgr_1 with ⟨hv1, hN1⟩ | ⟨b4, vn1, nds1, hv1, hN1, hrw1, hsl1, hrel1⟩
        · exact absurd hN1 (by exact Ml.gnodes_ne (by assumption))
        · subst hv1
          have hnl1 := (All2.get hrel1).1
          refine OL.q (Q1.eqNil Try.underlying26 rfl rfl) rfl rfl ?_
          refine OL.q (Q1.pick_f rfl rfl) rfl rfl ?_
          refine OL.nil ?_
          refine r_cond_f rfl ?_
          refine r_skip ?_
          refine r_seq ?_
          refine r_region ?_
          refine OL.q (Q1.move rfl) rfl rfl ?_
          refine OL.act rfl rfl (AW.callF cl32 rfl (low_c (w0 := w2)  (a) (10) (by first | omega | assumption) (by first | omega | assumption) (by omega)) ?_)
          rintro _ w3 ⟨rfl, hm3, hp1⟩
          have f3 := f2.ext hm3
          have f4 := hgr1.ext hm3
          have f5 := hrel1.ext hm3
          have f6 := hsl1.ext hm3
          have f7 := hrw1.ext hm3
          have hE3 := hE2.ext hm3
          have hs3 := hm3.size
          refine OL.q (Q1.move rfl) rfl rfl ?_
          refine OL.act rfl rfl (AW.callF cl32 rfl (low_c (w0 := w3)  (b) (10) (by first | omega | assumption) (by first | omega | assumption) (by omega)) ?_)
          rintro _ w4 ⟨rfl, hm4, hp2⟩
          have f8 := f3.ext hm4
          have f9 := f4.ext hm4
          have f10 := f5.ext hm4
          have f11 := f6.ext hm4
          have f12 := f7.ext hm4
          have hE4 := hE3.ext hm4
          have hs4 := hm4.size
          refine OL.q (Q1.assign rfl) rfl rfl ?_
          refine OL.q (Q1.assign rfl) rfl rfl ?_
          have hg0 : Ml.goodL words = 0 := by assumption
          have hgok : GOk (Ml.gnodes words) (Ml.graphB words) words := Ml.gok_of (by assumption)
          obtain ⟨hI, hgl, hel⟩ := hgok.edges
          have hso := Ml.good_sorted hg0
          have hl60 := Ml.good_len hg0
          obtain ⟨p1, p2, p3, p4, p5⟩ := Ml.pieces hg0 w (a := Ml.lowM a 10) (b := Ml.lowM b 10) (by omega) (by omega)
          refine OL.nil ?_
          refine r_seq ?_
          refine r_region ?_
          refine OL.q (Q1.move rfl) rfl rfl ?_
          refine OL.q (Q1.move rfl) rfl rfl ?_
          refine OL.act rfl rfl (AW.callF cl33 rfl (from_c (w0 := w4) w (100) (by first | assumption | omega) f9 (by omega) (by assumption) (by first | omega | (simp; done))) ?_)
          rintro v1 w5 ⟨⟨gr1, h1, hg1⟩, hm5⟩
          have f13 := f8.ext hm5
          have f14 := f9.ext hm5
          have f15 := f10.ext hm5
          have f16 := f11.ext hm5
          have f17 := f12.ext hm5
          have hE5 := hE4.ext hm5
          have hs5 := hm5.size
          have hle_1 := h1.le
          have hlt_1 := h1.lt
          refine OL.q (Q1.assign rfl) rfl rfl ?_
          refine OL.nil ?_
          refine r_seq ?_
          refine r_region ?_
          refine OL.q (Q1.move rfl) rfl rfl ?_
          refine OL.q (Q1.move rfl) rfl rfl ?_
          refine OL.q (Q1.move rfl) rfl rfl ?_
          refine OL.act rfl rfl (AW.callF cl33 rfl (from_c (w0 := w5) w ((Ml.lowM a 10)) (by first | assumption | omega) f14 (by omega) (by assumption) (by first | omega | (simp; done))) ?_)
          rintro v2 w6 ⟨⟨gr2, h2, hg2⟩, hm6⟩
          have hl1 := h1.lt
          have f18 := f13.ext hm6
          have f19 := f14.ext hm6
          have f20 := f15.ext hm6
          have f21 := f16.ext hm6
          have f22 := f17.ext hm6
          have f23 := h1.ext hm6
          have hE6 := hE5.ext hm6
          have hs6 := hm6.size
          have hle_2 := h2.le
          have hlt_2 := h2.lt
          refine OL.q (Q1.assign rfl) rfl rfl ?_
          refine OL.nil ?_
          refine r_seq ?_
          refine r_seq ?_
          refine r_region ?_
          refine OL.q (Q1.move rfl) rfl rfl ?_
          refine OL.q (Q1.lenSl Try.underlying22 (h2.sl) rfl) rfl rfl ?_
          refine OL.q (Q1.move rfl) rfl rfl ?_
          refine OL.q (Q1.move rfl) rfl rfl ?_
          refine OL.q (Q1.lenSl Try.underlying22 (f23.sl) rfl) rfl rfl ?_
          refine OL.q (Q1.min rfl rfl) rfl rfl ?_
          refine OL.qb (Q1.ne rfl rfl) rfl rfl ?_
          intro b5 hb4
          obtain rfl : b5 = false := hb4.trans (by exact bne_eq_false_iff_eq.2 p1)
          refine OL.q (Q1.move rfl) rfl rfl ?_
          refine OL.q (Q1.move rfl) rfl rfl ?_
          refine OL.q (Q1.move rfl) rfl rfl ?_
          refine OL.q (Q1.move rfl) rfl rfl ?_
          refine OL.q (Q1.lenSl Try.underlying22 (h2.sl) rfl) rfl rfl ?_
          obtain ⟨v3, hr1, hl2⟩ := Sl.part (P := Try.prog) f23.sl Try.underlying22 ti9 encS_len (0) (((fromM words w ((Ml.lowM a 10)))).length) (.inl ⟨rfl, rfl⟩) (.inr ⟨.i64, ((((fromM words w ((Ml.lowM a 10)))).length : Nat) : Int), rfl, by omega⟩) (by omega) (by first | assumption | omega)
          refine OL.q (Q1.sliceV rfl rfl rfl rfl hr1) rfl rfl ?_
          replace hl2 : Sl encS w6 (Iv ((gr1 - 1)) gr1) v3 (((fromM words w (100))).take (((fromM words w ((Ml.lowM a 10)))).length)) := by simpa using hl2
          refine OL.act rfl rfl (AW.callF cl28 rfl (sameT_c (w0 := w6) (a := (fromM words w ((Ml.lowM a 10)))) (b := (((fromM words w (100))).take (((fromM words w ((Ml.lowM a 10)))).length)))  ((h2.sl).iv (Nat.zero_le _) (by omega)) ((hl2).iv (Nat.zero_le _) (by omega))) ?_)
          rintro _ w7 ⟨⟨b6, hb5, rfl⟩, hm7⟩
          have hl3 := f23.lt
          have hl4 := h2.lt
          have f24 := f18.ext hm7
          have f25 := f19.ext hm7
          have f26 := f20.ext hm7
          have f27 := f21.ext hm7
          have f28 := f22.ext hm7
          have f29 := f23.ext hm7
          have f30 := h2.ext hm7
          have f31 := hl2.ext hm7
          have hE7 := hE6.ext hm7
          have hs7 := hm7.size
          obtain rfl : b6 = true := hb5.trans (by exact decide_eq_true p2)
          refine OL.q (Q1.not rfl) rfl rfl ?_
          refine OL.q (Q1.pick_f rfl rfl) rfl rfl ?_
          refine OL.nil ?_
          refine r_cond_f rfl ?_
          refine r_skip ?_
          refine r_seq ?_
          refine r_seq ?_
          refine r_region ?_
          refine OL.q (Q1.move rfl) rfl rfl ?_
          refine OL.q (Q1.lenSl Try.underlying22 (f30.sl) rfl) rfl rfl ?_
          refine OL.qb (Q1.eq rfl rfl) rfl rfl ?_
          intro b7 hb6
          refine OL.nil ?_
          cases b7 with
          | true =>
            replace hb6 := eq_of_beq hb6.symm
            refine r_cond_t rfl ?_
            refine r_seq ?_
            refine r_region ?_
            refine OL.act rfl rfl (AW.callF cl12 rfl (awake8_c (w0 := w7)   ) ?_)
            rintro _ w8 ⟨⟨_, rfl, rfl⟩, hm8⟩
            have hl5 := f29.lt
            have hl6 := f30.lt
            have f32 := f24.ext hm8
            have f33 := f25.ext hm8
            have f34 := f26.ext hm8
            have f35 := f27.ext hm8
            have f36 := f28.ext hm8
            have f37 := f29.ext hm8
            have f38 := f30.ext hm8
            have f39 := f31.ext hm8
            have hE8 := hE7.ext hm8
            have hs8 := hm8.size
            refine OL.q (Q1.assign rfl) rfl rfl ?_
            refine OL.nil ?_
            refine r_ret1 Try.func7 rfl rfl ?_
            exact Ret.mk ⟨⟨_, (by rfl), rfl⟩, hE8⟩
          | false =>
            replace hb6 := ne_of_beq_false hb6.symm
            refine r_cond_f rfl ?_
            refine r_skip ?_
            refine r_seq ?_
            refine r_region ?_
            refine OL.q (Q1.move rfl) rfl rfl ?_
            refine OL.q (Q1.move rfl) rfl rfl ?_
            refine OL.q (Q1.move rfl) rfl rfl ?_
            refine OL.q (Q1.lenSl Try.underlying22 (f30.sl) rfl) rfl rfl ?_
            refine OL.q (Q1.subI ((((((fromM words w ((Ml.lowM a 10)))).length : Nat) : Int) - 1)) rfl rfl (by omega)) rfl rfl ?_
            obtain ⟨x1, b8, o1, hx1, hr2, hl5, hu1, hw1⟩ := Sl.at' (P := Try.prog) f30.sl Try.underlying22 ti9 encS_len (k := .i64) (n := (((((fromM words w ((Ml.lowM a 10)))).length : Nat) : Int) - 1)) ((((fromM words w ((Ml.lowM a 10)))).length - 1)) (by omega) (by first | assumption | omega)
            refine OL.q (Q1.indexAddr rfl rfl hr2) rfl rfl ?_
            refine OL.q (Q1.load1 ti9 rfl (fun _ e => e ▸ hw1)) rfl rfl ?_
            refine OL.q (Q1.move rfl) rfl rfl ?_
            refine OL.q (Q1.addI (((Ml.lowM b 10) + 1)) rfl rfl (by omega)) rfl rfl ?_
            refine OL.act rfl rfl (AW.callF cl33 rfl (from_c (w0 := w7) x1 (((Ml.lowM b 10) + 1)) (by first | assumption | omega) f25 (by omega) (by assumption) (by first | omega | (simp; done))) ?_)
            rintro v4 w8 ⟨⟨gr3, h3, hg3⟩, hm8⟩
            have hl6 := f29.lt
            have hl7 := f30.lt
            have f32 := f24.ext hm8
            have f33 := f25.ext hm8
            have f34 := f26.ext hm8
            have f35 := f27.ext hm8
            have f36 := f28.ext hm8
            have f37 := f29.ext hm8
            have f38 := f30.ext hm8
            have f39 := f31.ext hm8
            have hE8 := hE7.ext hm8
            have hs8 := hm8.size
            have hle_3 := h3.le
            have hlt_3 := h3.lt
            refine OL.q (Q1.assign rfl) rfl rfl ?_
            refine OL.nil ?_
            refine r_seq ?_
            refine r_region ?_
            refine OL.q (Q1.move rfl) rfl rfl ?_
            refine OL.q (Q1.move rfl) rfl rfl ?_
            refine OL.q (Q1.lenSl Try.underlying22 (f38.sl) rfl) rfl rfl ?_
            refine OL.q (Q1.subI ((((((fromM words w ((Ml.lowM a 10)))).length : Nat) : Int) - 1)) rfl rfl (by omega)) rfl rfl ?_
            obtain ⟨v5, hr3, hl8⟩ := Sl.part (P := Try.prog) f37.sl Try.underlying22 ti9 encS_len ((((fromM words w ((Ml.lowM a 10)))).length - 1)) (((fromM words w (100))).length) (.inr ⟨.i64, (((((fromM words w ((Ml.lowM a 10)))).length : Nat) : Int) - 1), rfl, by omega⟩) (.inl ⟨rfl, rfl⟩) (by omega) (by first | assumption | omega)
            refine OL.q (Q1.sliceV rfl rfl rfl rfl hr3) rfl rfl ?_
            replace hl8 : Sl encS w8 (Iv ((gr1 - 1)) gr1) v5 (((fromM words w (100))).drop ((((fromM words w ((Ml.lowM a 10)))).length - 1))) := by simpa using hl8
            refine OL.q (Q1.assign rfl) rfl rfl ?_
            refine OL.nil ?_
            refine r_seq ?_
            refine r_region ?_
            refine OL.q (Q1.move rfl) rfl rfl ?_
            refine OL.q (Q1.move rfl) rfl rfl ?_
            refine OL.q (Q1.move rfl) rfl rfl ?_
            refine OL.q (Q1.addI (((Ml.lowM b 10) + 1)) rfl rfl (by omega)) rfl rfl ?_
            refine OL.q (Q1.move rfl) rfl rfl ?_
            refine OL.q (Q1.lenSl Try.underlying22 (hl8) rfl) rfl rfl ?_
            refine OL.q (Q1.min rfl rfl) rfl rfl ?_
            obtain ⟨v6, hr4, hl9⟩ := Sl.part (P := Try.prog) hl8 Try.underlying22 ti9 encS_len (0) (((min (((Ml.lowM b 10) + 1)) (((((((fromM words w (100))).drop ((((fromM words w ((Ml.lowM a 10)))).length - 1)))).length : Nat) : Int)))).toNat) (.inl ⟨rfl, rfl⟩) (.inr ⟨.i64, (min (((Ml.lowM b 10) + 1)) (((((((fromM words w (100))).drop ((((fromM words w ((Ml.lowM a 10)))).length - 1)))).length : Nat) : Int))), rfl, by omega⟩) (by omega) (by first | assumption | omega)
            refine OL.q (Q1.sliceV rfl rfl rfl rfl hr4) rfl rfl ?_
            replace hl9 : Sl encS w8 (Iv ((gr1 - 1)) gr1) v6 (((((fromM words w (100))).drop ((((fromM words w ((Ml.lowM a 10)))).length - 1)))).take (((min (((Ml.lowM b 10) + 1)) (((((((fromM words w (100))).drop ((((fromM words w ((Ml.lowM a 10)))).length - 1)))).length : Nat) : Int)))).toNat)) := by simpa using hl9
            refine OL.act rfl rfl (AW.callF cl28 rfl (sameT_c (w0 := w8) (a := (fromM words x1 (((Ml.lowM b 10) + 1)))) (b := (((((fromM words w (100))).drop ((((fromM words w ((Ml.lowM a 10)))).length - 1)))).take (((min (((Ml.lowM b 10) + 1)) (((((((fromM words w (100))).drop ((((fromM words w ((Ml.lowM a 10)))).length - 1)))).length : Nat) : Int)))).toNat)))  ((h3.sl).iv (Nat.zero_le _) (by omega)) ((hl9).iv (Nat.zero_le _) (by omega))) ?_)
            rintro _ w9 ⟨⟨b9, hb7, rfl⟩, hm9⟩
            have hl10 := f37.lt
            have hl11 := f38.lt
            have hl12 := h3.lt
            have f40 := f32.ext hm9
            have f41 := f33.ext hm9
            have f42 := f34.ext hm9
            have f43 := f35.ext hm9
            have f44 := f36.ext hm9
            have f45 := f37.ext hm9
            have f46 := f38.ext hm9
            have f47 := f39.ext hm9
            have f48 := h3.ext hm9
            have f49 := hl8.ext hm9
            have f50 := hl9.ext hm9
            have hE9 := hE8.ext hm9
            have hs9 := hm9.size
            obtain rfl : b9 = true := hb7.trans (by exact decide_eq_true (by rw [p3 _ hx1]; congr 1; omega))
            refine OL.q (Q1.move rfl) rfl rfl ?_
            refine OL.q (Q1.move rfl) rfl rfl ?_
            refine OL.act rfl rfl (AW.callF cl33 rfl (from_c (w0 := w9) (([] : Str)) (100) (by first | assumption | omega) f41 (by omega) (by assumption) (by first | omega | (simp; done))) ?_)
            rintro v7 w10 ⟨⟨gr4, h4, hg4⟩, hm10⟩
            have hl13 := f45.lt
            have hl14 := f46.lt
            have hl15 := f48.lt
            have f51 := f40.ext hm10
            have f52 := f41.ext hm10
            have f53 := f42.ext hm10
            have f54 := f43.ext hm10
            have f55 := f44.ext hm10
            have f56 := f45.ext hm10
            have f57 := f46.ext hm10
            have f58 := f47.ext hm10
            have f59 := f48.ext hm10
            have f60 := f49.ext hm10
            have f61 := f50.ext hm10
            have hE10 := hE9.ext hm10
            have hs10 := hm10.size
            have hle_4 := h4.le
            have hlt_4 := h4.lt
            refine OL.q (Q1.move rfl) rfl rfl ?_
            refine OL.act rfl rfl (AW.callF cl28 rfl (sameT_c (w0 := w10) (a := (fromM words (([] : Str)) (100))) (b := words)  ((h4.sl).iv (Nat.zero_le _) (by omega)) ((f51).iv (Nat.zero_le _) (by omega))) ?_)
            rintro _ w11 ⟨⟨b10, hb8, rfl⟩, hm11⟩
            have hl16 := f56.lt
            have hl17 := f57.lt
            have hl18 := f59.lt
            have hl19 := h4.lt
            have f62 := f51.ext hm11
            have f63 := f52.ext hm11
            have f64 := f53.ext hm11
            have f65 := f54.ext hm11
            have f66 := f55.ext hm11
            have f67 := f56.ext hm11
            have f68 := f57.ext hm11
            have f69 := f58.ext hm11
            have f70 := f59.ext hm11
            have f71 := f60.ext hm11
            have f72 := f61.ext hm11
            have f73 := h4.ext hm11
            have hE11 := hE10.ext hm11
            have hs11 := hm11.size
            obtain rfl : b10 = true := hb8.trans (by exact decide_eq_true p4)
            refine OL.q (Q1.pick_t rfl rfl) rfl rfl ?_
            refine OL.q (Q1.move rfl) rfl rfl ?_
            refine OL.q (Q1.move rfl) rfl rfl ?_
            refine OL.q (Q1.move rfl) rfl rfl ?_
            refine OL.q (Q1.move rfl) rfl rfl ?_
            refine OL.q (Q1.negI ((-((Ml.lowM a 10)))) rfl (by omega)) rfl rfl ?_
            refine OL.act rfl rfl (AW.callF cl33 rfl (from_c (w0 := w11) w ((-((Ml.lowM a 10)))) (by first | assumption | omega) f63 (by omega) (by assumption) (by first | omega | (simp; done))) ?_)
            rintro v8 w12 ⟨⟨gr5, h5, hg5⟩, hm12⟩
            have hl20 := f67.lt
            have hl21 := f68.lt
            have hl22 := f70.lt
            have hl23 := f73.lt
            have f74 := f62.ext hm12
            have f75 := f63.ext hm12
            have f76 := f64.ext hm12
            have f77 := f65.ext hm12
            have f78 := f66.ext hm12
            have f79 := f67.ext hm12
            have f80 := f68.ext hm12
            have f81 := f69.ext hm12
            have f82 := f70.ext hm12
            have f83 := f71.ext hm12
            have f84 := f72.ext hm12
            have f85 := f73.ext hm12
            have hE12 := hE11.ext hm12
            have hs12 := hm12.size
            have hle_5 := h5.le
            have hlt_5 := h5.lt
            refine OL.q (Q1.lenSl Try.underlying22 (h5.sl) rfl) rfl rfl ?_
            refine OL.qb (Q1.eq rfl rfl) rfl rfl ?_
            intro b11 hb9
            obtain rfl : b11 = true := hb9.trans (by exact beq_iff_eq.2 (by rw [p5]; rfl))
            refine OL.q (Q1.pick_t rfl rfl) rfl rfl ?_
            refine OL.q (Q1.move rfl) rfl rfl ?_
            refine OL.act rfl rfl (AW.callF cl12 rfl (awake8_c (w0 := w12)   ) ?_)
            rintro _ w13 ⟨⟨_, rfl, rfl⟩, hm13⟩
            have hl24 := f79.lt
            have hl25 := f80.lt
            have hl26 := f82.lt
            have hl27 := f85.lt
            have hl28 := h5.lt
            have f86 := f74.ext hm13
            have f87 := f75.ext hm13
            have f88 := f76.ext hm13
            have f89 := f77.ext hm13
            have f90 := f78.ext hm13
            have f91 := f79.ext hm13
            have f92 := f80.ext hm13
            have f93 := f81.ext hm13
            have f94 := f82.ext hm13
            have f95 := f83.ext hm13
            have f96 := f84.ext hm13
            have f97 := f85.ext hm13
            have f98 := h5.ext hm13
            have hE13 := hE12.ext hm13
            have hs13 := hm13.size
            refine OL.q (Q1.pick_t rfl rfl) rfl rfl ?_
            refine OL.q (Q1.assign rfl) rfl rfl ?_
            refine OL.nil ?_
            refine r_ret1 Try.func7 rfl rfl ?_
            exact Ret.mk ⟨⟨_, (by rfl), rfl⟩, hE13⟩
end Go.Proofs
