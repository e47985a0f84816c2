/-
  The walk through the law GraphPaths.
-/
import Derived.Test.YtpdmkdhnppbllaaWAwake
set_option linter.unusedVariables false
set_option linter.unusedSimpArgs false
namespace Go.Proofs
open Go.Ik Go.Ml
set_option maxRecDepth 20000 in
set_option maxHeartbeats 4000000 in
theorem GraphPaths_c {w0 : World}  {v_words : Value} {words : List Str} (w : Str) (h_words : Sl encS w0 (Iv 0 w0.heap.size) v_words words) (hok : Ml.LOk words) :
    Calls Try.prog 6 #[v_words, strV w] w0 (Ret fun rv w1 => (∃ rb : Bool, rb = true ∧ rv = .bool rb) ∧ Ext w0 w1) := by
  have hE0 : Ext w0 w0 := Mod.refl _ _
  have hle1 := h_words.le
  refine calls_enter Try.func6 rfl Try.ntmps6 rfl ?_
  refine r_seq ?_
  refine r_region ?_
  refine OL.q (Q1.assign rfl) rfl rfl ?_
  refine OL.nil ?_
  refine r_seq ?_
  refine r_seq ?_
  refine r_region ?_
  refine OL.q (Q1.move rfl) rfl rfl ?_
  refine OL.act rfl rfl (AW.callF cl11 rfl (greatT_c (w0 := w0) (l := words)  ((h_words).iv (Nat.zero_le _) (by omega))) ?_)
  rintro _ w1 ⟨⟨b1, hb1, rfl⟩, hm1⟩
  have f1 := h_words.ext hm1
  have hE1 := hE0.ext hm1
  have hs1 := hm1.size
  refine OL.q (Q1.move rfl) rfl rfl ?_
  cases b1 with
  | true =>
    replace hb1 := hb1.symm
    refine OL.sk rfl rfl ?_
    refine OL.sk rfl rfl ?_
    refine OL.sk rfl rfl ?_
    refine OL.q (Q1.pick_t rfl rfl) rfl rfl ?_
    refine OL.nil ?_
    refine r_cond_t rfl ?_
    refine r_seq ?_
    refine r_region ?_
    refine OL.act rfl rfl (AW.callF cl12 rfl (awake8_c (w0 := w1)   ) ?_)
    rintro _ w2 ⟨⟨_, rfl, rfl⟩, hm2⟩
    have f2 := f1.ext hm2
    have hE2 := hE1.ext hm2
    have hs2 := hm2.size
    refine OL.q (Q1.assign rfl) rfl rfl ?_
    refine OL.nil ?_
    refine r_ret1 Try.func6 rfl rfl ?_
    exact Ret.mk ⟨⟨_, (by rfl), rfl⟩, hE2⟩
  | false =>
    replace hb1 := hb1.symm
    refine OL.q (Q1.move rfl) rfl rfl ?_
    refine OL.q (Q1.lenS Try.underlying9 rfl) rfl rfl ?_
    refine OL.qb (Q1.gt rfl rfl) rfl rfl ?_
    intro b2 hb2
    refine OL.q (Q1.pick_f rfl rfl) rfl rfl ?_
    refine OL.nil ?_
    cases b2 with
    | true =>
      replace hb2 := of_decide_eq_true hb2.symm
      refine r_cond_t rfl ?_
      refine r_seq ?_
      refine r_region ?_
      refine OL.act rfl rfl (AW.callF cl12 rfl (awake8_c (w0 := w1)   ) ?_)
      rintro _ w2 ⟨⟨_, rfl, rfl⟩, hm2⟩
      have f2 := f1.ext hm2
      have hE2 := hE1.ext hm2
      have hs2 := hm2.size
      refine OL.q (Q1.assign rfl) rfl rfl ?_
      refine OL.nil ?_
      refine r_ret1 Try.func6 rfl rfl ?_
      exact Ret.mk ⟨⟨_, (by rfl), rfl⟩, hE2⟩
    | false =>
      replace hb2 := of_decide_eq_false hb2.symm
      refine r_cond_f rfl ?_
      refine r_skip ?_
      refine r_seq ?_
      refine r_region ?_
      refine OL.q (Q1.move rfl) rfl rfl ?_
      have hl8 := Ml.greatT_len (l := words) (by assumption)
      refine OL.act rfl rfl (AW.callF cl14 rfl (build_c (w0 := w1) (words := words)  ((f1).iv (Nat.zero_le _) (by omega)) (by assumption) (by first | assumption | omega)) ?_)
      rintro _ w2 ⟨vg1, _, rfl, ⟨lo1, hi1, hgr_1, hlo1, hhi1⟩, rfl, hm2⟩
      have f2 := f1.ext hm2
      have hE2 := hE1.ext hm2
      have hs2 := hm2.size
      have := Ml.goodL_range words
      refine OL.q (Q1.move rfl) rfl rfl ?_
      refine OL.q (Q1.extract rfl rfl) rfl rfl ?_
      refine OL.q (Q1.extract rfl rfl) rfl rfl ?_
      refine OL.q (Q1.assign rfl) rfl rfl ?_
      refine OL.q (Q1.assign rfl) rfl rfl ?_
      refine OL.nil ?_
      refine r_seq ?_
      refine r_seq ?_
      refine r_region ?_
      refine OL.q (Q1.move rfl) rfl rfl ?_
      refine OL.qb (Q1.ne rfl rfl) rfl rfl ?_
      intro b3 hb3
      refine OL.q (Q1.move rfl) rfl rfl ?_
      cases b3 with
      | true =>
        replace hb3 := bne_iff_ne.1 hb3.symm
        refine OL.sk rfl rfl ?_
        refine OL.sk rfl rfl ?_
        refine OL.q (Q1.pick_t rfl rfl) rfl rfl ?_
        refine OL.nil ?_
        refine r_cond_t rfl ?_
        refine r_seq ?_
        refine r_region ?_
        refine OL.q (Q1.move rfl) rfl rfl ?_
        have hgr1 := hgr_1
        rcases hgr_1 with ⟨hv1, hN1⟩ | ⟨b4, vn1, nds1, hv1, hN1, hrw1, hsl1, hrel1⟩
        · subst hv1
          try subst hN1
          refine OL.q (Q1.eqNil Try.underlying26 rfl rfl) rfl rfl ?_
          refine OL.q (Q1.move rfl) rfl rfl ?_
          refine OL.act rfl rfl (AW.callF cl12 rfl (awake8_c (w0 := w2)   ) ?_)
          rintro _ w3 ⟨⟨_, rfl, rfl⟩, hm3⟩
          have f3 := f2.ext hm3
          have f4 := hgr1.ext hm3
          have hE3 := hE2.ext hm3
          have hs3 := hm3.size
          refine OL.q (Q1.pick_t rfl rfl) rfl rfl ?_
          refine OL.q (Q1.assign rfl) rfl rfl ?_
          refine OL.nil ?_
          refine r_ret1 Try.func6 rfl rfl ?_
          exact Ret.mk ⟨⟨_, (by rfl), rfl⟩, hE3⟩
        · exact absurd (by exact Ml.gnodes_no (by assumption)) hN1
      | false =>
        replace hb3 := bne_eq_false_iff_eq.1 hb3.symm
        refine OL.q (Q1.move rfl) rfl rfl ?_
        have hgr1 := hgr_1
        rcases hgr_1 with ⟨hv1, hN1⟩ | ⟨b4, vn1, nds1, hv1, hN1, hrw1, hsl1, hrel1⟩
        · exact absurd hN1 (by exact Ml.gnodes_ne (by assumption))
        · subst hv1
          have hnl1 := (All2.get hrel1).1
          refine OL.q (Q1.eqNil Try.underlying26 rfl rfl) rfl rfl ?_
          refine OL.q (Q1.pick_f rfl rfl) rfl rfl ?_
          refine OL.nil ?_
          refine r_cond_f rfl ?_
          refine r_skip ?_
          refine r_seq ?_
          refine r_region ?_
          refine OL.q (Q1.move rfl) rfl rfl ?_
          have hg0 : Ml.goodL words = 0 := by assumption
          have hgok : GOk (Ml.gnodes words) (Ml.graphB words) words := Ml.gok_of (by assumption)
          obtain ⟨hI, hgl, hel⟩ := hgok.edges
          have hso := Ml.good_sorted hg0
          have hl60 := Ml.good_len hg0
          refine OL.act rfl rfl (AW.callF cl26 rfl (trunes_c (w0 := w2)  w (by first | assumption | omega | (simp; done))) ?_)
          rintro _ w3 ⟨v1, _, rfl, h1, ⟨b5, hb4, rfl⟩, hm3⟩
          have f3 := f2.ext hm3
          have f4 := hgr1.ext hm3
          have f5 := hrel1.ext hm3
          have f6 := hsl1.ext hm3
          have f7 := hrw1.ext hm3
          have hE3 := hE2.ext hm3
          have hs3 := hm3.size
          have hle_1 := h1.le
          have := Ml.runesM_len w
          refine OL.q (Q1.move rfl) rfl rfl ?_
          refine OL.q (Q1.extract rfl rfl) rfl rfl ?_
          refine OL.q (Q1.extract rfl rfl) rfl rfl ?_
          refine OL.q (Q1.assign rfl) rfl rfl ?_
          refine OL.q (Q1.assign rfl) rfl rfl ?_
          refine OL.nil ?_
          refine r_seq ?_
          refine r_region ?_
          refine OL.q (Q1.assign rfl) rfl rfl ?_
          refine OL.nil ?_
          refine r_seq ?_
          refine r_seq ?_
          refine r_region ?_
          refine OL.q (Q1.assign rfl) rfl rfl ?_
          refine OL.nil ?_
          refine r_block ?_
          refine r_loop (I := fun m E W => ∃ (q : Bool) (z : Int) (k : Nat), E = [(0, v_words), (1, strV w), (5, ptr b4 0), (7, v1), (8, .bool q), (9, .int .i64 z), (10, .int .i64 (((k : Nat) : Int)))] ∧ m = (Ml.runesM w).length - k ∧ Ext w0 W ∧ w3.heap.size ≤ W.heap.size ∧ Sl encS W (Iv 0 w0.heap.size) v_words words ∧ Rw W lo1 hi1 b4 [vn1] ∧ Sl encN W (Iv lo1 hi1) vn1 nds1 ∧ NRel W (Iv lo1 hi1) nds1 ((Ml.gnodes words)) ∧ Gr 0 W lo1 hi1 ((ptr b4 0)) ((Ml.gnodes words)) ∧ Sl encRn W (Iv w2.heap.size w3.heap.size) v1 ((Ml.runesM w)) ∧ (HasInv (Ml.gnodes words) (Ml.graphB words) words w k q z)) ?_ ?_
          · refine ⟨_, _, ⟨(b5 : Bool), (0 : Int), (0 : Nat), rfl, rfl, hE3, Nat.le_refl _, f3, f7, f6, f5, f4, h1, (by exact HasInv.start' hgok (by assumption))⟩, ⟨rfl, rfl, rfl, rfl, rfl, rfl, rfl, trivial⟩⟩
          · rintro _ _ w4 ⟨q, z, k, rfl, rfl, hE4, hs4, f8, f9, f10, f11, f12, f13, hi⟩ ih1
            have hz := hi.n0
            refine r_seq ?_
            refine r_seq ?_
            refine r_region ?_
            refine OL.q (Q1.move rfl) rfl rfl ?_
            refine OL.q (Q1.move rfl) rfl rfl ?_
            refine OL.q (Q1.lenSl Try.underlying45 (f13) rfl) rfl rfl ?_
            refine OL.qb (Q1.lt rfl rfl) rfl rfl ?_
            intro b6 hb5
            refine OL.q (Q1.move rfl) rfl rfl ?_
            cases b6 with
            | true =>
              replace hb5 := of_decide_eq_true hb5.symm
              refine OL.q (Q1.move rfl) rfl rfl ?_
              refine OL.q (Q1.pick_t rfl rfl) rfl rfl ?_
              refine OL.nil ?_
              cases q with
              | true =>
                refine r_cond_t rfl ?_
                refine r_skip ?_
                refine r_seq ?_
                refine r_block ?_
                refine r_region ?_
                refine OL.q (Q1.move rfl) rfl rfl ?_
                refine OL.q (Q1.move rfl) rfl rfl ?_
                refine OL.q (Q1.move rfl) rfl rfl ?_
                refine OL.q (Q1.move rfl) rfl rfl ?_
                obtain ⟨x1, b7, o1, hx1, hr1, hl1, hu1, hw1⟩ := Sl.at' (P := Try.prog) f13 Try.underlying45 ti21 encRn_len (k := .i64) (n := ((k : Nat) : Int)) (k) (by omega) (by first | assumption | omega)
                refine OL.q (Q1.indexAddr rfl rfl hr1) rfl rfl ?_
                have hrr := runesM_rng hx1
                refine OL.q (Q1.load1 ti21 rfl (fun _ e => e ▸ hw1)) rfl rfl ?_
                refine OL.act rfl rfl (AW.callF cl29 rfl (next_c (w0 := w4)  (z) (x1) f12 (by omega) (by first | omega | assumption) (by first | omega | assumption) (by first | assumption | omega | (simp; done)) (by first | assumption | (simp; done))) ?_)
                rintro _ w5 ⟨_, _, rfl, rfl, ⟨b8, hb6, rfl⟩, hm4⟩
                have f14 := f8.ext hm4
                have f15 := f9.ext hm4
                have f16 := f10.ext hm4
                have f17 := f11.ext hm4
                have f18 := f12.ext hm4
                have f19 := f13.ext hm4
                have hE5 := hE4.ext hm4
                have hs5 := hm4.size
                refine OL.q (Q1.move rfl) rfl rfl ?_
                refine OL.q (Q1.extract rfl rfl) rfl rfl ?_
                refine OL.q (Q1.extract rfl rfl) rfl rfl ?_
                refine OL.q (Q1.assign rfl) rfl rfl ?_
                refine OL.q (Q1.assign rfl) rfl rfl ?_
                refine OL.nil ?_
                refine r_inBlock ?_
                refine r_region ?_
                refine OL.q (Q1.move rfl) rfl rfl ?_
                refine OL.q (Q1.addI (((k + 1 : Nat) : Int)) rfl rfl (by omega)) rfl rfl ?_
                refine OL.q (Q1.assign rfl) rfl rfl ?_
                refine OL.nil ?_
                exact (ih1 _ _ _ ⟨(b8 : Bool), (((Ml.nextM (nodeAt ((Ml.gnodes words)) z).2 x1).getD 0) : Int), (k + 1 : Nat), rfl, rfl, hE5, (by omega), f14, f15, f16, f17, f18, f19, (by first | exact hi.step' hgok hx1 (by assumption) | (exfalso; omega))⟩ (by omega)).sub ⟨rfl, rfl, rfl, rfl, rfl, rfl, rfl, trivial⟩
              | false =>
                refine r_cond_f rfl ?_
                refine r_exit rfl ?_
                refine r_seq ?_
                refine r_region ?_
                refine OL.q (Q1.move rfl) rfl rfl ?_
                refine OL.q (Q1.move rfl) rfl rfl ?_
                refine OL.act rfl rfl (AW.callF cl30 rfl (lat_c (w0 := w4) (words := words) w ((f8).iv (Nat.zero_le _) (by omega)) (by first | assumption | exact Ml.rising_sorted (by decide +kernel)) (by first | assumption | omega | (simp; done))) ?_)
                rintro _ w5 ⟨_, _, rfl, rfl, ⟨b7, hb6, rfl⟩, hm4⟩
                have f14 := f8.ext hm4
                have f15 := f9.ext hm4
                have f16 := f10.ext hm4
                have f17 := f11.ext hm4
                have f18 := f12.ext hm4
                have f19 := f13.ext hm4
                have hE5 := hE4.ext hm4
                have hs5 := hm4.size
                have := Ml.belowW_le words w
                refine OL.q (Q1.move rfl) rfl rfl ?_
                refine OL.q (Q1.extract rfl rfl) rfl rfl ?_
                refine OL.q (Q1.extract rfl rfl) rfl rfl ?_
                refine OL.q (Q1.assign rfl) rfl rfl ?_
                refine OL.q (Q1.assign rfl) rfl rfl ?_
                refine OL.nil ?_
                refine r_seq ?_
                refine r_region ?_
                refine OL.q (Q1.move rfl) rfl rfl ?_
                refine OL.q (Q1.move rfl) rfl rfl ?_
                refine OL.sk rfl rfl ?_
                refine OL.sk rfl rfl ?_
                refine OL.sk rfl rfl ?_
                refine OL.q (Q1.pick_f rfl rfl) rfl rfl ?_
                refine OL.q (Q1.move rfl) rfl rfl ?_
                refine OL.qb (Q1.eqB Try.underlying4 rfl rfl) rfl rfl ?_
                intro b8 hb7
                obtain rfl : b8 = true := hb7.trans (by first | exact Ml.eqb3 rfl (by assumption) (hi.no rfl).symm | exact Ml.eqb3 (by assumption) (by assumption) (hi.fin (by omega)))
                refine OL.q (Q1.move rfl) rfl rfl ?_
                refine OL.q (Q1.move rfl) rfl rfl ?_
                refine OL.q (Q1.move rfl) rfl rfl ?_
                refine OL.act rfl rfl (AW.callF cl31 rfl (has_c (w0 := w5)  w f18 (by omega) (by assumption) (by first | assumption | omega | (simp; done))) ?_)
                rintro _ w6 ⟨⟨b9, hb8, rfl⟩, hm5⟩
                have f20 := f14.ext hm5
                have f21 := f15.ext hm5
                have f22 := f16.ext hm5
                have f23 := f17.ext hm5
                have f24 := f18.ext hm5
                have f25 := f19.ext hm5
                have hE6 := hE5.ext hm5
                have hs6 := hm5.size
                refine OL.q (Q1.move rfl) rfl rfl ?_
                refine OL.qb (Q1.eqB Try.underlying4 rfl rfl) rfl rfl ?_
                intro b10 hb9
                obtain rfl : b10 = true := hb9.trans (by exact Ml.eqb3 (by assumption : _ = words.contains w) (by assumption : _ = words.contains w) rfl)
                refine OL.q (Q1.pick_t rfl rfl) rfl rfl ?_
                refine OL.q (Q1.move rfl) rfl rfl ?_
                refine OL.act rfl rfl (AW.callF cl12 rfl (awake8_c (w0 := w6)   ) ?_)
                rintro _ w7 ⟨⟨_, rfl, rfl⟩, hm6⟩
                have f26 := f20.ext hm6
                have f27 := f21.ext hm6
                have f28 := f22.ext hm6
                have f29 := f23.ext hm6
                have f30 := f24.ext hm6
                have f31 := f25.ext hm6
                have hE7 := hE6.ext hm6
                have hs7 := hm6.size
                refine OL.q (Q1.pick_t rfl rfl) rfl rfl ?_
                refine OL.q (Q1.assign rfl) rfl rfl ?_
                refine OL.nil ?_
                refine r_ret1 Try.func6 rfl rfl ?_
                exact Ret.mk ⟨⟨_, (by rfl), rfl⟩, hE7⟩
            | false =>
              replace hb5 := of_decide_eq_false hb5.symm
              refine OL.sk rfl rfl ?_
              refine OL.q (Q1.pick_f rfl rfl) rfl rfl ?_
              refine OL.nil ?_
              refine r_cond_f rfl ?_
              refine r_exit rfl ?_
              refine r_seq ?_
              refine r_region ?_
              refine OL.q (Q1.move rfl) rfl rfl ?_
              refine OL.q (Q1.move rfl) rfl rfl ?_
              refine OL.act rfl rfl (AW.callF cl30 rfl (lat_c (w0 := w4) (words := words) w ((f8).iv (Nat.zero_le _) (by omega)) (by first | assumption | exact Ml.rising_sorted (by decide +kernel)) (by first | assumption | omega | (simp; done))) ?_)
              rintro _ w5 ⟨_, _, rfl, rfl, ⟨b7, hb6, rfl⟩, hm4⟩
              have f14 := f8.ext hm4
              have f15 := f9.ext hm4
              have f16 := f10.ext hm4
              have f17 := f11.ext hm4
              have f18 := f12.ext hm4
              have f19 := f13.ext hm4
              have hE5 := hE4.ext hm4
              have hs5 := hm4.size
              have := Ml.belowW_le words w
              refine OL.q (Q1.move rfl) rfl rfl ?_
              refine OL.q (Q1.extract rfl rfl) rfl rfl ?_
              refine OL.q (Q1.extract rfl rfl) rfl rfl ?_
              refine OL.q (Q1.assign rfl) rfl rfl ?_
              refine OL.q (Q1.assign rfl) rfl rfl ?_
              refine OL.nil ?_
              refine r_seq ?_
              refine r_region ?_
              refine OL.q (Q1.move rfl) rfl rfl ?_
              refine OL.q (Q1.move rfl) rfl rfl ?_
              cases q with
              | true =>
                refine OL.q (Q1.move rfl) rfl rfl ?_
                refine OL.q (Q1.move rfl) rfl rfl ?_
                refine OL.act rfl rfl (AW.callF cl20 rfl (final_c (w0 := w5)  (z) f18 (by omega) (by first | omega | assumption) (by first | assumption | omega | (simp; done))) ?_)
                rintro _ w6 ⟨⟨b8, hb7, rfl⟩, hm5⟩
                have f20 := f14.ext hm5
                have f21 := f15.ext hm5
                have f22 := f16.ext hm5
                have f23 := f17.ext hm5
                have f24 := f18.ext hm5
                have f25 := f19.ext hm5
                have hE6 := hE5.ext hm5
                have hs6 := hm5.size
                refine OL.q (Q1.pick_t rfl rfl) rfl rfl ?_
                refine OL.q (Q1.move rfl) rfl rfl ?_
                refine OL.qb (Q1.eqB Try.underlying4 rfl rfl) rfl rfl ?_
                intro b9 hb8
                obtain rfl : b9 = true := hb8.trans (by first | exact Ml.eqb3 rfl (by assumption) (hi.no rfl).symm | exact Ml.eqb3 (by assumption) (by assumption) (hi.fin (by omega)))
                refine OL.q (Q1.move rfl) rfl rfl ?_
                refine OL.q (Q1.move rfl) rfl rfl ?_
                refine OL.q (Q1.move rfl) rfl rfl ?_
                refine OL.act rfl rfl (AW.callF cl31 rfl (has_c (w0 := w6)  w f24 (by omega) (by assumption) (by first | assumption | omega | (simp; done))) ?_)
                rintro _ w7 ⟨⟨b10, hb9, rfl⟩, hm6⟩
                have f26 := f20.ext hm6
                have f27 := f21.ext hm6
                have f28 := f22.ext hm6
                have f29 := f23.ext hm6
                have f30 := f24.ext hm6
                have f31 := f25.ext hm6
                have hE7 := hE6.ext hm6
                have hs7 := hm6.size
                refine OL.q (Q1.move rfl) rfl rfl ?_
                refine OL.qb (Q1.eqB Try.underlying4 rfl rfl) rfl rfl ?_
                intro b11 hb10
                obtain rfl : b11 = true := hb10.trans (by exact Ml.eqb3 (by assumption : _ = words.contains w) (by assumption : _ = words.contains w) rfl)
                refine OL.q (Q1.pick_t rfl rfl) rfl rfl ?_
                refine OL.q (Q1.move rfl) rfl rfl ?_
                refine OL.act rfl rfl (AW.callF cl12 rfl (awake8_c (w0 := w7)   ) ?_)
                rintro _ w8 ⟨⟨_, rfl, rfl⟩, hm7⟩
                have f32 := f26.ext hm7
                have f33 := f27.ext hm7
                have f34 := f28.ext hm7
                have f35 := f29.ext hm7
                have f36 := f30.ext hm7
                have f37 := f31.ext hm7
                have hE8 := hE7.ext hm7
                have hs8 := hm7.size
                refine OL.q (Q1.pick_t rfl rfl) rfl rfl ?_
                refine OL.q (Q1.assign rfl) rfl rfl ?_
                refine OL.nil ?_
                refine r_ret1 Try.func6 rfl rfl ?_
                exact Ret.mk ⟨⟨_, (by rfl), rfl⟩, hE8⟩
              | false =>
                refine OL.sk rfl rfl ?_
                refine OL.sk rfl rfl ?_
                refine OL.sk rfl rfl ?_
                refine OL.q (Q1.pick_f rfl rfl) rfl rfl ?_
                refine OL.q (Q1.move rfl) rfl rfl ?_
                refine OL.qb (Q1.eqB Try.underlying4 rfl rfl) rfl rfl ?_
                intro b8 hb7
                obtain rfl : b8 = true := hb7.trans (by first | exact Ml.eqb3 rfl (by assumption) (hi.no rfl).symm | exact Ml.eqb3 (by assumption) (by assumption) (hi.fin (by omega)))
                refine OL.q (Q1.move rfl) rfl rfl ?_
                refine OL.q (Q1.move rfl) rfl rfl ?_
                refine OL.q (Q1.move rfl) rfl rfl ?_
                refine OL.act rfl rfl (AW.callF cl31 rfl (has_c (w0 := w5)  w f18 (by omega) (by assumption) (by first | assumption | omega | (simp; done))) ?_)
                rintro _ w6 ⟨⟨b9, hb8, rfl⟩, hm5⟩
                have f20 := f14.ext hm5
                have f21 := f15.ext hm5
                have f22 := f16.ext hm5
                have f23 := f17.ext hm5
                have f24 := f18.ext hm5
                have f25 := f19.ext hm5
                have hE6 := hE5.ext hm5
                have hs6 := hm5.size
                refine OL.q (Q1.move rfl) rfl rfl ?_
                refine OL.qb (Q1.eqB Try.underlying4 rfl rfl) rfl rfl ?_
                intro b10 hb9
                obtain rfl : b10 = true := hb9.trans (by exact Ml.eqb3 (by assumption : _ = words.contains w) (by assumption : _ = words.contains w) rfl)
                refine OL.q (Q1.pick_t rfl rfl) rfl rfl ?_
                refine OL.q (Q1.move rfl) rfl rfl ?_
                refine OL.act rfl rfl (AW.callF cl12 rfl (awake8_c (w0 := w6)   ) ?_)
                rintro _ w7 ⟨⟨_, rfl, rfl⟩, hm6⟩
                have f26 := f20.ext hm6
                have f27 := f21.ext hm6
                have f28 := f22.ext hm6
                have f29 := f23.ext hm6
                have f30 := f24.ext hm6
                have f31 := f25.ext hm6
                have hE7 := hE6.ext hm6
                have hs7 := hm6.size
                refine OL.q (Q1.pick_t rfl rfl) rfl rfl ?_
                refine OL.q (Q1.assign rfl) rfl rfl ?_
                refine OL.nil ?_
                refine r_ret1 Try.func6 rfl rfl ?_
                exact Ret.mk ⟨⟨_, (by rfl), rfl⟩, hE7⟩
end Go.Proofs
