/-
  The walk through the law WalkNext.
-/
import Derived.Test.YtjhbobjjkbppkaaWAwake
import Derived.Test.YtjhbobjjkbppkaaWRef10
set_option linter.unusedVariables false
set_option linter.unusedSimpArgs false
namespace Go.Proofs
open Go.Ik Go.Ml
set_option maxRecDepth 20000 in
set_option maxHeartbeats 4000000 in
theorem WalkNext_c {w0 : World}  {v_words : Value} {words : List Str} (s : Str) (k : Int) (first : Bool) {after : Itm} (batch : Int) (h_words : Sl encS w0 (Iv 0 w0.heap.size) v_words words) (h_k : I64 k) (h_batch : I64 batch) (hok : Ml.LOk words) (had0 : I64 after.dist) :
    Calls Try.prog 3 #[v_words, strV s, .int .i64 k, .bool first, .agg #[.int .i64 after.dist, strV after.word], .int .i64 batch] w0 (Ret fun rv w1 => (∃ rb : Bool, rb = true ∧ rv = .bool rb) ∧ Ext w0 w1) := by
  have hE0 : Ext w0 w0 := Mod.refl _ _
  have hle1 := h_words.le
  refine calls_enter Try.func3 rfl Try.ntmps3 rfl ?_
  refine r_seq ?_
  refine r_region ?_
  refine OL.act rfl rfl (AW.box [.int .i64 after.dist, strV after.word] rfl rfl ?_)
  intro w1 b1 hm1 hb1 hz1 hk1
  have f1 := h_words.ext hm1
  have hE1 := hE0.ext hm1
  have hs1 := hm1.size
  refine OL.q (Q1.assign rfl) rfl rfl ?_
  refine OL.nil ?_
  refine r_seq ?_
  refine r_seq ?_
  refine r_region ?_
  refine OL.q (Q1.move rfl) rfl rfl ?_
  refine OL.q (Q1.move rfl) rfl rfl ?_
  refine OL.act rfl rfl (AW.callF cl12 rfl (great11_c (w0 := w1) (words := words) s ((f1).iv (Nat.zero_le _) (by omega))) ?_)
  rintro _ w2 ⟨⟨b2, hb2, rfl⟩, hm2⟩
  have f2 := f1.ext hm2
  have f3 := hk1.ext hm2
  have hE2 := hE1.ext hm2
  have hs2 := hm2.size
  refine OL.q (Q1.move rfl) rfl rfl ?_
  cases b2 with
  | true =>
    replace hb2 := hb2.symm
    refine OL.sk rfl rfl ?_
    refine OL.sk rfl rfl ?_
    refine OL.sk rfl rfl ?_
    refine OL.sk rfl rfl ?_
    refine OL.q (Q1.pick_t rfl rfl) rfl rfl ?_
    refine OL.nil ?_
    refine r_cond_t rfl ?_
    refine r_seq ?_
    refine r_region ?_
    refine OL.act rfl rfl (AW.callF cl13 rfl (awake11_c (w0 := w2)   ) ?_)
    rintro _ w3 ⟨⟨_, rfl, rfl⟩, hm3⟩
    have f4 := f2.ext hm3
    have f5 := f3.ext hm3
    have hE3 := hE2.ext hm3
    have hs3 := hm3.size
    refine OL.q (Q1.assign rfl) rfl rfl ?_
    refine OL.nil ?_
    refine r_ret1 Try.func3 rfl rfl ?_
    exact Ret.mk ⟨⟨_, (by rfl), rfl⟩, hE3⟩
  | false =>
    replace hb2 := hb2.symm
    refine OL.q (Q1.fieldAddr fl24_1 rfl) rfl rfl ?_
    refine OL.q (Q1.load1 ti9 rfl (fun _ e => e ▸ (f3.cell 1 _ rfl))) rfl rfl ?_
    refine OL.q (Q1.lenS Try.underlying9 rfl) rfl rfl ?_
    refine OL.qb (Q1.gt rfl rfl) rfl rfl ?_
    intro b3 hb3
    refine OL.q (Q1.pick_f rfl rfl) rfl rfl ?_
    refine OL.nil ?_
    cases b3 with
    | true =>
      replace hb3 := of_decide_eq_true hb3.symm
      refine r_cond_t rfl ?_
      refine r_seq ?_
      refine r_region ?_
      refine OL.act rfl rfl (AW.callF cl13 rfl (awake11_c (w0 := w2)   ) ?_)
      rintro _ w3 ⟨⟨_, rfl, rfl⟩, hm3⟩
      have f4 := f2.ext hm3
      have f5 := f3.ext hm3
      have hE3 := hE2.ext hm3
      have hs3 := hm3.size
      refine OL.q (Q1.assign rfl) rfl rfl ?_
      refine OL.nil ?_
      refine r_ret1 Try.func3 rfl rfl ?_
      exact Ret.mk ⟨⟨_, (by rfl), rfl⟩, hE3⟩
    | false =>
      replace hb3 := of_decide_eq_false hb3.symm
      refine r_cond_f rfl ?_
      refine r_skip ?_
      refine r_seq ?_
      refine r_region ?_
      refine OL.q (Q1.move rfl) rfl rfl ?_
      have hg3 := greatS_no (by assumption : greatS words s = false)
      have hl8 := Ml.greatT_len hg3.1
      have hsk := Ml.greatT_short hg3.1
      refine OL.act rfl rfl (AW.callF cl14 rfl (build_c (w0 := w2) (words := words)  ((f2).iv (Nat.zero_le _) (by omega)) (by assumption) (by first | assumption | omega)) ?_)
      rintro _ w3 ⟨vg1, _, rfl, ⟨lo1, hi1, hgr_1, hlo1, hhi1⟩, rfl, hm3⟩
      have f4 := f2.ext hm3
      have f5 := f3.ext hm3
      have hE3 := hE2.ext hm3
      have hs3 := hm3.size
      have := Ml.goodL_range words
      refine OL.q (Q1.move rfl) rfl rfl ?_
      refine OL.q (Q1.extract rfl rfl) rfl rfl ?_
      refine OL.q (Q1.extract rfl rfl) rfl rfl ?_
      refine OL.q (Q1.assign rfl) rfl rfl ?_
      refine OL.q (Q1.assign rfl) rfl rfl ?_
      refine OL.nil ?_
      refine r_seq ?_
      refine r_seq ?_
      refine r_region ?_
      refine OL.q (Q1.move rfl) rfl rfl ?_
      refine OL.qb (Q1.ne rfl rfl) rfl rfl ?_
      intro b4 hb4
      refine OL.nil ?_
      cases b4 with
      | true =>
        replace hb4 := bne_iff_ne.1 hb4.symm
        refine r_cond_t rfl ?_
        refine r_seq ?_
        refine r_region ?_
        refine OL.q (Q1.move rfl) rfl rfl ?_
        have hgr1 := hgr_1
        rcases hgr_1 with ⟨hv1, hN1⟩ | ⟨b5, vn1, nds1, hv1, hN1, hrw1, hsl1, hrel1⟩
        · subst hv1
          try subst hN1
          refine OL.q (Q1.eqNil Try.underlying27 rfl rfl) rfl rfl ?_
          refine OL.q (Q1.move rfl) rfl rfl ?_
          refine OL.act rfl rfl (AW.callF cl13 rfl (awake11_c (w0 := w3)   ) ?_)
          rintro _ w4 ⟨⟨_, rfl, rfl⟩, hm4⟩
          have f6 := f4.ext hm4
          have f7 := f5.ext hm4
          have f8 := hgr1.ext hm4
          have hE4 := hE3.ext hm4
          have hs4 := hm4.size
          refine OL.q (Q1.pick_t rfl rfl) rfl rfl ?_
          refine OL.q (Q1.assign rfl) rfl rfl ?_
          refine OL.nil ?_
          refine r_ret1 Try.func3 rfl rfl ?_
          exact Ret.mk ⟨⟨_, (by rfl), rfl⟩, hE4⟩
        · exact absurd (by exact Ml.gnodes_no (by assumption)) hN1
      | false =>
        replace hb4 := bne_eq_false_iff_eq.1 hb4.symm
        refine r_cond_f rfl ?_
        refine r_skip ?_
        refine r_seq ?_
        refine r_region ?_
        refine OL.q (Q1.move rfl) rfl rfl ?_
        have hg0 : Ml.goodL words = 0 := by assumption
        have hgok : GOk (Ml.gnodes words) (Ml.graphB words) words := Ml.gok_of (by assumption)
        obtain ⟨hI, hgl, hel⟩ := hgok.edges
        have hso := Ml.good_sorted hg0
        have hl60 := Ml.good_len hg0
        have hgp := Ml.gnodes_pos hg0
        have hgf := Ml.good_fineT hg0
        have hws : ∀ w ∈ words, w.length ≤ 1000 := good_len48 hg0
        have hAR := nextA_R (s := s) (k := k) (first := first) (after := after) (batch := batch) hgp hso hgf
        refine OL.q (Q1.move rfl) rfl rfl ?_
        refine OL.q (Q1.move rfl) rfl rfl ?_
        refine OL.q (Q1.move rfl) rfl rfl ?_
        refine OL.q (Q1.loadN ti24 rfl (fun _ e => e ▸ f5.row) rfl) rfl rfl ?_
        refine OL.q (Q1.move rfl) rfl rfl ?_
        refine OL.act rfl rfl (AW.callF cl15 rfl (wnext_c (w0 := w3) (after := after) s (k) first (batch) hgr_1 (by omega) (by first | omega | assumption) (by first | omega | assumption) (by first | assumption) (by first | assumption | omega | (simp; done)) (by first | assumption | omega) (by first | assumption | omega | (simp; done)) (by first | assumption | omega | (simp; done))) ?_)
        rintro _ w4 ⟨v1, _, rfl, ⟨gr1, h1, hg1⟩, ⟨b5, hb5, rfl⟩, hm4⟩
        have f6 := f4.ext hm4
        have f7 := f5.ext hm4
        have f8 := hgr_1.ext hm4
        have hE4 := hE3.ext hm4
        have hs4 := hm4.size
        have hle_1 := h1.le
        have hlt_1 := h1.lt
        have := nextA_lenE ((Ml.gnodes words)) words s k first after batch
        refine OL.q (Q1.move rfl) rfl rfl ?_
        refine OL.q (Q1.extract rfl rfl) rfl rfl ?_
        refine OL.q (Q1.extract rfl rfl) rfl rfl ?_
        refine OL.q (Q1.assign rfl) rfl rfl ?_
        refine OL.q (Q1.assign rfl) rfl rfl ?_
        refine OL.nil ?_
        refine r_seq ?_
        refine r_region ?_
        refine OL.q (Q1.move rfl) rfl rfl ?_
        refine OL.q (Q1.move rfl) rfl rfl ?_
        refine OL.q (Q1.move rfl) rfl rfl ?_
        refine OL.q (Q1.move rfl) rfl rfl ?_
        refine OL.q (Q1.loadN ti24 rfl (fun _ e => e ▸ f7.row) rfl) rfl rfl ?_
        refine OL.q (Q1.move rfl) rfl rfl ?_
        refine OL.act rfl rfl (AW.callF cl16 rfl (r11next_c (w0 := w4) (words := words) (after := after) s (k) first (batch) ((f6).iv (Nat.zero_le _) (by omega)) (by first | omega | assumption) (by first | omega | assumption) (by first | assumption | omega) (by first | assumption) (by first | assumption | omega) (by first | assumption | omega)) ?_)
        rintro _ w5 ⟨v2, _, rfl, h2, ⟨b6, hb6, rfl⟩, hm5⟩
        have hl1 := h1.lt
        have f9 := f6.ext hm5
        have f10 := f7.ext hm5
        have f11 := f8.ext hm5
        have f12 := h1.ext hm5
        have hE5 := hE4.ext hm5
        have hs5 := hm5.size
        have hle_2 := h2.le
        have := nextR_len words s k first after batch
        refine OL.q (Q1.move rfl) rfl rfl ?_
        refine OL.q (Q1.extract rfl rfl) rfl rfl ?_
        refine OL.q (Q1.extract rfl rfl) rfl rfl ?_
        refine OL.q (Q1.assign rfl) rfl rfl ?_
        refine OL.q (Q1.assign rfl) rfl rfl ?_
        refine OL.nil ?_
        refine r_seq ?_
        refine r_region ?_
        refine OL.q (Q1.move rfl) rfl rfl ?_
        refine OL.q (Q1.move rfl) rfl rfl ?_
        refine OL.act rfl rfl (AW.callF cl17 rfl (sameIt_c (w0 := w5) (a := ((nextA ((Ml.gnodes words)) words s k first after batch).1)) (b := ((nextR words s k first after batch).1))  ((f12.sl).iv (Nat.zero_le _) (by omega)) ((h2).iv (Nat.zero_le _) (by omega))) ?_)
        rintro _ w6 ⟨⟨b7, hb7, rfl⟩, hm6⟩
        have hl2 := f12.lt
        have f13 := f9.ext hm6
        have f14 := f10.ext hm6
        have f15 := f11.ext hm6
        have f16 := f12.ext hm6
        have f17 := h2.ext hm6
        have hE6 := hE5.ext hm6
        have hs6 := hm6.size
        obtain rfl : b7 = true := hb7.trans (by exact decide_eq_true (by rw [hAR]))
        refine OL.q (Q1.move rfl) rfl rfl ?_
        refine OL.q (Q1.move rfl) rfl rfl ?_
        refine OL.q (Q1.move rfl) rfl rfl ?_
        refine OL.qb (Q1.eqB Try.underlying4 rfl rfl) rfl rfl ?_
        intro b8 hb8
        obtain rfl : b8 = true := hb8.trans (by exact Ml.eqb3 (by assumption : _ = (nextA (Ml.gnodes words) words s k first after batch).2) (by assumption : _ = (nextR words s k first after batch).2) (by rw [hAR]))
        refine OL.q (Q1.pick_t rfl rfl) rfl rfl ?_
        refine OL.q (Q1.assign rfl) rfl rfl ?_
        refine OL.nil ?_
        refine r_seq ?_
        refine r_region ?_
        refine OL.q (Q1.move rfl) rfl rfl ?_
        refine OL.act rfl rfl (AW.callF cl18 rfl (overItems_c (w0 := w6) (l := ((nextA ((Ml.gnodes words)) words s k first after batch).1))  f16 (by first | assumption | omega)) ?_)
        rintro _ w7 ⟨rfl, hm7⟩
        have hl3 := f16.lt
        have f18 := f13.keepG hm7 (by omega)
        have f19 := f14.keepG hm7 (by omega)
        have f20 := f15.keepG hm7 (by omega)
        have f21 := f17.keepG hm7 (by omega)
        have hE7 := Ext.thenG hE6 hm7 (by omega)
        have hs7 := hm7.size
        refine OL.nil ?_
        refine r_seq ?_
        refine r_region ?_
        refine OL.q (Q1.move rfl) rfl rfl ?_
        refine OL.q (Q1.move rfl) rfl rfl ?_
        refine OL.q (Q1.move rfl) rfl rfl ?_
        refine OL.q (Q1.move rfl) rfl rfl ?_
        refine OL.q (Q1.loadN ti24 rfl (fun _ e => e ▸ f19.row) rfl) rfl rfl ?_
        refine OL.q (Q1.move rfl) rfl rfl ?_
        refine OL.act rfl rfl (AW.callF cl15 rfl (wnext_c (w0 := w7) (after := after) s (k) first (batch) f20 (by omega) (by first | omega | assumption) (by first | omega | assumption) (by first | assumption) (by first | assumption | omega | (simp; done)) (by first | assumption | omega) (by first | assumption | omega | (simp; done)) (by first | assumption | omega | (simp; done))) ?_)
        rintro _ w8 ⟨v3, _, rfl, ⟨gr2, h3, hg2⟩, ⟨b9, hb9, rfl⟩, hm8⟩
        have f22 := f18.ext hm8
        have f23 := f19.ext hm8
        have f24 := f20.ext hm8
        have f25 := f21.ext hm8
        have hE8 := hE7.ext hm8
        have hs8 := hm8.size
        have hle_3 := h3.le
        have hlt_2 := h3.lt
        have := nextA_lenE ((Ml.gnodes words)) words s k first after batch
        refine OL.q (Q1.move rfl) rfl rfl ?_
        refine OL.q (Q1.extract rfl rfl) rfl rfl ?_
        refine OL.q (Q1.extract rfl rfl) rfl rfl ?_
        refine OL.q (Q1.assign rfl) rfl rfl ?_
        refine OL.nil ?_
        refine r_seq ?_
        refine r_region ?_
        refine OL.q (Q1.move rfl) rfl rfl ?_
        refine OL.q (Q1.move rfl) rfl rfl ?_
        refine OL.q (Q1.move rfl) rfl rfl ?_
        refine OL.q (Q1.move rfl) rfl rfl ?_
        refine OL.act rfl rfl (AW.callF cl17 rfl (sameIt_c (w0 := w8) (a := ((nextA ((Ml.gnodes words)) words s k first after batch).1)) (b := ((nextR words s k first after batch).1))  ((h3.sl).iv (Nat.zero_le _) (by omega)) ((f25).iv (Nat.zero_le _) (by omega))) ?_)
        rintro _ w9 ⟨⟨b10, hb10, rfl⟩, hm9⟩
        have hl4 := h3.lt
        have f26 := f22.ext hm9
        have f27 := f23.ext hm9
        have f28 := f24.ext hm9
        have f29 := f25.ext hm9
        have f30 := h3.ext hm9
        have hE9 := hE8.ext hm9
        have hs9 := hm9.size
        obtain rfl : b10 = true := hb10.trans (by exact decide_eq_true (by rw [hAR]))
        refine OL.q (Q1.pick_t rfl rfl) rfl rfl ?_
        refine OL.q (Q1.move rfl) rfl rfl ?_
        refine OL.act rfl rfl (AW.callF cl13 rfl (awake11_c (w0 := w9)   ) ?_)
        rintro _ w10 ⟨⟨_, rfl, rfl⟩, hm10⟩
        have hl5 := f30.lt
        have f31 := f26.ext hm10
        have f32 := f27.ext hm10
        have f33 := f28.ext hm10
        have f34 := f29.ext hm10
        have f35 := f30.ext hm10
        have hE10 := hE9.ext hm10
        have hs10 := hm10.size
        refine OL.q (Q1.pick_t rfl rfl) rfl rfl ?_
        refine OL.q (Q1.assign rfl) rfl rfl ?_
        refine OL.nil ?_
        refine r_ret1 Try.func3 rfl rfl ?_
        exact Ret.mk ⟨⟨_, (by rfl), rfl⟩, hE10⟩
end Go.Proofs
