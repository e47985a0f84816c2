/-
  The walk through the law ListGood.
-/
import Derived.Test.YtjfjanaddcddlaaWAwake
import Derived.Test.YtjfjanaddcddlaaWRef4
import Derived.Test.YtjfjanaddcddlaaWLent
set_option linter.unusedVariables false
set_option linter.unusedSimpArgs false
namespace Go.Proofs
open Go.Ik Go.Ml
set_option maxRecDepth 20000 in
set_option maxHeartbeats 4000000 in
theorem ListGood_c {w0 : World} {v_words : Value} {words : List Str} (h_words : Sl encS w0 (Iv 0 w0.heap.size) v_words words) (hok_words : Ml.LOk words) :
    Calls Try.prog 3 #[v_words] w0 (Ret fun rv w1 => (∃ rb : Bool, rb = true ∧ rv = .bool rb) ∧ Ext w0 w1) := by
  have hE0 : Ext w0 w0 := Mod.refl _ _
  have hle1 := h_words.le
  refine calls_enter Try.func3 rfl Try.ntmps3 rfl ?_
  refine r_seq ?_
  refine r_region ?_
  refine OL.q (Q1.assign rfl) rfl rfl ?_
  refine OL.nil ?_
  refine r_seq ?_
  refine r_seq ?_
  refine r_region ?_
  refine OL.q (Q1.move rfl) rfl rfl ?_
  refine OL.act rfl rfl (AW.callF cl9 rfl (greatT_c (w0 := w0) (l := words)  ((h_words).iv (Nat.zero_le _) (by omega))) ?_)
  rintro _ w1 ⟨⟨b1, hb1, rfl⟩, hm1⟩
  have f1 := h_words.ext hm1
  have hE1 := hE0.ext hm1
  have hs1 := hm1.size
  refine OL.nil ?_
  cases b1 with
  | true =>
    replace hb1 := hb1.symm
    refine r_cond_t rfl ?_
    refine r_seq ?_
    refine r_region ?_
    refine OL.act rfl rfl (AW.callF cl10 rfl (awake4_c (w0 := w1)   ) ?_)
    rintro _ w2 ⟨⟨_, rfl, rfl⟩, hm2⟩
    have f2 := f1.ext hm2
    have hE2 := hE1.ext hm2
    have hs2 := hm2.size
    refine OL.q (Q1.assign rfl) rfl rfl ?_
    refine OL.nil ?_
    refine r_ret1 Try.func3 rfl rfl ?_
    exact Ret.mk ⟨⟨_, (by rfl), rfl⟩, hE2⟩
  | false =>
    replace hb1 := hb1.symm
    refine r_cond_f rfl ?_
    refine r_skip ?_
    refine r_seq ?_
    refine r_region ?_
    refine OL.q (Q1.move rfl) rfl rfl ?_
    have hgt_words : Ml.greatT words = false := by assumption
    have hsk_words := Ml.greatT_short hgt_words
    have hl8_words := Ml.greatT_len hgt_words
    refine OL.act rfl rfl (AW.callF cl11 rfl (lendTexts_c (w0 := w1) (l := words)  ((f1).iv (Nat.zero_le _) (by omega)) (by first | assumption | omega)) ?_)
    rintro _ w2 ⟨⟨bl1, rfl, h1, hg1⟩, hm2⟩
    have f2 := f1.ext hm2
    have hE2 := hE1.ext hm2
    have hs2 := hm2.size
    have hle_1 := h1.lt
    refine OL.q (Q1.assign rfl) rfl rfl ?_
    refine OL.nil ?_
    refine r_seq ?_
    refine r_region ?_
    refine OL.q (Q1.move rfl) rfl rfl ?_
    refine OL.act rfl rfl (AW.callF cl12 rfl (lsorted_c (w0 := w2) (words := words)  (((h1.sl 3 (by simp) (by unfold maxLen; omega))).iv (Nat.zero_le _) (by omega)) (by first | assumption | (intro s hs; revert s; decide +kernel)) (by first | assumption | omega | (simp; done))) ?_)
    rintro v1 w3 ⟨⟨gr1, h2, hg2⟩, hm3⟩
    have f3 := f2.ext hm3
    have f4 := h1.ext hm3
    have hE3 := hE2.ext hm3
    have hs3 := hm3.size
    have hle_2 := h2.le
    have := Ml.sortedM_len words
    refine OL.q (Q1.assign rfl) rfl rfl ?_
    refine OL.nil ?_
    refine r_seq ?_
    refine r_region ?_
    refine OL.q (Q1.move rfl) rfl rfl ?_
    refine OL.act rfl rfl (AW.callF cl14 rfl (lgood_c (w0 := w3) (words := words)  (((f4.sl 3 (by simp) (by unfold maxLen; omega))).iv (Nat.zero_le _) (by omega)) (by assumption)) ?_)
    rintro _ w4 ⟨rfl, hm4⟩
    have hl1 := h2.lt
    have f5 := f3.ext hm4
    have f6 := f4.ext hm4
    have f7 := h2.ext hm4
    have hE4 := hE3.ext hm4
    have hs4 := hm4.size
    have := Ml.goodL_range words
    refine OL.act rfl rfl (AW.callF cl13 rfl (num_c (w0 := w4)  ((Ml.goodL words)) (by first | omega | assumption)) ?_)
    rintro _ w5 ⟨rfl, hm5⟩
    have hl2 := f7.lt
    have f8 := f5.ext hm5
    have f9 := f6.ext hm5
    have f10 := f7.ext hm5
    have hE5 := hE4.ext hm5
    have hs5 := hm5.size
    refine OL.q (Q1.move rfl) rfl rfl ?_
    refine OL.act rfl rfl (AW.callF cl15 rfl (r4good_c (w0 := w5) (l := words)  ((f8).iv (Nat.zero_le _) (by omega)) (by assumption)) ?_)
    rintro _ w6 ⟨rfl, hm6⟩
    have hl3 := f10.lt
    have f11 := f8.ext hm6
    have f12 := f9.ext hm6
    have f13 := f10.ext hm6
    have hE6 := hE5.ext hm6
    have hs6 := hm6.size
    have := Ml.goodL_range words
    refine OL.qb (Q1.eq rfl rfl) rfl rfl ?_
    intro b2 hb2
    obtain rfl : b2 = true := hb2.trans (by exact beq_self_eq_true _)
    refine OL.q (Q1.move rfl) rfl rfl ?_
    refine OL.q (Q1.move rfl) rfl rfl ?_
    refine OL.q (Q1.move rfl) rfl rfl ?_
    refine OL.act rfl rfl (AW.callF cl17 rfl (r4sorted_c (w0 := w6) (l := words)  ((f11).iv (Nat.zero_le _) (by omega)) (by assumption)) ?_)
    rintro v2 w7 ⟨h3, hm7⟩
    have hl4 := f13.lt
    have f14 := f11.ext hm7
    have f15 := f12.ext hm7
    have f16 := f13.ext hm7
    have hE7 := hE6.ext hm7
    have hs7 := hm7.size
    have hle_3 := h3.le
    have := Ml.sortedM_len words
    refine OL.act rfl rfl (AW.callF cl16 rfl (sameT_c (w0 := w7) (a := (Ml.sortedM words)) (b := (Ml.sortedM words))  ((f16.sl).iv (Nat.zero_le _) (by omega)) ((h3).iv (Nat.zero_le _) (by omega))) ?_)
    rintro _ w8 ⟨⟨b3, hb3, rfl⟩, hm8⟩
    have hl5 := f16.lt
    have f17 := f14.ext hm8
    have f18 := f15.ext hm8
    have f19 := f16.ext hm8
    have f20 := h3.ext hm8
    have hE8 := hE7.ext hm8
    have hs8 := hm8.size
    obtain rfl : b3 = true := hb3.trans (by exact decide_eq_true rfl)
    refine OL.q (Q1.pick_t rfl rfl) rfl rfl ?_
    refine OL.q (Q1.move rfl) rfl rfl ?_
    refine OL.q (Q1.move rfl) rfl rfl ?_
    refine OL.q (Q1.move rfl) rfl rfl ?_
    refine OL.act rfl rfl (AW.callF cl18 rfl (keptTexts_c (w0 := w8) (lent := words) (l := words)  f18 ((f17).iv (Nat.zero_le _) (by omega)) (by first | assumption | omega)) ?_)
    rintro _ w9 ⟨⟨b4, hb4, rfl⟩, hm9⟩
    have hl6 := f19.lt
    have f21 := f17.ext hm9
    have f22 := f18.ext hm9
    have f23 := f19.ext hm9
    have f24 := f20.ext hm9
    have hE9 := hE8.ext hm9
    have hs9 := hm9.size
    obtain rfl : b4 = true := hb4.trans (by exact decide_eq_true rfl)
    refine OL.q (Q1.pick_t rfl rfl) rfl rfl ?_
    refine OL.q (Q1.assign rfl) rfl rfl ?_
    refine OL.nil ?_
    refine r_seq ?_
    refine r_region ?_
    refine OL.q (Q1.move rfl) rfl rfl ?_
    refine OL.act rfl rfl (AW.callF cl19 rfl (overTexts_c (w0 := w9) (l := (Ml.sortedM words))  f23 (by first | assumption | omega)) ?_)
    rintro _ w10 ⟨rfl, hm10⟩
    have hl7 := f23.lt
    have f25 := f21.keepG hm10 (by omega)
    have f26 := f22.keepG hm10 (by omega)
    have f27 := f24.keepG hm10 (by omega)
    have hE10 := Ext.thenG hE9 hm10 (by omega)
    have hs10 := hm10.size
    refine OL.nil ?_
    refine r_seq ?_
    refine r_region ?_
    refine OL.q (Q1.move rfl) rfl rfl ?_
    refine OL.q (Q1.move rfl) rfl rfl ?_
    refine OL.q (Q1.move rfl) rfl rfl ?_
    refine OL.q (Q1.move rfl) rfl rfl ?_
    refine OL.act rfl rfl (AW.callF cl18 rfl (keptTexts_c (w0 := w10) (lent := words) (l := words)  f26 ((f25).iv (Nat.zero_le _) (by omega)) (by first | assumption | omega)) ?_)
    rintro _ w11 ⟨⟨b5, hb5, rfl⟩, hm11⟩
    have f28 := f25.ext hm11
    have f29 := f26.ext hm11
    have f30 := f27.ext hm11
    have hE11 := hE10.ext hm11
    have hs11 := hm11.size
    obtain rfl : b5 = true := hb5.trans (by exact decide_eq_true rfl)
    refine OL.q (Q1.pick_t rfl rfl) rfl rfl ?_
    refine OL.q (Q1.move rfl) rfl rfl ?_
    refine OL.act rfl rfl (AW.callF cl10 rfl (awake4_c (w0 := w11)   ) ?_)
    rintro _ w12 ⟨⟨_, rfl, rfl⟩, hm12⟩
    have f31 := f28.ext hm12
    have f32 := f29.ext hm12
    have f33 := f30.ext hm12
    have hE12 := hE11.ext hm12
    have hs12 := hm12.size
    refine OL.q (Q1.pick_t rfl rfl) rfl rfl ?_
    refine OL.q (Q1.assign rfl) rfl rfl ?_
    refine OL.nil ?_
    refine r_ret1 Try.func3 rfl rfl ?_
    exact Ret.mk ⟨⟨_, (by rfl), rfl⟩, hE12⟩
end Go.Proofs
