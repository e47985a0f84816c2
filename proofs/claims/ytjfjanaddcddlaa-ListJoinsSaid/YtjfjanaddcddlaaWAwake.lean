/-
  The walk through awake.
-/
import Derived.Test.YtjfjanaddcddlaaWSorted
import Derived.Test.YtjfjanaddcddlaaWList
import Derived.Test.YtjfjanaddcddlaaWShared
set_option linter.unusedVariables false
set_option linter.unusedSimpArgs false
namespace Go.Proofs
open Go.Ik Go.Ml
set_option maxRecDepth 20000 in
set_option maxHeartbeats 4000000 in
theorem awake4_c {w0 : World}   :
    Calls Try.prog 10 #[] w0 (Ret fun rv w1 => (∃ rb : Bool, rb = true ∧ rv = .bool rb) ∧ Ext w0 w1) := by
  have hE0 : Ext w0 w0 := Mod.refl _ _
  refine calls_enter Try.func10 rfl Try.ntmps10 rfl ?_
  refine r_seq ?_
  refine r_region ?_
  refine OL.q (Q1.assign rfl) rfl rfl ?_
  refine OL.nil ?_
  refine r_seq ?_
  refine r_region ?_
  refine OL.act rfl rfl (AW.buildSlice [strV (([97] : Str)), strV (([99] : Str))] Try.underlying22 ti9 rfl rfl rfl (by decide) ?_)
  intro w1 b1 hm1 hb1 hz1 hk1
  have hE1 := hE0.ext hm1
  have hs1 := hm1.size
  have hl1 := Sl.of_blk (enc := encS) hk1 ([([97] : Str), ([99] : Str)] : List Str) 2 rfl rfl (by unfold maxLen; omega)
  refine OL.act rfl rfl (AW.callF cl22 rfl (lat_c (w0 := w1) (words := [([97] : Str), ([99] : Str)]) (([98] : Str)) ((hl1).iv (Nat.zero_le _) (by omega)) (by first | assumption | exact Ml.rising_sorted (by decide +kernel)) (by first | assumption | omega | (simp; done))) ?_)
  rintro _ w2 ⟨_, _, rfl, rfl, ⟨b2, hb2, rfl⟩, hm2⟩
  have f1 := hl1.ext hm2
  have hE2 := hE1.ext hm2
  have hs2 := hm2.size
  have := Ml.belowW_le ([([97] : Str), ([99] : Str)]) (([98] : Str))
  refine OL.q (Q1.move rfl) rfl rfl ?_
  refine OL.q (Q1.extract rfl rfl) rfl rfl ?_
  refine OL.q (Q1.extract rfl rfl) rfl rfl ?_
  obtain rfl : b2 = false := hb2.trans (by decide +kernel)
  refine OL.q (Q1.assign rfl) rfl rfl ?_
  refine OL.q (Q1.assign rfl) rfl rfl ?_
  refine OL.nil ?_
  refine r_seq ?_
  refine r_region ?_
  refine OL.act rfl rfl (AW.buildSlice [strV (([98] : Str)), strV (([97] : Str))] Try.underlying22 ti9 rfl rfl rfl (by decide) ?_)
  intro w3 b3 hm3 hb3 hz2 hk2
  have f2 := f1.ext hm3
  have hE3 := hE2.ext hm3
  have hs3 := hm3.size
  have hl2 := Sl.of_blk (enc := encS) hk2 ([([98] : Str), ([97] : Str)] : List Str) 2 rfl rfl (by unfold maxLen; omega)
  refine OL.act rfl rfl (AW.callF cl14 rfl (lgood_c (w0 := w3) (words := [([98] : Str), ([97] : Str)])  ((hl2).iv (Nat.zero_le _) (by omega)) (by unfold Ml.LOk; decide +kernel)) ?_)
  rintro _ w4 ⟨rfl, hm4⟩
  have f3 := f2.ext hm4
  have f4 := hl2.ext hm4
  have hE4 := hE3.ext hm4
  have hs4 := hm4.size
  have := Ml.goodL_range ([([98] : Str), ([97] : Str)])
  refine OL.qb (Q1.eq rfl rfl) rfl rfl ?_
  intro b4 hb4
  obtain rfl : b4 = true := hb4.trans (by decide +kernel)
  refine OL.q (Q1.move rfl) rfl rfl ?_
  refine OL.act rfl rfl (AW.buildSlice [strV (([98] : Str)), strV (([] : Str)), strV (([97] : Str)), strV (([98] : Str))] Try.underlying22 ti9 rfl rfl rfl (by decide) ?_)
  intro w5 b5 hm5 hb5 hz3 hk3
  have f5 := f3.ext hm5
  have f6 := f4.ext hm5
  have hE5 := hE4.ext hm5
  have hs5 := hm5.size
  have hl3 := Sl.of_blk (enc := encS) hk3 ([([98] : Str), ([] : Str), ([97] : Str), ([98] : Str)] : List Str) 4 rfl rfl (by unfold maxLen; omega)
  refine OL.act rfl rfl (AW.callF cl12 rfl (lsorted_c (w0 := w5) (words := [([98] : Str), ([] : Str), ([97] : Str), ([98] : Str)])  ((hl3).iv (Nat.zero_le _) (by omega)) (by unfold Ml.LOk; decide +kernel) (by first | assumption | omega | (simp; done))) ?_)
  rintro v1 w6 ⟨⟨gr1, h1, hg1⟩, hm6⟩
  have f7 := f5.ext hm6
  have f8 := f6.ext hm6
  have f9 := hl3.ext hm6
  have hE6 := hE5.ext hm6
  have hs6 := hm6.size
  have hle_1 := h1.le
  have := Ml.sortedM_len ([([98] : Str), ([] : Str), ([97] : Str), ([98] : Str)])
  refine OL.act rfl rfl (AW.buildSlice [strV (([97] : Str)), strV (([98] : Str))] Try.underlying22 ti9 rfl rfl rfl (by decide) ?_)
  intro w7 b6 hm7 hb6 hz4 hk4
  have hl4 := h1.lt
  have f10 := f7.ext hm7
  have f11 := f8.ext hm7
  have f12 := f9.ext hm7
  have f13 := h1.ext hm7
  have hE7 := hE6.ext hm7
  have hs7 := hm7.size
  have hl5 := Sl.of_blk (enc := encS) hk4 ([([97] : Str), ([98] : Str)] : List Str) 2 rfl rfl (by unfold maxLen; omega)
  refine OL.act rfl rfl (AW.callF cl16 rfl (sameT_c (w0 := w7) (a := (Ml.sortedM ([([98] : Str), ([] : Str), ([97] : Str), ([98] : Str)]))) (b := [([97] : Str), ([98] : Str)])  ((f13.sl).iv (Nat.zero_le _) (by omega)) ((hl5).iv (Nat.zero_le _) (by omega))) ?_)
  rintro _ w8 ⟨⟨b7, hb7, rfl⟩, hm8⟩
  have hl6 := f13.lt
  have f14 := f10.ext hm8
  have f15 := f11.ext hm8
  have f16 := f12.ext hm8
  have f17 := f13.ext hm8
  have f18 := hl5.ext hm8
  have hE8 := hE7.ext hm8
  have hs8 := hm8.size
  obtain rfl : b7 = true := hb7.trans (by exact decide_eq_true (Ml.sortedM_is (by decide +kernel) (by decide +kernel) (by decide +kernel)))
  refine OL.q (Q1.pick_t rfl rfl) rfl rfl ?_
  refine OL.q (Q1.move rfl) rfl rfl ?_
  refine OL.q (Q1.move rfl) rfl rfl ?_
  refine OL.qb (Q1.eq rfl rfl) rfl rfl ?_
  intro b8 hb8
  obtain rfl : b8 = true := hb8.trans (by decide +kernel)
  refine OL.q (Q1.pick_t rfl rfl) rfl rfl ?_
  refine OL.q (Q1.move rfl) rfl rfl ?_
  refine OL.q (Q1.move rfl) rfl rfl ?_
  refine OL.q (Q1.not rfl) rfl rfl ?_
  refine OL.q (Q1.pick_t rfl rfl) rfl rfl ?_
  refine OL.q (Q1.assign rfl) rfl rfl ?_
  refine OL.nil ?_
  refine r_ret1 Try.func10 rfl rfl ?_
  exact Ret.mk ⟨⟨_, (by rfl), rfl⟩, hE8⟩
end Go.Proofs
