/-
  The walk through awake.
-/
import Derived.Test.YtjhbobjjkbppkaaWBuild
import Derived.Test.YtjhbobjjkbppkaaWNext
import Derived.Test.YtjhbobjjkbppkaaWShared
set_option linter.unusedVariables false
set_option linter.unusedSimpArgs false
namespace Go.Proofs
open Go.Ik Go.Ml
set_option maxRecDepth 20000 in
set_option maxHeartbeats 4000000 in
theorem awake11_c {w0 : World}    :
    Calls Try.prog 13 #[] w0 (Ret fun rv w1 => (∃ rb : Bool, rb = true ∧ rv = .bool rb) ∧ Ext w0 w1) := by
  have hE0 : Ext w0 w0 := Mod.refl _ _
  refine calls_enter Try.func13 rfl Try.ntmps13 rfl ?_
  refine r_seq ?_
  refine r_region ?_
  refine OL.q (Q1.assign rfl) rfl rfl ?_
  refine OL.nil ?_
  refine r_seq ?_
  refine r_region ?_
  refine OL.act rfl rfl (AW.buildSlice [strV (([97, 98] : Str)), strV (([97, 98, 99] : Str)), strV (([98] : Str)), strV (([122, 122] : Str))] Try.underlying22 ti9 rfl rfl rfl (by decide) ?_)
  intro w1 b1 hm1 hb1 hz1 hk1
  have hE1 := hE0.ext hm1
  have hs1 := hm1.size
  have hl1 := Sl.of_blk (enc := encS) hk1 ([([97, 98] : Str), ([97, 98, 99] : Str), ([98] : Str), ([122, 122] : Str)] : List Str) 4 rfl rfl (by unfold maxLen; omega)
  refine OL.act rfl rfl (AW.callF cl14 rfl (build_c (w0 := w1) (words := [([97, 98] : Str), ([97, 98, 99] : Str), ([98] : Str), ([122, 122] : Str)])  ((hl1).iv (Nat.zero_le _) (by omega)) (by unfold Ml.LOk; decide +kernel) (by decide)) ?_)
  rintro _ w2 ⟨vg1, _, rfl, ⟨lo1, hi1, hgr_1, hlo1, hhi1⟩, rfl, hm2⟩
  have f1 := hl1.ext hm2
  have hE2 := hE1.ext hm2
  have hs2 := hm2.size
  have := Ml.goodL_range ([([97, 98] : Str), ([97, 98, 99] : Str), ([98] : Str), ([122, 122] : Str)])
  have hgok : GOk (Ml.gnodes [([97, 98] : Str), ([97, 98, 99] : Str), ([98] : Str), ([122, 122] : Str)]) (Ml.graphB [([97, 98] : Str), ([97, 98, 99] : Str), ([98] : Str), ([122, 122] : Str)]) [([97, 98] : Str), ([97, 98, 99] : Str), ([98] : Str), ([122, 122] : Str)] := Ml.gok_of (by decide +kernel)
  obtain ⟨hI, hgl, hel⟩ := hgok.edges
  refine OL.q (Q1.move rfl) rfl rfl ?_
  refine OL.q (Q1.extract rfl rfl) rfl rfl ?_
  refine OL.q (Q1.extract rfl rfl) rfl rfl ?_
  refine OL.q (Q1.assign rfl) rfl rfl ?_
  refine OL.q (Q1.assign rfl) rfl rfl ?_
  refine OL.nil ?_
  refine r_seq ?_
  refine r_region ?_
  refine OL.q (Q1.move rfl) rfl rfl ?_
  refine OL.q (Q1.build (vs := #[]) (v := .agg #[.int .i64 0, strV []]) rfl (fun _ => by kernel_rfl)) rfl rfl ?_
  refine OL.act rfl rfl (AW.callF cl15 rfl (wnext_c (w0 := w2) (after := (Itm.mk 0 [])) (([97, 98] : Str)) (1) true (2) hgr_1 (by omega) (by first | omega | assumption) (by first | omega | assumption) (by first | assumption) (by simp) (by simp) (by decide) (by simp)) ?_)
  rintro _ w3 ⟨v1, _, rfl, ⟨gr1, h1, hg1⟩, ⟨b2, hb2, rfl⟩, hm3⟩
  have f2 := f1.ext hm3
  have f3 := hgr_1.ext hm3
  have hE3 := hE2.ext hm3
  have hs3 := hm3.size
  have hle_1 := h1.le
  have hlt_1 := h1.lt
  have := nextA_lenE ((Ml.gnodes ([([97, 98] : Str), ([97, 98, 99] : Str), ([98] : Str), ([122, 122] : Str)]))) ([([97, 98] : Str), ([97, 98, 99] : Str), ([98] : Str), ([122, 122] : Str)]) (([97, 98] : Str)) 1 true ((Itm.mk 0 [])) 2
  refine OL.q (Q1.move rfl) rfl rfl ?_
  refine OL.q (Q1.extract rfl rfl) rfl rfl ?_
  refine OL.q (Q1.extract rfl rfl) rfl rfl ?_
  obtain rfl : b2 = false := hb2.trans (by (rw [nextA_R (Ml.gnodes_pos (by decide +kernel)) (Ml.good_sorted (by decide +kernel)) (Ml.good_fineT (by decide +kernel))]; decide +kernel))
  refine OL.q (Q1.assign rfl) rfl rfl ?_
  refine OL.q (Q1.assign rfl) rfl rfl ?_
  refine OL.nil ?_
  refine r_seq ?_
  refine r_region ?_
  refine OL.q (Q1.move rfl) rfl rfl ?_
  refine OL.q (Q1.build (vs := #[(0, (.int .i64 1 : Value)), (1, strV (([97, 98, 99] : Str)))]) (v := .agg #[.int .i64 1, strV (([97, 98, 99] : Str))]) rfl (fun _ => by kernel_rfl)) rfl rfl ?_
  refine OL.act rfl rfl (AW.callF cl15 rfl (wnext_c (w0 := w3) (after := (Itm.mk 1 (([97, 98, 99] : Str)))) (([97, 98] : Str)) (1) false (2) f3 (by omega) (by first | omega | assumption) (by first | omega | assumption) (by first | assumption) (by simp) (by simp) (by decide) (by simp)) ?_)
  rintro _ w4 ⟨v2, _, rfl, ⟨gr2, h2, hg2⟩, ⟨b3, hb3, rfl⟩, hm4⟩
  have hl2 := h1.lt
  have f4 := f2.ext hm4
  have f5 := f3.ext hm4
  have f6 := h1.ext hm4
  have hE4 := hE3.ext hm4
  have hs4 := hm4.size
  have hle_2 := h2.le
  have hlt_2 := h2.lt
  have := nextA_lenE ((Ml.gnodes ([([97, 98] : Str), ([97, 98, 99] : Str), ([98] : Str), ([122, 122] : Str)]))) ([([97, 98] : Str), ([97, 98, 99] : Str), ([98] : Str), ([122, 122] : Str)]) (([97, 98] : Str)) 1 false ((Itm.mk 1 (([97, 98, 99] : Str)))) 2
  refine OL.q (Q1.move rfl) rfl rfl ?_
  refine OL.q (Q1.extract rfl rfl) rfl rfl ?_
  refine OL.q (Q1.extract rfl rfl) rfl rfl ?_
  obtain rfl : b3 = true := hb3.trans (by (rw [nextA_R (Ml.gnodes_pos (by decide +kernel)) (Ml.good_sorted (by decide +kernel)) (Ml.good_fineT (by decide +kernel))]; decide +kernel))
  refine OL.q (Q1.assign rfl) rfl rfl ?_
  refine OL.q (Q1.assign rfl) rfl rfl ?_
  refine OL.nil ?_
  refine r_seq ?_
  refine r_region ?_
  refine OL.q (Q1.move rfl) rfl rfl ?_
  refine OL.q (Q1.build (vs := #[(1, strV (([97, 98] : Str)))]) (v := .agg #[.int .i64 0, strV (([97, 98] : Str))]) rfl (fun _ => by kernel_rfl)) rfl rfl ?_
  refine OL.q (Q1.build (vs := #[(0, (.int .i64 1 : Value)), (1, strV (([97, 98, 99] : Str)))]) (v := .agg #[.int .i64 1, strV (([97, 98, 99] : Str))]) rfl (fun _ => by kernel_rfl)) rfl rfl ?_
  refine OL.act rfl rfl (AW.buildSlice [(.agg #[.int .i64 0, strV (([97, 98] : Str))] : Value), (.agg #[.int .i64 1, strV (([97, 98, 99] : Str))] : Value)] Try.underlying31 ti24 rfl rfl rfl (by decide) ?_)
  intro w5 b4 hm5 hb4 hz2 hk2
  have hl3 := f6.lt
  have hl4 := h2.lt
  have f7 := f4.ext hm5
  have f8 := f5.ext hm5
  have f9 := f6.ext hm5
  have f10 := h2.ext hm5
  have hE5 := hE4.ext hm5
  have hs5 := hm5.size
  have hl5 := Sl.of_blk (enc := encItm) hk2 ([(Itm.mk 0 (([97, 98] : Str))), (Itm.mk 1 (([97, 98, 99] : Str)))] : List Itm) 2 rfl rfl (by unfold maxLen; omega)
  refine OL.act rfl rfl (AW.callF cl17 rfl (sameIt_c (w0 := w5) (a := ((nextA ((Ml.gnodes ([([97, 98] : Str), ([97, 98, 99] : Str), ([98] : Str), ([122, 122] : Str)]))) ([([97, 98] : Str), ([97, 98, 99] : Str), ([98] : Str), ([122, 122] : Str)]) (([97, 98] : Str)) 1 true ((Itm.mk 0 [])) 2).1)) (b := [(Itm.mk 0 (([97, 98] : Str))), (Itm.mk 1 (([97, 98, 99] : Str)))])  ((f9.sl).iv (Nat.zero_le _) (by omega)) ((hl5).iv (Nat.zero_le _) (by omega))) ?_)
  rintro _ w6 ⟨⟨b5, hb5, rfl⟩, hm6⟩
  have hl6 := f9.lt
  have hl7 := f10.lt
  have f11 := f7.ext hm6
  have f12 := f8.ext hm6
  have f13 := f9.ext hm6
  have f14 := f10.ext hm6
  have f15 := hl5.ext hm6
  have hE6 := hE5.ext hm6
  have hs6 := hm6.size
  obtain rfl : b5 = true := hb5.trans (by exact decide_eq_true (by (rw [nextA_R (Ml.gnodes_pos (by decide +kernel)) (Ml.good_sorted (by decide +kernel)) (Ml.good_fineT (by decide +kernel))]; decide +kernel)))
  refine OL.q (Q1.move rfl) rfl rfl ?_
  refine OL.q (Q1.move rfl) rfl rfl ?_
  refine OL.q (Q1.not rfl) rfl rfl ?_
  refine OL.q (Q1.pick_t rfl rfl) rfl rfl ?_
  refine OL.q (Q1.move rfl) rfl rfl ?_
  refine OL.q (Q1.move rfl) rfl rfl ?_
  refine OL.q (Q1.build (vs := #[(0, (.int .i64 1 : Value)), (1, strV (([98] : Str)))]) (v := .agg #[.int .i64 1, strV (([98] : Str))]) rfl (fun _ => by kernel_rfl)) rfl rfl ?_
  refine OL.act rfl rfl (AW.buildSlice [(.agg #[.int .i64 1, strV (([98] : Str))] : Value)] Try.underlying31 ti24 rfl rfl rfl (by decide) ?_)
  intro w7 b6 hm7 hb6 hz3 hk3
  have hl8 := f13.lt
  have hl9 := f14.lt
  have f16 := f11.ext hm7
  have f17 := f12.ext hm7
  have f18 := f13.ext hm7
  have f19 := f14.ext hm7
  have f20 := f15.ext hm7
  have hE7 := hE6.ext hm7
  have hs7 := hm7.size
  have hl10 := Sl.of_blk (enc := encItm) hk3 ([(Itm.mk 1 (([98] : Str)))] : List Itm) 1 rfl rfl (by unfold maxLen; omega)
  refine OL.act rfl rfl (AW.callF cl17 rfl (sameIt_c (w0 := w7) (a := ((nextA ((Ml.gnodes ([([97, 98] : Str), ([97, 98, 99] : Str), ([98] : Str), ([122, 122] : Str)]))) ([([97, 98] : Str), ([97, 98, 99] : Str), ([98] : Str), ([122, 122] : Str)]) (([97, 98] : Str)) 1 false ((Itm.mk 1 (([97, 98, 99] : Str)))) 2).1)) (b := [(Itm.mk 1 (([98] : Str)))])  ((f19.sl).iv (Nat.zero_le _) (by omega)) ((hl10).iv (Nat.zero_le _) (by omega))) ?_)
  rintro _ w8 ⟨⟨b7, hb7, rfl⟩, hm8⟩
  have hl11 := f18.lt
  have hl12 := f19.lt
  have f21 := f16.ext hm8
  have f22 := f17.ext hm8
  have f23 := f18.ext hm8
  have f24 := f19.ext hm8
  have f25 := f20.ext hm8
  have f26 := hl10.ext hm8
  have hE8 := hE7.ext hm8
  have hs8 := hm8.size
  obtain rfl : b7 = true := hb7.trans (by exact decide_eq_true (by (rw [nextA_R (Ml.gnodes_pos (by decide +kernel)) (Ml.good_sorted (by decide +kernel)) (Ml.good_fineT (by decide +kernel))]; decide +kernel)))
  refine OL.q (Q1.pick_t rfl rfl) rfl rfl ?_
  refine OL.q (Q1.move rfl) rfl rfl ?_
  refine OL.q (Q1.move rfl) rfl rfl ?_
  refine OL.q (Q1.pick_t rfl rfl) rfl rfl ?_
  refine OL.q (Q1.assign rfl) rfl rfl ?_
  refine OL.nil ?_
  refine r_ret1 Try.func13 rfl rfl ?_
  exact Ret.mk ⟨⟨_, (by rfl), rfl⟩, hE8⟩
end Go.Proofs
