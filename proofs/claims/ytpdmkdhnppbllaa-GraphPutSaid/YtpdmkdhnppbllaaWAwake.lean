/-
  The walk through awake.
-/
import Derived.Test.YtpdmkdhnppbllaaWBuild
import Derived.Test.YtpdmkdhnppbllaaWEach
import Derived.Test.YtpdmkdhnppbllaaWShared
import Derived.Test.YtpdmkdhnppbllaaLwGraph
set_option linter.unusedVariables false
set_option linter.unusedSimpArgs false
namespace Go.Proofs
open Go.Ik Go.Ml
set_option maxRecDepth 20000 in
set_option maxHeartbeats 4000000 in
theorem awake8_c {w0 : World}    :
    Calls Try.prog 12 #[] w0 (Ret fun rv w1 => (∃ rb : Bool, rb = true ∧ rv = .bool rb) ∧ Ext w0 w1) := by
  have hE0 : Ext w0 w0 := Mod.refl _ _
  refine calls_enter Try.func12 rfl Try.ntmps12 rfl ?_
  refine r_seq ?_
  refine r_region ?_
  refine OL.q (Q1.assign rfl) rfl rfl ?_
  refine OL.nil ?_
  refine r_seq ?_
  refine r_region ?_
  refine OL.act rfl rfl (AW.buildSlice [strV (([97, 98] : Str)), strV (([99, 98] : Str))] Try.underlying22 ti9 rfl rfl rfl (by decide) ?_)
  intro w1 b1 hm1 hb1 hz1 hk1
  have hE1 := hE0.ext hm1
  have hs1 := hm1.size
  have hl1 := Sl.of_blk (enc := encS) hk1 ([([97, 98] : Str), ([99, 98] : Str)] : List Str) 2 rfl rfl (by unfold maxLen; omega)
  refine OL.act rfl rfl (AW.callF cl14 rfl (build_c (w0 := w1) (words := [([97, 98] : Str), ([99, 98] : Str)])  ((hl1).iv (Nat.zero_le _) (by omega)) (by unfold Ml.LOk; decide +kernel) (by decide)) ?_)
  rintro _ w2 ⟨vg1, _, rfl, ⟨lo1, hi1, hgr_1, hlo1, hhi1⟩, rfl, hm2⟩
  have f1 := hl1.ext hm2
  have hE2 := hE1.ext hm2
  have hs2 := hm2.size
  have := Ml.goodL_range ([([97, 98] : Str), ([99, 98] : Str)])
  have hgok : GOk (Ml.gnodes [([97, 98] : Str), ([99, 98] : Str)]) (Ml.graphB [([97, 98] : Str), ([99, 98] : Str)]) [([97, 98] : Str), ([99, 98] : Str)] := Ml.gok_of (by decide +kernel)
  obtain ⟨hI, hgl, hel⟩ := hgok.edges
  refine OL.q (Q1.move rfl) rfl rfl ?_
  refine OL.q (Q1.extract rfl rfl) rfl rfl ?_
  refine OL.q (Q1.extract rfl rfl) rfl rfl ?_
  refine OL.q (Q1.assign rfl) rfl rfl ?_
  refine OL.q (Q1.assign rfl) rfl rfl ?_
  refine OL.nil ?_
  refine r_seq ?_
  refine r_region ?_
  refine OL.q (Q1.move rfl) rfl rfl ?_
  refine OL.qb (Q1.eq rfl rfl) rfl rfl ?_
  intro b2 hb2
  obtain rfl : b2 = true := hb2.trans (by decide +kernel)
  refine OL.q (Q1.move rfl) rfl rfl ?_
  refine OL.q (Q1.move rfl) rfl rfl ?_
  have hgr1 := hgr_1
  rcases hgr_1 with ⟨hv1, hN1⟩ | ⟨b3, vn1, nds1, hv1, hN1, hrw1, hsl1, hrel1⟩
  · exact absurd hN1 (by decide +kernel)
  · subst hv1
    have hnl1 := (All2.get hrel1).1
    refine OL.q (Q1.neNil Try.underlying26 rfl rfl) rfl rfl ?_
    refine OL.q (Q1.pick_t rfl rfl) rfl rfl ?_
    refine OL.q (Q1.move rfl) rfl rfl ?_
    refine OL.q (Q1.move rfl) rfl rfl ?_
    refine OL.act rfl rfl (AW.callF cl18 rfl (nodes_c (w0 := w2)   hgr1 (by omega)) ?_)
    rintro _ w3 ⟨rfl, hm3⟩
    have f2 := f1.ext hm3
    have f3 := hgr1.ext hm3
    have f4 := hrel1.ext hm3
    have f5 := hsl1.ext hm3
    have f6 := hrw1.ext hm3
    have hE3 := hE2.ext hm3
    have hs3 := hm3.size
    refine OL.qb (Q1.eq rfl rfl) rfl rfl ?_
    intro b4 hb3
    obtain rfl : b4 = true := hb3.trans (by decide +kernel)
    refine OL.q (Q1.pick_t rfl rfl) rfl rfl ?_
    refine OL.q (Q1.move rfl) rfl rfl ?_
    refine OL.q (Q1.move rfl) rfl rfl ?_
    refine OL.act rfl rfl (AW.callF cl19 rfl (edges_c (w0 := w3)  (0) f3 (by omega) (by first | omega | assumption) (by first | assumption | omega | (simp; done)) (by first | assumption | (simp; done))) ?_)
    rintro v1 w4 ⟨⟨gr1, h1, hg1⟩, hm4⟩
    have f7 := f2.ext hm4
    have f8 := f3.ext hm4
    have f9 := f4.ext hm4
    have f10 := f5.ext hm4
    have f11 := f6.ext hm4
    have hE4 := hE3.ext hm4
    have hs4 := hm4.size
    have hle_1 := h1.le
    have hlt_1 := h1.lt
    refine OL.q (Q1.build (vs := #[(0, (.int .i32 97 : Value)), (1, (.int .i64 1 : Value))]) (v := .agg #[.int .i32 97, .int .i64 1]) rfl (fun _ => by kernel_rfl)) rfl rfl ?_
    refine OL.q (Q1.build (vs := #[(0, (.int .i32 99 : Value)), (1, (.int .i64 1 : Value))]) (v := .agg #[.int .i32 99, .int .i64 1]) rfl (fun _ => by kernel_rfl)) rfl rfl ?_
    refine OL.act rfl rfl (AW.buildSlice [(.agg #[.int .i32 97, .int .i64 1] : Value), (.agg #[.int .i32 99, .int .i64 1] : Value)] Try.underlying39 ti49 rfl rfl rfl (by decide) ?_)
    intro w5 b5 hm5 hb4 hz2 hk2
    have hl2 := h1.lt
    have f12 := f7.ext hm5
    have f13 := f8.ext hm5
    have f14 := f9.ext hm5
    have f15 := f10.ext hm5
    have f16 := f11.ext hm5
    have f17 := h1.ext hm5
    have hE5 := hE4.ext hm5
    have hs5 := hm5.size
    have hl3 := Sl.of_blk (enc := encE) hk2 ([(Ed.mk 97 1), (Ed.mk 99 1)] : List Ed) 2 rfl rfl (by unfold maxLen; omega)
    refine OL.act rfl rfl (AW.callF cl22 rfl (sameE_c (w0 := w5) (a := ((nodeAt ((Ml.gnodes ([([97, 98] : Str), ([99, 98] : Str)]))) 0).2)) (b := [(Ed.mk 97 1), (Ed.mk 99 1)])  ((f17.sl).iv (Nat.zero_le _) (by omega)) ((hl3).iv (Nat.zero_le _) (by omega))) ?_)
    rintro _ w6 ⟨⟨b6, hb5, rfl⟩, hm6⟩
    have hl4 := f17.lt
    have f18 := f12.ext hm6
    have f19 := f13.ext hm6
    have f20 := f14.ext hm6
    have f21 := f15.ext hm6
    have f22 := f16.ext hm6
    have f23 := f17.ext hm6
    have f24 := hl3.ext hm6
    have hE6 := hE5.ext hm6
    have hs6 := hm6.size
    obtain rfl : b6 = true := hb5.trans (by decide +kernel)
    refine OL.q (Q1.pick_t rfl rfl) rfl rfl ?_
    refine OL.q (Q1.move rfl) rfl rfl ?_
    refine OL.q (Q1.move rfl) rfl rfl ?_
    refine OL.act rfl rfl (AW.callF cl31 rfl (has_c (w0 := w6)  (([97, 98] : Str)) f19 (by omega) (by assumption) (by first | assumption | omega | (simp; done))) ?_)
    rintro _ w7 ⟨⟨b7, hb6, rfl⟩, hm7⟩
    have hl5 := f23.lt
    have f25 := f18.ext hm7
    have f26 := f19.ext hm7
    have f27 := f20.ext hm7
    have f28 := f21.ext hm7
    have f29 := f22.ext hm7
    have f30 := f23.ext hm7
    have f31 := f24.ext hm7
    have hE7 := hE6.ext hm7
    have hs7 := hm7.size
    obtain rfl : b7 = true := hb6.trans (by decide +kernel)
    refine OL.q (Q1.pick_t rfl rfl) rfl rfl ?_
    refine OL.q (Q1.move rfl) rfl rfl ?_
    refine OL.q (Q1.move rfl) rfl rfl ?_
    refine OL.act rfl rfl (AW.callF cl31 rfl (has_c (w0 := w7)  (([98] : Str)) f26 (by omega) (by assumption) (by first | assumption | omega | (simp; done))) ?_)
    rintro _ w8 ⟨⟨b8, hb7, rfl⟩, hm8⟩
    have hl6 := f30.lt
    have f32 := f25.ext hm8
    have f33 := f26.ext hm8
    have f34 := f27.ext hm8
    have f35 := f28.ext hm8
    have f36 := f29.ext hm8
    have f37 := f30.ext hm8
    have f38 := f31.ext hm8
    have hE8 := hE7.ext hm8
    have hs8 := hm8.size
    obtain rfl : b8 = false := hb7.trans (by decide +kernel)
    refine OL.q (Q1.not rfl) rfl rfl ?_
    refine OL.q (Q1.pick_t rfl rfl) rfl rfl ?_
    refine OL.q (Q1.assign rfl) rfl rfl ?_
    refine OL.nil ?_
    refine r_ret1 Try.func12 rfl rfl ?_
    exact Ret.mk ⟨⟨_, (by rfl), rfl⟩, hE8⟩
end Go.Proofs
