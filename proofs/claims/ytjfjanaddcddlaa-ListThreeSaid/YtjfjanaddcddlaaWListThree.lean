/-
  The walk through the law ListThree.
-/
import Derived.Test.YtjfjanaddcddlaaWAwake
set_option linter.unusedVariables false
set_option linter.unusedSimpArgs false
namespace Go.Proofs
open Go.Ik Go.Ml
set_option maxHeartbeats 4000000 in
theorem ListThree_c {w0 : World} {v_a : Value} {a : List Str} {v_b : Value} {b : List Str} {v_c : Value} {c : List Str} (h_a : Sl encS w0 (Iv 0 w0.heap.size) v_a a) (h_b : Sl encS w0 (Iv 0 w0.heap.size) v_b b) (h_c : Sl encS w0 (Iv 0 w0.heap.size) v_c c) (hok_a : Ml.LOk a) (hok_b : Ml.LOk b) (hok_c : Ml.LOk c) :
    Calls Try.prog 8 #[v_a, v_b, v_c] w0 (Ret fun rv w1 => (∃ rb : Bool, rb = true ∧ rv = .bool rb) ∧ Ext w0 w1) := by
  have hE0 : Ext w0 w0 := Mod.refl _ _
  have hle1 := h_a.le
  have hle2 := h_b.le
  have hle3 := h_c.le
  refine calls_enter Try.func8 rfl Try.ntmps8 rfl ?_
  refine r_seq ?_
  refine r_region ?_
  refine OL.q (Q1.assign rfl) rfl rfl ?_
  refine OL.nil ?_
  refine r_seq ?_
  refine r_seq ?_
  refine r_region ?_
  refine OL.q (Q1.move rfl) rfl rfl ?_
  refine OL.act rfl rfl (AW.callF cl9 rfl (greatT_c (w0 := w0) (l := a)  ((h_a).iv (Nat.zero_le _) (by omega))) ?_)
  rintro _ w1 ⟨⟨b1, hb1, rfl⟩, hm1⟩
  have f1 := h_a.ext hm1
  have f2 := h_b.ext hm1
  have f3 := h_c.ext hm1
  have hE1 := hE0.ext hm1
  have hs1 := hm1.size
  refine OL.q (Q1.move rfl) rfl rfl ?_
  cases b1 with
  | true =>
    replace hb1 := hb1.symm
    refine OL.sk rfl rfl ?_
    refine OL.sk rfl rfl ?_
    refine OL.q (Q1.pick_t rfl rfl) rfl rfl ?_
    refine OL.q (Q1.move rfl) rfl rfl ?_
    refine OL.sk rfl rfl ?_
    refine OL.sk rfl rfl ?_
    refine OL.q (Q1.pick_t rfl rfl) rfl rfl ?_
    refine OL.q (Q1.move rfl) rfl rfl ?_
    refine OL.sk rfl rfl ?_
    refine OL.sk rfl rfl ?_
    refine OL.sk rfl rfl ?_
    refine OL.q (Q1.pick_t rfl rfl) rfl rfl ?_
    refine OL.q (Q1.move rfl) rfl rfl ?_
    refine OL.sk rfl rfl ?_
    refine OL.sk rfl rfl ?_
    refine OL.sk rfl rfl ?_
    refine OL.q (Q1.pick_t rfl rfl) rfl rfl ?_
    refine OL.q (Q1.move rfl) rfl rfl ?_
    refine OL.sk rfl rfl ?_
    refine OL.sk rfl rfl ?_
    refine OL.sk rfl rfl ?_
    refine OL.q (Q1.pick_t rfl rfl) rfl rfl ?_
    refine OL.nil ?_
    refine r_cond_t rfl ?_
    refine r_seq ?_
    refine r_region ?_
    refine OL.act rfl rfl (AW.callF cl10 rfl (awake4_c (w0 := w1)   ) ?_)
    rintro _ w2 ⟨⟨_, rfl, rfl⟩, hm2⟩
    have f4 := f1.ext hm2
    have f5 := f2.ext hm2
    have f6 := f3.ext hm2
    have hE2 := hE1.ext hm2
    have hs2 := hm2.size
    refine OL.q (Q1.assign rfl) rfl rfl ?_
    refine OL.nil ?_
    refine r_ret1 Try.func8 rfl rfl ?_
    exact Ret.mk ⟨⟨_, (by rfl), rfl⟩, hE2⟩
  | false =>
    replace hb1 := hb1.symm
    refine OL.q (Q1.move rfl) rfl rfl ?_
    refine OL.act rfl rfl (AW.callF cl9 rfl (greatT_c (w0 := w1) (l := b)  ((f2).iv (Nat.zero_le _) (by omega))) ?_)
    rintro _ w2 ⟨⟨b2, hb2, rfl⟩, hm2⟩
    have f4 := f1.ext hm2
    have f5 := f2.ext hm2
    have f6 := f3.ext hm2
    have hE2 := hE1.ext hm2
    have hs2 := hm2.size
    refine OL.q (Q1.pick_f rfl rfl) rfl rfl ?_
    refine OL.q (Q1.move rfl) rfl rfl ?_
    cases b2 with
    | true =>
      replace hb2 := hb2.symm
      refine OL.sk rfl rfl ?_
      refine OL.sk rfl rfl ?_
      refine OL.q (Q1.pick_t rfl rfl) rfl rfl ?_
      refine OL.q (Q1.move rfl) rfl rfl ?_
      refine OL.sk rfl rfl ?_
      refine OL.sk rfl rfl ?_
      refine OL.sk rfl rfl ?_
      refine OL.q (Q1.pick_t rfl rfl) rfl rfl ?_
      refine OL.q (Q1.move rfl) rfl rfl ?_
      refine OL.sk rfl rfl ?_
      refine OL.sk rfl rfl ?_
      refine OL.sk rfl rfl ?_
      refine OL.q (Q1.pick_t rfl rfl) rfl rfl ?_
      refine OL.q (Q1.move rfl) rfl rfl ?_
      refine OL.sk rfl rfl ?_
      refine OL.sk rfl rfl ?_
      refine OL.sk rfl rfl ?_
      refine OL.q (Q1.pick_t rfl rfl) rfl rfl ?_
      refine OL.nil ?_
      refine r_cond_t rfl ?_
      refine r_seq ?_
      refine r_region ?_
      refine OL.act rfl rfl (AW.callF cl10 rfl (awake4_c (w0 := w2)   ) ?_)
      rintro _ w3 ⟨⟨_, rfl, rfl⟩, hm3⟩
      have f7 := f4.ext hm3
      have f8 := f5.ext hm3
      have f9 := f6.ext hm3
      have hE3 := hE2.ext hm3
      have hs3 := hm3.size
      refine OL.q (Q1.assign rfl) rfl rfl ?_
      refine OL.nil ?_
      refine r_ret1 Try.func8 rfl rfl ?_
      exact Ret.mk ⟨⟨_, (by rfl), rfl⟩, hE3⟩
    | false =>
      replace hb2 := hb2.symm
      refine OL.q (Q1.move rfl) rfl rfl ?_
      refine OL.act rfl rfl (AW.callF cl9 rfl (greatT_c (w0 := w2) (l := c)  ((f6).iv (Nat.zero_le _) (by omega))) ?_)
      rintro _ w3 ⟨⟨b3, hb3, rfl⟩, hm3⟩
      have f7 := f4.ext hm3
      have f8 := f5.ext hm3
      have f9 := f6.ext hm3
      have hE3 := hE2.ext hm3
      have hs3 := hm3.size
      refine OL.q (Q1.pick_f rfl rfl) rfl rfl ?_
      refine OL.q (Q1.move rfl) rfl rfl ?_
      cases b3 with
      | true =>
        replace hb3 := hb3.symm
        refine OL.sk rfl rfl ?_
        refine OL.sk rfl rfl ?_
        refine OL.sk rfl rfl ?_
        refine OL.q (Q1.pick_t rfl rfl) rfl rfl ?_
        refine OL.q (Q1.move rfl) rfl rfl ?_
        refine OL.sk rfl rfl ?_
        refine OL.sk rfl rfl ?_
        refine OL.sk rfl rfl ?_
        refine OL.q (Q1.pick_t rfl rfl) rfl rfl ?_
        refine OL.q (Q1.move rfl) rfl rfl ?_
        refine OL.sk rfl rfl ?_
        refine OL.sk rfl rfl ?_
        refine OL.sk rfl rfl ?_
        refine OL.q (Q1.pick_t rfl rfl) rfl rfl ?_
        refine OL.nil ?_
        refine r_cond_t rfl ?_
        refine r_seq ?_
        refine r_region ?_
        refine OL.act rfl rfl (AW.callF cl10 rfl (awake4_c (w0 := w3)   ) ?_)
        rintro _ w4 ⟨⟨_, rfl, rfl⟩, hm4⟩
        have f10 := f7.ext hm4
        have f11 := f8.ext hm4
        have f12 := f9.ext hm4
        have hE4 := hE3.ext hm4
        have hs4 := hm4.size
        refine OL.q (Q1.assign rfl) rfl rfl ?_
        refine OL.nil ?_
        refine r_ret1 Try.func8 rfl rfl ?_
        exact Ret.mk ⟨⟨_, (by rfl), rfl⟩, hE4⟩
      | false =>
        replace hb3 := hb3.symm
        refine OL.q (Q1.move rfl) rfl rfl ?_
        refine OL.act rfl rfl (AW.callF cl14 rfl (lgood_c (w0 := w3) (words := a)  ((f7).iv (Nat.zero_le _) (by omega)) (by assumption)) ?_)
        rintro _ w4 ⟨rfl, hm4⟩
        have f10 := f7.ext hm4
        have f11 := f8.ext hm4
        have f12 := f9.ext hm4
        have hE4 := hE3.ext hm4
        have hs4 := hm4.size
        refine OL.qb (Q1.ne rfl rfl) rfl rfl ?_
        intro b4 hb4
        refine OL.q (Q1.pick_f rfl rfl) rfl rfl ?_
        refine OL.q (Q1.move rfl) rfl rfl ?_
        cases b4 with
        | true =>
          replace hb4 := bne_iff_ne.1 hb4.symm
          refine OL.sk rfl rfl ?_
          refine OL.sk rfl rfl ?_
          refine OL.sk rfl rfl ?_
          refine OL.q (Q1.pick_t rfl rfl) rfl rfl ?_
          refine OL.q (Q1.move rfl) rfl rfl ?_
          refine OL.sk rfl rfl ?_
          refine OL.sk rfl rfl ?_
          refine OL.sk rfl rfl ?_
          refine OL.q (Q1.pick_t rfl rfl) rfl rfl ?_
          refine OL.nil ?_
          refine r_cond_t rfl ?_
          refine r_seq ?_
          refine r_region ?_
          refine OL.act rfl rfl (AW.callF cl10 rfl (awake4_c (w0 := w4)   ) ?_)
          rintro _ w5 ⟨⟨_, rfl, rfl⟩, hm5⟩
          have f13 := f10.ext hm5
          have f14 := f11.ext hm5
          have f15 := f12.ext hm5
          have hE5 := hE4.ext hm5
          have hs5 := hm5.size
          refine OL.q (Q1.assign rfl) rfl rfl ?_
          refine OL.nil ?_
          refine r_ret1 Try.func8 rfl rfl ?_
          exact Ret.mk ⟨⟨_, (by rfl), rfl⟩, hE5⟩
        | false =>
          replace hb4 := bne_eq_false_iff_eq.1 hb4.symm
          refine OL.q (Q1.move rfl) rfl rfl ?_
          refine OL.act rfl rfl (AW.callF cl14 rfl (lgood_c (w0 := w4) (words := b)  ((f11).iv (Nat.zero_le _) (by omega)) (by assumption)) ?_)
          rintro _ w5 ⟨rfl, hm5⟩
          have f13 := f10.ext hm5
          have f14 := f11.ext hm5
          have f15 := f12.ext hm5
          have hE5 := hE4.ext hm5
          have hs5 := hm5.size
          refine OL.qb (Q1.ne rfl rfl) rfl rfl ?_
          intro b5 hb5
          refine OL.q (Q1.pick_f rfl rfl) rfl rfl ?_
          refine OL.q (Q1.move rfl) rfl rfl ?_
          cases b5 with
          | true =>
            replace hb5 := bne_iff_ne.1 hb5.symm
            refine OL.sk rfl rfl ?_
            refine OL.sk rfl rfl ?_
            refine OL.sk rfl rfl ?_
            refine OL.q (Q1.pick_t rfl rfl) rfl rfl ?_
            refine OL.nil ?_
            refine r_cond_t rfl ?_
            refine r_seq ?_
            refine r_region ?_
            refine OL.act rfl rfl (AW.callF cl10 rfl (awake4_c (w0 := w5)   ) ?_)
            rintro _ w6 ⟨⟨_, rfl, rfl⟩, hm6⟩
            have f16 := f13.ext hm6
            have f17 := f14.ext hm6
            have f18 := f15.ext hm6
            have hE6 := hE5.ext hm6
            have hs6 := hm6.size
            refine OL.q (Q1.assign rfl) rfl rfl ?_
            refine OL.nil ?_
            refine r_ret1 Try.func8 rfl rfl ?_
            exact Ret.mk ⟨⟨_, (by rfl), rfl⟩, hE6⟩
          | false =>
            replace hb5 := bne_eq_false_iff_eq.1 hb5.symm
            refine OL.q (Q1.move rfl) rfl rfl ?_
            refine OL.act rfl rfl (AW.callF cl14 rfl (lgood_c (w0 := w5) (words := c)  ((f15).iv (Nat.zero_le _) (by omega)) (by assumption)) ?_)
            rintro _ w6 ⟨rfl, hm6⟩
            have f16 := f13.ext hm6
            have f17 := f14.ext hm6
            have f18 := f15.ext hm6
            have hE6 := hE5.ext hm6
            have hs6 := hm6.size
            refine OL.qb (Q1.ne rfl rfl) rfl rfl ?_
            intro b6 hb6
            refine OL.q (Q1.pick_f rfl rfl) rfl rfl ?_
            refine OL.nil ?_
            cases b6 with
            | true =>
              replace hb6 := bne_iff_ne.1 hb6.symm
              refine r_cond_t rfl ?_
              refine r_seq ?_
              refine r_region ?_
              refine OL.act rfl rfl (AW.callF cl10 rfl (awake4_c (w0 := w6)   ) ?_)
              rintro _ w7 ⟨⟨_, rfl, rfl⟩, hm7⟩
              have f19 := f16.ext hm7
              have f20 := f17.ext hm7
              have f21 := f18.ext hm7
              have hE7 := hE6.ext hm7
              have hs7 := hm7.size
              refine OL.q (Q1.assign rfl) rfl rfl ?_
              refine OL.nil ?_
              refine r_ret1 Try.func8 rfl rfl ?_
              exact Ret.mk ⟨⟨_, (by rfl), rfl⟩, hE7⟩
            | false =>
              replace hb6 := bne_eq_false_iff_eq.1 hb6.symm
              refine r_cond_f rfl ?_
              refine r_skip ?_
              refine r_seq ?_
              refine r_region ?_
              refine OL.q (Q1.move rfl) rfl rfl ?_
              have hga : Ml.goodL a = 0 := by assumption
              have hsa := Ml.good_sorted hga
              have hla := Ml.good_len hga
              have hgb : Ml.goodL b = 0 := by assumption
              have hsb := Ml.good_sorted hgb
              have hlb := Ml.good_len hgb
              have hgc : Ml.goodL c = 0 := by assumption
              have hsc := Ml.good_sorted hgc
              have hlc := Ml.good_len hgc
              have hm1 := Ml.merge_len a b
              have hm2 := Ml.merge_len c b
              have hm3 := Ml.merge_len b c
              have hm4 := Ml.merge_len (Ml.mergeL a b) c
              refine OL.q (Q1.move rfl) rfl rfl ?_
              refine OL.act rfl rfl (AW.callF cl23 rfl (lmerge_c (w0 := w6) (a := a) (b := b)  ((f16).iv (Nat.zero_le _) (by omega)) ((f17).iv (Nat.zero_le _) (by omega)) (by first | assumption | omega)) ?_)
              rintro v1 w7 ⟨h1, hm7⟩
              have f19 := f16.ext hm7
              have f20 := f17.ext hm7
              have f21 := f18.ext hm7
              have hE7 := hE6.ext hm7
              have hs7 := hm7.size
              have hle_1 := h1.le
              refine OL.q (Q1.move rfl) rfl rfl ?_
              refine OL.act rfl rfl (AW.callF cl23 rfl (lmerge_c (w0 := w7) (a := (Ml.mergeL a b)) (b := c)  ((h1).iv (Nat.zero_le _) (by omega)) ((f21).iv (Nat.zero_le _) (by omega)) (by first | assumption | omega)) ?_)
              rintro v2 w8 ⟨h2, hm8⟩
              have f22 := f19.ext hm8
              have f23 := f20.ext hm8
              have f24 := f21.ext hm8
              have f25 := h1.ext hm8
              have hE8 := hE7.ext hm8
              have hs8 := hm8.size
              have hle_2 := h2.le
              refine OL.q (Q1.assign rfl) rfl rfl ?_
              refine OL.nil ?_
              refine r_seq ?_
              refine r_region ?_
              refine OL.q (Q1.move rfl) rfl rfl ?_
              refine OL.q (Q1.move rfl) rfl rfl ?_
              refine OL.q (Q1.move rfl) rfl rfl ?_
              refine OL.act rfl rfl (AW.callF cl23 rfl (lmerge_c (w0 := w8) (a := c) (b := b)  ((f24).iv (Nat.zero_le _) (by omega)) ((f23).iv (Nat.zero_le _) (by omega)) (by first | assumption | omega)) ?_)
              rintro v3 w9 ⟨h3, hm9⟩
              have f26 := f22.ext hm9
              have f27 := f23.ext hm9
              have f28 := f24.ext hm9
              have f29 := f25.ext hm9
              have f30 := h2.ext hm9
              have hE9 := hE8.ext hm9
              have hs9 := hm9.size
              have hle_3 := h3.le
              refine OL.act rfl rfl (AW.callF cl23 rfl (lmerge_c (w0 := w9) (a := a) (b := (Ml.mergeL c b))  ((f26).iv (Nat.zero_le _) (by omega)) ((h3).iv (Nat.zero_le _) (by omega)) (by first | assumption | omega)) ?_)
              rintro v4 w10 ⟨h4, hm10⟩
              have f31 := f26.ext hm10
              have f32 := f27.ext hm10
              have f33 := f28.ext hm10
              have f34 := f29.ext hm10
              have f35 := f30.ext hm10
              have f36 := h3.ext hm10
              have hE10 := hE9.ext hm10
              have hs10 := hm10.size
              have hle_4 := h4.le
              refine OL.q (Q1.assign rfl) rfl rfl ?_
              refine OL.nil ?_
              refine r_seq ?_
              refine r_region ?_
              refine OL.q (Q1.move rfl) rfl rfl ?_
              refine OL.q (Q1.move rfl) rfl rfl ?_
              refine OL.act rfl rfl (AW.callF cl24 rfl (lwithout_c (w0 := w10) (a := a) (b := b)  ((f31).iv (Nat.zero_le _) (by omega)) ((f32).iv (Nat.zero_le _) (by omega)) (by first | assumption | exact Ml.merge_sorted hsa hsb | exact Ml.merge_sorted hsb hsc) (by first | assumption | omega | (simp; done)) (by first | assumption | omega | (simp; done))) ?_)
              rintro v5 w11 ⟨h5, hm11⟩
              have f37 := f31.ext hm11
              have f38 := f32.ext hm11
              have f39 := f33.ext hm11
              have f40 := f34.ext hm11
              have f41 := f35.ext hm11
              have f42 := f36.ext hm11
              have f43 := h4.ext hm11
              have hE11 := hE10.ext hm11
              have hs11 := hm11.size
              have hle_5 := h5.le
              have := Ml.without_len a b
              refine OL.q (Q1.move rfl) rfl rfl ?_
              refine OL.act rfl rfl (AW.callF cl24 rfl (lwithout_c (w0 := w11) (a := (Ml.withoutM a b)) (b := c)  ((h5).iv (Nat.zero_le _) (by omega)) ((f39).iv (Nat.zero_le _) (by omega)) (by first | assumption | exact Ml.merge_sorted hsa hsb | exact Ml.merge_sorted hsb hsc) (by first | assumption | omega | (simp; done)) (by first | assumption | omega | (simp; done))) ?_)
              rintro v6 w12 ⟨h6, hm12⟩
              have f44 := f37.ext hm12
              have f45 := f38.ext hm12
              have f46 := f39.ext hm12
              have f47 := f40.ext hm12
              have f48 := f41.ext hm12
              have f49 := f42.ext hm12
              have f50 := f43.ext hm12
              have f51 := h5.ext hm12
              have hE12 := hE11.ext hm12
              have hs12 := hm12.size
              have hle_6 := h6.le
              have := Ml.without_len ((Ml.withoutM a b)) c
              refine OL.q (Q1.assign rfl) rfl rfl ?_
              refine OL.nil ?_
              refine r_seq ?_
              refine r_region ?_
              refine OL.q (Q1.move rfl) rfl rfl ?_
              refine OL.q (Q1.move rfl) rfl rfl ?_
              refine OL.q (Q1.move rfl) rfl rfl ?_
              refine OL.act rfl rfl (AW.callF cl23 rfl (lmerge_c (w0 := w12) (a := b) (b := c)  ((f45).iv (Nat.zero_le _) (by omega)) ((f46).iv (Nat.zero_le _) (by omega)) (by first | assumption | omega)) ?_)
              rintro v7 w13 ⟨h7, hm13⟩
              have f52 := f44.ext hm13
              have f53 := f45.ext hm13
              have f54 := f46.ext hm13
              have f55 := f47.ext hm13
              have f56 := f48.ext hm13
              have f57 := f49.ext hm13
              have f58 := f50.ext hm13
              have f59 := f51.ext hm13
              have f60 := h6.ext hm13
              have hE13 := hE12.ext hm13
              have hs13 := hm13.size
              have hle_7 := h7.le
              refine OL.act rfl rfl (AW.callF cl24 rfl (lwithout_c (w0 := w13) (a := a) (b := (Ml.mergeL b c))  ((f52).iv (Nat.zero_le _) (by omega)) ((h7).iv (Nat.zero_le _) (by omega)) (by first | assumption | exact Ml.merge_sorted hsa hsb | exact Ml.merge_sorted hsb hsc) (by first | assumption | omega | (simp; done)) (by first | assumption | omega | (simp; done))) ?_)
              rintro v8 w14 ⟨h8, hm14⟩
              have f61 := f52.ext hm14
              have f62 := f53.ext hm14
              have f63 := f54.ext hm14
              have f64 := f55.ext hm14
              have f65 := f56.ext hm14
              have f66 := f57.ext hm14
              have f67 := f58.ext hm14
              have f68 := f59.ext hm14
              have f69 := f60.ext hm14
              have f70 := h7.ext hm14
              have hE14 := hE13.ext hm14
              have hs14 := hm14.size
              have hle_8 := h8.le
              have := Ml.without_len a ((Ml.mergeL b c))
              refine OL.q (Q1.assign rfl) rfl rfl ?_
              refine OL.nil ?_
              refine r_seq ?_
              refine r_region ?_
              refine OL.q (Q1.move rfl) rfl rfl ?_
              refine OL.q (Q1.move rfl) rfl rfl ?_
              refine OL.act rfl rfl (AW.callF cl16 rfl (sameT_c (w0 := w14) (a := (Ml.mergeL ((Ml.mergeL a b)) c)) (b := (Ml.mergeL a ((Ml.mergeL c b))))  ((f65).iv (Nat.zero_le _) (by omega)) ((f67).iv (Nat.zero_le _) (by omega))) ?_)
              rintro _ w15 ⟨⟨b7, hb7, rfl⟩, hm15⟩
              have f71 := f61.ext hm15
              have f72 := f62.ext hm15
              have f73 := f63.ext hm15
              have f74 := f64.ext hm15
              have f75 := f65.ext hm15
              have f76 := f66.ext hm15
              have f77 := f67.ext hm15
              have f78 := f68.ext hm15
              have f79 := f69.ext hm15
              have f80 := f70.ext hm15
              have f81 := h8.ext hm15
              have hE15 := hE14.ext hm15
              have hs15 := hm15.size
              obtain rfl : b7 = true := hb7.trans (by exact decide_eq_true (Ml.merge_three hsa hsb hsc))
              refine OL.q (Q1.move rfl) rfl rfl ?_
              refine OL.q (Q1.move rfl) rfl rfl ?_
              refine OL.q (Q1.move rfl) rfl rfl ?_
              refine OL.act rfl rfl (AW.callF cl16 rfl (sameT_c (w0 := w15) (a := (Ml.withoutM ((Ml.withoutM a b)) c)) (b := (Ml.withoutM a ((Ml.mergeL b c))))  ((f79).iv (Nat.zero_le _) (by omega)) ((f81).iv (Nat.zero_le _) (by omega))) ?_)
              rintro _ w16 ⟨⟨b8, hb8, rfl⟩, hm16⟩
              have f82 := f71.ext hm16
              have f83 := f72.ext hm16
              have f84 := f73.ext hm16
              have f85 := f74.ext hm16
              have f86 := f75.ext hm16
              have f87 := f76.ext hm16
              have f88 := f77.ext hm16
              have f89 := f78.ext hm16
              have f90 := f79.ext hm16
              have f91 := f80.ext hm16
              have f92 := f81.ext hm16
              have hE16 := hE15.ext hm16
              have hs16 := hm16.size
              obtain rfl : b8 = true := hb8.trans (by exact decide_eq_true (Ml.without_two hsa))
              refine OL.q (Q1.pick_t rfl rfl) rfl rfl ?_
              refine OL.q (Q1.move rfl) rfl rfl ?_
              refine OL.q (Q1.move rfl) rfl rfl ?_
              refine OL.q (Q1.move rfl) rfl rfl ?_
              refine OL.act rfl rfl (AW.callF cl24 rfl (lwithout_c (w0 := w16) (a := (Ml.mergeL ((Ml.mergeL a b)) c)) (b := c)  ((f86).iv (Nat.zero_le _) (by omega)) ((f84).iv (Nat.zero_le _) (by omega)) (by first | assumption | exact Ml.merge_sorted hsa hsb | exact Ml.merge_sorted hsb hsc) (by first | assumption | omega | (simp; done)) (by first | assumption | omega | (simp; done))) ?_)
              rintro v9 w17 ⟨h9, hm17⟩
              have f93 := f82.ext hm17
              have f94 := f83.ext hm17
              have f95 := f84.ext hm17
              have f96 := f85.ext hm17
              have f97 := f86.ext hm17
              have f98 := f87.ext hm17
              have f99 := f88.ext hm17
              have f100 := f89.ext hm17
              have f101 := f90.ext hm17
              have f102 := f91.ext hm17
              have f103 := f92.ext hm17
              have hE17 := hE16.ext hm17
              have hs17 := hm17.size
              have hle_9 := h9.le
              have := Ml.without_len ((Ml.mergeL ((Ml.mergeL a b)) c)) c
              refine OL.q (Q1.move rfl) rfl rfl ?_
              refine OL.q (Q1.move rfl) rfl rfl ?_
              refine OL.act rfl rfl (AW.callF cl23 rfl (lmerge_c (w0 := w17) (a := a) (b := b)  ((f93).iv (Nat.zero_le _) (by omega)) ((f94).iv (Nat.zero_le _) (by omega)) (by first | assumption | omega)) ?_)
              rintro v10 w18 ⟨h10, hm18⟩
              have f104 := f93.ext hm18
              have f105 := f94.ext hm18
              have f106 := f95.ext hm18
              have f107 := f96.ext hm18
              have f108 := f97.ext hm18
              have f109 := f98.ext hm18
              have f110 := f99.ext hm18
              have f111 := f100.ext hm18
              have f112 := f101.ext hm18
              have f113 := f102.ext hm18
              have f114 := f103.ext hm18
              have f115 := h9.ext hm18
              have hE18 := hE17.ext hm18
              have hs18 := hm18.size
              have hle_10 := h10.le
              refine OL.q (Q1.move rfl) rfl rfl ?_
              refine OL.act rfl rfl (AW.callF cl24 rfl (lwithout_c (w0 := w18) (a := (Ml.mergeL a b)) (b := c)  ((h10).iv (Nat.zero_le _) (by omega)) ((f106).iv (Nat.zero_le _) (by omega)) (by first | assumption | exact Ml.merge_sorted hsa hsb | exact Ml.merge_sorted hsb hsc) (by first | assumption | omega | (simp; done)) (by first | assumption | omega | (simp; done))) ?_)
              rintro v11 w19 ⟨h11, hm19⟩
              have f116 := f104.ext hm19
              have f117 := f105.ext hm19
              have f118 := f106.ext hm19
              have f119 := f107.ext hm19
              have f120 := f108.ext hm19
              have f121 := f109.ext hm19
              have f122 := f110.ext hm19
              have f123 := f111.ext hm19
              have f124 := f112.ext hm19
              have f125 := f113.ext hm19
              have f126 := f114.ext hm19
              have f127 := f115.ext hm19
              have f128 := h10.ext hm19
              have hE19 := hE18.ext hm19
              have hs19 := hm19.size
              have hle_11 := h11.le
              have := Ml.without_len ((Ml.mergeL a b)) c
              refine OL.act rfl rfl (AW.callF cl16 rfl (sameT_c (w0 := w19) (a := (Ml.withoutM ((Ml.mergeL ((Ml.mergeL a b)) c)) c)) (b := (Ml.withoutM ((Ml.mergeL a b)) c))  ((f127).iv (Nat.zero_le _) (by omega)) ((h11).iv (Nat.zero_le _) (by omega))) ?_)
              rintro _ w20 ⟨⟨b9, hb9, rfl⟩, hm20⟩
              have f129 := f116.ext hm20
              have f130 := f117.ext hm20
              have f131 := f118.ext hm20
              have f132 := f119.ext hm20
              have f133 := f120.ext hm20
              have f134 := f121.ext hm20
              have f135 := f122.ext hm20
              have f136 := f123.ext hm20
              have f137 := f124.ext hm20
              have f138 := f125.ext hm20
              have f139 := f126.ext hm20
              have f140 := f127.ext hm20
              have f141 := f128.ext hm20
              have f142 := h11.ext hm20
              have hE20 := hE19.ext hm20
              have hs20 := hm20.size
              obtain rfl : b9 = true := hb9.trans (by exact decide_eq_true (Ml.without_merged hsa hsb hsc))
              refine OL.q (Q1.pick_t rfl rfl) rfl rfl ?_
              refine OL.q (Q1.move rfl) rfl rfl ?_
              refine OL.act rfl rfl (AW.callF cl10 rfl (awake4_c (w0 := w20)   ) ?_)
              rintro _ w21 ⟨⟨_, rfl, rfl⟩, hm21⟩
              have f143 := f129.ext hm21
              have f144 := f130.ext hm21
              have f145 := f131.ext hm21
              have f146 := f132.ext hm21
              have f147 := f133.ext hm21
              have f148 := f134.ext hm21
              have f149 := f135.ext hm21
              have f150 := f136.ext hm21
              have f151 := f137.ext hm21
              have f152 := f138.ext hm21
              have f153 := f139.ext hm21
              have f154 := f140.ext hm21
              have f155 := f141.ext hm21
              have f156 := f142.ext hm21
              have hE21 := hE20.ext hm21
              have hs21 := hm21.size
              refine OL.q (Q1.pick_t rfl rfl) rfl rfl ?_
              refine OL.q (Q1.assign rfl) rfl rfl ?_
              refine OL.nil ?_
              refine r_ret1 Try.func8 rfl rfl ?_
              exact Ret.mk ⟨⟨_, (by rfl), rfl⟩, hE21⟩
end Go.Proofs
