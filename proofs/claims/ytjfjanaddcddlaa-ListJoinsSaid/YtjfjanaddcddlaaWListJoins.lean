/-
  The walk through the law ListJoins.
-/
import Derived.Test.YtjfjanaddcddlaaWAwake
import Derived.Test.YtjfjanaddcddlaaWRef4
import Derived.Test.YtjfjanaddcddlaaWLent
set_option linter.unusedVariables false
set_option linter.unusedSimpArgs false
namespace Go.Proofs
open Go.Ik Go.Ml
set_option maxRecDepth 20000 in
set_option maxHeartbeats 4000000 in
theorem ListJoins_c {w0 : World} {v_a : Value} {a : List Str} {v_b : Value} {b : List Str} (w : Str) (h_a : Sl encS w0 (Iv 0 w0.heap.size) v_a a) (h_b : Sl encS w0 (Iv 0 w0.heap.size) v_b b) (hok_a : Ml.LOk a) (hok_b : Ml.LOk b) :
    Calls Try.prog 6 #[v_a, v_b, strV w] w0 (Ret fun rv w1 => (∃ rb : Bool, rb = true ∧ rv = .bool rb) ∧ Ext w0 w1) := by
  have hE0 : Ext w0 w0 := Mod.refl _ _
  have hle1 := h_a.le
  have hle2 := h_b.le
  refine calls_enter Try.func6 rfl Try.ntmps6 rfl ?_
  refine r_seq ?_
  refine r_region ?_
  refine OL.q (Q1.assign rfl) rfl rfl ?_
  refine OL.nil ?_
  refine r_seq ?_
  refine r_seq ?_
  refine r_region ?_
  refine OL.q (Q1.move rfl) rfl rfl ?_
  refine OL.act rfl rfl (AW.callF cl9 rfl (greatT_c (w0 := w0) (l := a)  ((h_a).iv (Nat.zero_le _) (by omega))) ?_)
  rintro _ w1 ⟨⟨b1, hb1, rfl⟩, hm1⟩
  have f1 := h_a.ext hm1
  have f2 := h_b.ext hm1
  have hE1 := hE0.ext hm1
  have hs1 := hm1.size
  refine OL.q (Q1.move rfl) rfl rfl ?_
  cases b1 with
  | true =>
    replace hb1 := hb1.symm
    refine OL.sk rfl rfl ?_
    refine OL.sk rfl rfl ?_
    refine OL.q (Q1.pick_t rfl rfl) rfl rfl ?_
    refine OL.q (Q1.move rfl) rfl rfl ?_
    refine OL.sk rfl rfl ?_
    refine OL.sk rfl rfl ?_
    refine OL.sk rfl rfl ?_
    refine OL.q (Q1.pick_t rfl rfl) rfl rfl ?_
    refine OL.q (Q1.move rfl) rfl rfl ?_
    refine OL.sk rfl rfl ?_
    refine OL.sk rfl rfl ?_
    refine OL.sk rfl rfl ?_
    refine OL.q (Q1.pick_t rfl rfl) rfl rfl ?_
    refine OL.q (Q1.move rfl) rfl rfl ?_
    refine OL.sk rfl rfl ?_
    refine OL.sk rfl rfl ?_
    refine OL.sk rfl rfl ?_
    refine OL.q (Q1.pick_t rfl rfl) rfl rfl ?_
    refine OL.nil ?_
    refine r_cond_t rfl ?_
    refine r_seq ?_
    refine r_region ?_
    refine OL.act rfl rfl (AW.callF cl10 rfl (awake4_c (w0 := w1)   ) ?_)
    rintro _ w2 ⟨⟨_, rfl, rfl⟩, hm2⟩
    have f3 := f1.ext hm2
    have f4 := f2.ext hm2
    have hE2 := hE1.ext hm2
    have hs2 := hm2.size
    refine OL.q (Q1.assign rfl) rfl rfl ?_
    refine OL.nil ?_
    refine r_ret1 Try.func6 rfl rfl ?_
    exact Ret.mk ⟨⟨_, (by rfl), rfl⟩, hE2⟩
  | false =>
    replace hb1 := hb1.symm
    refine OL.q (Q1.move rfl) rfl rfl ?_
    refine OL.act rfl rfl (AW.callF cl9 rfl (greatT_c (w0 := w1) (l := b)  ((f2).iv (Nat.zero_le _) (by omega))) ?_)
    rintro _ w2 ⟨⟨b2, hb2, rfl⟩, hm2⟩
    have f3 := f1.ext hm2
    have f4 := f2.ext hm2
    have hE2 := hE1.ext hm2
    have hs2 := hm2.size
    refine OL.q (Q1.pick_f rfl rfl) rfl rfl ?_
    refine OL.q (Q1.move rfl) rfl rfl ?_
    cases b2 with
    | true =>
      replace hb2 := hb2.symm
      refine OL.sk rfl rfl ?_
      refine OL.sk rfl rfl ?_
      refine OL.sk rfl rfl ?_
      refine OL.q (Q1.pick_t rfl rfl) rfl rfl ?_
      refine OL.q (Q1.move rfl) rfl rfl ?_
      refine OL.sk rfl rfl ?_
      refine OL.sk rfl rfl ?_
      refine OL.sk rfl rfl ?_
      refine OL.q (Q1.pick_t rfl rfl) rfl rfl ?_
      refine OL.q (Q1.move rfl) rfl rfl ?_
      refine OL.sk rfl rfl ?_
      refine OL.sk rfl rfl ?_
      refine OL.sk rfl rfl ?_
      refine OL.q (Q1.pick_t rfl rfl) rfl rfl ?_
      refine OL.nil ?_
      refine r_cond_t rfl ?_
      refine r_seq ?_
      refine r_region ?_
      refine OL.act rfl rfl (AW.callF cl10 rfl (awake4_c (w0 := w2)   ) ?_)
      rintro _ w3 ⟨⟨_, rfl, rfl⟩, hm3⟩
      have f5 := f3.ext hm3
      have f6 := f4.ext hm3
      have hE3 := hE2.ext hm3
      have hs3 := hm3.size
      refine OL.q (Q1.assign rfl) rfl rfl ?_
      refine OL.nil ?_
      refine r_ret1 Try.func6 rfl rfl ?_
      exact Ret.mk ⟨⟨_, (by rfl), rfl⟩, hE3⟩
    | false =>
      replace hb2 := hb2.symm
      refine OL.q (Q1.move rfl) rfl rfl ?_
      refine OL.q (Q1.lenS Try.underlying9 rfl) rfl rfl ?_
      refine OL.qb (Q1.gt rfl rfl) rfl rfl ?_
      intro b3 hb3
      refine OL.q (Q1.pick_f rfl rfl) rfl rfl ?_
      refine OL.q (Q1.move rfl) rfl rfl ?_
      cases b3 with
      | true =>
        replace hb3 := of_decide_eq_true hb3.symm
        refine OL.sk rfl rfl ?_
        refine OL.sk rfl rfl ?_
        refine OL.sk rfl rfl ?_
        refine OL.q (Q1.pick_t rfl rfl) rfl rfl ?_
        refine OL.q (Q1.move rfl) rfl rfl ?_
        refine OL.sk rfl rfl ?_
        refine OL.sk rfl rfl ?_
        refine OL.sk rfl rfl ?_
        refine OL.q (Q1.pick_t rfl rfl) rfl rfl ?_
        refine OL.nil ?_
        refine r_cond_t rfl ?_
        refine r_seq ?_
        refine r_region ?_
        refine OL.act rfl rfl (AW.callF cl10 rfl (awake4_c (w0 := w2)   ) ?_)
        rintro _ w3 ⟨⟨_, rfl, rfl⟩, hm3⟩
        have f5 := f3.ext hm3
        have f6 := f4.ext hm3
        have hE3 := hE2.ext hm3
        have hs3 := hm3.size
        refine OL.q (Q1.assign rfl) rfl rfl ?_
        refine OL.nil ?_
        refine r_ret1 Try.func6 rfl rfl ?_
        exact Ret.mk ⟨⟨_, (by rfl), rfl⟩, hE3⟩
      | false =>
        replace hb3 := of_decide_eq_false hb3.symm
        refine OL.q (Q1.move rfl) rfl rfl ?_
        refine OL.act rfl rfl (AW.callF cl15 rfl (r4good_c (w0 := w2) (l := a)  ((f3).iv (Nat.zero_le _) (by omega)) (by first | exact Ml.greatT_short (by assumption))) ?_)
        rintro _ w3 ⟨rfl, hm3⟩
        have f5 := f3.ext hm3
        have f6 := f4.ext hm3
        have hE3 := hE2.ext hm3
        have hs3 := hm3.size
        have := Ml.goodL_range a
        refine OL.qb (Q1.ne rfl rfl) rfl rfl ?_
        intro b4 hb4
        refine OL.q (Q1.pick_f rfl rfl) rfl rfl ?_
        refine OL.q (Q1.move rfl) rfl rfl ?_
        cases b4 with
        | true =>
          replace hb4 := bne_iff_ne.1 hb4.symm
          refine OL.sk rfl rfl ?_
          refine OL.sk rfl rfl ?_
          refine OL.sk rfl rfl ?_
          refine OL.q (Q1.pick_t rfl rfl) rfl rfl ?_
          refine OL.nil ?_
          refine r_cond_t rfl ?_
          refine r_seq ?_
          refine r_region ?_
          refine OL.act rfl rfl (AW.callF cl10 rfl (awake4_c (w0 := w3)   ) ?_)
          rintro _ w4 ⟨⟨_, rfl, rfl⟩, hm4⟩
          have f7 := f5.ext hm4
          have f8 := f6.ext hm4
          have hE4 := hE3.ext hm4
          have hs4 := hm4.size
          refine OL.q (Q1.assign rfl) rfl rfl ?_
          refine OL.nil ?_
          refine r_ret1 Try.func6 rfl rfl ?_
          exact Ret.mk ⟨⟨_, (by rfl), rfl⟩, hE4⟩
        | false =>
          replace hb4 := bne_eq_false_iff_eq.1 hb4.symm
          refine OL.q (Q1.move rfl) rfl rfl ?_
          refine OL.act rfl rfl (AW.callF cl15 rfl (r4good_c (w0 := w3) (l := b)  ((f6).iv (Nat.zero_le _) (by omega)) (by first | exact Ml.greatT_short (by assumption))) ?_)
          rintro _ w4 ⟨rfl, hm4⟩
          have f7 := f5.ext hm4
          have f8 := f6.ext hm4
          have hE4 := hE3.ext hm4
          have hs4 := hm4.size
          have := Ml.goodL_range b
          refine OL.qb (Q1.ne rfl rfl) rfl rfl ?_
          intro b5 hb5
          refine OL.q (Q1.pick_f rfl rfl) rfl rfl ?_
          refine OL.nil ?_
          cases b5 with
          | true =>
            replace hb5 := bne_iff_ne.1 hb5.symm
            refine r_cond_t rfl ?_
            refine r_seq ?_
            refine r_region ?_
            refine OL.act rfl rfl (AW.callF cl10 rfl (awake4_c (w0 := w4)   ) ?_)
            rintro _ w5 ⟨⟨_, rfl, rfl⟩, hm5⟩
            have f9 := f7.ext hm5
            have f10 := f8.ext hm5
            have hE5 := hE4.ext hm5
            have hs5 := hm5.size
            refine OL.q (Q1.assign rfl) rfl rfl ?_
            refine OL.nil ?_
            refine r_ret1 Try.func6 rfl rfl ?_
            exact Ret.mk ⟨⟨_, (by rfl), rfl⟩, hE5⟩
          | false =>
            replace hb5 := bne_eq_false_iff_eq.1 hb5.symm
            refine r_cond_f rfl ?_
            refine r_skip ?_
            refine r_seq ?_
            refine r_region ?_
            refine OL.q (Q1.move rfl) rfl rfl ?_
            have hgt_a : Ml.greatT a = false := by assumption
            have hsk_a := Ml.greatT_short hgt_a
            have hl8_a := Ml.greatT_len hgt_a
            have hga : Ml.goodL a = 0 := by assumption
            have hsa := Ml.good_sorted hga
            have hla := Ml.good_len hga
            have hgt_b : Ml.greatT b = false := by assumption
            have hsk_b := Ml.greatT_short hgt_b
            have hl8_b := Ml.greatT_len hgt_b
            have hgb : Ml.goodL b = 0 := by assumption
            have hsb := Ml.good_sorted hgb
            have hlb := Ml.good_len hgb
            have hlm := Ml.merge_len a b
            refine OL.act rfl rfl (AW.callF cl11 rfl (lendTexts_c (w0 := w4) (l := a)  ((f7).iv (Nat.zero_le _) (by omega)) (by first | assumption | omega)) ?_)
            rintro _ w5 ⟨⟨bl1, rfl, h1, hg1⟩, hm5⟩
            have f9 := f7.ext hm5
            have f10 := f8.ext hm5
            have hE5 := hE4.ext hm5
            have hs5 := hm5.size
            have hle_1 := h1.lt
            refine OL.q (Q1.move rfl) rfl rfl ?_
            refine OL.act rfl rfl (AW.callF cl11 rfl (lendTexts_c (w0 := w5) (l := b)  ((f10).iv (Nat.zero_le _) (by omega)) (by first | assumption | omega)) ?_)
            rintro _ w6 ⟨⟨bl2, rfl, h2, hg2⟩, hm6⟩
            have f11 := f9.ext hm6
            have f12 := f10.ext hm6
            have f13 := h1.ext hm6
            have hE6 := hE5.ext hm6
            have hs6 := hm6.size
            have hle_2 := h2.lt
            refine OL.q (Q1.assign rfl) rfl rfl ?_
            refine OL.q (Q1.assign rfl) rfl rfl ?_
            refine OL.nil ?_
            refine r_seq ?_
            refine r_region ?_
            refine OL.q (Q1.move rfl) rfl rfl ?_
            refine OL.q (Q1.move rfl) rfl rfl ?_
            refine OL.act rfl rfl (AW.callF cl23 rfl (lmerge_c (w0 := w6) (a := a) (b := b)  (((f13.sl 3 (by simp) (by unfold maxLen; omega))).iv (Nat.zero_le _) (by omega)) (((h2.sl 3 (by simp) (by unfold maxLen; omega))).iv (Nat.zero_le _) (by omega)) (by first | assumption | omega)) ?_)
            rintro v1 w7 ⟨⟨gr1, h3, hg3⟩, hm7⟩
            have f14 := f11.ext hm7
            have f15 := f12.ext hm7
            have f16 := f13.ext hm7
            have f17 := h2.ext hm7
            have hE7 := hE6.ext hm7
            have hs7 := hm7.size
            have hle_3 := h3.le
            refine OL.q (Q1.move rfl) rfl rfl ?_
            refine OL.q (Q1.move rfl) rfl rfl ?_
            refine OL.act rfl rfl (AW.callF cl24 rfl (lwithout_c (w0 := w7) (a := a) (b := b)  (((f16.sl 3 (by simp) (by unfold maxLen; omega))).iv (Nat.zero_le _) (by omega)) (((f17.sl 3 (by simp) (by unfold maxLen; omega))).iv (Nat.zero_le _) (by omega)) (by first | assumption | exact Ml.rising_sorted (by decide +kernel)) (by first | assumption | omega | (simp; done)) (by first | assumption | omega | (simp; done))) ?_)
            rintro v2 w8 ⟨⟨gr2, h4, hg4⟩, hm8⟩
            have hl1 := h3.lt
            have f18 := f14.ext hm8
            have f19 := f15.ext hm8
            have f20 := f16.ext hm8
            have f21 := f17.ext hm8
            have f22 := h3.ext hm8
            have hE8 := hE7.ext hm8
            have hs8 := hm8.size
            have hle_4 := h4.le
            have := Ml.without_len a b
            refine OL.q (Q1.assign rfl) rfl rfl ?_
            refine OL.q (Q1.assign rfl) rfl rfl ?_
            refine OL.nil ?_
            refine r_seq ?_
            refine r_region ?_
            refine OL.q (Q1.move rfl) rfl rfl ?_
            refine OL.q (Q1.move rfl) rfl rfl ?_
            refine OL.act rfl rfl (AW.callF cl22 rfl (lat_c (w0 := w8) (words := a) w (((f20.sl 3 (by simp) (by unfold maxLen; omega))).iv (Nat.zero_le _) (by omega)) (by first | assumption | exact Ml.rising_sorted (by decide +kernel)) (by first | assumption | omega | (simp; done))) ?_)
            rintro _ w9 ⟨_, _, rfl, rfl, ⟨b6, hb6, rfl⟩, hm9⟩
            have hl2 := f22.lt
            have hl3 := h4.lt
            have f23 := f18.ext hm9
            have f24 := f19.ext hm9
            have f25 := f20.ext hm9
            have f26 := f21.ext hm9
            have f27 := f22.ext hm9
            have f28 := h4.ext hm9
            have hE9 := hE8.ext hm9
            have hs9 := hm9.size
            have := Ml.belowW_le a w
            refine OL.q (Q1.move rfl) rfl rfl ?_
            refine OL.q (Q1.extract rfl rfl) rfl rfl ?_
            refine OL.q (Q1.extract rfl rfl) rfl rfl ?_
            refine OL.q (Q1.assign rfl) rfl rfl ?_
            refine OL.q (Q1.assign rfl) rfl rfl ?_
            refine OL.nil ?_
            refine r_seq ?_
            refine r_region ?_
            refine OL.q (Q1.move rfl) rfl rfl ?_
            refine OL.q (Q1.move rfl) rfl rfl ?_
            refine OL.act rfl rfl (AW.callF cl25 rfl (r4at_c (w0 := w9) (l := a) w ((f23).iv (Nat.zero_le _) (by omega)) (by assumption) (by first | assumption | omega) (by first | assumption | exact Ml.rising_sorted (by decide +kernel))) ?_)
            rintro _ w10 ⟨_, _, rfl, rfl, ⟨b7, hb7, rfl⟩, hm10⟩
            have hl4 := f27.lt
            have hl5 := f28.lt
            have f29 := f23.ext hm10
            have f30 := f24.ext hm10
            have f31 := f25.ext hm10
            have f32 := f26.ext hm10
            have f33 := f27.ext hm10
            have f34 := f28.ext hm10
            have hE10 := hE9.ext hm10
            have hs10 := hm10.size
            have := Ml.belowW_le a w
            refine OL.q (Q1.move rfl) rfl rfl ?_
            refine OL.q (Q1.extract rfl rfl) rfl rfl ?_
            refine OL.q (Q1.extract rfl rfl) rfl rfl ?_
            refine OL.q (Q1.assign rfl) rfl rfl ?_
            refine OL.q (Q1.assign rfl) rfl rfl ?_
            refine OL.nil ?_
            refine r_seq ?_
            refine r_region ?_
            refine OL.q (Q1.move rfl) rfl rfl ?_
            refine OL.q (Q1.move rfl) rfl rfl ?_
            refine OL.q (Q1.move rfl) rfl rfl ?_
            refine OL.act rfl rfl (AW.callF cl26 rfl (r4merge_c (w0 := w10) (a := a) (b := b)  ((f29).iv (Nat.zero_le _) (by omega)) ((f30).iv (Nat.zero_le _) (by omega)) (by assumption) (by assumption) (by first | assumption | exact Ml.rising_sorted (by decide +kernel)) (by first | assumption | exact Ml.rising_sorted (by decide +kernel)) (by first | assumption | omega) (by first | assumption | omega)) ?_)
            rintro v3 w11 ⟨h5, hm11⟩
            have hl6 := f33.lt
            have hl7 := f34.lt
            have f35 := f29.ext hm11
            have f36 := f30.ext hm11
            have f37 := f31.ext hm11
            have f38 := f32.ext hm11
            have f39 := f33.ext hm11
            have f40 := f34.ext hm11
            have hE11 := hE10.ext hm11
            have hs11 := hm11.size
            have hle_5 := h5.le
            have := Ml.merge_len a b
            refine OL.act rfl rfl (AW.callF cl16 rfl (sameT_c (w0 := w11) (a := (Ml.mergeL a b)) (b := (Ml.mergeL a b))  ((f39.sl).iv (Nat.zero_le _) (by omega)) ((h5).iv (Nat.zero_le _) (by omega))) ?_)
            rintro _ w12 ⟨⟨b8, hb8, rfl⟩, hm12⟩
            have hl8 := f39.lt
            have hl9 := f40.lt
            have f41 := f35.ext hm12
            have f42 := f36.ext hm12
            have f43 := f37.ext hm12
            have f44 := f38.ext hm12
            have f45 := f39.ext hm12
            have f46 := f40.ext hm12
            have f47 := h5.ext hm12
            have hE12 := hE11.ext hm12
            have hs12 := hm12.size
            obtain rfl : b8 = true := hb8.trans (by exact decide_eq_true rfl)
            refine OL.q (Q1.move rfl) rfl rfl ?_
            refine OL.q (Q1.move rfl) rfl rfl ?_
            refine OL.q (Q1.move rfl) rfl rfl ?_
            refine OL.q (Q1.move rfl) rfl rfl ?_
            refine OL.act rfl rfl (AW.callF cl27 rfl (r4without_c (w0 := w12) (a := a) (b := b)  ((f41).iv (Nat.zero_le _) (by omega)) ((f42).iv (Nat.zero_le _) (by omega)) (by assumption) (by assumption) (by first | assumption | exact Ml.rising_sorted (by decide +kernel)) (by first | assumption | omega | (simp; done)) (by first | assumption | omega | (simp; done))) ?_)
            rintro v4 w13 ⟨h6, hm13⟩
            have hl10 := f45.lt
            have hl11 := f46.lt
            have f48 := f41.ext hm13
            have f49 := f42.ext hm13
            have f50 := f43.ext hm13
            have f51 := f44.ext hm13
            have f52 := f45.ext hm13
            have f53 := f46.ext hm13
            have f54 := f47.ext hm13
            have hE13 := hE12.ext hm13
            have hs13 := hm13.size
            have hle_6 := h6.le
            have := Ml.without_len a b
            refine OL.act rfl rfl (AW.callF cl16 rfl (sameT_c (w0 := w13) (a := (Ml.withoutM a b)) (b := (Ml.withoutM a b))  ((f53.sl).iv (Nat.zero_le _) (by omega)) ((h6).iv (Nat.zero_le _) (by omega))) ?_)
            rintro _ w14 ⟨⟨b9, hb9, rfl⟩, hm14⟩
            have hl12 := f52.lt
            have hl13 := f53.lt
            have f55 := f48.ext hm14
            have f56 := f49.ext hm14
            have f57 := f50.ext hm14
            have f58 := f51.ext hm14
            have f59 := f52.ext hm14
            have f60 := f53.ext hm14
            have f61 := f54.ext hm14
            have f62 := h6.ext hm14
            have hE14 := hE13.ext hm14
            have hs14 := hm14.size
            obtain rfl : b9 = true := hb9.trans (by exact decide_eq_true rfl)
            refine OL.q (Q1.pick_t rfl rfl) rfl rfl ?_
            refine OL.q (Q1.move rfl) rfl rfl ?_
            refine OL.q (Q1.move rfl) rfl rfl ?_
            refine OL.q (Q1.move rfl) rfl rfl ?_
            refine OL.qb (Q1.eq rfl rfl) rfl rfl ?_
            intro b10 hb10
            obtain rfl : b10 = true := hb10.trans (by exact beq_self_eq_true _)
            refine OL.q (Q1.pick_t rfl rfl) rfl rfl ?_
            refine OL.q (Q1.move rfl) rfl rfl ?_
            refine OL.q (Q1.move rfl) rfl rfl ?_
            refine OL.q (Q1.move rfl) rfl rfl ?_
            refine OL.qb (Q1.eqB Try.underlying4 rfl rfl) rfl rfl ?_
            intro b11 hb11
            obtain rfl : b11 = true := hb11.trans (by exact beq_iff_eq.2 ((by assumption : _ = a.contains w).trans (by assumption : _ = a.contains w).symm))
            refine OL.q (Q1.pick_t rfl rfl) rfl rfl ?_
            refine OL.q (Q1.assign rfl) rfl rfl ?_
            refine OL.nil ?_
            refine r_seq ?_
            refine r_region ?_
            refine OL.q (Q1.move rfl) rfl rfl ?_
            refine OL.act rfl rfl (AW.callF cl19 rfl (overTexts_c (w0 := w14) (l := (Ml.mergeL a b))  f59 (by first | assumption | omega)) ?_)
            rintro _ w15 ⟨rfl, hm15⟩
            have hl14 := f59.lt
            have hl15 := f60.lt
            have f63 := f55.keepG hm15 (by omega)
            have f64 := f56.keepG hm15 (by omega)
            have f65 := f57.keepG hm15 (by omega)
            have f66 := f58.keepG hm15 (by omega)
            have f67 := f60.keepG hm15 (by omega)
            have f68 := f61.keepG hm15 (by omega)
            have f69 := f62.keepG hm15 (by omega)
            have hE15 := Ext.thenG hE14 hm15 (by omega)
            have hs15 := hm15.size
            refine OL.nil ?_
            refine r_seq ?_
            refine r_region ?_
            refine OL.q (Q1.move rfl) rfl rfl ?_
            refine OL.act rfl rfl (AW.callF cl19 rfl (overTexts_c (w0 := w15) (l := (Ml.withoutM a b))  f67 (by first | assumption | omega)) ?_)
            rintro _ w16 ⟨rfl, hm16⟩
            have hl16 := f67.lt
            have f70 := f63.keepG hm16 (by omega)
            have f71 := f64.keepG hm16 (by omega)
            have f72 := f65.keepG hm16 (by omega)
            have f73 := f66.keepG hm16 (by omega)
            have f74 := f68.keepG hm16 (by omega)
            have f75 := f69.keepG hm16 (by omega)
            have hE16 := Ext.thenG hE15 hm16 (by omega)
            have hs16 := hm16.size
            refine OL.nil ?_
            refine r_seq ?_
            refine r_region ?_
            refine OL.q (Q1.move rfl) rfl rfl ?_
            refine OL.q (Q1.move rfl) rfl rfl ?_
            refine OL.q (Q1.move rfl) rfl rfl ?_
            refine OL.q (Q1.move rfl) rfl rfl ?_
            refine OL.act rfl rfl (AW.callF cl18 rfl (keptTexts_c (w0 := w16) (lent := a) (l := a)  f72 ((f70).iv (Nat.zero_le _) (by omega)) (by first | assumption | omega)) ?_)
            rintro _ w17 ⟨⟨b12, hb12, rfl⟩, hm17⟩
            have f76 := f70.ext hm17
            have f77 := f71.ext hm17
            have f78 := f72.ext hm17
            have f79 := f73.ext hm17
            have f80 := f74.ext hm17
            have f81 := f75.ext hm17
            have hE17 := hE16.ext hm17
            have hs17 := hm17.size
            obtain rfl : b12 = true := hb12.trans (by exact decide_eq_true rfl)
            refine OL.q (Q1.pick_t rfl rfl) rfl rfl ?_
            refine OL.q (Q1.move rfl) rfl rfl ?_
            refine OL.q (Q1.move rfl) rfl rfl ?_
            refine OL.q (Q1.move rfl) rfl rfl ?_
            refine OL.act rfl rfl (AW.callF cl18 rfl (keptTexts_c (w0 := w17) (lent := b) (l := b)  f79 ((f77).iv (Nat.zero_le _) (by omega)) (by first | assumption | omega)) ?_)
            rintro _ w18 ⟨⟨b13, hb13, rfl⟩, hm18⟩
            have f82 := f76.ext hm18
            have f83 := f77.ext hm18
            have f84 := f78.ext hm18
            have f85 := f79.ext hm18
            have f86 := f80.ext hm18
            have f87 := f81.ext hm18
            have hE18 := hE17.ext hm18
            have hs18 := hm18.size
            obtain rfl : b13 = true := hb13.trans (by exact decide_eq_true rfl)
            refine OL.q (Q1.pick_t rfl rfl) rfl rfl ?_
            refine OL.q (Q1.move rfl) rfl rfl ?_
            refine OL.act rfl rfl (AW.callF cl10 rfl (awake4_c (w0 := w18)   ) ?_)
            rintro _ w19 ⟨⟨_, rfl, rfl⟩, hm19⟩
            have f88 := f82.ext hm19
            have f89 := f83.ext hm19
            have f90 := f84.ext hm19
            have f91 := f85.ext hm19
            have f92 := f86.ext hm19
            have f93 := f87.ext hm19
            have hE19 := hE18.ext hm19
            have hs19 := hm19.size
            refine OL.q (Q1.pick_t rfl rfl) rfl rfl ?_
            refine OL.q (Q1.assign rfl) rfl rfl ?_
            refine OL.nil ?_
            refine r_ret1 Try.func6 rfl rfl ?_
            exact Ret.mk ⟨⟨_, (by rfl), rfl⟩, hE19⟩
end Go.Proofs
