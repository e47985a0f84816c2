/-
  The walk through the law ListParts.
-/
import Derived.Test.YtjfjanaddcddlaaWAwake
set_option linter.unusedVariables false
set_option linter.unusedSimpArgs false
namespace Go.Proofs
open Go.Ik Go.Ml
set_option maxHeartbeats 4000000 in
theorem ListParts_c {w0 : World} {v_a : Value} {a : List Str} {v_b : Value} {b : List Str} (w : Str) (h_a : Sl encS w0 (Iv 0 w0.heap.size) v_a a) (h_b : Sl encS w0 (Iv 0 w0.heap.size) v_b b) (hok_a : Ml.LOk a) (hok_b : Ml.LOk b) :
    Calls Try.prog 7 #[v_a, v_b, strV w] w0 (Ret fun rv w1 => (∃ rb : Bool, rb = true ∧ rv = .bool rb) ∧ Ext w0 w1) := by
  have hE0 : Ext w0 w0 := Mod.refl _ _
  have hle1 := h_a.le
  have hle2 := h_b.le
  refine calls_enter Try.func7 rfl Try.ntmps7 rfl ?_
  refine r_seq ?_
  refine r_region ?_
  refine OL.q (Q1.assign rfl) rfl rfl ?_
  refine OL.nil ?_
  refine r_seq ?_
  refine r_seq ?_
  refine r_region ?_
  refine OL.q (Q1.move rfl) rfl rfl ?_
  refine OL.act rfl rfl (AW.callF cl9 rfl (greatT_c (w0 := w0) (l := a)  ((h_a).iv (Nat.zero_le _) (by omega))) ?_)
  rintro _ w1 ⟨⟨b1, hb1, rfl⟩, hm1⟩
  have f1 := h_a.ext hm1
  have f2 := h_b.ext hm1
  have hE1 := hE0.ext hm1
  have hs1 := hm1.size
  refine OL.q (Q1.move rfl) rfl rfl ?_
  cases b1 with
  | true =>
    replace hb1 := hb1.symm
    refine OL.sk rfl rfl ?_
    refine OL.sk rfl rfl ?_
    refine OL.q (Q1.pick_t rfl rfl) rfl rfl ?_
    refine OL.q (Q1.move rfl) rfl rfl ?_
    refine OL.sk rfl rfl ?_
    refine OL.sk rfl rfl ?_
    refine OL.sk rfl rfl ?_
    refine OL.q (Q1.pick_t rfl rfl) rfl rfl ?_
    refine OL.q (Q1.move rfl) rfl rfl ?_
    refine OL.sk rfl rfl ?_
    refine OL.sk rfl rfl ?_
    refine OL.sk rfl rfl ?_
    refine OL.q (Q1.pick_t rfl rfl) rfl rfl ?_
    refine OL.q (Q1.move rfl) rfl rfl ?_
    refine OL.sk rfl rfl ?_
    refine OL.sk rfl rfl ?_
    refine OL.sk rfl rfl ?_
    refine OL.q (Q1.pick_t rfl rfl) rfl rfl ?_
    refine OL.nil ?_
    refine r_cond_t rfl ?_
    refine r_seq ?_
    refine r_region ?_
    refine OL.act rfl rfl (AW.callF cl10 rfl (awake4_c (w0 := w1)   ) ?_)
    rintro _ w2 ⟨⟨_, rfl, rfl⟩, hm2⟩
    have f3 := f1.ext hm2
    have f4 := f2.ext hm2
    have hE2 := hE1.ext hm2
    have hs2 := hm2.size
    refine OL.q (Q1.assign rfl) rfl rfl ?_
    refine OL.nil ?_
    refine r_ret1 Try.func7 rfl rfl ?_
    exact Ret.mk ⟨⟨_, (by rfl), rfl⟩, hE2⟩
  | false =>
    replace hb1 := hb1.symm
    refine OL.q (Q1.move rfl) rfl rfl ?_
    refine OL.act rfl rfl (AW.callF cl9 rfl (greatT_c (w0 := w1) (l := b)  ((f2).iv (Nat.zero_le _) (by omega))) ?_)
    rintro _ w2 ⟨⟨b2, hb2, rfl⟩, hm2⟩
    have f3 := f1.ext hm2
    have f4 := f2.ext hm2
    have hE2 := hE1.ext hm2
    have hs2 := hm2.size
    refine OL.q (Q1.pick_f rfl rfl) rfl rfl ?_
    refine OL.q (Q1.move rfl) rfl rfl ?_
    cases b2 with
    | true =>
      replace hb2 := hb2.symm
      refine OL.sk rfl rfl ?_
      refine OL.sk rfl rfl ?_
      refine OL.sk rfl rfl ?_
      refine OL.q (Q1.pick_t rfl rfl) rfl rfl ?_
      refine OL.q (Q1.move rfl) rfl rfl ?_
      refine OL.sk rfl rfl ?_
      refine OL.sk rfl rfl ?_
      refine OL.sk rfl rfl ?_
      refine OL.q (Q1.pick_t rfl rfl) rfl rfl ?_
      refine OL.q (Q1.move rfl) rfl rfl ?_
      refine OL.sk rfl rfl ?_
      refine OL.sk rfl rfl ?_
      refine OL.sk rfl rfl ?_
      refine OL.q (Q1.pick_t rfl rfl) rfl rfl ?_
      refine OL.nil ?_
      refine r_cond_t rfl ?_
      refine r_seq ?_
      refine r_region ?_
      refine OL.act rfl rfl (AW.callF cl10 rfl (awake4_c (w0 := w2)   ) ?_)
      rintro _ w3 ⟨⟨_, rfl, rfl⟩, hm3⟩
      have f5 := f3.ext hm3
      have f6 := f4.ext hm3
      have hE3 := hE2.ext hm3
      have hs3 := hm3.size
      refine OL.q (Q1.assign rfl) rfl rfl ?_
      refine OL.nil ?_
      refine r_ret1 Try.func7 rfl rfl ?_
      exact Ret.mk ⟨⟨_, (by rfl), rfl⟩, hE3⟩
    | false =>
      replace hb2 := hb2.symm
      refine OL.q (Q1.move rfl) rfl rfl ?_
      refine OL.q (Q1.lenS Try.underlying9 rfl) rfl rfl ?_
      refine OL.qb (Q1.gt rfl rfl) rfl rfl ?_
      intro b3 hb3
      refine OL.q (Q1.pick_f rfl rfl) rfl rfl ?_
      refine OL.q (Q1.move rfl) rfl rfl ?_
      cases b3 with
      | true =>
        replace hb3 := of_decide_eq_true hb3.symm
        refine OL.sk rfl rfl ?_
        refine OL.sk rfl rfl ?_
        refine OL.sk rfl rfl ?_
        refine OL.q (Q1.pick_t rfl rfl) rfl rfl ?_
        refine OL.q (Q1.move rfl) rfl rfl ?_
        refine OL.sk rfl rfl ?_
        refine OL.sk rfl rfl ?_
        refine OL.sk rfl rfl ?_
        refine OL.q (Q1.pick_t rfl rfl) rfl rfl ?_
        refine OL.nil ?_
        refine r_cond_t rfl ?_
        refine r_seq ?_
        refine r_region ?_
        refine OL.act rfl rfl (AW.callF cl10 rfl (awake4_c (w0 := w2)   ) ?_)
        rintro _ w3 ⟨⟨_, rfl, rfl⟩, hm3⟩
        have f5 := f3.ext hm3
        have f6 := f4.ext hm3
        have hE3 := hE2.ext hm3
        have hs3 := hm3.size
        refine OL.q (Q1.assign rfl) rfl rfl ?_
        refine OL.nil ?_
        refine r_ret1 Try.func7 rfl rfl ?_
        exact Ret.mk ⟨⟨_, (by rfl), rfl⟩, hE3⟩
      | false =>
        replace hb3 := of_decide_eq_false hb3.symm
        refine OL.q (Q1.move rfl) rfl rfl ?_
        refine OL.act rfl rfl (AW.callF cl14 rfl (lgood_c (w0 := w2) (words := a)  ((f3).iv (Nat.zero_le _) (by omega)) (by assumption)) ?_)
        rintro _ w3 ⟨rfl, hm3⟩
        have f5 := f3.ext hm3
        have f6 := f4.ext hm3
        have hE3 := hE2.ext hm3
        have hs3 := hm3.size
        refine OL.qb (Q1.ne rfl rfl) rfl rfl ?_
        intro b4 hb4
        refine OL.q (Q1.pick_f rfl rfl) rfl rfl ?_
        refine OL.q (Q1.move rfl) rfl rfl ?_
        cases b4 with
        | true =>
          replace hb4 := bne_iff_ne.1 hb4.symm
          refine OL.sk rfl rfl ?_
          refine OL.sk rfl rfl ?_
          refine OL.sk rfl rfl ?_
          refine OL.q (Q1.pick_t rfl rfl) rfl rfl ?_
          refine OL.nil ?_
          refine r_cond_t rfl ?_
          refine r_seq ?_
          refine r_region ?_
          refine OL.act rfl rfl (AW.callF cl10 rfl (awake4_c (w0 := w3)   ) ?_)
          rintro _ w4 ⟨⟨_, rfl, rfl⟩, hm4⟩
          have f7 := f5.ext hm4
          have f8 := f6.ext hm4
          have hE4 := hE3.ext hm4
          have hs4 := hm4.size
          refine OL.q (Q1.assign rfl) rfl rfl ?_
          refine OL.nil ?_
          refine r_ret1 Try.func7 rfl rfl ?_
          exact Ret.mk ⟨⟨_, (by rfl), rfl⟩, hE4⟩
        | false =>
          replace hb4 := bne_eq_false_iff_eq.1 hb4.symm
          refine OL.q (Q1.move rfl) rfl rfl ?_
          refine OL.act rfl rfl (AW.callF cl14 rfl (lgood_c (w0 := w3) (words := b)  ((f6).iv (Nat.zero_le _) (by omega)) (by assumption)) ?_)
          rintro _ w4 ⟨rfl, hm4⟩
          have f7 := f5.ext hm4
          have f8 := f6.ext hm4
          have hE4 := hE3.ext hm4
          have hs4 := hm4.size
          refine OL.qb (Q1.ne rfl rfl) rfl rfl ?_
          intro b5 hb5
          refine OL.q (Q1.pick_f rfl rfl) rfl rfl ?_
          refine OL.nil ?_
          cases b5 with
          | true =>
            replace hb5 := bne_iff_ne.1 hb5.symm
            refine r_cond_t rfl ?_
            refine r_seq ?_
            refine r_region ?_
            refine OL.act rfl rfl (AW.callF cl10 rfl (awake4_c (w0 := w4)   ) ?_)
            rintro _ w5 ⟨⟨_, rfl, rfl⟩, hm5⟩
            have f9 := f7.ext hm5
            have f10 := f8.ext hm5
            have hE5 := hE4.ext hm5
            have hs5 := hm5.size
            refine OL.q (Q1.assign rfl) rfl rfl ?_
            refine OL.nil ?_
            refine r_ret1 Try.func7 rfl rfl ?_
            exact Ret.mk ⟨⟨_, (by rfl), rfl⟩, hE5⟩
          | false =>
            replace hb5 := bne_eq_false_iff_eq.1 hb5.symm
            refine r_cond_f rfl ?_
            refine r_skip ?_
            refine r_seq ?_
            refine r_region ?_
            refine OL.q (Q1.move rfl) rfl rfl ?_
            have hga : Ml.goodL a = 0 := by assumption
            have hsa := Ml.good_sorted hga
            have hla := Ml.good_len hga
            have hgb : Ml.goodL b = 0 := by assumption
            have hsb := Ml.good_sorted hgb
            have hlb := Ml.good_len hgb
            have hlm := Ml.merge_len a b
            refine OL.q (Q1.move rfl) rfl rfl ?_
            refine OL.act rfl rfl (AW.callF cl23 rfl (lmerge_c (w0 := w4) (a := a) (b := b)  ((f7).iv (Nat.zero_le _) (by omega)) ((f8).iv (Nat.zero_le _) (by omega)) (by first | assumption | omega)) ?_)
            rintro v1 w5 ⟨h1, hm5⟩
            have f9 := f7.ext hm5
            have f10 := f8.ext hm5
            have hE5 := hE4.ext hm5
            have hs5 := hm5.size
            have hle_1 := h1.le
            refine OL.q (Q1.assign rfl) rfl rfl ?_
            refine OL.nil ?_
            refine r_seq ?_
            refine r_region ?_
            refine OL.q (Q1.move rfl) rfl rfl ?_
            refine OL.q (Q1.move rfl) rfl rfl ?_
            refine OL.act rfl rfl (AW.callF cl22 rfl (lat_c (w0 := w5) (words := a) w ((f9).iv (Nat.zero_le _) (by omega)) (by first | assumption | exact Ml.merge_sorted hsa hsb | exact Ml.merge_sorted hsb hsc) (by first | assumption | omega | (simp; done))) ?_)
            rintro _ w6 ⟨_, _, rfl, rfl, ⟨b6, hb6, rfl⟩, hm6⟩
            have f11 := f9.ext hm6
            have f12 := f10.ext hm6
            have f13 := h1.ext hm6
            have hE6 := hE5.ext hm6
            have hs6 := hm6.size
            have := Ml.belowW_le a w
            refine OL.q (Q1.move rfl) rfl rfl ?_
            refine OL.q (Q1.extract rfl rfl) rfl rfl ?_
            refine OL.q (Q1.extract rfl rfl) rfl rfl ?_
            refine OL.q (Q1.assign rfl) rfl rfl ?_
            refine OL.q (Q1.assign rfl) rfl rfl ?_
            refine OL.nil ?_
            refine r_seq ?_
            refine r_region ?_
            refine OL.q (Q1.move rfl) rfl rfl ?_
            refine OL.q (Q1.move rfl) rfl rfl ?_
            refine OL.act rfl rfl (AW.callF cl22 rfl (lat_c (w0 := w6) (words := b) w ((f12).iv (Nat.zero_le _) (by omega)) (by first | assumption | exact Ml.merge_sorted hsa hsb | exact Ml.merge_sorted hsb hsc) (by first | assumption | omega | (simp; done))) ?_)
            rintro _ w7 ⟨_, _, rfl, rfl, ⟨b7, hb7, rfl⟩, hm7⟩
            have f14 := f11.ext hm7
            have f15 := f12.ext hm7
            have f16 := f13.ext hm7
            have hE7 := hE6.ext hm7
            have hs7 := hm7.size
            have := Ml.belowW_le b w
            refine OL.q (Q1.move rfl) rfl rfl ?_
            refine OL.q (Q1.extract rfl rfl) rfl rfl ?_
            refine OL.q (Q1.extract rfl rfl) rfl rfl ?_
            refine OL.q (Q1.assign rfl) rfl rfl ?_
            refine OL.q (Q1.assign rfl) rfl rfl ?_
            refine OL.nil ?_
            refine r_seq ?_
            refine r_region ?_
            refine OL.q (Q1.move rfl) rfl rfl ?_
            refine OL.q (Q1.move rfl) rfl rfl ?_
            refine OL.act rfl rfl (AW.callF cl22 rfl (lat_c (w0 := w7) (words := (Ml.mergeL a b)) w ((f16).iv (Nat.zero_le _) (by omega)) (by first | assumption | exact Ml.merge_sorted hsa hsb | exact Ml.merge_sorted hsb hsc) (by first | assumption | omega | (simp; done))) ?_)
            rintro _ w8 ⟨_, _, rfl, rfl, ⟨b8, hb8, rfl⟩, hm8⟩
            have f17 := f14.ext hm8
            have f18 := f15.ext hm8
            have f19 := f16.ext hm8
            have hE8 := hE7.ext hm8
            have hs8 := hm8.size
            have := Ml.belowW_le ((Ml.mergeL a b)) w
            refine OL.q (Q1.move rfl) rfl rfl ?_
            refine OL.q (Q1.extract rfl rfl) rfl rfl ?_
            refine OL.q (Q1.extract rfl rfl) rfl rfl ?_
            refine OL.q (Q1.assign rfl) rfl rfl ?_
            refine OL.q (Q1.assign rfl) rfl rfl ?_
            refine OL.nil ?_
            refine r_seq ?_
            refine r_region ?_
            refine OL.q (Q1.move rfl) rfl rfl ?_
            refine OL.q (Q1.move rfl) rfl rfl ?_
            refine OL.q (Q1.move rfl) rfl rfl ?_
            refine OL.act rfl rfl (AW.callF cl23 rfl (lmerge_c (w0 := w8) (a := b) (b := a)  ((f18).iv (Nat.zero_le _) (by omega)) ((f17).iv (Nat.zero_le _) (by omega)) (by first | assumption | omega)) ?_)
            rintro v2 w9 ⟨h2, hm9⟩
            have f20 := f17.ext hm9
            have f21 := f18.ext hm9
            have f22 := f19.ext hm9
            have hE9 := hE8.ext hm9
            have hs9 := hm9.size
            have hle_2 := h2.le
            refine OL.act rfl rfl (AW.callF cl16 rfl (sameT_c (w0 := w9) (a := (Ml.mergeL a b)) (b := (Ml.mergeL b a))  ((f22).iv (Nat.zero_le _) (by omega)) ((h2).iv (Nat.zero_le _) (by omega))) ?_)
            rintro _ w10 ⟨⟨b9, hb9, rfl⟩, hm10⟩
            have f23 := f20.ext hm10
            have f24 := f21.ext hm10
            have f25 := f22.ext hm10
            have f26 := h2.ext hm10
            have hE10 := hE9.ext hm10
            have hs10 := hm10.size
            obtain rfl : b9 = true := hb9.trans (by exact decide_eq_true (Ml.merge_comm hsa hsb))
            refine OL.q (Q1.move rfl) rfl rfl ?_
            refine OL.q (Q1.move rfl) rfl rfl ?_
            refine OL.q (Q1.move rfl) rfl rfl ?_
            refine OL.act rfl rfl (AW.callF cl24 rfl (lwithout_c (w0 := w10) (a := a) (b := b)  ((f23).iv (Nat.zero_le _) (by omega)) ((f24).iv (Nat.zero_le _) (by omega)) (by first | assumption | exact Ml.rising_sorted (by decide +kernel)) (by first | assumption | omega | (simp; done)) (by first | assumption | omega | (simp; done))) ?_)
            rintro v3 w11 ⟨h3, hm11⟩
            have f27 := f23.ext hm11
            have f28 := f24.ext hm11
            have f29 := f25.ext hm11
            have f30 := f26.ext hm11
            have hE11 := hE10.ext hm11
            have hs11 := hm11.size
            have hle_3 := h3.le
            have := Ml.without_len a b
            refine OL.q (Q1.move rfl) rfl rfl ?_
            refine OL.act rfl rfl (AW.callF cl23 rfl (lmerge_c (w0 := w11) (a := (Ml.withoutM a b)) (b := b)  ((h3).iv (Nat.zero_le _) (by omega)) ((f28).iv (Nat.zero_le _) (by omega)) (by first | assumption | omega)) ?_)
            rintro v4 w12 ⟨h4, hm12⟩
            have f31 := f27.ext hm12
            have f32 := f28.ext hm12
            have f33 := f29.ext hm12
            have f34 := f30.ext hm12
            have f35 := h3.ext hm12
            have hE12 := hE11.ext hm12
            have hs12 := hm12.size
            have hle_4 := h4.le
            refine OL.q (Q1.move rfl) rfl rfl ?_
            refine OL.act rfl rfl (AW.callF cl16 rfl (sameT_c (w0 := w12) (a := (Ml.mergeL ((Ml.withoutM a b)) b)) (b := (Ml.mergeL a b))  ((h4).iv (Nat.zero_le _) (by omega)) ((f33).iv (Nat.zero_le _) (by omega))) ?_)
            rintro _ w13 ⟨⟨b10, hb10, rfl⟩, hm13⟩
            have f36 := f31.ext hm13
            have f37 := f32.ext hm13
            have f38 := f33.ext hm13
            have f39 := f34.ext hm13
            have f40 := f35.ext hm13
            have f41 := h4.ext hm13
            have hE13 := hE12.ext hm13
            have hs13 := hm13.size
            obtain rfl : b10 = true := hb10.trans (by exact decide_eq_true (Ml.merge_without hsa hsb))
            refine OL.q (Q1.pick_t rfl rfl) rfl rfl ?_
            refine OL.q (Q1.move rfl) rfl rfl ?_
            refine OL.q (Q1.move rfl) rfl rfl ?_
            refine OL.q (Q1.move rfl) rfl rfl ?_
            refine OL.q (Q1.move rfl) rfl rfl ?_
            cases b6 with
            | true =>
              replace hb6 := hb6.symm
              refine OL.sk rfl rfl ?_
              refine OL.q (Q1.pick_t rfl rfl) rfl rfl ?_
              refine OL.qb (Q1.eqB Try.underlying4 rfl rfl) rfl rfl ?_
              intro b11 hb11
              obtain rfl : b11 = true := hb11.trans (by first | exact Ml.eqb1 (by assumption) (by assumption) | exact Ml.eqb2 (by assumption) (by assumption) (by assumption))
              refine OL.q (Q1.pick_t rfl rfl) rfl rfl ?_
              refine OL.q (Q1.move rfl) rfl rfl ?_
              refine OL.q (Q1.move rfl) rfl rfl ?_
              refine OL.q (Q1.move rfl) rfl rfl ?_
              refine OL.act rfl rfl (AW.callF cl24 rfl (lwithout_c (w0 := w13) (a := a) (b := a)  ((f36).iv (Nat.zero_le _) (by omega)) ((f36).iv (Nat.zero_le _) (by omega)) (by first | assumption | exact Ml.rising_sorted (by decide +kernel)) (by first | assumption | omega | (simp; done)) (by first | assumption | omega | (simp; done))) ?_)
              rintro v5 w14 ⟨h5, hm14⟩
              have f42 := f36.ext hm14
              have f43 := f37.ext hm14
              have f44 := f38.ext hm14
              have f45 := f39.ext hm14
              have f46 := f40.ext hm14
              have f47 := f41.ext hm14
              have hE14 := hE13.ext hm14
              have hs14 := hm14.size
              have hle_5 := h5.le
              have := Ml.without_len a a
              refine OL.q (Q1.lenSl Try.underlying22 (h5) rfl) rfl rfl ?_
              refine OL.qb (Q1.eq rfl rfl) rfl rfl ?_
              intro b12 hb12
              obtain rfl : b12 = true := hb12.trans (by exact beq_iff_eq.2 (by have := Ml.without_self a; omega))
              refine OL.q (Q1.pick_t rfl rfl) rfl rfl ?_
              refine OL.q (Q1.move rfl) rfl rfl ?_
              refine OL.act rfl rfl (AW.callF cl10 rfl (awake4_c (w0 := w14)   ) ?_)
              rintro _ w15 ⟨⟨_, rfl, rfl⟩, hm15⟩
              have f48 := f42.ext hm15
              have f49 := f43.ext hm15
              have f50 := f44.ext hm15
              have f51 := f45.ext hm15
              have f52 := f46.ext hm15
              have f53 := f47.ext hm15
              have f54 := h5.ext hm15
              have hE15 := hE14.ext hm15
              have hs15 := hm15.size
              refine OL.q (Q1.pick_t rfl rfl) rfl rfl ?_
              refine OL.q (Q1.assign rfl) rfl rfl ?_
              refine OL.nil ?_
              refine r_ret1 Try.func7 rfl rfl ?_
              exact Ret.mk ⟨⟨_, (by rfl), rfl⟩, hE15⟩
            | false =>
              replace hb6 := hb6.symm
              refine OL.q (Q1.move rfl) rfl rfl ?_
              refine OL.q (Q1.pick_f rfl rfl) rfl rfl ?_
              refine OL.qb (Q1.eqB Try.underlying4 rfl rfl) rfl rfl ?_
              intro b11 hb11
              obtain rfl : b11 = true := hb11.trans (by first | exact Ml.eqb1 (by assumption) (by assumption) | exact Ml.eqb2 (by assumption) (by assumption) (by assumption))
              refine OL.q (Q1.pick_t rfl rfl) rfl rfl ?_
              refine OL.q (Q1.move rfl) rfl rfl ?_
              refine OL.q (Q1.move rfl) rfl rfl ?_
              refine OL.q (Q1.move rfl) rfl rfl ?_
              refine OL.act rfl rfl (AW.callF cl24 rfl (lwithout_c (w0 := w13) (a := a) (b := a)  ((f36).iv (Nat.zero_le _) (by omega)) ((f36).iv (Nat.zero_le _) (by omega)) (by first | assumption | exact Ml.rising_sorted (by decide +kernel)) (by first | assumption | omega | (simp; done)) (by first | assumption | omega | (simp; done))) ?_)
              rintro v5 w14 ⟨h5, hm14⟩
              have f42 := f36.ext hm14
              have f43 := f37.ext hm14
              have f44 := f38.ext hm14
              have f45 := f39.ext hm14
              have f46 := f40.ext hm14
              have f47 := f41.ext hm14
              have hE14 := hE13.ext hm14
              have hs14 := hm14.size
              have hle_5 := h5.le
              have := Ml.without_len a a
              refine OL.q (Q1.lenSl Try.underlying22 (h5) rfl) rfl rfl ?_
              refine OL.qb (Q1.eq rfl rfl) rfl rfl ?_
              intro b12 hb12
              obtain rfl : b12 = true := hb12.trans (by exact beq_iff_eq.2 (by have := Ml.without_self a; omega))
              refine OL.q (Q1.pick_t rfl rfl) rfl rfl ?_
              refine OL.q (Q1.move rfl) rfl rfl ?_
              refine OL.act rfl rfl (AW.callF cl10 rfl (awake4_c (w0 := w14)   ) ?_)
              rintro _ w15 ⟨⟨_, rfl, rfl⟩, hm15⟩
              have f48 := f42.ext hm15
              have f49 := f43.ext hm15
              have f50 := f44.ext hm15
              have f51 := f45.ext hm15
              have f52 := f46.ext hm15
              have f53 := f47.ext hm15
              have f54 := h5.ext hm15
              have hE15 := hE14.ext hm15
              have hs15 := hm15.size
              refine OL.q (Q1.pick_t rfl rfl) rfl rfl ?_
              refine OL.q (Q1.assign rfl) rfl rfl ?_
              refine OL.nil ?_
              refine r_ret1 Try.func7 rfl rfl ?_
              exact Ret.mk ⟨⟨_, (by rfl), rfl⟩, hE15⟩
end Go.Proofs
