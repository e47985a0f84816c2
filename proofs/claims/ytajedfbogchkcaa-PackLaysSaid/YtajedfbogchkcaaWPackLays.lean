/-
  The walk through the law PackLays.
-/
import Derived.Test.YtajedfbogchkcaaWAwakeK
import Derived.Test.YtajedfbogchkcaaWRef9
set_option linter.unusedVariables false
set_option linter.unusedSimpArgs false
namespace Go.Proofs
open Go.Ik Go.Ml
set_option maxRecDepth 20000 in
set_option maxHeartbeats 4000000 in
theorem PackLays_c {w0 : World}  {v_words : Value} {words : List Str} (h_words : Sl encS w0 (Iv 0 w0.heap.size) v_words words) (hok : Ml.LOk words) :
    Calls Try.prog 3 #[v_words] w0 (Ret fun rv w1 => (∃ rb : Bool, rb = true ∧ rv = .bool rb) ∧ Ext w0 w1) := by
  have hE0 : Ext w0 w0 := Mod.refl _ _
  have hle1 := h_words.le
  refine calls_enter Try.func3 rfl Try.ntmps3 rfl ?_
  refine r_seq ?_
  refine r_region ?_
  refine OL.q (Q1.assign rfl) rfl rfl ?_
  refine OL.nil ?_
  refine r_seq ?_
  refine r_seq ?_
  refine r_region ?_
  refine OL.q (Q1.move rfl) rfl rfl ?_
  refine OL.act rfl rfl (AW.callF cl13 rfl (greatT_c (w0 := w0) (l := words)  ((h_words).iv (Nat.zero_le _) (by omega))) ?_)
  rintro _ w1 ⟨⟨b1, hb1, rfl⟩, hm1⟩
  have f1 := h_words.ext hm1
  have hE1 := hE0.ext hm1
  have hs1 := hm1.size
  refine OL.nil ?_
  cases b1 with
  | true =>
    replace hb1 := hb1.symm
    refine r_cond_t rfl ?_
    refine r_seq ?_
    refine r_region ?_
    refine OL.act rfl rfl (AW.callF cl14 rfl (awake9_c (w0 := w1)   ) ?_)
    rintro _ w2 ⟨⟨_, rfl, rfl⟩, hm2⟩
    have f2 := f1.ext hm2
    have hE2 := hE1.ext hm2
    have hs2 := hm2.size
    refine OL.q (Q1.assign rfl) rfl rfl ?_
    refine OL.nil ?_
    refine r_ret1 Try.func3 rfl rfl ?_
    exact Ret.mk ⟨⟨_, (by first | rfl | assumption | (exfalso; omega)), rfl⟩, hE2⟩
  | false =>
    replace hb1 := hb1.symm
    refine r_cond_f rfl ?_
    refine r_skip ?_
    refine r_seq ?_
    refine r_region ?_
    refine OL.q (Q1.move rfl) rfl rfl ?_
    have hl8 := greatT_len (l := words) (by assumption)
    have hso := greatT_short (l := words) (by assumption)
    refine OL.act rfl rfl (AW.callF cl15 rfl (packof_c (w0 := w1) (words := words)  ((f1).iv (Nat.zero_le _) (by omega)) (by first | assumption | (intro s hs; simp at hs)) (by first | assumption | omega | (simp; done))) ?_)
    rintro _ w2 ⟨v1, _, rfl, ⟨gr1, h1, hg1⟩, rfl, hm2⟩
    have f2 := f1.ext hm2
    have hE2 := hE1.ext hm2
    have hs2 := hm2.size
    have hle_1 := h1.le
    have hlt_1 := h1.lt
    have := imgM_len words
    refine OL.q (Q1.move rfl) rfl rfl ?_
    refine OL.q (Q1.extract rfl rfl) rfl rfl ?_
    refine OL.q (Q1.extract rfl rfl) rfl rfl ?_
    refine OL.q (Q1.assign rfl) rfl rfl ?_
    refine OL.q (Q1.assign rfl) rfl rfl ?_
    refine OL.nil ?_
    refine r_seq ?_
    refine r_region ?_
    refine OL.q (Q1.move rfl) rfl rfl ?_
    refine OL.act rfl rfl (AW.callF cl16 rfl (r9of_c (w0 := w2) (words := words)  ((f2).iv (Nat.zero_le _) (by omega)) (by first | assumption) (by first | assumption | omega)) ?_)
    rintro _ w3 ⟨v2, _, rfl, ⟨gr2, h2, hg2⟩, rfl, hm3⟩
    have hl1 := h1.lt
    have f3 := f2.ext hm3
    have f4 := h1.ext hm3
    have hE3 := hE2.ext hm3
    have hs3 := hm3.size
    have hle_2 := h2.le
    have hlt_2 := h2.lt
    have := imgM_len words
    have := goodL_range words
    refine OL.q (Q1.move rfl) rfl rfl ?_
    refine OL.q (Q1.extract rfl rfl) rfl rfl ?_
    refine OL.q (Q1.extract rfl rfl) rfl rfl ?_
    refine OL.q (Q1.assign rfl) rfl rfl ?_
    refine OL.q (Q1.assign rfl) rfl rfl ?_
    refine OL.nil ?_
    refine r_seq ?_
    refine r_seq ?_
    refine r_region ?_
    refine OL.q (Q1.move rfl) rfl rfl ?_
    refine OL.q (Q1.move rfl) rfl rfl ?_
    refine OL.act rfl rfl (AW.callF cl17 rfl (sameB_c (w0 := w3) (a := (imgM words)) (b := (imgM words))  ((f4.sl).iv (Nat.zero_le _) (by omega)) ((h2.sl).iv (Nat.zero_le _) (by omega))) ?_)
    rintro _ w4 ⟨⟨b2, hb2, rfl⟩, hm4⟩
    have hl2 := f4.lt
    have hl3 := h2.lt
    have f5 := f3.ext hm4
    have f6 := f4.ext hm4
    have f7 := h2.ext hm4
    have hE4 := hE3.ext hm4
    have hs4 := hm4.size
    obtain rfl : b2 = true := hb2.trans (by exact decide_eq_true rfl)
    refine OL.q (Q1.not rfl) rfl rfl ?_
    refine OL.q (Q1.move rfl) rfl rfl ?_
    refine OL.q (Q1.move rfl) rfl rfl ?_
    refine OL.act rfl rfl (AW.callF cl18 rfl (num_c (w0 := w4)  ((goodL words)) (by first | omega | assumption)) ?_)
    rintro _ w5 ⟨rfl, hm5⟩
    have hl4 := f6.lt
    have hl5 := f7.lt
    have f8 := f5.ext hm5
    have f9 := f6.ext hm5
    have f10 := f7.ext hm5
    have hE5 := hE4.ext hm5
    have hs5 := hm5.size
    refine OL.q (Q1.move rfl) rfl rfl ?_
    refine OL.qb (Q1.ne rfl rfl) rfl rfl ?_
    intro b3 hb3
    obtain rfl : b3 = false := hb3.trans (by exact bne_eq_false_iff_eq.2 rfl)
    refine OL.q (Q1.pick_f rfl rfl) rfl rfl ?_
    refine OL.nil ?_
    refine r_cond_f rfl ?_
    refine r_skip ?_
    refine r_seq ?_
    refine r_seq ?_
    refine r_region ?_
    refine OL.q (Q1.move rfl) rfl rfl ?_
    refine OL.qb (Q1.ne rfl rfl) rfl rfl ?_
    intro b4 hb4
    refine OL.nil ?_
    cases b4 with
    | true =>
      replace hb4 := bne_iff_ne.1 hb4.symm
      refine r_cond_t rfl ?_
      refine r_seq ?_
      refine r_region ?_
      refine OL.act rfl rfl (AW.callF cl14 rfl (awake9_c (w0 := w5)   ) ?_)
      rintro _ w6 ⟨⟨_, rfl, rfl⟩, hm6⟩
      have hl6 := f9.lt
      have hl7 := f10.lt
      have f11 := f8.ext hm6
      have f12 := f9.ext hm6
      have f13 := f10.ext hm6
      have hE6 := hE5.ext hm6
      have hs6 := hm6.size
      refine OL.q (Q1.assign rfl) rfl rfl ?_
      refine OL.nil ?_
      refine r_ret1 Try.func3 rfl rfl ?_
      exact Ret.mk ⟨⟨_, (by first | rfl | assumption | (exfalso; omega)), rfl⟩, hE6⟩
    | false =>
      replace hb4 := bne_eq_false_iff_eq.1 hb4.symm
      refine r_cond_f rfl ?_
      refine r_skip ?_
      refine r_seq ?_
      refine r_region ?_
      refine OL.q (Q1.move rfl) rfl rfl ?_
      have hg0 : goodL words = 0 := by assumption
      have hgok := gok_of hg0
      obtain ⟨hI, hgl, hel⟩ := hgok.edges
      have hbd := body_len hg0
      refine OL.act rfl rfl (AW.callF cl19 rfl (build_c (w0 := w5) (words := words)  ((f8).iv (Nat.zero_le _) (by omega)) (by assumption) (by first | assumption | omega)) ?_)
      rintro _ w6 ⟨vg1, _, rfl, ⟨lo1, hi1, hgr_1, hlo1, hhi1⟩, rfl, hm6⟩
      have hl6 := f9.lt
      have hl7 := f10.lt
      have f11 := f8.ext hm6
      have f12 := f9.ext hm6
      have f13 := f10.ext hm6
      have hE6 := hE5.ext hm6
      have hs6 := hm6.size
      have := Ml.goodL_range words
      refine OL.q (Q1.move rfl) rfl rfl ?_
      refine OL.q (Q1.extract rfl rfl) rfl rfl ?_
      refine OL.q (Q1.extract rfl rfl) rfl rfl ?_
      refine OL.q (Q1.assign rfl) rfl rfl ?_
      refine OL.q (Q1.assign rfl) rfl rfl ?_
      refine OL.nil ?_
      refine r_seq ?_
      refine r_region ?_
      refine OL.q (Q1.move rfl) rfl rfl ?_
      refine OL.act rfl rfl (AW.callF cl20 rfl (encode_c (w0 := w6)   hgr_1 (by omega) (by first | assumption | omega | (simp; done)) (by first | assumption | (simp; done)) (by first | assumption | (simp; done)) (by first | assumption | omega | (simp [bodyB, putN_len]; done))) ?_)
      rintro _ w7 ⟨v3, _, rfl, ⟨gr3, h3, hg3⟩, rfl, hm7⟩
      have hl8 := f12.lt
      have hl9 := f13.lt
      have f14 := f11.ext hm7
      have f15 := f12.ext hm7
      have f16 := f13.ext hm7
      have f17 := hgr_1.ext hm7
      have hE7 := hE6.ext hm7
      have hs7 := hm7.size
      have hle_3 := h3.le
      have hlt_3 := h3.lt
      have := encA_lenE ((Ml.gnodes words)) (by first | assumption | omega | (simp [bodyB, putN_len]; done))
      refine OL.q (Q1.move rfl) rfl rfl ?_
      refine OL.q (Q1.extract rfl rfl) rfl rfl ?_
      refine OL.q (Q1.extract rfl rfl) rfl rfl ?_
      refine OL.q (Q1.assign rfl) rfl rfl ?_
      refine OL.q (Q1.assign rfl) rfl rfl ?_
      refine OL.nil ?_
      refine r_seq ?_
      refine r_region ?_
      refine OL.q (Q1.move rfl) rfl rfl ?_
      refine OL.act rfl rfl (AW.callF cl21 rfl (overBytes_c (w0 := w7) (l := (imgM words))  f15 (by first | assumption | omega)) ?_)
      rintro _ w8 ⟨rfl, hm8⟩
      have hl10 := f15.lt
      have hl11 := f16.lt
      have hl12 := h3.lt
      have f18 := f14.keepG hm8 (by omega)
      have f19 := f16.keepG hm8 (by omega)
      have f20 := f17.keepG hm8 (by omega)
      have f21 := h3.keepG hm8 (by omega)
      have hE8 := Ext.thenG hE7 hm8 (by omega)
      have hs8 := hm8.size
      refine OL.nil ?_
      refine r_seq ?_
      refine r_region ?_
      refine OL.act rfl rfl (AW.callF cl20 rfl (encode_c (w0 := w8)   (.inl ⟨rfl, rfl⟩ : Gr 0 w8 0 0 (.pointer none) []) (Nat.zero_le _) (by first | assumption | omega | (simp; done)) (by first | assumption | (simp; done)) (by first | assumption | (simp; done)) (by first | assumption | omega | (simp [bodyB, putN_len]; done))) ?_)
      rintro _ w9 ⟨v4, _, rfl, ⟨gr4, h4, hg4⟩, rfl, hm9⟩
      have hl13 := f19.lt
      have hl14 := f21.lt
      have f22 := f18.ext hm9
      have f23 := f19.ext hm9
      have f24 := f20.ext hm9
      have f25 := f21.ext hm9
      have hE9 := hE8.ext hm9
      have hs9 := hm9.size
      have hle_4 := h4.le
      have hlt_4 := h4.lt
      have := encA_lenE [] (by first | assumption | omega | (simp [bodyB, putN_len]; done))
      refine OL.q (Q1.move rfl) rfl rfl ?_
      refine OL.q (Q1.extract rfl rfl) rfl rfl ?_
      refine OL.q (Q1.extract rfl rfl) rfl rfl ?_
      refine OL.q (Q1.assign rfl) rfl rfl ?_
      refine OL.q (Q1.assign rfl) rfl rfl ?_
      refine OL.nil ?_
      refine r_seq ?_
      refine r_region ?_
      refine OL.q (Q1.move rfl) rfl rfl ?_
      refine OL.qb (Q1.eq rfl rfl) rfl rfl ?_
      intro b5 hb5
      obtain rfl : b5 = true := hb5.trans (by exact beq_iff_eq.2 hg0)
      refine OL.q (Q1.move rfl) rfl rfl ?_
      refine OL.q (Q1.move rfl) rfl rfl ?_
      refine OL.qb (Q1.eq rfl rfl) rfl rfl ?_
      intro b6 hb6
      obtain rfl : b6 = true := hb6.trans (by exact beq_iff_eq.2 ((errA_img hg0).trans hg0))
      refine OL.q (Q1.pick_t rfl rfl) rfl rfl ?_
      refine OL.q (Q1.move rfl) rfl rfl ?_
      refine OL.q (Q1.move rfl) rfl rfl ?_
      refine OL.q (Q1.move rfl) rfl rfl ?_
      refine OL.act rfl rfl (AW.callF cl17 rfl (sameB_c (w0 := w9) (a := (encA ((Ml.gnodes words)))) (b := (imgM words))  ((f25.sl).iv (Nat.zero_le _) (by omega)) ((f23.sl).iv (Nat.zero_le _) (by omega))) ?_)
      rintro _ w10 ⟨⟨b7, hb7, rfl⟩, hm10⟩
      have hl15 := f23.lt
      have hl16 := f25.lt
      have hl17 := h4.lt
      have f26 := f22.ext hm10
      have f27 := f23.ext hm10
      have f28 := f24.ext hm10
      have f29 := f25.ext hm10
      have f30 := h4.ext hm10
      have hE10 := hE9.ext hm10
      have hs10 := hm10.size
      obtain rfl : b7 = true := hb7.trans (by exact decide_eq_true (encA_img hg0))
      refine OL.q (Q1.pick_t rfl rfl) rfl rfl ?_
      refine OL.q (Q1.move rfl) rfl rfl ?_
      refine OL.q (Q1.move rfl) rfl rfl ?_
      refine OL.qb (Q1.eq rfl rfl) rfl rfl ?_
      intro b8 hb8
      obtain rfl : b8 = true := hb8.trans (by rfl)
      refine OL.q (Q1.pick_t rfl rfl) rfl rfl ?_
      refine OL.q (Q1.move rfl) rfl rfl ?_
      refine OL.act rfl rfl (AW.callF cl14 rfl (awake9_c (w0 := w10)   ) ?_)
      rintro _ w11 ⟨⟨_, rfl, rfl⟩, hm11⟩
      have hl18 := f27.lt
      have hl19 := f29.lt
      have hl20 := f30.lt
      have f31 := f26.ext hm11
      have f32 := f27.ext hm11
      have f33 := f28.ext hm11
      have f34 := f29.ext hm11
      have f35 := f30.ext hm11
      have hE11 := hE10.ext hm11
      have hs11 := hm11.size
      refine OL.q (Q1.pick_t rfl rfl) rfl rfl ?_
      refine OL.q (Q1.assign rfl) rfl rfl ?_
      refine OL.nil ?_
      refine r_ret1 Try.func3 rfl rfl ?_
      exact Ret.mk ⟨⟨_, (by first | rfl | assumption | (exfalso; omega)), rfl⟩, hE11⟩
end Go.Proofs
