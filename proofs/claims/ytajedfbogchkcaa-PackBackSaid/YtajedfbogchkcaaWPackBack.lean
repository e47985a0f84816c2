/-
  The walk through the law PackBack.
-/
import Derived.Test.YtajedfbogchkcaaWAwakeK
import Derived.Test.YtajedfbogchkcaaWEach
set_option linter.unusedVariables false
set_option linter.unusedSimpArgs false
namespace Go.Proofs
open Go.Ik Go.Ml
set_option maxRecDepth 20000 in
set_option maxHeartbeats 4000000 in
theorem PackBack_c {w0 : World}  {v_words : Value} {words : List Str} (h_words : Sl encS w0 (Iv 0 w0.heap.size) v_words words) (hok : Ml.LOk words) :
    Calls Try.prog 6 #[v_words] w0 (Ret fun rv w1 => (∃ rb : Bool, rb = true ∧ rv = .bool rb) ∧ Ext w0 w1) := by
  have hE0 : Ext w0 w0 := Mod.refl _ _
  have hle1 := h_words.le
  refine calls_enter Try.func6 rfl Try.ntmps6 rfl ?_
  refine r_seq ?_
  refine r_region ?_
  refine OL.q (Q1.assign rfl) rfl rfl ?_
  refine OL.nil ?_
  refine r_seq ?_
  refine r_seq ?_
  refine r_region ?_
  refine OL.q (Q1.move rfl) rfl rfl ?_
  refine OL.act rfl rfl (AW.callF cl13 rfl (greatT_c (w0 := w0) (l := words)  ((h_words).iv (Nat.zero_le _) (by omega))) ?_)
  rintro _ w1 ⟨⟨b1, hb1, rfl⟩, hm1⟩
  have f1 := h_words.ext hm1
  have hE1 := hE0.ext hm1
  have hs1 := hm1.size
  refine OL.nil ?_
  cases b1 with
  | true =>
    replace hb1 := hb1.symm
    refine r_cond_t rfl ?_
    refine r_seq ?_
    refine r_region ?_
    refine OL.act rfl rfl (AW.callF cl14 rfl (awake9_c (w0 := w1)   ) ?_)
    rintro _ w2 ⟨⟨_, rfl, rfl⟩, hm2⟩
    have f2 := f1.ext hm2
    have hE2 := hE1.ext hm2
    have hs2 := hm2.size
    refine OL.q (Q1.assign rfl) rfl rfl ?_
    refine OL.nil ?_
    refine r_ret1 Try.func6 rfl rfl ?_
    exact Ret.mk ⟨⟨_, (by rfl), rfl⟩, hE2⟩
  | false =>
    replace hb1 := hb1.symm
    refine r_cond_f rfl ?_
    refine r_skip ?_
    refine r_seq ?_
    refine r_region ?_
    refine OL.q (Q1.move rfl) rfl rfl ?_
    have hl8 := greatT_len (l := words) (by assumption)
    have hso := greatT_short (l := words) (by assumption)
    refine OL.act rfl rfl (AW.callF cl15 rfl (packof_c (w0 := w1) (words := words)  ((f1).iv (Nat.zero_le _) (by omega)) (by first | assumption | (intro s hs; simp at hs)) (by first | assumption | omega | (simp; done))) ?_)
    rintro _ w2 ⟨v1, _, rfl, ⟨gr1, h1, hg1⟩, rfl, hm2⟩
    have f2 := f1.ext hm2
    have hE2 := hE1.ext hm2
    have hs2 := hm2.size
    have hle_1 := h1.le
    have hlt_1 := h1.lt
    have := imgM_len words
    refine OL.q (Q1.move rfl) rfl rfl ?_
    refine OL.q (Q1.extract rfl rfl) rfl rfl ?_
    refine OL.q (Q1.extract rfl rfl) rfl rfl ?_
    refine OL.q (Q1.assign rfl) rfl rfl ?_
    refine OL.q (Q1.assign rfl) rfl rfl ?_
    refine OL.nil ?_
    refine r_seq ?_
    refine r_seq ?_
    refine r_region ?_
    refine OL.q (Q1.move rfl) rfl rfl ?_
    refine OL.qb (Q1.ne rfl rfl) rfl rfl ?_
    intro b2 hb2
    refine OL.nil ?_
    cases b2 with
    | true =>
      replace hb2 := bne_iff_ne.1 hb2.symm
      refine r_cond_t rfl ?_
      refine r_seq ?_
      refine r_region ?_
      refine OL.q (Q1.move rfl) rfl rfl ?_
      refine OL.q (Q1.lenSl Try.underlying25 (h1.sl) rfl) rfl rfl ?_
      refine OL.qb (Q1.eq rfl rfl) rfl rfl ?_
      intro b3 hb3
      obtain rfl : b3 = true := hb3.trans (by exact beq_iff_eq.2 (by rw [← imgM_no (by assumption)]; rfl))
      refine OL.q (Q1.move rfl) rfl rfl ?_
      refine OL.act rfl rfl (AW.callF cl14 rfl (awake9_c (w0 := w2)   ) ?_)
      rintro _ w3 ⟨⟨_, rfl, rfl⟩, hm3⟩
      have hl1 := h1.lt
      have f3 := f2.ext hm3
      have f4 := h1.ext hm3
      have hE3 := hE2.ext hm3
      have hs3 := hm3.size
      refine OL.q (Q1.pick_t rfl rfl) rfl rfl ?_
      refine OL.q (Q1.assign rfl) rfl rfl ?_
      refine OL.nil ?_
      refine r_ret1 Try.func6 rfl rfl ?_
      exact Ret.mk ⟨⟨_, (by rfl), rfl⟩, hE3⟩
    | false =>
      replace hb2 := bne_eq_false_iff_eq.1 hb2.symm
      refine r_cond_f rfl ?_
      refine r_skip ?_
      refine r_seq ?_
      refine r_region ?_
      refine OL.q (Q1.move rfl) rfl rfl ?_
      have hg0 : goodL words = 0 := by assumption
      have hgok := gok_of hg0
      obtain ⟨hI, hgl, hel⟩ := hgok.edges
      have hbd := body_len hg0
      refine OL.act rfl rfl (AW.callF cl22 rfl (decode_c (w0 := w2) (b := (imgM words))  ((h1.sl).iv (Nat.zero_le _) (by omega)) (by first | assumption | omega)) ?_)
      rintro _ w3 ⟨vg1, _, rfl, ⟨lo1, hi1, hgr_1, hlo1, hhi1⟩, rfl, hm3⟩
      have hl1 := h1.lt
      have f3 := f2.ext hm3
      have f4 := h1.ext hm3
      have hE3 := hE2.ext hm3
      have hs3 := hm3.size
      refine OL.q (Q1.move rfl) rfl rfl ?_
      refine OL.q (Q1.extract rfl rfl) rfl rfl ?_
      refine OL.q (Q1.extract rfl rfl) rfl rfl ?_
      refine OL.q (Q1.assign rfl) rfl rfl ?_
      refine OL.q (Q1.assign rfl) rfl rfl ?_
      rw [dec_img hg0] at hgr_1
      try dsimp only at hgr_1
      refine OL.nil ?_
      refine r_seq ?_
      refine r_seq ?_
      refine r_region ?_
      refine OL.q (Q1.move rfl) rfl rfl ?_
      refine OL.qb (Q1.ne rfl rfl) rfl rfl ?_
      intro b3 hb3
      obtain rfl : b3 = false := hb3.trans (by exact bne_eq_false_iff_eq.2 (by rw [dec_img hg0]))
      refine OL.q (Q1.move rfl) rfl rfl ?_
      refine OL.q (Q1.move rfl) rfl rfl ?_
      have hgr1 := hgr_1
      rcases hgr_1 with ⟨hv1, hN1⟩ | ⟨b4, vn1, nds1, hv1, hN1, hrw1, hsl1, hrel1⟩
      · exact absurd hN1 (by exact gnodes_nn hg0)
      · subst hv1
        have hnl1 := (All2.get hrel1).1
        refine OL.q (Q1.eqNil Try.underlying33 rfl rfl) rfl rfl ?_
        refine OL.q (Q1.pick_f rfl rfl) rfl rfl ?_
        refine OL.nil ?_
        refine r_cond_f rfl ?_
        refine r_skip ?_
        refine r_seq ?_
        refine r_region ?_
        refine OL.q (Q1.move rfl) rfl rfl ?_
        refine OL.act rfl rfl (AW.callF cl20 rfl (encode_c (w0 := w3)   hgr1 (by omega) (by first | assumption | omega | (simp; done)) (by first | assumption | (simp; done)) (by first | assumption | (simp; done)) (by first | assumption | omega | (simp [bodyB, putN_len]; done))) ?_)
        rintro _ w4 ⟨v2, _, rfl, ⟨gr2, h2, hg2⟩, rfl, hm4⟩
        have hl2 := f4.lt
        have f5 := f3.ext hm4
        have f6 := f4.ext hm4
        have f7 := hgr1.ext hm4
        have f8 := hrel1.ext hm4
        have f9 := hsl1.ext hm4
        have f10 := hrw1.ext hm4
        have hE4 := hE3.ext hm4
        have hs4 := hm4.size
        have hle_2 := h2.le
        have hlt_2 := h2.lt
        have := encA_lenE ((gnodes words)) (by first | assumption | omega | (simp [bodyB, putN_len]; done))
        refine OL.q (Q1.move rfl) rfl rfl ?_
        refine OL.q (Q1.extract rfl rfl) rfl rfl ?_
        refine OL.q (Q1.extract rfl rfl) rfl rfl ?_
        refine OL.q (Q1.assign rfl) rfl rfl ?_
        refine OL.q (Q1.assign rfl) rfl rfl ?_
        refine OL.nil ?_
        refine r_seq ?_
        refine r_region ?_
        refine OL.q (Q1.move rfl) rfl rfl ?_
        refine OL.act rfl rfl (AW.callF cl28 rfl (words_c (w0 := w4)  f7 (by omega) (by assumption) (by first | omega | (simp; done))) ?_)
        rintro v3 w5 ⟨⟨gr3, h3, hg3⟩, hm5⟩
        have hl3 := f6.lt
        have hl4 := h2.lt
        have f11 := f5.ext hm5
        have f12 := f6.ext hm5
        have f13 := f7.ext hm5
        have f14 := f8.ext hm5
        have f15 := f9.ext hm5
        have f16 := f10.ext hm5
        have f17 := h2.ext hm5
        have hE5 := hE4.ext hm5
        have hs5 := hm5.size
        have hle_3 := h3.le
        have hlt_3 := h3.lt
        refine OL.q (Q1.move rfl) rfl rfl ?_
        refine OL.act rfl rfl (AW.callF cl27 rfl (sameT_c (w0 := w5) (a := words) (b := words)  ((h3.sl).iv (Nat.zero_le _) (by omega)) ((f11).iv (Nat.zero_le _) (by omega))) ?_)
        rintro _ w6 ⟨⟨b5, hb4, rfl⟩, hm6⟩
        have hl5 := f12.lt
        have hl6 := f17.lt
        have hl7 := h3.lt
        have f18 := f11.ext hm6
        have f19 := f12.ext hm6
        have f20 := f13.ext hm6
        have f21 := f14.ext hm6
        have f22 := f15.ext hm6
        have f23 := f16.ext hm6
        have f24 := f17.ext hm6
        have f25 := h3.ext hm6
        have hE6 := hE5.ext hm6
        have hs6 := hm6.size
        obtain rfl : b5 = true := hb4.trans (by exact decide_eq_true rfl)
        refine OL.q (Q1.move rfl) rfl rfl ?_
        refine OL.q (Q1.move rfl) rfl rfl ?_
        refine OL.qb (Q1.eq rfl rfl) rfl rfl ?_
        intro b6 hb5
        obtain rfl : b6 = true := hb5.trans (by exact beq_iff_eq.2 ((errA_img hg0).trans hg0))
        refine OL.q (Q1.pick_t rfl rfl) rfl rfl ?_
        refine OL.q (Q1.move rfl) rfl rfl ?_
        refine OL.q (Q1.move rfl) rfl rfl ?_
        refine OL.q (Q1.move rfl) rfl rfl ?_
        refine OL.act rfl rfl (AW.callF cl17 rfl (sameB_c (w0 := w6) (a := (encA ((gnodes words)))) (b := (imgM words))  ((f24.sl).iv (Nat.zero_le _) (by omega)) ((f19.sl).iv (Nat.zero_le _) (by omega))) ?_)
        rintro _ w7 ⟨⟨b7, hb6, rfl⟩, hm7⟩
        have hl8 := f19.lt
        have hl9 := f24.lt
        have hl10 := f25.lt
        have f26 := f18.ext hm7
        have f27 := f19.ext hm7
        have f28 := f20.ext hm7
        have f29 := f21.ext hm7
        have f30 := f22.ext hm7
        have f31 := f23.ext hm7
        have f32 := f24.ext hm7
        have f33 := f25.ext hm7
        have hE7 := hE6.ext hm7
        have hs7 := hm7.size
        obtain rfl : b7 = true := hb6.trans (by exact decide_eq_true (encA_img hg0))
        refine OL.q (Q1.pick_t rfl rfl) rfl rfl ?_
        refine OL.q (Q1.move rfl) rfl rfl ?_
        refine OL.act rfl rfl (AW.callF cl14 rfl (awake9_c (w0 := w7)   ) ?_)
        rintro _ w8 ⟨⟨_, rfl, rfl⟩, hm8⟩
        have hl11 := f27.lt
        have hl12 := f32.lt
        have hl13 := f33.lt
        have f34 := f26.ext hm8
        have f35 := f27.ext hm8
        have f36 := f28.ext hm8
        have f37 := f29.ext hm8
        have f38 := f30.ext hm8
        have f39 := f31.ext hm8
        have f40 := f32.ext hm8
        have f41 := f33.ext hm8
        have hE8 := hE7.ext hm8
        have hs8 := hm8.size
        refine OL.q (Q1.pick_t rfl rfl) rfl rfl ?_
        refine OL.q (Q1.assign rfl) rfl rfl ?_
        refine OL.nil ?_
        refine r_ret1 Try.func6 rfl rfl ?_
        exact Ret.mk ⟨⟨_, (by rfl), rfl⟩, hE8⟩
end Go.Proofs
