/-
  The walk through the law PackTurned.
-/
import Derived.Test.YtajedfbogchkcaaWAwakeK
import Derived.Test.YtajedfbogchkcaaWTurned
set_option linter.unusedVariables false
set_option linter.unusedSimpArgs false
namespace Go.Proofs
open Go.Ik Go.Ml
set_option maxRecDepth 20000 in
set_option maxHeartbeats 4000000 in
theorem PackTurned_c {w0 : World}  {v_words : Value} {words : List Str} (at_ : Int) (x : Int) (h_words : Sl encS w0 (Iv 0 w0.heap.size) v_words words) (h_at_ : I64 at_) (h_x : I64 x) (hok : Ml.LOk words) :
    Calls Try.prog 4 #[v_words, .int .i64 at_, .int .i64 x] w0 (Ret fun rv w1 => (∃ rb : Bool, rb = true ∧ rv = .bool rb) ∧ Ext w0 w1) := by
  have hE0 : Ext w0 w0 := Mod.refl _ _
  have hle1 := h_words.le
  refine calls_enter Try.func4 rfl Try.ntmps4 rfl ?_
  refine r_seq ?_
  refine r_region ?_
  refine OL.q (Q1.assign rfl) rfl rfl ?_
  refine OL.nil ?_
  refine r_seq ?_
  refine r_seq ?_
  refine r_region ?_
  refine OL.q (Q1.move rfl) rfl rfl ?_
  refine OL.act rfl rfl (AW.callF cl13 rfl (greatT_c (w0 := w0) (l := words)  ((h_words).iv (Nat.zero_le _) (by omega))) ?_)
  rintro _ w1 ⟨⟨b1, hb1, rfl⟩, hm1⟩
  have f1 := h_words.ext hm1
  have hE1 := hE0.ext hm1
  have hs1 := hm1.size
  refine OL.nil ?_
  cases b1 with
  | true =>
    replace hb1 := hb1.symm
    refine r_cond_t rfl ?_
    refine r_seq ?_
    refine r_region ?_
    refine OL.act rfl rfl (AW.callF cl14 rfl (awake9_c (w0 := w1)   ) ?_)
    rintro _ w2 ⟨⟨_, rfl, rfl⟩, hm2⟩
    have f2 := f1.ext hm2
    have hE2 := hE1.ext hm2
    have hs2 := hm2.size
    refine OL.q (Q1.assign rfl) rfl rfl ?_
    refine OL.nil ?_
    refine r_ret1 Try.func4 rfl rfl ?_
    exact Ret.mk ⟨⟨_, (by rfl), rfl⟩, hE2⟩
  | false =>
    replace hb1 := hb1.symm
    refine r_cond_f rfl ?_
    refine r_skip ?_
    refine r_seq ?_
    refine r_region ?_
    refine OL.q (Q1.move rfl) rfl rfl ?_
    have hl8 := greatT_len (l := words) (by assumption)
    have hso := greatT_short (l := words) (by assumption)
    refine OL.act rfl rfl (AW.callF cl15 rfl (packof_c (w0 := w1) (words := words)  ((f1).iv (Nat.zero_le _) (by omega)) (by first | assumption | (intro s hs; simp at hs)) (by first | assumption | omega | (simp; done))) ?_)
    rintro _ w2 ⟨v1, _, rfl, ⟨gr1, h1, hg1⟩, rfl, hm2⟩
    have f2 := f1.ext hm2
    have hE2 := hE1.ext hm2
    have hs2 := hm2.size
    have hle_1 := h1.le
    have hlt_1 := h1.lt
    have := imgM_len words
    refine OL.q (Q1.move rfl) rfl rfl ?_
    refine OL.q (Q1.extract rfl rfl) rfl rfl ?_
    refine OL.q (Q1.extract rfl rfl) rfl rfl ?_
    refine OL.q (Q1.assign rfl) rfl rfl ?_
    refine OL.q (Q1.assign rfl) rfl rfl ?_
    refine OL.nil ?_
    refine r_seq ?_
    refine r_seq ?_
    refine r_region ?_
    refine OL.q (Q1.move rfl) rfl rfl ?_
    refine OL.qb (Q1.ne rfl rfl) rfl rfl ?_
    intro b2 hb2
    refine OL.nil ?_
    cases b2 with
    | true =>
      replace hb2 := bne_iff_ne.1 hb2.symm
      refine r_cond_t rfl ?_
      refine r_seq ?_
      refine r_region ?_
      refine OL.act rfl rfl (AW.callF cl14 rfl (awake9_c (w0 := w2)   ) ?_)
      rintro _ w3 ⟨⟨_, rfl, rfl⟩, hm3⟩
      have hl1 := h1.lt
      have f3 := f2.ext hm3
      have f4 := h1.ext hm3
      have hE3 := hE2.ext hm3
      have hs3 := hm3.size
      refine OL.q (Q1.assign rfl) rfl rfl ?_
      refine OL.nil ?_
      refine r_ret1 Try.func4 rfl rfl ?_
      exact Ret.mk ⟨⟨_, (by rfl), rfl⟩, hE3⟩
    | false =>
      replace hb2 := bne_eq_false_iff_eq.1 hb2.symm
      refine r_cond_f rfl ?_
      refine r_skip ?_
      refine r_seq ?_
      refine r_seq ?_
      refine r_region ?_
      refine OL.q (Q1.move rfl) rfl rfl ?_
      have hg0 : goodL words = 0 := by assumption
      have hgok := gok_of hg0
      obtain ⟨hI, hgl, hel⟩ := hgok.edges
      have hbd := body_len hg0
      have hil := img_len hg0
      obtain ⟨hct1, hct2⟩ := cut_img hg0
      obtain ⟨hmo1, hmo2⟩ := more_img hg0 (byN x)
      refine OL.q (Q1.lenSl Try.underlying25 (h1.sl) rfl) rfl rfl ?_
      refine OL.qb (Q1.eq rfl rfl) rfl rfl ?_
      intro b3 hb3
      obtain rfl : b3 = false := hb3.trans (by exact beq_eq_false_iff_ne.2 (by omega))
      refine OL.nil ?_
      refine r_cond_f rfl ?_
      refine r_skip ?_
      refine r_seq ?_
      refine r_region ?_
      refine OL.q (Q1.move rfl) rfl rfl ?_
      refine OL.q (Q1.move rfl) rfl rfl ?_
      refine OL.q (Q1.move rfl) rfl rfl ?_
      refine OL.act rfl rfl (AW.callF cl23 rfl (turned_c (w0 := w2) (b := (imgM words)) (at_) (x) ((h1.sl).iv (Nat.zero_le _) (by omega)) (by first | omega | assumption) (by first | omega | assumption) (by first | assumption | omega) (by first | assumption | omega)) ?_)
      rintro v2 w3 ⟨⟨gr2, h2, hg2⟩, hm3⟩
      have hl1 := h1.lt
      have f3 := f2.ext hm3
      have f4 := h1.ext hm3
      have hE3 := hE2.ext hm3
      have hs3 := hm3.size
      have hle_2 := h2.le
      have hlt_2 := h2.lt
      have := turnB_len ((imgM words)) at_ x
      refine OL.act rfl rfl (AW.callF cl22 rfl (decode_c (w0 := w3) (b := (turnB ((imgM words)) at_ x))  ((h2.sl).iv (Nat.zero_le _) (by omega)) (by first | assumption | omega | (simp only [List.length_take, List.length_append, List.length_cons, List.length_nil]; omega))) ?_)
      rintro _ w4 ⟨vg1, _, rfl, ⟨lo1, hi1, hgr_1, hlo1, hhi1⟩, rfl, hm4⟩
      have hl2 := f4.lt
      have hl3 := h2.lt
      have f5 := f3.ext hm4
      have f6 := f4.ext hm4
      have f7 := h2.ext hm4
      have hE4 := hE3.ext hm4
      have hs4 := hm4.size
      refine OL.q (Q1.move rfl) rfl rfl ?_
      refine OL.q (Q1.extract rfl rfl) rfl rfl ?_
      refine OL.q (Q1.extract rfl rfl) rfl rfl ?_
      refine OL.q (Q1.assign rfl) rfl rfl ?_
      refine OL.q (Q1.assign rfl) rfl rfl ?_
      rw [dec_turnB hg0] at hgr_1
      try dsimp only at hgr_1
      refine OL.nil ?_
      refine r_seq ?_
      refine r_region ?_
      refine OL.q (Q1.move rfl) rfl rfl ?_
      refine OL.q (Q1.move rfl) rfl rfl ?_
      refine OL.q (Q1.lenSl Try.underlying25 (f6.sl) rfl) rfl rfl ?_
      refine OL.q (Q1.subI ((((((imgM words)).length : Nat) : Int) - 1)) rfl rfl (by omega)) rfl rfl ?_
      obtain ⟨v3, hr1, hl4⟩ := Sl.part (P := Try.prog) f6.sl Try.underlying25 ti5 encB_len (0) ((((imgM words)).length - 1)) (.inl ⟨rfl, rfl⟩) (.inr ⟨.i64, (((((imgM words)).length : Nat) : Int) - 1), rfl, by omega⟩) (by omega) (by first | assumption | omega)
      refine OL.q (Q1.sliceV rfl rfl rfl rfl hr1) rfl rfl ?_
      replace hl4 : Sl encB w4 (Iv ((gr1 - 1)) gr1) v3 (((imgM words)).take ((((imgM words)).length - 1))) := by simpa using hl4
      refine OL.act rfl rfl (AW.callF cl22 rfl (decode_c (w0 := w4) (b := (((imgM words)).take ((((imgM words)).length - 1))))  ((hl4).iv (Nat.zero_le _) (by omega)) (by first | assumption | omega | (simp only [List.length_take, List.length_append, List.length_cons, List.length_nil]; omega))) ?_)
      rintro _ w5 ⟨vg2, _, rfl, ⟨lo2, hi2, hgr_2, hlo2, hhi2⟩, rfl, hm5⟩
      have hl5 := f6.lt
      have hl6 := f7.lt
      have f8 := f5.ext hm5
      have f9 := f6.ext hm5
      have f10 := f7.ext hm5
      have f11 := hgr_1.ext hm5
      have f12 := hl4.ext hm5
      have hE5 := hE4.ext hm5
      have hs5 := hm5.size
      refine OL.q (Q1.move rfl) rfl rfl ?_
      refine OL.q (Q1.extract rfl rfl) rfl rfl ?_
      refine OL.q (Q1.extract rfl rfl) rfl rfl ?_
      refine OL.q (Q1.assign rfl) rfl rfl ?_
      refine OL.q (Q1.assign rfl) rfl rfl ?_
      rw [hct2] at hgr_2
      try dsimp only at hgr_2
      refine OL.nil ?_
      refine r_seq ?_
      refine r_region ?_
      refine OL.q (Q1.move rfl) rfl rfl ?_
      refine OL.act rfl rfl (AW.append (Acc.nil (enc := encB) (e := 5) (sz := 1) (w := w5)) Try.underlying25 ti5 rfl encB_len encB_one rfl rfl (f9.sl) (by first | omega | (simp only [List.length_append, List.length_cons, List.length_nil]; omega) | (simp; omega)) (by unfold maxLen; first | omega | (simp only [List.length_append, List.length_cons, List.length_nil]; omega) | (simp; omega)) ?_)
      intro v4 g1 w6 ha1 hm6 hg3 hz1
      replace hm6 := hm6.toExt
      have hl7 := f9.lt
      have hl8 := f10.lt
      have f13 := f8.ext hm6
      have f14 := f9.ext hm6
      have f15 := f10.ext hm6
      have f16 := f11.ext hm6
      have f17 := f12.ext hm6
      have f18 := hgr_2.ext hm6
      have hE6 := hE5.ext hm6
      have hs6 := hm6.size
      refine OL.q (Q1.move rfl) rfl rfl ?_
      refine OL.q (Q1.convB (by kernel_rfl) Try.underlying5 rfl) rfl rfl ?_
      refine OL.act rfl rfl (AW.buildSlice [(.int .u8 (((byN x).toNat : Int)) : Value)] Try.underlying25 ti5 rfl rfl rfl (by decide) ?_)
      intro w7 b4 hm7 hb4 hz2 hk1
      have hl9 := f14.lt
      have hl10 := f15.lt
      have hl11 := ha1.lt
      have f19 := f13.ext hm7
      have f20 := f14.ext hm7
      have f21 := f15.ext hm7
      have f22 := f16.ext hm7
      have f23 := f17.ext hm7
      have f24 := f18.ext hm7
      have f25 := ha1.ext hm7
      have hE7 := hE6.ext hm7
      have hs7 := hm7.size
      have hl12 := Sl.of_blk (enc := encB) hk1 ([(byN x)] : List UInt8) 1 rfl rfl (by unfold maxLen; omega)
      have hl13 := f25.lt
      refine OL.act rfl rfl (AW.append f25 Try.underlying25 ti5 rfl encB_len encB_one rfl rfl (hl12) (by first | omega | (simp only [List.length_append, List.length_cons, List.length_nil]; omega) | (simp; omega)) (by unfold maxLen; first | omega | (simp only [List.length_append, List.length_cons, List.length_nil]; omega) | (simp; omega)) ?_)
      intro v5 g2 w8 ha2 hm8 hg4 hz3
      have hl14 := f20.lt
      have hl15 := f21.lt
      have hl16 := f25.lt
      have f26 := f19.keepG hm8 (by omega)
      have f27 := f20.keepG hm8 (by omega)
      have f28 := f21.keepG hm8 (by omega)
      have f29 := f22.keepG hm8 (by omega)
      have f30 := f23.keepG hm8 (by omega)
      have f31 := f24.keepG hm8 (by omega)
      have f32 := hl12.keepG hm8 (by omega)
      have hE8 := Ext.thenG hE7 hm8 (by omega)
      have hs8 := hm8.size
      have hl17 := f27.lt
      have hl18 := f28.lt
      have hl19 := ha2.lt
      refine OL.act rfl rfl (AW.callF cl22 rfl (decode_c (w0 := w8) (b := (([] ++ (imgM words)) ++ [(byN x)]))  ((ha2.sl).iv (Nat.zero_le _) (by omega)) (by first | assumption | omega | (simp only [List.length_take, List.length_append, List.length_cons, List.length_nil]; omega))) ?_)
      rintro _ w9 ⟨vg3, _, rfl, ⟨lo3, hi3, hgr_3, hlo3, hhi3⟩, rfl, hm9⟩
      have hl20 := f27.lt
      have hl21 := f28.lt
      have hl22 := ha2.lt
      have f33 := f26.ext hm9
      have f34 := f27.ext hm9
      have f35 := f28.ext hm9
      have f36 := f29.ext hm9
      have f37 := f30.ext hm9
      have f38 := f31.ext hm9
      have f39 := ha2.ext hm9
      have f40 := f32.ext hm9
      have hE9 := hE8.ext hm9
      have hs9 := hm9.size
      refine OL.q (Q1.move rfl) rfl rfl ?_
      refine OL.q (Q1.extract rfl rfl) rfl rfl ?_
      refine OL.q (Q1.extract rfl rfl) rfl rfl ?_
      refine OL.q (Q1.assign rfl) rfl rfl ?_
      refine OL.q (Q1.assign rfl) rfl rfl ?_
      rw [List.nil_append, hmo2] at hgr_3
      try dsimp only at hgr_3
      refine OL.nil ?_
      refine r_seq ?_
      refine r_region ?_
      refine OL.q (Q1.move rfl) rfl rfl ?_
      have hgr1 := f36
      rcases f36 with ⟨hv1, hN1⟩ | ⟨b5, vn1, nds1, hv1, hN1, hrw1, hsl1, hrel1⟩
      · subst hv1
        try subst hN1
        refine OL.q (Q1.eqNil Try.underlying33 rfl rfl) rfl rfl ?_
        refine OL.q (Q1.move rfl) rfl rfl ?_
        refine OL.q (Q1.move rfl) rfl rfl ?_
        refine OL.qb (Q1.eq rfl rfl) rfl rfl ?_
        intro b6 hb5
        obtain rfl : b6 = true := hb5.trans (by exact beq_iff_eq.2 (by rw [dec_turnB hg0]))
        refine OL.q (Q1.pick_t rfl rfl) rfl rfl ?_
        refine OL.q (Q1.move rfl) rfl rfl ?_
        refine OL.q (Q1.move rfl) rfl rfl ?_
        have hgr2 := f38
        rcases f38 with ⟨hv2, hN2⟩ | ⟨b7, vn2, nds2, hv2, hN2, hrw2, hsl2, hrel2⟩
        · subst hv2
          try subst hN2
          refine OL.q (Q1.eqNil Try.underlying33 rfl rfl) rfl rfl ?_
          refine OL.q (Q1.pick_t rfl rfl) rfl rfl ?_
          refine OL.q (Q1.move rfl) rfl rfl ?_
          refine OL.q (Q1.move rfl) rfl rfl ?_
          refine OL.qb (Q1.ne rfl rfl) rfl rfl ?_
          intro b8 hb6
          obtain rfl : b8 = true := hb6.trans (by exact bne_iff_ne.2 hct1)
          refine OL.q (Q1.pick_t rfl rfl) rfl rfl ?_
          refine OL.q (Q1.move rfl) rfl rfl ?_
          refine OL.q (Q1.move rfl) rfl rfl ?_
          have hgr3 := hgr_3
          rcases hgr_3 with ⟨hv3, hN3⟩ | ⟨b9, vn3, nds3, hv3, hN3, hrw3, hsl3, hrel3⟩
          · subst hv3
            try subst hN3
            refine OL.q (Q1.eqNil Try.underlying33 rfl rfl) rfl rfl ?_
            refine OL.q (Q1.pick_t rfl rfl) rfl rfl ?_
            refine OL.q (Q1.move rfl) rfl rfl ?_
            refine OL.q (Q1.move rfl) rfl rfl ?_
            refine OL.qb (Q1.ne rfl rfl) rfl rfl ?_
            intro b10 hb7
            obtain rfl : b10 = true := hb7.trans (by exact bne_iff_ne.2 (by rw [List.nil_append]; exact hmo1))
            refine OL.q (Q1.pick_t rfl rfl) rfl rfl ?_
            refine OL.q (Q1.move rfl) rfl rfl ?_
            refine OL.act rfl rfl (AW.callF cl14 rfl (awake9_c (w0 := w9)   ) ?_)
            rintro _ w10 ⟨⟨_, rfl, rfl⟩, hm10⟩
            have hl23 := f34.lt
            have hl24 := f35.lt
            have hl25 := f39.lt
            have f41 := f33.ext hm10
            have f42 := f34.ext hm10
            have f43 := f35.ext hm10
            have f44 := hgr1.ext hm10
            have f45 := f37.ext hm10
            have f46 := hgr2.ext hm10
            have f47 := f39.ext hm10
            have f48 := f40.ext hm10
            have f49 := hgr3.ext hm10
            have hE10 := hE9.ext hm10
            have hs10 := hm10.size
            refine OL.q (Q1.pick_t rfl rfl) rfl rfl ?_
            refine OL.q (Q1.assign rfl) rfl rfl ?_
            refine OL.nil ?_
            refine r_ret1 Try.func4 rfl rfl ?_
            exact Ret.mk ⟨⟨_, (by rfl), rfl⟩, hE10⟩
          · exact absurd (by rfl) hN3
        · exact absurd (by rfl) hN2
      · exact absurd (by rfl) hN1
end Go.Proofs
