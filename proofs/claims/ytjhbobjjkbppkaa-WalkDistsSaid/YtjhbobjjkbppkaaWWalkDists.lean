/-
  The walk through the law WalkDists.
-/
import Derived.Test.YtjhbobjjkbppkaaWAwake
import Derived.Test.YtjhbobjjkbppkaaWRef10
set_option linter.unusedVariables false
set_option linter.unusedSimpArgs false
namespace Go.Proofs
open Go.Ik Go.Ml
set_option maxRecDepth 20000 in
set_option maxHeartbeats 4000000 in
theorem WalkDists_c {w0 : World}  {v_words : Value} {words : List Str} (s : Str) (d : Int) (h_words : Sl encS w0 (Iv 0 w0.heap.size) v_words words) (h_d : I64 d) (hok : Ml.LOk words) :
    Calls Try.prog 5 #[v_words, strV s, .int .i64 d] w0 (Ret fun rv w1 => (∃ rb : Bool, rb = true ∧ rv = .bool rb) ∧ Ext w0 w1) := by
  have hE0 : Ext w0 w0 := Mod.refl _ _
  have hle1 := h_words.le
  refine calls_enter Try.func5 rfl Try.ntmps5 rfl ?_
  refine r_seq ?_
  refine r_region ?_
  refine OL.q (Q1.assign rfl) rfl rfl ?_
  refine OL.nil ?_
  refine r_seq ?_
  refine r_seq ?_
  refine r_region ?_
  refine OL.q (Q1.move rfl) rfl rfl ?_
  refine OL.q (Q1.move rfl) rfl rfl ?_
  refine OL.act rfl rfl (AW.callF cl12 rfl (great11_c (w0 := w0) (words := words) s ((h_words).iv (Nat.zero_le _) (by omega))) ?_)
  rintro _ w1 ⟨⟨b1, hb1, rfl⟩, hm1⟩
  have f1 := h_words.ext hm1
  have hE1 := hE0.ext hm1
  have hs1 := hm1.size
  refine OL.nil ?_
  cases b1 with
  | true =>
    replace hb1 := hb1.symm
    refine r_cond_t rfl ?_
    refine r_seq ?_
    refine r_region ?_
    refine OL.act rfl rfl (AW.callF cl13 rfl (awake11_c (w0 := w1)   ) ?_)
    rintro _ w2 ⟨⟨_, rfl, rfl⟩, hm2⟩
    have f2 := f1.ext hm2
    have hE2 := hE1.ext hm2
    have hs2 := hm2.size
    refine OL.q (Q1.assign rfl) rfl rfl ?_
    refine OL.nil ?_
    refine r_ret1 Try.func5 rfl rfl ?_
    exact Ret.mk ⟨⟨_, (by rfl), rfl⟩, hE2⟩
  | false =>
    replace hb1 := hb1.symm
    refine r_cond_f rfl ?_
    refine r_skip ?_
    refine r_seq ?_
    refine r_region ?_
    refine OL.q (Q1.move rfl) rfl rfl ?_
    have hg3 := greatS_no (by assumption : greatS words s = false)
    have hl8 := Ml.greatT_len hg3.1
    have hsk := Ml.greatT_short hg3.1
    refine OL.act rfl rfl (AW.callF cl14 rfl (build_c (w0 := w1) (words := words)  ((f1).iv (Nat.zero_le _) (by omega)) (by assumption) (by first | assumption | omega)) ?_)
    rintro _ w2 ⟨vg1, _, rfl, ⟨lo1, hi1, hgr_1, hlo1, hhi1⟩, rfl, hm2⟩
    have f2 := f1.ext hm2
    have hE2 := hE1.ext hm2
    have hs2 := hm2.size
    have := Ml.goodL_range words
    refine OL.q (Q1.move rfl) rfl rfl ?_
    refine OL.q (Q1.extract rfl rfl) rfl rfl ?_
    refine OL.q (Q1.extract rfl rfl) rfl rfl ?_
    refine OL.q (Q1.assign rfl) rfl rfl ?_
    refine OL.q (Q1.assign rfl) rfl rfl ?_
    refine OL.nil ?_
    refine r_seq ?_
    refine r_seq ?_
    refine r_region ?_
    refine OL.q (Q1.move rfl) rfl rfl ?_
    refine OL.qb (Q1.ne rfl rfl) rfl rfl ?_
    intro b2 hb2
    refine OL.nil ?_
    cases b2 with
    | true =>
      replace hb2 := bne_iff_ne.1 hb2.symm
      refine r_cond_t rfl ?_
      refine r_seq ?_
      refine r_region ?_
      refine OL.q (Q1.move rfl) rfl rfl ?_
      have hgr1 := hgr_1
      rcases hgr_1 with ⟨hv1, hN1⟩ | ⟨b3, vn1, nds1, hv1, hN1, hrw1, hsl1, hrel1⟩
      · subst hv1
        try subst hN1
        refine OL.q (Q1.eqNil Try.underlying27 rfl rfl) rfl rfl ?_
        refine OL.q (Q1.move rfl) rfl rfl ?_
        refine OL.act rfl rfl (AW.callF cl13 rfl (awake11_c (w0 := w2)   ) ?_)
        rintro _ w3 ⟨⟨_, rfl, rfl⟩, hm3⟩
        have f3 := f2.ext hm3
        have f4 := hgr1.ext hm3
        have hE3 := hE2.ext hm3
        have hs3 := hm3.size
        refine OL.q (Q1.pick_t rfl rfl) rfl rfl ?_
        refine OL.q (Q1.assign rfl) rfl rfl ?_
        refine OL.nil ?_
        refine r_ret1 Try.func5 rfl rfl ?_
        exact Ret.mk ⟨⟨_, (by rfl), rfl⟩, hE3⟩
      · exact absurd (by exact Ml.gnodes_no (by assumption)) hN1
    | false =>
      replace hb2 := bne_eq_false_iff_eq.1 hb2.symm
      refine r_cond_f rfl ?_
      refine r_skip ?_
      refine r_seq ?_
      refine r_region ?_
      refine OL.q (Q1.move rfl) rfl rfl ?_
      have hg0 : Ml.goodL words = 0 := by assumption
      have hgok : GOk (Ml.gnodes words) (Ml.graphB words) words := Ml.gok_of (by assumption)
      obtain ⟨hI, hgl, hel⟩ := hgok.edges
      have hso := Ml.good_sorted hg0
      have hl60 := Ml.good_len hg0
      have hgp := Ml.gnodes_pos hg0
      have hgf := Ml.good_fineT hg0
      have hws : ∀ w ∈ words, w.length ≤ 1000 := good_len48 hg0
      have hDR := distsA_R (s := s) (d := d) hgp hso hgf
      have hok0 := GOk.nil
      refine OL.q (Q1.move rfl) rfl rfl ?_
      refine OL.q (Q1.move rfl) rfl rfl ?_
      refine OL.act rfl rfl (AW.callF cl21 rfl (wdists_c (w0 := w2)  s (d) hgr_1 (by omega) (by first | omega | assumption) (by first | assumption) (by first | assumption | omega | (simp; done)) (by first | assumption | omega)) ?_)
      rintro v1 w3 ⟨⟨gr1, h1, hg1⟩, hm3⟩
      have f3 := f2.ext hm3
      have f4 := hgr_1.ext hm3
      have hE3 := hE2.ext hm3
      have hs3 := hm3.size
      have hle_1 := h1.le
      have hlt_1 := h1.lt
      have := distsA_len ((Ml.gnodes words)) words s d
      refine OL.q (Q1.assign rfl) rfl rfl ?_
      refine OL.nil ?_
      refine r_seq ?_
      refine r_region ?_
      refine OL.q (Q1.move rfl) rfl rfl ?_
      refine OL.q (Q1.move rfl) rfl rfl ?_
      refine OL.q (Q1.move rfl) rfl rfl ?_
      refine OL.q (Q1.move rfl) rfl rfl ?_
      refine OL.act rfl rfl (AW.callF cl23 rfl (r11dists_c (w0 := w3) (words := words) s (d) ((f3).iv (Nat.zero_le _) (by omega)) (by first | omega | assumption) (by first | assumption | omega) (by first | assumption) (by first | assumption | omega)) ?_)
      rintro v2 w4 ⟨⟨gr2, h2, hg2⟩, hm4⟩
      have hl1 := h1.lt
      have f5 := f3.ext hm4
      have f6 := f4.ext hm4
      have f7 := h1.ext hm4
      have hE4 := hE3.ext hm4
      have hs4 := hm4.size
      have hle_2 := h2.le
      have hlt_2 := h2.lt
      have := distsR_len words s d
      refine OL.act rfl rfl (AW.callF cl22 rfl (sameT_c (w0 := w4) (a := (distsA ((Ml.gnodes words)) words s d)) (b := (distsR words s d))  ((f7.sl).iv (Nat.zero_le _) (by omega)) ((h2.sl).iv (Nat.zero_le _) (by omega))) ?_)
      rintro _ w5 ⟨⟨b3, hb3, rfl⟩, hm5⟩
      have hl2 := f7.lt
      have hl3 := h2.lt
      have f8 := f5.ext hm5
      have f9 := f6.ext hm5
      have f10 := f7.ext hm5
      have f11 := h2.ext hm5
      have hE5 := hE4.ext hm5
      have hs5 := hm5.size
      obtain rfl : b3 = true := hb3.trans (by exact decide_eq_true (by rw [hDR]))
      refine OL.q (Q1.assign rfl) rfl rfl ?_
      refine OL.nil ?_
      refine r_seq ?_
      refine r_region ?_
      refine OL.q (Q1.move rfl) rfl rfl ?_
      refine OL.act rfl rfl (AW.callF cl24 rfl (overTexts_c (w0 := w5) (l := (distsA ((Ml.gnodes words)) words s d))  f10 (by first | assumption | omega)) ?_)
      rintro _ w6 ⟨rfl, hm6⟩
      have hl4 := f10.lt
      have hl5 := f11.lt
      have f12 := f8.keepG hm6 (by omega)
      have f13 := f9.keepG hm6 (by omega)
      have f14 := f11.keepG hm6 (by omega)
      have hE6 := Ext.thenG hE5 hm6 (by omega)
      have hs6 := hm6.size
      refine OL.nil ?_
      refine r_seq ?_
      refine r_region ?_
      refine OL.q (Q1.move rfl) rfl rfl ?_
      refine OL.q (Q1.build (vs := #[]) (v := .agg #[.int .i64 0, strV []]) rfl (fun _ => by kernel_rfl)) rfl rfl ?_
      refine OL.act rfl rfl (AW.callF cl15 rfl (wnext_c (w0 := w6) (after := (Itm.mk 0 [])) s (1) true (3) (.inl ⟨rfl, rfl⟩ : Gr 0 w6 0 0 (.pointer none) []) (Nat.zero_le _) (by first | omega | assumption) (by first | omega | assumption) (by exact hok0) (by simp) (by first | assumption | omega) (by decide) (by simp)) ?_)
      rintro _ w7 ⟨v3, _, rfl, ⟨gr3, h3, hg3⟩, ⟨b4, hb4, rfl⟩, hm7⟩
      have hl6 := f14.lt
      have f15 := f12.ext hm7
      have f16 := f13.ext hm7
      have f17 := f14.ext hm7
      have hE7 := hE6.ext hm7
      have hs7 := hm7.size
      have hle_3 := h3.le
      have hlt_3 := h3.lt
      have := nextA_lenE [] (([] : List Str)) s 1 true ((Itm.mk 0 [])) 3
      refine OL.q (Q1.move rfl) rfl rfl ?_
      refine OL.q (Q1.extract rfl rfl) rfl rfl ?_
      refine OL.q (Q1.extract rfl rfl) rfl rfl ?_
      obtain rfl : b4 = true := hb4.trans (by rfl)
      refine OL.q (Q1.assign rfl) rfl rfl ?_
      refine OL.q (Q1.assign rfl) rfl rfl ?_
      refine OL.nil ?_
      refine r_seq ?_
      refine r_region ?_
      refine OL.q (Q1.move rfl) rfl rfl ?_
      refine OL.q (Q1.move rfl) rfl rfl ?_
      refine OL.q (Q1.move rfl) rfl rfl ?_
      refine OL.q (Q1.move rfl) rfl rfl ?_
      refine OL.q (Q1.move rfl) rfl rfl ?_
      refine OL.act rfl rfl (AW.callF cl21 rfl (wdists_c (w0 := w7)  s (d) f16 (by omega) (by first | omega | assumption) (by first | assumption) (by first | assumption | omega | (simp; done)) (by first | assumption | omega)) ?_)
      rintro v4 w8 ⟨⟨gr4, h4, hg4⟩, hm8⟩
      have hl7 := f17.lt
      have hl8 := h3.lt
      have f18 := f15.ext hm8
      have f19 := f16.ext hm8
      have f20 := f17.ext hm8
      have f21 := h3.ext hm8
      have hE8 := hE7.ext hm8
      have hs8 := hm8.size
      have hle_4 := h4.le
      have hlt_4 := h4.lt
      have := distsA_len ((Ml.gnodes words)) words s d
      refine OL.q (Q1.move rfl) rfl rfl ?_
      refine OL.q (Q1.move rfl) rfl rfl ?_
      refine OL.q (Q1.move rfl) rfl rfl ?_
      refine OL.act rfl rfl (AW.callF cl23 rfl (r11dists_c (w0 := w8) (words := words) s (d) ((f18).iv (Nat.zero_le _) (by omega)) (by first | omega | assumption) (by first | assumption | omega) (by first | assumption) (by first | assumption | omega)) ?_)
      rintro v5 w9 ⟨⟨gr5, h5, hg5⟩, hm9⟩
      have hl9 := f20.lt
      have hl10 := f21.lt
      have hl11 := h4.lt
      have f22 := f18.ext hm9
      have f23 := f19.ext hm9
      have f24 := f20.ext hm9
      have f25 := f21.ext hm9
      have f26 := h4.ext hm9
      have hE9 := hE8.ext hm9
      have hs9 := hm9.size
      have hle_5 := h5.le
      have hlt_5 := h5.lt
      have := distsR_len words s d
      refine OL.act rfl rfl (AW.callF cl22 rfl (sameT_c (w0 := w9) (a := (distsA ((Ml.gnodes words)) words s d)) (b := (distsR words s d))  ((f26.sl).iv (Nat.zero_le _) (by omega)) ((h5.sl).iv (Nat.zero_le _) (by omega))) ?_)
      rintro _ w10 ⟨⟨b5, hb5, rfl⟩, hm10⟩
      have hl12 := f24.lt
      have hl13 := f25.lt
      have hl14 := f26.lt
      have hl15 := h5.lt
      have f27 := f22.ext hm10
      have f28 := f23.ext hm10
      have f29 := f24.ext hm10
      have f30 := f25.ext hm10
      have f31 := f26.ext hm10
      have f32 := h5.ext hm10
      have hE10 := hE9.ext hm10
      have hs10 := hm10.size
      obtain rfl : b5 = true := hb5.trans (by exact decide_eq_true (by rw [hDR]))
      refine OL.q (Q1.pick_t rfl rfl) rfl rfl ?_
      refine OL.q (Q1.move rfl) rfl rfl ?_
      refine OL.q (Q1.move rfl) rfl rfl ?_
      refine OL.q (Q1.move rfl) rfl rfl ?_
      refine OL.act rfl rfl (AW.callF cl21 rfl (wdists_c (w0 := w10)  s (d) (.inl ⟨rfl, rfl⟩ : Gr 0 w10 0 0 (.pointer none) []) (Nat.zero_le _) (by first | omega | assumption) (by first | assumption) (by first | assumption | omega | (simp; done)) (by first | assumption | omega)) ?_)
      rintro v6 w11 ⟨⟨gr6, h6, hg6⟩, hm11⟩
      have hl16 := f29.lt
      have hl17 := f30.lt
      have hl18 := f31.lt
      have hl19 := f32.lt
      have f33 := f27.ext hm11
      have f34 := f28.ext hm11
      have f35 := f29.ext hm11
      have f36 := f30.ext hm11
      have f37 := f31.ext hm11
      have f38 := f32.ext hm11
      have hE11 := hE10.ext hm11
      have hs11 := hm11.size
      have hle_6 := h6.le
      have hlt_6 := h6.lt
      have := distsA_len [] (([] : List Str)) s d
      refine OL.q (Q1.lenSl Try.underlying22 (h6.sl) rfl) rfl rfl ?_
      refine OL.qb (Q1.eq rfl rfl) rfl rfl ?_
      intro b6 hb6
      obtain rfl : b6 = true := hb6.trans (by exact beq_iff_eq.2 (by rfl))
      refine OL.q (Q1.pick_t rfl rfl) rfl rfl ?_
      refine OL.q (Q1.move rfl) rfl rfl ?_
      refine OL.q (Q1.move rfl) rfl rfl ?_
      refine OL.q (Q1.lenSl Try.underlying31 (f36.sl) rfl) rfl rfl ?_
      refine OL.qb (Q1.eq rfl rfl) rfl rfl ?_
      intro b7 hb7
      obtain rfl : b7 = true := hb7.trans (by exact beq_iff_eq.2 (by rfl))
      refine OL.q (Q1.pick_t rfl rfl) rfl rfl ?_
      refine OL.q (Q1.move rfl) rfl rfl ?_
      refine OL.q (Q1.move rfl) rfl rfl ?_
      refine OL.q (Q1.pick_t rfl rfl) rfl rfl ?_
      refine OL.q (Q1.move rfl) rfl rfl ?_
      refine OL.act rfl rfl (AW.callF cl13 rfl (awake11_c (w0 := w11)   ) ?_)
      rintro _ w12 ⟨⟨_, rfl, rfl⟩, hm12⟩
      have hl20 := f35.lt
      have hl21 := f36.lt
      have hl22 := f37.lt
      have hl23 := f38.lt
      have hl24 := h6.lt
      have f39 := f33.ext hm12
      have f40 := f34.ext hm12
      have f41 := f35.ext hm12
      have f42 := f36.ext hm12
      have f43 := f37.ext hm12
      have f44 := f38.ext hm12
      have f45 := h6.ext hm12
      have hE12 := hE11.ext hm12
      have hs12 := hm12.size
      refine OL.q (Q1.pick_t rfl rfl) rfl rfl ?_
      refine OL.q (Q1.assign rfl) rfl rfl ?_
      refine OL.nil ?_
      refine r_ret1 Try.func5 rfl rfl ?_
      exact Ret.mk ⟨⟨_, (by rfl), rfl⟩, hE12⟩
end Go.Proofs
