/-
  The walk through the law WalkFar.
-/
import Derived.Test.YtjhbobjjkbppkaaWAwake
set_option linter.unusedVariables false
set_option linter.unusedSimpArgs false
namespace Go.Proofs
open Go.Ik Go.Ml
set_option maxRecDepth 20000 in
set_option maxHeartbeats 4000000 in
theorem WalkFar_c {w0 : World}  {v_words : Value} {words : List Str} (s : Str) (k : Int) (batch : Int) (h_words : Sl encS w0 (Iv 0 w0.heap.size) v_words words) (h_k : I64 k) (h_batch : I64 batch) (hok : Ml.LOk words) :
    Calls Try.prog 6 #[v_words, strV s, .int .i64 k, .int .i64 batch] w0 (Ret fun rv w1 => (∃ rb : Bool, rb = true ∧ rv = .bool rb) ∧ Ext w0 w1) := by
  have hE0 : Ext w0 w0 := Mod.refl _ _
  have hle1 := h_words.le
  refine calls_enter Try.func6 rfl Try.ntmps6 rfl ?_
  refine r_seq ?_
  refine r_region ?_
  refine OL.q (Q1.assign rfl) rfl rfl ?_
  refine OL.nil ?_
  refine r_seq ?_
  refine r_seq ?_
  refine r_region ?_
  refine OL.q (Q1.move rfl) rfl rfl ?_
  refine OL.q (Q1.move rfl) rfl rfl ?_
  refine OL.act rfl rfl (AW.callF cl12 rfl (great11_c (w0 := w0) (words := words) s ((h_words).iv (Nat.zero_le _) (by omega))) ?_)
  rintro _ w1 ⟨⟨b1, hb1, rfl⟩, hm1⟩
  have f1 := h_words.ext hm1
  have hE1 := hE0.ext hm1
  have hs1 := hm1.size
  refine OL.q (Q1.move rfl) rfl rfl ?_
  cases b1 with
  | true =>
    replace hb1 := hb1.symm
    refine OL.sk rfl rfl ?_
    refine OL.sk rfl rfl ?_
    refine OL.sk rfl rfl ?_
    refine OL.q (Q1.pick_t rfl rfl) rfl rfl ?_
    refine OL.nil ?_
    refine r_cond_t rfl ?_
    refine r_seq ?_
    refine r_region ?_
    refine OL.act rfl rfl (AW.callF cl13 rfl (awake11_c (w0 := w1)   ) ?_)
    rintro _ w2 ⟨⟨_, rfl, rfl⟩, hm2⟩
    have f2 := f1.ext hm2
    have hE2 := hE1.ext hm2
    have hs2 := hm2.size
    refine OL.q (Q1.assign rfl) rfl rfl ?_
    refine OL.nil ?_
    refine r_ret1 Try.func6 rfl rfl ?_
    exact Ret.mk ⟨⟨_, (by rfl), rfl⟩, hE2⟩
  | false =>
    replace hb1 := hb1.symm
    refine OL.q (Q1.move rfl) rfl rfl ?_
    refine OL.act rfl rfl (AW.callF cl25 rfl (tasked_c (w0 := w1)  s (by have := (greatS_no (by assumption : greatS words s = false)).2; omega)) ?_)
    rintro _ w2 ⟨⟨b2, hb2, rfl⟩, hm2⟩
    have f2 := f1.ext hm2
    have hE2 := hE1.ext hm2
    have hs2 := hm2.size
    cases b2 with
    | true =>
      replace hb2 := hb2.symm
      refine OL.q (Q1.not rfl) rfl rfl ?_
      refine OL.q (Q1.pick_f rfl rfl) rfl rfl ?_
      refine OL.nil ?_
      refine r_cond_f rfl ?_
      refine r_skip ?_
      refine r_seq ?_
      refine r_region ?_
      refine OL.q (Q1.move rfl) rfl rfl ?_
      have hg3 := greatS_no (by assumption : greatS words s = false)
      have hl8 := Ml.greatT_len hg3.1
      have hsk := Ml.greatT_short hg3.1
      refine OL.act rfl rfl (AW.callF cl14 rfl (build_c (w0 := w2) (words := words)  ((f2).iv (Nat.zero_le _) (by omega)) (by assumption) (by first | assumption | omega)) ?_)
      rintro _ w3 ⟨vg1, _, rfl, ⟨lo1, hi1, hgr_1, hlo1, hhi1⟩, rfl, hm3⟩
      have f3 := f2.ext hm3
      have hE3 := hE2.ext hm3
      have hs3 := hm3.size
      have := Ml.goodL_range words
      refine OL.q (Q1.move rfl) rfl rfl ?_
      refine OL.q (Q1.extract rfl rfl) rfl rfl ?_
      refine OL.q (Q1.extract rfl rfl) rfl rfl ?_
      refine OL.q (Q1.assign rfl) rfl rfl ?_
      refine OL.q (Q1.assign rfl) rfl rfl ?_
      refine OL.nil ?_
      refine r_seq ?_
      refine r_seq ?_
      refine r_region ?_
      refine OL.q (Q1.move rfl) rfl rfl ?_
      refine OL.qb (Q1.ne rfl rfl) rfl rfl ?_
      intro b3 hb3
      refine OL.q (Q1.move rfl) rfl rfl ?_
      cases b3 with
      | true =>
        replace hb3 := bne_iff_ne.1 hb3.symm
        refine OL.sk rfl rfl ?_
        refine OL.sk rfl rfl ?_
        refine OL.q (Q1.pick_t rfl rfl) rfl rfl ?_
        refine OL.nil ?_
        refine r_cond_t rfl ?_
        refine r_seq ?_
        refine r_region ?_
        refine OL.q (Q1.move rfl) rfl rfl ?_
        have hgr1 := hgr_1
        rcases hgr_1 with ⟨hv1, hN1⟩ | ⟨b4, vn1, nds1, hv1, hN1, hrw1, hsl1, hrel1⟩
        · subst hv1
          try subst hN1
          refine OL.q (Q1.eqNil Try.underlying27 rfl rfl) rfl rfl ?_
          refine OL.q (Q1.move rfl) rfl rfl ?_
          refine OL.act rfl rfl (AW.callF cl13 rfl (awake11_c (w0 := w3)   ) ?_)
          rintro _ w4 ⟨⟨_, rfl, rfl⟩, hm4⟩
          have f4 := f3.ext hm4
          have f5 := hgr1.ext hm4
          have hE4 := hE3.ext hm4
          have hs4 := hm4.size
          refine OL.q (Q1.pick_t rfl rfl) rfl rfl ?_
          refine OL.q (Q1.assign rfl) rfl rfl ?_
          refine OL.nil ?_
          refine r_ret1 Try.func6 rfl rfl ?_
          exact Ret.mk ⟨⟨_, (by rfl), rfl⟩, hE4⟩
        · exact absurd (by exact Ml.gnodes_no (by assumption)) hN1
      | false =>
        replace hb3 := bne_eq_false_iff_eq.1 hb3.symm
        refine OL.q (Q1.move rfl) rfl rfl ?_
        have hgr1 := hgr_1
        rcases hgr_1 with ⟨hv1, hN1⟩ | ⟨b4, vn1, nds1, hv1, hN1, hrw1, hsl1, hrel1⟩
        · exact absurd hN1 (by exact Ml.gnodes_ne (by assumption))
        · subst hv1
          have hnl1 := (All2.get hrel1).1
          refine OL.q (Q1.eqNil Try.underlying27 rfl rfl) rfl rfl ?_
          refine OL.q (Q1.pick_f rfl rfl) rfl rfl ?_
          refine OL.nil ?_
          refine r_cond_f rfl ?_
          refine r_skip ?_
          refine r_seq ?_
          refine r_region ?_
          refine OL.q (Q1.move rfl) rfl rfl ?_
          refine OL.act rfl rfl (AW.callF cl20 rfl (low_c (w0 := w3)  (k) (5) (by first | omega | assumption) (by first | omega | assumption) (by omega)) ?_)
          rintro _ w4 ⟨rfl, hm4, hp1⟩
          have f4 := f3.ext hm4
          have f5 := hgr1.ext hm4
          have f6 := hrel1.ext hm4
          have f7 := hsl1.ext hm4
          have f8 := hrw1.ext hm4
          have hE4 := hE3.ext hm4
          have hs4 := hm4.size
          refine OL.q (Q1.assign rfl) rfl rfl ?_
          refine OL.nil ?_
          refine r_seq ?_
          refine r_seq ?_
          refine r_region ?_
          refine OL.q (Q1.assign rfl) rfl rfl ?_
          have hg0 : Ml.goodL words = 0 := by assumption
          have hgok : GOk (Ml.gnodes words) (Ml.graphB words) words := Ml.gok_of (by assumption)
          obtain ⟨hI, hgl, hel⟩ := hgok.edges
          have hso := Ml.good_sorted hg0
          have hl60 := Ml.good_len hg0
          have hgp := Ml.gnodes_pos hg0
          have hgf := Ml.good_fineT hg0
          have hws : ∀ w ∈ words, w.length ≤ 1000 := good_len48 hg0
          have hks := Ml.low_range k 5 (by omega)
          refine OL.nil ?_
          refine r_block ?_
          refine r_loop (I := fun m E W => ∃ (i : Nat), E = [(0, v_words), (1, strV s), (2, .int .i64 ((Ml.lowM k 5))), (3, .int .i64 batch), (9, ptr b4 0), (11, .int .i64 (((i : Nat) : Int)))] ∧ m = words.length - i ∧ Ext w0 W ∧ w4.heap.size ≤ W.heap.size ∧ Sl encS W (Iv 0 w0.heap.size) v_words words ∧ Rw W lo1 hi1 b4 [vn1] ∧ Sl encN W (Iv lo1 hi1) vn1 nds1 ∧ NRel W (Iv lo1 hi1) nds1 ((Ml.gnodes words)) ∧ Gr 0 W lo1 hi1 ((ptr b4 0)) ((Ml.gnodes words)) ∧ (∀ w ∈ words.take i, ¬ (Ml.lenT w - Ml.lenT s ≤ Ml.lowM k 5 ∧ -(Ml.lenT w - Ml.lenT s) ≤ Ml.lowM k 5))) ?_ ?_
          · refine ⟨_, _, ⟨(0 : Nat), rfl, rfl, hE4, Nat.le_refl _, f4, f8, f7, f6, f5, (by (intro w hw; simp at hw))⟩, ⟨rfl, rfl, rfl, rfl, rfl, rfl, trivial⟩⟩
          · rintro _ _ w5 ⟨i, rfl, rfl, hE5, hs5, f9, f10, f11, f12, f13, hno⟩ ih1
            refine r_seq ?_
            refine r_seq ?_
            refine r_region ?_
            refine OL.q (Q1.move rfl) rfl rfl ?_
            refine OL.q (Q1.move rfl) rfl rfl ?_
            refine OL.q (Q1.lenSl Try.underlying22 (f9) rfl) rfl rfl ?_
            refine OL.qb (Q1.lt rfl rfl) rfl rfl ?_
            intro b5 hb4
            refine OL.nil ?_
            cases b5 with
            | true =>
              replace hb4 := of_decide_eq_true hb4.symm
              refine r_cond_t rfl ?_
              refine r_skip ?_
              refine r_seq ?_
              refine r_block ?_
              refine r_seq ?_
              refine r_region ?_
              refine OL.q (Q1.move rfl) rfl rfl ?_
              refine OL.q (Q1.move rfl) rfl rfl ?_
              obtain ⟨x1, b6, o1, hx1, hr1, hl1, hu1, hw1⟩ := Sl.at' (P := Try.prog) f9 Try.underlying22 ti9 encS_len (k := .i64) (n := ((i : Nat) : Int)) (i) (by omega) (by first | assumption | omega)
              refine OL.q (Q1.indexAddr rfl rfl hr1) rfl rfl ?_
              refine OL.q (Q1.load1 ti9 rfl (fun _ e => e ▸ hw1)) rfl rfl ?_
              have hx1l := hws _ (List.mem_of_getElem? hx1)
              have hx1t := lenT_rng x1
              have hst := lenT_rng s
              refine OL.act rfl rfl (AW.callF cl26 rfl (tlen_c (w0 := w5)  x1 (by first | assumption | omega)) ?_)
              rintro _ w6 ⟨rfl, hm5, hp2⟩
              have f14 := f9.ext hm5
              have f15 := f10.ext hm5
              have f16 := f11.ext hm5
              have f17 := f12.ext hm5
              have f18 := f13.ext hm5
              have hE6 := hE5.ext hm5
              have hs6 := hm5.size
              refine OL.q (Q1.move rfl) rfl rfl ?_
              refine OL.act rfl rfl (AW.callF cl26 rfl (tlen_c (w0 := w6)  s (by first | assumption | omega)) ?_)
              rintro _ w7 ⟨rfl, hm6, hp3⟩
              have f19 := f14.ext hm6
              have f20 := f15.ext hm6
              have f21 := f16.ext hm6
              have f22 := f17.ext hm6
              have f23 := f18.ext hm6
              have hE7 := hE6.ext hm6
              have hs7 := hm6.size
              refine OL.q (Q1.subI (((Ml.lenT x1) - ((Ml.lenT s)))) rfl rfl (by omega)) rfl rfl ?_
              refine OL.q (Q1.assign rfl) rfl rfl ?_
              refine OL.nil ?_
              refine r_seq ?_
              refine r_region ?_
              refine OL.q (Q1.move rfl) rfl rfl ?_
              refine OL.q (Q1.move rfl) rfl rfl ?_
              refine OL.qb (Q1.le rfl rfl) rfl rfl ?_
              intro b7 hb5
              refine OL.q (Q1.move rfl) rfl rfl ?_
              cases b7 with
              | true =>
                replace hb5 := of_decide_eq_true hb5.symm
                refine OL.q (Q1.move rfl) rfl rfl ?_
                refine OL.q (Q1.negI ((-(((Ml.lenT x1) - ((Ml.lenT s)))))) rfl (by omega)) rfl rfl ?_
                refine OL.q (Q1.move rfl) rfl rfl ?_
                refine OL.qb (Q1.le rfl rfl) rfl rfl ?_
                intro b8 hb6
                refine OL.q (Q1.pick_t rfl rfl) rfl rfl ?_
                refine OL.nil ?_
                cases b8 with
                | true =>
                  replace hb6 := of_decide_eq_true hb6.symm
                  refine r_cond_t rfl ?_
                  refine r_seq ?_
                  refine r_region ?_
                  refine OL.act rfl rfl (AW.callF cl13 rfl (awake11_c (w0 := w7)   ) ?_)
                  rintro _ w8 ⟨⟨_, rfl, rfl⟩, hm7⟩
                  have f24 := f19.ext hm7
                  have f25 := f20.ext hm7
                  have f26 := f21.ext hm7
                  have f27 := f22.ext hm7
                  have f28 := f23.ext hm7
                  have hE8 := hE7.ext hm7
                  have hs8 := hm7.size
                  refine OL.q (Q1.assign rfl) rfl rfl ?_
                  refine OL.nil ?_
                  refine r_ret1 Try.func6 rfl rfl ?_
                  exact Ret.mk ⟨⟨_, (by rfl), rfl⟩, hE8⟩
                | false =>
                  replace hb6 := of_decide_eq_false hb6.symm
                  refine r_cond_f rfl ?_
                  refine r_skip ?_
                  refine r_inBlock ?_
                  refine r_region ?_
                  refine OL.q (Q1.move rfl) rfl rfl ?_
                  refine OL.q (Q1.addI (((i + 1 : Nat) : Int)) rfl rfl (by omega)) rfl rfl ?_
                  refine OL.q (Q1.assign rfl) rfl rfl ?_
                  refine OL.nil ?_
                  exact (ih1 _ _ _ ⟨(i + 1 : Nat), rfl, rfl, hE7, (by omega), f19, f20, f21, f22, f23, (by first | exact far_step hno hx1 (by omega) | (exfalso; omega))⟩ (by omega)).sub ⟨rfl, rfl, rfl, rfl, rfl, rfl, trivial⟩
              | false =>
                replace hb5 := of_decide_eq_false hb5.symm
                refine OL.sk rfl rfl ?_
                refine OL.sk rfl rfl ?_
                refine OL.sk rfl rfl ?_
                refine OL.sk rfl rfl ?_
                refine OL.q (Q1.pick_f rfl rfl) rfl rfl ?_
                refine OL.nil ?_
                refine r_cond_f rfl ?_
                refine r_skip ?_
                refine r_inBlock ?_
                refine r_region ?_
                refine OL.q (Q1.move rfl) rfl rfl ?_
                refine OL.q (Q1.addI (((i + 1 : Nat) : Int)) rfl rfl (by omega)) rfl rfl ?_
                refine OL.q (Q1.assign rfl) rfl rfl ?_
                refine OL.nil ?_
                exact (ih1 _ _ _ ⟨(i + 1 : Nat), rfl, rfl, hE7, (by omega), f19, f20, f21, f22, f23, (by first | exact far_step hno hx1 (by omega) | (exfalso; omega))⟩ (by omega)).sub ⟨rfl, rfl, rfl, rfl, rfl, rfl, trivial⟩
            | false =>
              replace hb4 := of_decide_eq_false hb4.symm
              refine r_cond_f rfl ?_
              refine r_exit rfl ?_
              refine r_seq ?_
              refine r_region ?_
              refine OL.q (Q1.move rfl) rfl rfl ?_
              have hfar := far_law (words := words) (s := s) (k := Ml.lowM k 5) hg0 (by assumption) (by omega) (by rw [List.take_of_length_le (by omega)] at hno; exact hno)
              have hbt := Ml.low_range batch 9 (by omega)
              refine OL.q (Q1.move rfl) rfl rfl ?_
              refine OL.q (Q1.move rfl) rfl rfl ?_
              refine OL.q (Q1.build (vs := #[]) (v := .agg #[.int .i64 0, strV []]) rfl (fun _ => by kernel_rfl)) rfl rfl ?_
              refine OL.q (Q1.move rfl) rfl rfl ?_
              refine OL.act rfl rfl (AW.callF cl20 rfl (low_c (w0 := w5)  (batch) (9) (by first | omega | assumption) (by first | omega | assumption) (by omega)) ?_)
              rintro _ w6 ⟨rfl, hm5, hp2⟩
              have f14 := f9.ext hm5
              have f15 := f10.ext hm5
              have f16 := f11.ext hm5
              have f17 := f12.ext hm5
              have f18 := f13.ext hm5
              have hE6 := hE5.ext hm5
              have hs6 := hm5.size
              refine OL.q (Q1.addI ((1 + ((Ml.lowM batch 9)))) rfl rfl (by omega)) rfl rfl ?_
              refine OL.act rfl rfl (AW.callF cl15 rfl (wnext_c (w0 := w6) (after := (Itm.mk 0 [])) s ((Ml.lowM k 5)) true ((1 + ((Ml.lowM batch 9)))) f18 (by omega) (by first | omega | assumption) (by first | omega | assumption) (by first | assumption) (by first | assumption | omega | (simp; done)) (by first | assumption | omega) (by decide) (by simp)) ?_)
              rintro _ w7 ⟨v1, _, rfl, ⟨gr1, h1, hg1⟩, ⟨b6, hb5, rfl⟩, hm6⟩
              have f19 := f14.ext hm6
              have f20 := f15.ext hm6
              have f21 := f16.ext hm6
              have f22 := f17.ext hm6
              have f23 := f18.ext hm6
              have hE7 := hE6.ext hm6
              have hs7 := hm6.size
              have hle_1 := h1.le
              have hlt_1 := h1.lt
              have := nextA_lenE ((Ml.gnodes words)) words s ((Ml.lowM k 5)) true ((Itm.mk 0 [])) ((1 + ((Ml.lowM batch 9))))
              refine OL.q (Q1.move rfl) rfl rfl ?_
              refine OL.q (Q1.extract rfl rfl) rfl rfl ?_
              refine OL.q (Q1.extract rfl rfl) rfl rfl ?_
              obtain rfl : b6 = true := hb5.trans (by rw [hfar.2])
              refine OL.q (Q1.assign rfl) rfl rfl ?_
              refine OL.q (Q1.assign rfl) rfl rfl ?_
              refine OL.nil ?_
              refine r_seq ?_
              refine r_region ?_
              refine OL.q (Q1.move rfl) rfl rfl ?_
              refine OL.q (Q1.lenSl Try.underlying31 (h1.sl) rfl) rfl rfl ?_
              refine OL.qb (Q1.eq rfl rfl) rfl rfl ?_
              intro b7 hb6
              obtain rfl : b7 = true := hb6.trans (by exact beq_iff_eq.2 (by rw [hfar.2]; rfl))
              refine OL.q (Q1.move rfl) rfl rfl ?_
              refine OL.q (Q1.move rfl) rfl rfl ?_
              refine OL.q (Q1.pick_t rfl rfl) rfl rfl ?_
              refine OL.q (Q1.move rfl) rfl rfl ?_
              refine OL.q (Q1.move rfl) rfl rfl ?_
              refine OL.q (Q1.move rfl) rfl rfl ?_
              refine OL.q (Q1.move rfl) rfl rfl ?_
              refine OL.act rfl rfl (AW.callF cl21 rfl (wdists_c (w0 := w7)  s ((Ml.lowM k 5)) f23 (by omega) (by first | omega | assumption) (by first | assumption) (by first | assumption | omega | (simp; done)) (by first | assumption | omega)) ?_)
              rintro v2 w8 ⟨⟨gr2, h2, hg2⟩, hm7⟩
              have hl1 := h1.lt
              have f24 := f19.ext hm7
              have f25 := f20.ext hm7
              have f26 := f21.ext hm7
              have f27 := f22.ext hm7
              have f28 := f23.ext hm7
              have f29 := h1.ext hm7
              have hE8 := hE7.ext hm7
              have hs8 := hm7.size
              have hle_2 := h2.le
              have hlt_2 := h2.lt
              have := distsA_len ((Ml.gnodes words)) words s ((Ml.lowM k 5))
              refine OL.q (Q1.lenSl Try.underlying22 (h2.sl) rfl) rfl rfl ?_
              refine OL.qb (Q1.eq rfl rfl) rfl rfl ?_
              intro b8 hb7
              obtain rfl : b8 = true := hb7.trans (by exact beq_iff_eq.2 (by rw [hfar.1]; rfl))
              refine OL.q (Q1.pick_t rfl rfl) rfl rfl ?_
              refine OL.q (Q1.move rfl) rfl rfl ?_
              refine OL.act rfl rfl (AW.callF cl13 rfl (awake11_c (w0 := w8)   ) ?_)
              rintro _ w9 ⟨⟨_, rfl, rfl⟩, hm8⟩
              have hl2 := f29.lt
              have hl3 := h2.lt
              have f30 := f24.ext hm8
              have f31 := f25.ext hm8
              have f32 := f26.ext hm8
              have f33 := f27.ext hm8
              have f34 := f28.ext hm8
              have f35 := f29.ext hm8
              have f36 := h2.ext hm8
              have hE9 := hE8.ext hm8
              have hs9 := hm8.size
              refine OL.q (Q1.pick_t rfl rfl) rfl rfl ?_
              refine OL.q (Q1.assign rfl) rfl rfl ?_
              refine OL.nil ?_
              refine r_ret1 Try.func6 rfl rfl ?_
              exact Ret.mk ⟨⟨_, (by rfl), rfl⟩, hE9⟩
    | false =>
      replace hb2 := hb2.symm
      refine OL.q (Q1.not rfl) rfl rfl ?_
      refine OL.q (Q1.pick_f rfl rfl) rfl rfl ?_
      refine OL.nil ?_
      refine r_cond_t rfl ?_
      refine r_seq ?_
      refine r_region ?_
      refine OL.act rfl rfl (AW.callF cl13 rfl (awake11_c (w0 := w2)   ) ?_)
      rintro _ w3 ⟨⟨_, rfl, rfl⟩, hm3⟩
      have f3 := f2.ext hm3
      have hE3 := hE2.ext hm3
      have hs3 := hm3.size
      refine OL.q (Q1.assign rfl) rfl rfl ?_
      refine OL.nil ?_
      refine r_ret1 Try.func6 rfl rfl ?_
      exact Ret.mk ⟨⟨_, (by rfl), rfl⟩, hE3⟩
end Go.Proofs
