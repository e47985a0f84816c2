/-
  The walk through the law PackSize.
-/
import Derived.Test.YtajedfbogchkcaaWAwakeK
import Derived.Test.YtajedfbogchkcaaWSorted
set_option linter.unusedVariables false
set_option linter.unusedSimpArgs false
namespace Go.Proofs
open Go.Ik Go.Ml
set_option maxRecDepth 20000 in
set_option maxHeartbeats 4000000 in
theorem PackSize_c {w0 : World}  {v_texts : Value} {texts : List Str} (h_texts : Sl encS w0 (Iv 0 w0.heap.size) v_texts texts) (hok : Ml.LOk texts) :
    Calls Try.prog 7 #[v_texts] w0 (Ret fun rv w1 => (∃ rb : Bool, rb = true ∧ rv = .bool rb) ∧ Ext w0 w1) := by
  have hE0 : Ext w0 w0 := Mod.refl _ _
  have hle1 := h_texts.le
  refine calls_enter Try.func7 rfl Try.ntmps7 rfl ?_
  refine r_seq ?_
  refine r_region ?_
  refine OL.q (Q1.assign rfl) rfl rfl ?_
  refine OL.nil ?_
  refine r_seq ?_
  refine r_seq ?_
  refine r_region ?_
  refine OL.q (Q1.move rfl) rfl rfl ?_
  refine OL.act rfl rfl (AW.callF cl13 rfl (greatT_c (w0 := w0) (l := texts)  ((h_texts).iv (Nat.zero_le _) (by omega))) ?_)
  rintro _ w1 ⟨⟨b1, hb1, rfl⟩, hm1⟩
  have f1 := h_texts.ext hm1
  have hE1 := hE0.ext hm1
  have hs1 := hm1.size
  refine OL.nil ?_
  cases b1 with
  | true =>
    replace hb1 := hb1.symm
    refine r_cond_t rfl ?_
    refine r_seq ?_
    refine r_region ?_
    refine OL.act rfl rfl (AW.callF cl14 rfl (awake9_c (w0 := w1)   ) ?_)
    rintro _ w2 ⟨⟨_, rfl, rfl⟩, hm2⟩
    have f2 := f1.ext hm2
    have hE2 := hE1.ext hm2
    have hs2 := hm2.size
    refine OL.q (Q1.assign rfl) rfl rfl ?_
    refine OL.nil ?_
    refine r_ret1 Try.func7 rfl rfl ?_
    exact Ret.mk ⟨⟨_, (by rfl), rfl⟩, hE2⟩
  | false =>
    replace hb1 := hb1.symm
    refine r_cond_f rfl ?_
    refine r_skip ?_
    refine r_seq ?_
    refine r_region ?_
    refine OL.q (Q1.move rfl) rfl rfl ?_
    have hl8 := greatT_len (l := texts) (by assumption)
    refine OL.act rfl rfl (AW.callF cl29 rfl (lsorted_c (w0 := w1) (words := texts)  ((f1).iv (Nat.zero_le _) (by omega)) (by first | assumption | (intro s hs; revert s; decide +kernel)) (by first | assumption | omega | (simp; done))) ?_)
    rintro v1 w2 ⟨⟨gr1, h1, hg1⟩, hm2⟩
    have f2 := f1.ext hm2
    have hE2 := hE1.ext hm2
    have hs2 := hm2.size
    have hle_1 := h1.le
    have hlt_1 := h1.lt
    have := Ml.sortedM_len texts
    refine OL.q (Q1.assign rfl) rfl rfl ?_
    refine OL.nil ?_
    refine r_seq ?_
    refine r_region ?_
    refine OL.q (Q1.move rfl) rfl rfl ?_
    refine OL.act rfl rfl (AW.callF cl19 rfl (build_c (w0 := w2) (words := (Ml.sortedM texts))  ((h1.sl).iv (Nat.zero_le _) (by omega)) (by (intro x hx; obtain ⟨k, hk⟩ := List.mem_iff_getElem?.1 hx; exact Ml.sortedM_ok hok hk)) (by omega)) ?_)
    rintro _ w3 ⟨vg1, _, rfl, ⟨lo1, hi1, hgr_1, hlo1, hhi1⟩, rfl, hm3⟩
    have hl1 := h1.lt
    have f3 := f2.ext hm3
    have f4 := h1.ext hm3
    have hE3 := hE2.ext hm3
    have hs3 := hm3.size
    have := Ml.goodL_range ((Ml.sortedM texts))
    refine OL.q (Q1.move rfl) rfl rfl ?_
    refine OL.q (Q1.extract rfl rfl) rfl rfl ?_
    refine OL.q (Q1.extract rfl rfl) rfl rfl ?_
    refine OL.q (Q1.assign rfl) rfl rfl ?_
    refine OL.q (Q1.assign rfl) rfl rfl ?_
    refine OL.nil ?_
    refine r_seq ?_
    refine r_seq ?_
    refine r_region ?_
    refine OL.q (Q1.move rfl) rfl rfl ?_
    refine OL.qb (Q1.ne rfl rfl) rfl rfl ?_
    intro b2 hb2
    refine OL.q (Q1.move rfl) rfl rfl ?_
    cases b2 with
    | true =>
      replace hb2 := bne_iff_ne.1 hb2.symm
      refine OL.sk rfl rfl ?_
      refine OL.sk rfl rfl ?_
      refine OL.q (Q1.pick_t rfl rfl) rfl rfl ?_
      refine OL.nil ?_
      refine r_cond_t rfl ?_
      refine r_seq ?_
      refine r_region ?_
      refine OL.q (Q1.move rfl) rfl rfl ?_
      refine OL.q (Q1.lenSl Try.underlying22 (f4.sl) rfl) rfl rfl ?_
      refine OL.qb (Q1.gt rfl rfl) rfl rfl ?_
      intro b3 hb3
      obtain rfl : b3 = true := hb3.trans (by exact decide_eq_true (by have : ¬ (Ml.sortedM texts).length ≤ 60 := fun k => absurd (Ml.sorted_good k) (by assumption); omega))
      refine OL.q (Q1.move rfl) rfl rfl ?_
      refine OL.act rfl rfl (AW.callF cl14 rfl (awake9_c (w0 := w3)   ) ?_)
      rintro _ w4 ⟨⟨_, rfl, rfl⟩, hm4⟩
      have hl2 := f4.lt
      have f5 := f3.ext hm4
      have f6 := f4.ext hm4
      have f7 := hgr_1.ext hm4
      have hE4 := hE3.ext hm4
      have hs4 := hm4.size
      refine OL.q (Q1.pick_t rfl rfl) rfl rfl ?_
      refine OL.q (Q1.assign rfl) rfl rfl ?_
      refine OL.nil ?_
      refine r_ret1 Try.func7 rfl rfl ?_
      exact Ret.mk ⟨⟨_, (by rfl), rfl⟩, hE4⟩
    | false =>
      replace hb2 := bne_eq_false_iff_eq.1 hb2.symm
      refine OL.q (Q1.move rfl) rfl rfl ?_
      have hgr1 := hgr_1
      rcases hgr_1 with ⟨hv1, hN1⟩ | ⟨b3, vn1, nds1, hv1, hN1, hrw1, hsl1, hrel1⟩
      · exact absurd hN1 (by exact gnodes_nn (by assumption))
      · subst hv1
        have hnl1 := (All2.get hrel1).1
        refine OL.q (Q1.eqNil Try.underlying33 rfl rfl) rfl rfl ?_
        refine OL.q (Q1.pick_f rfl rfl) rfl rfl ?_
        refine OL.nil ?_
        refine r_cond_f rfl ?_
        refine r_skip ?_
        refine r_seq ?_
        refine r_region ?_
        refine OL.q (Q1.assign rfl) rfl rfl ?_
        have hig : goodL (Ml.sortedM texts) = 0 := by assumption
        have hgok := gok_of hig
        obtain ⟨hI, hgl, hel⟩ := hgok.edges
        have hbd := body_len hig
        have hgl2 := gnodes_721 hig
        have hen := edges_nodes hig
        have hle : (imgM (Ml.sortedM texts)).length = 10 + 3 * (gnodes (Ml.sortedM texts)).length + 6 * edgeCount (gnodes (Ml.sortedM texts)) := by rw [← enc_img hig]; exact encB_len _
        refine OL.nil ?_
        refine r_seq ?_
        refine r_seq ?_
        refine r_region ?_
        refine OL.q (Q1.assign rfl) rfl rfl ?_
        refine OL.nil ?_
        refine r_block ?_
        refine r_loop (I := fun m E W => ∃ (es : Nat) (n : Nat), E = [(4, ptr b3 0), (6, .int .i64 (((es : Nat) : Int))), (7, .int .i64 (((n : Nat) : Int)))] ∧ m = (gnodes (Ml.sortedM texts)).length - n ∧ Ext w0 W ∧ w3.heap.size ≤ W.heap.size ∧ Rw W lo1 hi1 b3 [vn1] ∧ Sl encN W (Iv lo1 hi1) vn1 nds1 ∧ NRel W (Iv lo1 hi1) nds1 ((Ml.gnodes ((Ml.sortedM texts)))) ∧ Gr 0 W lo1 hi1 ((ptr b3 0)) ((Ml.gnodes ((Ml.sortedM texts)))) ∧ (es = edgeCount ((gnodes (Ml.sortedM texts)).take n)) ∧ (n ≤ (gnodes (Ml.sortedM texts)).length) ∧ (es ≤ 1000000 * n)) ?_ ?_
        · refine ⟨_, _, ⟨(0 : Nat), (0 : Nat), rfl, rfl, hE3, Nat.le_refl _, hrw1, hsl1, hrel1, hgr1, (by rfl), (by omega), (by omega)⟩, ⟨rfl, rfl, rfl, trivial⟩⟩
        · rintro _ _ w4 ⟨es, n, rfl, rfl, hE4, hs4, f5, f6, f7, f8, hes, hnl, hel2⟩ ih1
          refine r_seq ?_
          refine r_seq ?_
          refine r_region ?_
          refine OL.q (Q1.move rfl) rfl rfl ?_
          refine OL.q (Q1.move rfl) rfl rfl ?_
          refine OL.act rfl rfl (AW.callF cl30 rfl (nodes_c (w0 := w4)   f8 (by omega)) ?_)
          rintro _ w5 ⟨rfl, hm4⟩
          have f9 := f5.ext hm4
          have f10 := f6.ext hm4
          have f11 := f7.ext hm4
          have f12 := f8.ext hm4
          have hE5 := hE4.ext hm4
          have hs5 := hm4.size
          refine OL.qb (Q1.lt rfl rfl) rfl rfl ?_
          intro b4 hb3
          refine OL.q (Q1.move rfl) rfl rfl ?_
          cases b4 with
          | true =>
            replace hb3 := of_decide_eq_true hb3.symm
            refine OL.q (Q1.move rfl) rfl rfl ?_
            refine OL.qb (Q1.lt rfl rfl) rfl rfl ?_
            intro b5 hb4
            refine OL.q (Q1.pick_t rfl rfl) rfl rfl ?_
            refine OL.nil ?_
            cases b5 with
            | true =>
              replace hb4 := of_decide_eq_true hb4.symm
              refine r_cond_t rfl ?_
              refine r_skip ?_
              refine r_seq ?_
              refine r_block ?_
              refine r_region ?_
              refine OL.q (Q1.move rfl) rfl rfl ?_
              refine OL.q (Q1.move rfl) rfl rfl ?_
              refine OL.q (Q1.move rfl) rfl rfl ?_
              refine OL.act rfl rfl (AW.callF cl31 rfl (edges_c (w0 := w5)  (((n : Nat) : Int)) f12 (by omega) (by first | omega | assumption) (by first | assumption | omega | (simp; done)) (by first | assumption | (simp; done))) ?_)
              rintro v2 w6 ⟨⟨gr2, h2, hg2⟩, hm5⟩
              have f13 := f9.ext hm5
              have f14 := f10.ext hm5
              have f15 := f11.ext hm5
              have f16 := f12.ext hm5
              have hE6 := hE5.ext hm5
              have hs6 := hm5.size
              have hle_2 := h2.le
              have hlt_2 := h2.lt
              have hecs := edgeCount_take (N := (gnodes (Ml.sortedM texts))) (i := n) (by omega)
              have hnle := nodeAt_len hel ((n : Nat) : Int)
              refine OL.q (Q1.lenSl Try.underlying49 (h2.sl) rfl) rfl rfl ?_
              refine OL.q (Q1.addI (((es + ((((nodeAt ((Ml.gnodes ((Ml.sortedM texts)))) (((n : Nat) : Int))).2)).length) : Nat) : Int)) rfl rfl (by omega)) rfl rfl ?_
              refine OL.q (Q1.assign rfl) rfl rfl ?_
              refine OL.nil ?_
              refine r_inBlock ?_
              refine r_region ?_
              refine OL.q (Q1.move rfl) rfl rfl ?_
              refine OL.q (Q1.addI (((n + 1 : Nat) : Int)) rfl rfl (by omega)) rfl rfl ?_
              refine OL.q (Q1.assign rfl) rfl rfl ?_
              refine OL.nil ?_
              exact (ih1 _ _ _ ⟨(es + ((((nodeAt ((Ml.gnodes ((Ml.sortedM texts)))) (((n : Nat) : Int))).2)).length) : Nat), (n + 1 : Nat), rfl, rfl, hE6, (by omega), f13, f14, f15, f16, (by first | omega | (exfalso; omega)), (by first | omega | (exfalso; omega)), (by first | omega | (exfalso; omega))⟩ (by omega)).sub ⟨rfl, rfl, rfl, trivial⟩
            | false =>
              replace hb4 := of_decide_eq_false hb4.symm
              refine r_cond_f rfl ?_
              refine r_exit rfl ?_
              refine r_seq ?_
              refine r_region ?_
              refine OL.q (Q1.move rfl) rfl rfl ?_
              have hec := edgeCount_all (N := (gnodes (Ml.sortedM texts))) (i := n) (by omega)
              refine OL.act rfl rfl (AW.callF cl20 rfl (encode_c (w0 := w5)   f12 (by omega) (by first | assumption | omega | (simp; done)) (by first | assumption | (simp; done)) (by first | assumption | (simp; done)) (by first | assumption | omega | (simp [bodyB, putN_len]; done))) ?_)
              rintro _ w6 ⟨v2, _, rfl, ⟨gr2, h2, hg2⟩, rfl, hm5⟩
              have f13 := f9.ext hm5
              have f14 := f10.ext hm5
              have f15 := f11.ext hm5
              have f16 := f12.ext hm5
              have hE6 := hE5.ext hm5
              have hs6 := hm5.size
              have hle_2 := h2.le
              have hlt_2 := h2.lt
              have := encA_lenE ((Ml.gnodes ((Ml.sortedM texts)))) (by first | assumption | omega | (simp [bodyB, putN_len]; done))
              refine OL.q (Q1.move rfl) rfl rfl ?_
              refine OL.q (Q1.extract rfl rfl) rfl rfl ?_
              refine OL.q (Q1.extract rfl rfl) rfl rfl ?_
              refine OL.q (Q1.assign rfl) rfl rfl ?_
              refine OL.q (Q1.assign rfl) rfl rfl ?_
              refine OL.nil ?_
              refine r_seq ?_
              refine r_region ?_
              refine OL.q (Q1.move rfl) rfl rfl ?_
              refine OL.qb (Q1.eq rfl rfl) rfl rfl ?_
              intro b6 hb5
              obtain rfl : b6 = true := hb5.trans (by exact beq_iff_eq.2 ((errA_img hig).trans hig))
              refine OL.q (Q1.move rfl) rfl rfl ?_
              refine OL.q (Q1.move rfl) rfl rfl ?_
              refine OL.q (Q1.lenSl Try.underlying25 (h2.sl) rfl) rfl rfl ?_
              refine OL.q (Q1.move rfl) rfl rfl ?_
              refine OL.act rfl rfl (AW.callF cl30 rfl (nodes_c (w0 := w6)   f16 (by omega)) ?_)
              rintro _ w7 ⟨rfl, hm6⟩
              have hl2 := h2.lt
              have f17 := f13.ext hm6
              have f18 := f14.ext hm6
              have f19 := f15.ext hm6
              have f20 := f16.ext hm6
              have f21 := h2.ext hm6
              have hE7 := hE6.ext hm6
              have hs7 := hm6.size
              refine OL.q (Q1.mulI (((3 * (((Ml.gnodes ((Ml.sortedM texts)))).length) : Nat) : Int)) rfl rfl (by omega)) rfl rfl ?_
              refine OL.q (Q1.addI (((10 + (3 * (((Ml.gnodes ((Ml.sortedM texts)))).length)) : Nat) : Int)) rfl rfl (by omega)) rfl rfl ?_
              refine OL.q (Q1.move rfl) rfl rfl ?_
              refine OL.q (Q1.mulI (((6 * es : Nat) : Int)) rfl rfl (by omega)) rfl rfl ?_
              refine OL.q (Q1.addI ((((10 + (3 * (((Ml.gnodes ((Ml.sortedM texts)))).length))) + (6 * es) : Nat) : Int)) rfl rfl (by omega)) rfl rfl ?_
              refine OL.qb (Q1.eq rfl rfl) rfl rfl ?_
              intro b7 hb6
              obtain rfl : b7 = true := hb6.trans (by exact beq_iff_eq.2 (by rw [encA_img hig]; omega))
              refine OL.q (Q1.pick_t rfl rfl) rfl rfl ?_
              refine OL.q (Q1.move rfl) rfl rfl ?_
              refine OL.q (Q1.move rfl) rfl rfl ?_
              refine OL.q (Q1.move rfl) rfl rfl ?_
              refine OL.act rfl rfl (AW.callF cl30 rfl (nodes_c (w0 := w7)   f20 (by omega)) ?_)
              rintro _ w8 ⟨rfl, hm7⟩
              have hl3 := f21.lt
              have f22 := f17.ext hm7
              have f23 := f18.ext hm7
              have f24 := f19.ext hm7
              have f25 := f20.ext hm7
              have f26 := f21.ext hm7
              have hE8 := hE7.ext hm7
              have hs8 := hm7.size
              refine OL.q (Q1.subI (((((((Ml.gnodes ((Ml.sortedM texts)))).length : Nat) : Int)) - 1)) rfl rfl (by omega)) rfl rfl ?_
              refine OL.qb (Q1.ge rfl rfl) rfl rfl ?_
              intro b8 hb7
              obtain rfl : b8 = true := hb7.trans (by exact decide_eq_true (by omega))
              refine OL.q (Q1.pick_t rfl rfl) rfl rfl ?_
              refine OL.q (Q1.move rfl) rfl rfl ?_
              refine OL.act rfl rfl (AW.callF cl14 rfl (awake9_c (w0 := w8)   ) ?_)
              rintro _ w9 ⟨⟨_, rfl, rfl⟩, hm8⟩
              have hl4 := f26.lt
              have f27 := f22.ext hm8
              have f28 := f23.ext hm8
              have f29 := f24.ext hm8
              have f30 := f25.ext hm8
              have f31 := f26.ext hm8
              have hE9 := hE8.ext hm8
              have hs9 := hm8.size
              refine OL.q (Q1.pick_t rfl rfl) rfl rfl ?_
              refine OL.q (Q1.assign rfl) rfl rfl ?_
              refine OL.nil ?_
              refine r_ret1 Try.func7 rfl rfl ?_
              exact Ret.mk ⟨⟨_, (by rfl), rfl⟩, hE9⟩
          | false =>
            replace hb3 := of_decide_eq_false hb3.symm
            refine OL.sk rfl rfl ?_
            refine OL.sk rfl rfl ?_
            refine OL.q (Q1.pick_f rfl rfl) rfl rfl ?_
            refine OL.nil ?_
            refine r_cond_f rfl ?_
            refine r_exit rfl ?_
            refine r_seq ?_
            refine r_region ?_
            refine OL.q (Q1.move rfl) rfl rfl ?_
            have hec := edgeCount_all (N := (gnodes (Ml.sortedM texts))) (i := n) (by omega)
            refine OL.act rfl rfl (AW.callF cl20 rfl (encode_c (w0 := w5)   f12 (by omega) (by first | assumption | omega | (simp; done)) (by first | assumption | (simp; done)) (by first | assumption | (simp; done)) (by first | assumption | omega | (simp [bodyB, putN_len]; done))) ?_)
            rintro _ w6 ⟨v2, _, rfl, ⟨gr2, h2, hg2⟩, rfl, hm5⟩
            have f13 := f9.ext hm5
            have f14 := f10.ext hm5
            have f15 := f11.ext hm5
            have f16 := f12.ext hm5
            have hE6 := hE5.ext hm5
            have hs6 := hm5.size
            have hle_2 := h2.le
            have hlt_2 := h2.lt
            have := encA_lenE ((Ml.gnodes ((Ml.sortedM texts)))) (by first | assumption | omega | (simp [bodyB, putN_len]; done))
            refine OL.q (Q1.move rfl) rfl rfl ?_
            refine OL.q (Q1.extract rfl rfl) rfl rfl ?_
            refine OL.q (Q1.extract rfl rfl) rfl rfl ?_
            refine OL.q (Q1.assign rfl) rfl rfl ?_
            refine OL.q (Q1.assign rfl) rfl rfl ?_
            refine OL.nil ?_
            refine r_seq ?_
            refine r_region ?_
            refine OL.q (Q1.move rfl) rfl rfl ?_
            refine OL.qb (Q1.eq rfl rfl) rfl rfl ?_
            intro b5 hb4
            obtain rfl : b5 = true := hb4.trans (by exact beq_iff_eq.2 ((errA_img hig).trans hig))
            refine OL.q (Q1.move rfl) rfl rfl ?_
            refine OL.q (Q1.move rfl) rfl rfl ?_
            refine OL.q (Q1.lenSl Try.underlying25 (h2.sl) rfl) rfl rfl ?_
            refine OL.q (Q1.move rfl) rfl rfl ?_
            refine OL.act rfl rfl (AW.callF cl30 rfl (nodes_c (w0 := w6)   f16 (by omega)) ?_)
            rintro _ w7 ⟨rfl, hm6⟩
            have hl2 := h2.lt
            have f17 := f13.ext hm6
            have f18 := f14.ext hm6
            have f19 := f15.ext hm6
            have f20 := f16.ext hm6
            have f21 := h2.ext hm6
            have hE7 := hE6.ext hm6
            have hs7 := hm6.size
            refine OL.q (Q1.mulI (((3 * (((Ml.gnodes ((Ml.sortedM texts)))).length) : Nat) : Int)) rfl rfl (by omega)) rfl rfl ?_
            refine OL.q (Q1.addI (((10 + (3 * (((Ml.gnodes ((Ml.sortedM texts)))).length)) : Nat) : Int)) rfl rfl (by omega)) rfl rfl ?_
            refine OL.q (Q1.move rfl) rfl rfl ?_
            refine OL.q (Q1.mulI (((6 * es : Nat) : Int)) rfl rfl (by omega)) rfl rfl ?_
            refine OL.q (Q1.addI ((((10 + (3 * (((Ml.gnodes ((Ml.sortedM texts)))).length))) + (6 * es) : Nat) : Int)) rfl rfl (by omega)) rfl rfl ?_
            refine OL.qb (Q1.eq rfl rfl) rfl rfl ?_
            intro b6 hb5
            obtain rfl : b6 = true := hb5.trans (by exact beq_iff_eq.2 (by rw [encA_img hig]; omega))
            refine OL.q (Q1.pick_t rfl rfl) rfl rfl ?_
            refine OL.q (Q1.move rfl) rfl rfl ?_
            refine OL.q (Q1.move rfl) rfl rfl ?_
            refine OL.q (Q1.move rfl) rfl rfl ?_
            refine OL.act rfl rfl (AW.callF cl30 rfl (nodes_c (w0 := w7)   f20 (by omega)) ?_)
            rintro _ w8 ⟨rfl, hm7⟩
            have hl3 := f21.lt
            have f22 := f17.ext hm7
            have f23 := f18.ext hm7
            have f24 := f19.ext hm7
            have f25 := f20.ext hm7
            have f26 := f21.ext hm7
            have hE8 := hE7.ext hm7
            have hs8 := hm7.size
            refine OL.q (Q1.subI (((((((Ml.gnodes ((Ml.sortedM texts)))).length : Nat) : Int)) - 1)) rfl rfl (by omega)) rfl rfl ?_
            refine OL.qb (Q1.ge rfl rfl) rfl rfl ?_
            intro b7 hb6
            obtain rfl : b7 = true := hb6.trans (by exact decide_eq_true (by omega))
            refine OL.q (Q1.pick_t rfl rfl) rfl rfl ?_
            refine OL.q (Q1.move rfl) rfl rfl ?_
            refine OL.act rfl rfl (AW.callF cl14 rfl (awake9_c (w0 := w8)   ) ?_)
            rintro _ w9 ⟨⟨_, rfl, rfl⟩, hm8⟩
            have hl4 := f26.lt
            have f27 := f22.ext hm8
            have f28 := f23.ext hm8
            have f29 := f24.ext hm8
            have f30 := f25.ext hm8
            have f31 := f26.ext hm8
            have hE9 := hE8.ext hm8
            have hs9 := hm8.size
            refine OL.q (Q1.pick_t rfl rfl) rfl rfl ?_
            refine OL.q (Q1.assign rfl) rfl rfl ?_
            refine OL.nil ?_
            refine r_ret1 Try.func7 rfl rfl ?_
            exact Ret.mk ⟨⟨_, (by rfl), rfl⟩, hE9⟩
end Go.Proofs
