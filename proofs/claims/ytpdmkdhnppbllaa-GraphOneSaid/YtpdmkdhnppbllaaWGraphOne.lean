/-
  The walk through the law GraphOne.
-/
import Derived.Test.YtpdmkdhnppbllaaWAwake
set_option linter.unusedVariables false
set_option linter.unusedSimpArgs false
namespace Go.Proofs
open Go.Ik Go.Ml
set_option maxRecDepth 20000 in
set_option maxHeartbeats 4000000 in
theorem GraphOne_c {w0 : World}  (w : Str)  :
    Calls Try.prog 4 #[strV w] w0 (Ret fun rv w1 => (∃ rb : Bool, rb = true ∧ rv = .bool rb) ∧ Ext w0 w1) := by
  have hE0 : Ext w0 w0 := Mod.refl _ _
  refine calls_enter Try.func4 rfl Try.ntmps4 rfl ?_
  refine r_seq ?_
  refine r_region ?_
  refine OL.q (Q1.assign rfl) rfl rfl ?_
  refine OL.nil ?_
  refine r_seq ?_
  refine r_seq ?_
  refine r_region ?_
  refine OL.q (Q1.move rfl) rfl rfl ?_
  refine OL.q (Q1.lenS Try.underlying9 rfl) rfl rfl ?_
  refine OL.qb (Q1.gt rfl rfl) rfl rfl ?_
  intro b1 hb1
  refine OL.q (Q1.move rfl) rfl rfl ?_
  cases b1 with
  | true =>
    replace hb1 := of_decide_eq_true hb1.symm
    refine OL.sk rfl rfl ?_
    refine OL.sk rfl rfl ?_
    refine OL.sk rfl rfl ?_
    refine OL.q (Q1.pick_t rfl rfl) rfl rfl ?_
    refine OL.nil ?_
    refine r_cond_t rfl ?_
    refine r_seq ?_
    refine r_region ?_
    refine OL.act rfl rfl (AW.callF cl12 rfl (awake8_c (w0 := w0)   ) ?_)
    rintro _ w1 ⟨⟨_, rfl, rfl⟩, hm1⟩
    have hE1 := hE0.ext hm1
    have hs1 := hm1.size
    refine OL.q (Q1.assign rfl) rfl rfl ?_
    refine OL.nil ?_
    refine r_ret1 Try.func4 rfl rfl ?_
    exact Ret.mk ⟨⟨_, (by rfl), rfl⟩, hE1⟩
  | false =>
    replace hb1 := of_decide_eq_false hb1.symm
    refine OL.q (Q1.move rfl) rfl rfl ?_
    refine OL.act rfl rfl (AW.callF cl25 rfl (tword_c (w0 := w0)  w (by first | assumption | omega)) ?_)
    rintro _ w1 ⟨⟨b2, hb2, rfl⟩, hm1⟩
    have hE1 := hE0.ext hm1
    have hs1 := hm1.size
    cases b2 with
    | true =>
      replace hb2 := hb2.symm
      refine OL.q (Q1.not rfl) rfl rfl ?_
      refine OL.q (Q1.pick_f rfl rfl) rfl rfl ?_
      refine OL.nil ?_
      refine r_cond_f rfl ?_
      refine r_skip ?_
      refine r_seq ?_
      refine r_region ?_
      refine OL.q (Q1.move rfl) rfl rfl ?_
      have hw : Ml.word w = true := by assumption
      have hg0 := Ml.good_one hw
      have hgok := Ml.gok_of hg0
      obtain ⟨hI, hgl, hel⟩ := hgok.edges
      have hol := Ml.one_len hw
      refine OL.act rfl rfl (AW.buildSlice [strV w] Try.underlying22 ti9 rfl rfl rfl (by decide) ?_)
      intro w2 b3 hm2 hb3 hz1 hk1
      have hE2 := hE1.ext hm2
      have hs2 := hm2.size
      have hl1 := Sl.of_blk (enc := encS) hk1 ([w] : List Str) 1 rfl rfl (by unfold maxLen; omega)
      refine OL.act rfl rfl (AW.callF cl14 rfl (build_c (w0 := w2) (words := [w])  ((hl1).iv (Nat.zero_le _) (by omega)) (by (intro x hx; rw [List.mem_singleton.1 hx]; omega)) (by simp)) ?_)
      rintro _ w3 ⟨vg1, _, rfl, ⟨lo1, hi1, hgr_1, hlo1, hhi1⟩, rfl, hm3⟩
      have f1 := hl1.ext hm3
      have hE3 := hE2.ext hm3
      have hs3 := hm3.size
      have := Ml.goodL_range [w]
      refine OL.q (Q1.move rfl) rfl rfl ?_
      refine OL.q (Q1.extract rfl rfl) rfl rfl ?_
      refine OL.q (Q1.extract rfl rfl) rfl rfl ?_
      refine OL.q (Q1.assign rfl) rfl rfl ?_
      refine OL.q (Q1.assign rfl) rfl rfl ?_
      refine OL.nil ?_
      refine r_seq ?_
      refine r_region ?_
      refine OL.q (Q1.move rfl) rfl rfl ?_
      refine OL.act rfl rfl (AW.callF cl26 rfl (trunes_c (w0 := w3)  w (by first | assumption | omega | (simp; done))) ?_)
      rintro _ w4 ⟨v1, _, rfl, h1, ⟨b4, hb4, rfl⟩, hm4⟩
      have f2 := f1.ext hm4
      have f3 := hgr_1.ext hm4
      have hE4 := hE3.ext hm4
      have hs4 := hm4.size
      have hle_1 := h1.le
      have := Ml.runesM_len w
      refine OL.q (Q1.move rfl) rfl rfl ?_
      refine OL.q (Q1.extract rfl rfl) rfl rfl ?_
      refine OL.q (Q1.extract rfl rfl) rfl rfl ?_
      refine OL.q (Q1.assign rfl) rfl rfl ?_
      refine OL.q (Q1.assign rfl) rfl rfl ?_
      refine OL.nil ?_
      refine r_seq ?_
      refine r_seq ?_
      refine r_region ?_
      refine OL.q (Q1.move rfl) rfl rfl ?_
      refine OL.qb (Q1.ne rfl rfl) rfl rfl ?_
      intro b5 hb5
      obtain rfl : b5 = false := hb5.trans (by exact bne_eq_false_iff_eq.2 hg0)
      refine OL.q (Q1.move rfl) rfl rfl ?_
      refine OL.q (Q1.move rfl) rfl rfl ?_
      have hgr1 := f3
      rcases f3 with ⟨hv1, hN1⟩ | ⟨b6, vn1, nds1, hv1, hN1, hrw1, hsl1, hrel1⟩
      · exact absurd hN1 (by exact Ml.gnodes_ne hg0)
      · subst hv1
        have hnl1 := (All2.get hrel1).1
        refine OL.q (Q1.eqNil Try.underlying26 rfl rfl) rfl rfl ?_
        refine OL.q (Q1.pick_f rfl rfl) rfl rfl ?_
        refine OL.q (Q1.move rfl) rfl rfl ?_
        refine OL.q (Q1.move rfl) rfl rfl ?_
        refine OL.act rfl rfl (AW.callF cl18 rfl (nodes_c (w0 := w4)   hgr1 (by omega)) ?_)
        rintro _ w5 ⟨rfl, hm5⟩
        have f4 := f2.ext hm5
        have f5 := hgr1.ext hm5
        have f6 := h1.ext hm5
        have f7 := hrel1.ext hm5
        have f8 := hsl1.ext hm5
        have f9 := hrw1.ext hm5
        have hE5 := hE4.ext hm5
        have hs5 := hm5.size
        refine OL.q (Q1.move rfl) rfl rfl ?_
        refine OL.q (Q1.lenSl Try.underlying45 (f6) rfl) rfl rfl ?_
        refine OL.q (Q1.addI ((((((Ml.runesM w)).length) + 1 : Nat) : Int)) rfl rfl (by omega)) rfl rfl ?_
        refine OL.qb (Q1.ne rfl rfl) rfl rfl ?_
        intro b7 hb6
        obtain rfl : b7 = false := hb6.trans (by exact bne_eq_false_iff_eq.2 hol)
        refine OL.q (Q1.pick_f rfl rfl) rfl rfl ?_
        refine OL.nil ?_
        refine r_cond_f rfl ?_
        refine r_skip ?_
        refine r_seq ?_
        refine r_seq ?_
        refine r_region ?_
        refine OL.q (Q1.assign rfl) rfl rfl ?_
        refine OL.nil ?_
        refine r_block ?_
        refine r_loop (I := fun m E W => ∃ (i : Nat), E = [(3, ptr b6 0), (5, v1), (7, .int .i64 (((i : Nat) : Int)))] ∧ m = (Ml.runesM w).length + 1 - i ∧ Ext w0 W ∧ w5.heap.size ≤ W.heap.size ∧ Rw W lo1 hi1 b6 [vn1] ∧ Sl encN W (Iv lo1 hi1) vn1 nds1 ∧ NRel W (Iv lo1 hi1) nds1 ((Ml.gnodes [w])) ∧ Gr 0 W lo1 hi1 ((ptr b6 0)) ((Ml.gnodes [w])) ∧ Sl encRn W (Iv w3.heap.size w4.heap.size) v1 ((Ml.runesM w))) ?_ ?_
        · refine ⟨_, _, ⟨(0 : Nat), rfl, rfl, hE5, Nat.le_refl _, f9, f8, f7, f5, f6⟩, ⟨rfl, rfl, rfl, trivial⟩⟩
        · rintro _ _ w6 ⟨i, rfl, rfl, hE6, hs6, f10, f11, f12, f13, f14⟩ ih1
          refine r_seq ?_
          refine r_seq ?_
          refine r_region ?_
          refine OL.q (Q1.move rfl) rfl rfl ?_
          refine OL.q (Q1.move rfl) rfl rfl ?_
          refine OL.q (Q1.lenSl Try.underlying45 (f14) rfl) rfl rfl ?_
          refine OL.qb (Q1.le rfl rfl) rfl rfl ?_
          intro b8 hb7
          refine OL.nil ?_
          cases b8 with
          | true =>
            replace hb7 := of_decide_eq_true hb7.symm
            refine r_cond_t rfl ?_
            refine r_skip ?_
            refine r_seq ?_
            refine r_block ?_
            refine r_seq ?_
            refine r_region ?_
            refine OL.q (Q1.move rfl) rfl rfl ?_
            obtain ⟨ho1, ho2, ho3⟩ := Ml.one_node hw (i := i) (by omega)
            refine OL.q (Q1.move rfl) rfl rfl ?_
            refine OL.act rfl rfl (AW.callF cl19 rfl (edges_c (w0 := w6)  (((i : Nat) : Int)) f13 (by omega) (by first | omega | assumption) (by first | assumption | omega | (simp; done)) (by first | assumption | (simp; done))) ?_)
            rintro v2 w7 ⟨⟨gr1, h2, hg1⟩, hm6⟩
            have f15 := f10.ext hm6
            have f16 := f11.ext hm6
            have f17 := f12.ext hm6
            have f18 := f13.ext hm6
            have f19 := f14.ext hm6
            have hE7 := hE6.ext hm6
            have hs7 := hm6.size
            have hle_2 := h2.le
            refine OL.q (Q1.assign rfl) rfl rfl ?_
            refine OL.nil ?_
            refine r_seq ?_
            refine r_region ?_
            refine OL.q (Q1.move rfl) rfl rfl ?_
            refine OL.q (Q1.move rfl) rfl rfl ?_
            refine OL.act rfl rfl (AW.callF cl20 rfl (final_c (w0 := w7)  (((i : Nat) : Int)) f18 (by omega) (by first | omega | assumption) (by first | assumption | omega | (simp; done))) ?_)
            rintro _ w8 ⟨⟨b9, hb8, rfl⟩, hm7⟩
            have hl2 := h2.lt
            have f20 := f15.ext hm7
            have f21 := f16.ext hm7
            have f22 := f17.ext hm7
            have f23 := f18.ext hm7
            have f24 := f19.ext hm7
            have f25 := h2.ext hm7
            have hE8 := hE7.ext hm7
            have hs8 := hm7.size
            refine OL.q (Q1.move rfl) rfl rfl ?_
            refine OL.q (Q1.move rfl) rfl rfl ?_
            refine OL.q (Q1.lenSl Try.underlying45 (f24) rfl) rfl rfl ?_
            refine OL.qb (Q1.eq rfl rfl) rfl rfl ?_
            intro b10 hb9
            refine OL.qb (Q1.neB Try.underlying4 rfl rfl) rfl rfl ?_
            intro b11 hb10
            obtain rfl : b11 = false := hb10.trans (by exact Ml.nbeqBB (by assumption) (by assumption) ho1)
            refine OL.q (Q1.move rfl) rfl rfl ?_
            refine OL.q (Q1.move rfl) rfl rfl ?_
            refine OL.q (Q1.move rfl) rfl rfl ?_
            refine OL.q (Q1.lenSl Try.underlying45 (f24) rfl) rfl rfl ?_
            refine OL.qb (Q1.lt rfl rfl) rfl rfl ?_
            intro b12 hb11
            refine OL.q (Q1.move rfl) rfl rfl ?_
            cases b12 with
            | true =>
              replace hb11 := of_decide_eq_true hb11.symm
              refine OL.q (Q1.move rfl) rfl rfl ?_
              refine OL.q (Q1.move rfl) rfl rfl ?_
              refine OL.q (Q1.move rfl) rfl rfl ?_
              obtain ⟨x1, b13, o1, hx1, hr1, hl3, hu1, hw1⟩ := Sl.at' (P := Try.prog) f24 Try.underlying45 ti21 encRn_len (k := .i64) (n := ((i : Nat) : Int)) (i) (by omega) (by first | assumption | omega)
              refine OL.q (Q1.indexAddr rfl rfl hr1) rfl rfl ?_
              refine OL.q (Q1.load1 ti21 rfl (fun _ e => e ▸ hw1)) rfl rfl ?_
              refine OL.q (Q1.move rfl) rfl rfl ?_
              refine OL.q (Q1.addI (((i + 1 : Nat) : Int)) rfl rfl (by omega)) rfl rfl ?_
              refine OL.q (Q1.build (vs := #[(0, (.int .i32 x1 : Value)), (1, (.int .i64 (((i + 1 : Nat) : Int)) : Value))]) (v := .agg #[.int .i32 x1, .int .i64 (((i + 1 : Nat) : Int))]) rfl (fun _ => by kernel_rfl)) rfl rfl ?_
              refine OL.act rfl rfl (AW.buildSlice [(.agg #[.int .i32 x1, .int .i64 (((i + 1 : Nat) : Int))] : Value)] Try.underlying39 ti49 rfl rfl rfl (by decide) ?_)
              intro w9 b14 hm8 hb12 hz2 hk2
              have hl4 := f25.lt
              have f26 := f20.ext hm8
              have f27 := f21.ext hm8
              have f28 := f22.ext hm8
              have f29 := f23.ext hm8
              have f30 := f24.ext hm8
              have f31 := f25.ext hm8
              have hE9 := hE8.ext hm8
              have hs9 := hm8.size
              have hl5 := Sl.of_blk (enc := encE) hk2 ([(Ed.mk x1 (((i + 1 : Nat) : Int)))] : List Ed) 1 rfl rfl (by unfold maxLen; omega)
              refine OL.act rfl rfl (AW.callF cl22 rfl (sameE_c (w0 := w9) (a := ((nodeAt ((Ml.gnodes [w])) (((i : Nat) : Int))).2)) (b := [(Ed.mk x1 (((i + 1 : Nat) : Int)))])  ((f31.sl).iv (Nat.zero_le _) (by omega)) ((hl5).iv (Nat.zero_le _) (by omega))) ?_)
              rintro _ w10 ⟨⟨b15, hb13, rfl⟩, hm9⟩
              have hl6 := f31.lt
              have f32 := f26.ext hm9
              have f33 := f27.ext hm9
              have f34 := f28.ext hm9
              have f35 := f29.ext hm9
              have f36 := f30.ext hm9
              have f37 := f31.ext hm9
              have f38 := hl5.ext hm9
              have hE10 := hE9.ext hm9
              have hs10 := hm9.size
              obtain rfl : b15 = true := hb13.trans (by exact decide_eq_true (ho2 _ hx1))
              refine OL.q (Q1.not rfl) rfl rfl ?_
              refine OL.q (Q1.pick_t rfl rfl) rfl rfl ?_
              refine OL.q (Q1.pick_f rfl rfl) rfl rfl ?_
              refine OL.q (Q1.move rfl) rfl rfl ?_
              refine OL.q (Q1.move rfl) rfl rfl ?_
              refine OL.q (Q1.move rfl) rfl rfl ?_
              refine OL.q (Q1.lenSl Try.underlying45 (f36) rfl) rfl rfl ?_
              refine OL.qb (Q1.eq rfl rfl) rfl rfl ?_
              intro b16 hb14
              refine OL.q (Q1.move rfl) rfl rfl ?_
              cases b16 with
              | true =>
                replace hb14 := eq_of_beq hb14.symm
                refine OL.q (Q1.move rfl) rfl rfl ?_
                refine OL.q (Q1.lenSl Try.underlying39 (f37.sl) rfl) rfl rfl ?_
                refine OL.qb (Q1.ne rfl rfl) rfl rfl ?_
                intro b17 hb15
                obtain rfl : b17 = false := hb15.trans (by exact bne_eq_false_iff_eq.2 (by rw [ho3 (by omega)]; rfl))
                refine OL.q (Q1.pick_t rfl rfl) rfl rfl ?_
                refine OL.q (Q1.pick_f rfl rfl) rfl rfl ?_
                refine OL.nil ?_
                refine r_cond_f rfl ?_
                refine r_skip ?_
                refine r_inBlock ?_
                refine r_region ?_
                refine OL.q (Q1.move rfl) rfl rfl ?_
                refine OL.q (Q1.addI (((i + 1 : Nat) : Int)) rfl rfl (by omega)) rfl rfl ?_
                refine OL.q (Q1.assign rfl) rfl rfl ?_
                refine OL.nil ?_
                exact (ih1 _ _ _ ⟨(i + 1 : Nat), rfl, rfl, hE10, (by omega), f32, f33, f34, f35, f36⟩ (by omega)).sub ⟨rfl, rfl, rfl, trivial⟩
              | false =>
                replace hb14 := ne_of_beq_false hb14.symm
                refine OL.sk rfl rfl ?_
                refine OL.sk rfl rfl ?_
                refine OL.sk rfl rfl ?_
                refine OL.q (Q1.pick_f rfl rfl) rfl rfl ?_
                refine OL.q (Q1.pick_f rfl rfl) rfl rfl ?_
                refine OL.nil ?_
                refine r_cond_f rfl ?_
                refine r_skip ?_
                refine r_inBlock ?_
                refine r_region ?_
                refine OL.q (Q1.move rfl) rfl rfl ?_
                refine OL.q (Q1.addI (((i + 1 : Nat) : Int)) rfl rfl (by omega)) rfl rfl ?_
                refine OL.q (Q1.assign rfl) rfl rfl ?_
                refine OL.nil ?_
                exact (ih1 _ _ _ ⟨(i + 1 : Nat), rfl, rfl, hE10, (by omega), f32, f33, f34, f35, f36⟩ (by omega)).sub ⟨rfl, rfl, rfl, trivial⟩
            | false =>
              replace hb11 := of_decide_eq_false hb11.symm
              refine OL.sk rfl rfl ?_
              refine OL.sk rfl rfl ?_
              refine OL.sk rfl rfl ?_
              refine OL.sk rfl rfl ?_
              refine OL.sk rfl rfl ?_
              refine OL.sk rfl rfl ?_
              refine OL.sk rfl rfl ?_
              refine OL.sk rfl rfl ?_
              refine OL.sk rfl rfl ?_
              refine OL.sk rfl rfl ?_
              refine OL.sk rfl rfl ?_
              refine OL.q (Q1.pick_f rfl rfl) rfl rfl ?_
              refine OL.q (Q1.pick_f rfl rfl) rfl rfl ?_
              refine OL.q (Q1.move rfl) rfl rfl ?_
              refine OL.q (Q1.move rfl) rfl rfl ?_
              refine OL.q (Q1.move rfl) rfl rfl ?_
              refine OL.q (Q1.lenSl Try.underlying45 (f24) rfl) rfl rfl ?_
              refine OL.qb (Q1.eq rfl rfl) rfl rfl ?_
              intro b13 hb12
              refine OL.q (Q1.move rfl) rfl rfl ?_
              cases b13 with
              | true =>
                replace hb12 := eq_of_beq hb12.symm
                refine OL.q (Q1.move rfl) rfl rfl ?_
                refine OL.q (Q1.lenSl Try.underlying39 (f25.sl) rfl) rfl rfl ?_
                refine OL.qb (Q1.ne rfl rfl) rfl rfl ?_
                intro b14 hb13
                obtain rfl : b14 = false := hb13.trans (by exact bne_eq_false_iff_eq.2 (by rw [ho3 (by omega)]; rfl))
                refine OL.q (Q1.pick_t rfl rfl) rfl rfl ?_
                refine OL.q (Q1.pick_f rfl rfl) rfl rfl ?_
                refine OL.nil ?_
                refine r_cond_f rfl ?_
                refine r_skip ?_
                refine r_inBlock ?_
                refine r_region ?_
                refine OL.q (Q1.move rfl) rfl rfl ?_
                refine OL.q (Q1.addI (((i + 1 : Nat) : Int)) rfl rfl (by omega)) rfl rfl ?_
                refine OL.q (Q1.assign rfl) rfl rfl ?_
                refine OL.nil ?_
                exact (ih1 _ _ _ ⟨(i + 1 : Nat), rfl, rfl, hE8, (by omega), f20, f21, f22, f23, f24⟩ (by omega)).sub ⟨rfl, rfl, rfl, trivial⟩
              | false =>
                replace hb12 := ne_of_beq_false hb12.symm
                refine OL.sk rfl rfl ?_
                refine OL.sk rfl rfl ?_
                refine OL.sk rfl rfl ?_
                refine OL.q (Q1.pick_f rfl rfl) rfl rfl ?_
                refine OL.q (Q1.pick_f rfl rfl) rfl rfl ?_
                refine OL.nil ?_
                refine r_cond_f rfl ?_
                refine r_skip ?_
                refine r_inBlock ?_
                refine r_region ?_
                refine OL.q (Q1.move rfl) rfl rfl ?_
                refine OL.q (Q1.addI (((i + 1 : Nat) : Int)) rfl rfl (by omega)) rfl rfl ?_
                refine OL.q (Q1.assign rfl) rfl rfl ?_
                refine OL.nil ?_
                exact (ih1 _ _ _ ⟨(i + 1 : Nat), rfl, rfl, hE8, (by omega), f20, f21, f22, f23, f24⟩ (by omega)).sub ⟨rfl, rfl, rfl, trivial⟩
          | false =>
            replace hb7 := of_decide_eq_false hb7.symm
            refine r_cond_f rfl ?_
            refine r_exit rfl ?_
            refine r_seq ?_
            refine r_region ?_
            refine OL.act rfl rfl (AW.callF cl12 rfl (awake8_c (w0 := w6)   ) ?_)
            rintro _ w7 ⟨⟨_, rfl, rfl⟩, hm6⟩
            have f15 := f10.ext hm6
            have f16 := f11.ext hm6
            have f17 := f12.ext hm6
            have f18 := f13.ext hm6
            have f19 := f14.ext hm6
            have hE7 := hE6.ext hm6
            have hs7 := hm6.size
            refine OL.q (Q1.assign rfl) rfl rfl ?_
            refine OL.nil ?_
            refine r_ret1 Try.func4 rfl rfl ?_
            exact Ret.mk ⟨⟨_, (by rfl), rfl⟩, hE7⟩
    | false =>
      replace hb2 := hb2.symm
      refine OL.q (Q1.not rfl) rfl rfl ?_
      refine OL.q (Q1.pick_f rfl rfl) rfl rfl ?_
      refine OL.nil ?_
      refine r_cond_t rfl ?_
      refine r_seq ?_
      refine r_region ?_
      refine OL.act rfl rfl (AW.callF cl12 rfl (awake8_c (w0 := w1)   ) ?_)
      rintro _ w2 ⟨⟨_, rfl, rfl⟩, hm2⟩
      have hE2 := hE1.ext hm2
      have hs2 := hm2.size
      refine OL.q (Q1.assign rfl) rfl rfl ?_
      refine OL.nil ?_
      refine r_ret1 Try.func4 rfl rfl ?_
      exact Ret.mk ⟨⟨_, (by rfl), rfl⟩, hE2⟩
end Go.Proofs
