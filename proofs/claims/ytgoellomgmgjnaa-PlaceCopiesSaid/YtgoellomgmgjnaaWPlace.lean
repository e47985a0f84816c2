/-
  Walks through package place.
-/
import Derived.Test.YtgoellomgmgjnaaWPart
set_option linter.unusedVariables false
set_option linter.unusedSimpArgs false
namespace Go.Proofs
open Go.Ik Go.Ml
set_option maxHeartbeats 4000000 in
theorem within_c {w0 : World} (x : Int) (least : Int) (most : Int) (h_x : I64 x) (h_least : I64 least) (h_most : I64 most) :
    Calls Try.prog 18 #[.int .i64 x, .int .i64 least, .int .i64 most] w0 (Ret fun rv w1 => (∃ rb : Bool, rb = (Ml.within x least most) ∧ rv = .bool rb) ∧ Ext w0 w1) := by
  have hE0 : Ext w0 w0 := Mod.refl _ _
  refine calls_enter Try.func18 rfl Try.ntmps18 rfl ?_
  refine r_seq ?_
  refine r_region ?_
  refine OL.q (Q1.assign rfl) rfl rfl ?_
  refine OL.nil ?_
  refine r_seq ?_
  refine r_region ?_
  refine OL.q (Q1.move rfl) rfl rfl ?_
  refine OL.q (Q1.move rfl) rfl rfl ?_
  refine OL.qb (Q1.ge rfl rfl) rfl rfl ?_
  intro b1 hb1
  refine OL.q (Q1.move rfl) rfl rfl ?_
  cases b1 with
  | true =>
    replace hb1 := of_decide_eq_true hb1.symm
    refine OL.q (Q1.move rfl) rfl rfl ?_
    refine OL.q (Q1.move rfl) rfl rfl ?_
    refine OL.qb (Q1.le rfl rfl) rfl rfl ?_
    intro b2 hb2
    refine OL.q (Q1.pick_t rfl rfl) rfl rfl ?_
    refine OL.q (Q1.assign rfl) rfl rfl ?_
    refine OL.nil ?_
    refine r_ret1 Try.func18 rfl rfl ?_
    exact Ret.mk ⟨⟨_, (by first | simp only [Ml.within, *]; simp | (exfalso; omega)), rfl⟩, hE0⟩
  | false =>
    replace hb1 := of_decide_eq_false hb1.symm
    refine OL.sk rfl rfl ?_
    refine OL.sk rfl rfl ?_
    refine OL.sk rfl rfl ?_
    refine OL.q (Q1.pick_f rfl rfl) rfl rfl ?_
    refine OL.q (Q1.assign rfl) rfl rfl ?_
    refine OL.nil ?_
    refine r_ret1 Try.func18 rfl rfl ?_
    exact Ret.mk ⟨⟨_, (by first | simp only [Ml.within, *]; simp | (exfalso; omega)), rfl⟩, hE0⟩
set_option maxHeartbeats 4000000 in
theorem may_c {w0 : World} {c : Cfg} {v_c_words : Value} {v_c_cuts : Value} (h_c_words : Sl encS w0 (Iv 0 w0.heap.size) v_c_words c.words) (h_c_cuts : Sl encKey w0 (Iv 0 w0.heap.size) v_c_cuts c.cuts) (h_c : Cfg.Ok c) :
    Calls Try.prog 6 #[.agg #[v_c_words, v_c_cuts, .int .i64 c.workers, .int .i64 c.copies, .int .i64 c.slots, .int .i64 c.batch, .int .i64 c.lease, .int .i64 c.hedge, .int .i64 c.first, .int .i64 c.cap, .int .i64 c.jitter, .int .i64 c.net]] w0 (Ret fun rv w1 => (∃ rb : Bool, rb = (Ml.may c) ∧ rv = .bool rb) ∧ Ext w0 w1) := by
  have hE0 : Ext w0 w0 := Mod.refl _ _
  have hle1 := h_c_words.le
  have hle2 := h_c_cuts.le
  have hc1 := h_c.workers
  have hc2 := h_c.copies
  have hc3 := h_c.slots
  have hc4 := h_c.batch
  have hc5 := h_c.lease
  have hc6 := h_c.hedge
  have hc7 := h_c.first
  have hc8 := h_c.cap
  have hc9 := h_c.jitter
  have hc10 := h_c.net
  refine calls_enter Try.func6 rfl Try.ntmps6 rfl ?_
  refine r_seq ?_
  refine r_region ?_
  refine OL.act rfl rfl (AW.box [v_c_words, v_c_cuts, .int .i64 c.workers, .int .i64 c.copies, .int .i64 c.slots, .int .i64 c.batch, .int .i64 c.lease, .int .i64 c.hedge, .int .i64 c.first, .int .i64 c.cap, .int .i64 c.jitter, .int .i64 c.net] rfl rfl ?_)
  intro w1 b1 hm1 hb1 hz1 hk1
  have f1 := h_c_words.ext hm1
  have f2 := h_c_cuts.ext hm1
  have hE1 := hE0.ext hm1
  have hs1 := hm1.size
  refine OL.q (Q1.assign rfl) rfl rfl ?_
  refine OL.nil ?_
  refine r_seq ?_
  refine r_seq ?_
  refine r_region ?_
  refine OL.q (Q1.fieldAddr fl25_0 rfl) rfl rfl ?_
  refine OL.q (Q1.load1 ti22 rfl (fun _ e => e ▸ (hk1.cell 0 _ rfl))) rfl rfl ?_
  refine OL.act rfl rfl (AW.callF cl16 rfl (lgood_c (w0 := w1) (words := c.words)  ((f1).iv (Nat.zero_le _) (by omega)) (by exact h_c.words)) ?_)
  rintro _ w2 ⟨rfl, hm2⟩
  have f3 := f1.ext hm2
  have f4 := f2.ext hm2
  have f5 := hk1.ext hm2
  have hE2 := hE1.ext hm2
  have hs2 := hm2.size
  refine OL.qb (Q1.ne rfl rfl) rfl rfl ?_
  intro b2 hb2
  refine OL.q (Q1.move rfl) rfl rfl ?_
  cases b2 with
  | true =>
    replace hb2 := bne_iff_ne.1 hb2.symm
    refine OL.sk rfl rfl ?_
    refine OL.sk rfl rfl ?_
    refine OL.sk rfl rfl ?_
    refine OL.sk rfl rfl ?_
    refine OL.q (Q1.pick_t rfl rfl) rfl rfl ?_
    refine OL.nil ?_
    refine r_cond_t rfl ?_
    refine r_seq ?_
    refine r_region ?_
    refine OL.q (Q1.assign rfl) rfl rfl ?_
    refine OL.nil ?_
    refine r_ret1 Try.func6 rfl rfl ?_
    exact Ret.mk ⟨⟨_, (by first | simp [Ml.may, *] | (exfalso; omega)), rfl⟩, hE2⟩
  | false =>
    replace hb2 := bne_eq_false_iff_eq.1 hb2.symm
    refine OL.q (Q1.fieldAddr fl25_1 rfl) rfl rfl ?_
    refine OL.q (Q1.load1 ti23 rfl (fun _ e => e ▸ (f5.cell 1 _ rfl))) rfl rfl ?_
    refine OL.act rfl rfl (AW.callF cl17 rfl (pgood_c (w0 := w2) (cuts := c.cuts)  ((f4).iv (Nat.zero_le _) (by omega)) (by exact fun k hk => (h_c.cuts k hk).2)) ?_)
    rintro _ w3 ⟨rfl, hm3⟩
    have f6 := f3.ext hm3
    have f7 := f4.ext hm3
    have f8 := f5.ext hm3
    have hE3 := hE2.ext hm3
    have hs3 := hm3.size
    refine OL.qb (Q1.ne rfl rfl) rfl rfl ?_
    intro b3 hb3
    refine OL.q (Q1.pick_f rfl rfl) rfl rfl ?_
    refine OL.nil ?_
    cases b3 with
    | true =>
      replace hb3 := bne_iff_ne.1 hb3.symm
      refine r_cond_t rfl ?_
      refine r_seq ?_
      refine r_region ?_
      refine OL.q (Q1.assign rfl) rfl rfl ?_
      refine OL.nil ?_
      refine r_ret1 Try.func6 rfl rfl ?_
      exact Ret.mk ⟨⟨_, (by first | simp [Ml.may, *] | (exfalso; omega)), rfl⟩, hE3⟩
    | false =>
      replace hb3 := bne_eq_false_iff_eq.1 hb3.symm
      refine r_cond_f rfl ?_
      refine r_skip ?_
      refine r_seq ?_
      refine r_join (J := fun E W => ∃ (q3 : Bool), E = [(1, ptr b1 0), (3, .bool q3)] ∧ Ext w3 W ∧ (q3 = Ml.nodesM c)) ?_ ?_
      · rintro _ w4 ⟨q3, rfl, hm4, hj1⟩
        have f9 := f8.ext hm4
        have f10 := f6.ext hm4
        have f11 := f7.ext hm4
        have hE4 := hE3.ext hm4
        have hs4 := hm4.size
        refine r_seq ?_
        refine r_join (J := fun E W => ∃ (q4 : Bool), E = [(1, ptr b1 0), (3, .bool q3), (4, .bool q4)] ∧ Ext w4 W ∧ (q4 = Ml.sizesM c)) ?_ ?_
        · rintro _ w5 ⟨q4, rfl, hm5, hj2⟩
          have f12 := f9.ext hm5
          have f13 := f10.ext hm5
          have f14 := f11.ext hm5
          have hE5 := hE4.ext hm5
          have hs5 := hm5.size
          refine r_seq ?_
          refine r_join (J := fun E W => ∃ (q5 : Bool), E = [(3, .bool q3), (4, .bool q4), (5, .bool q5)] ∧ Ext w5 W ∧ (q5 = Ml.timesM c)) ?_ ?_
          · rintro _ w6 ⟨q5, rfl, hm6, hj3⟩
            have hE6 := hE5.ext hm6
            have hs6 := hm6.size
            refine r_seq ?_
            refine r_region ?_
            refine OL.q (Q1.move rfl) rfl rfl ?_
            refine OL.q (Q1.move rfl) rfl rfl ?_
            cases q3 with
            | true =>
              replace hj1 := hj1.symm
              refine OL.q (Q1.move rfl) rfl rfl ?_
              refine OL.q (Q1.pick_t rfl rfl) rfl rfl ?_
              refine OL.q (Q1.move rfl) rfl rfl ?_
              cases q4 with
              | true =>
                replace hj2 := hj2.symm
                refine OL.q (Q1.move rfl) rfl rfl ?_
                refine OL.q (Q1.pick_t rfl rfl) rfl rfl ?_
                refine OL.q (Q1.assign rfl) rfl rfl ?_
                refine OL.nil ?_
                refine r_ret1 Try.func6 rfl rfl ?_
                exact Ret.mk ⟨⟨_, (by first | simp [Ml.may, *] | (exfalso; omega)), rfl⟩, hE6⟩
              | false =>
                replace hj2 := hj2.symm
                refine OL.sk rfl rfl ?_
                refine OL.q (Q1.pick_f rfl rfl) rfl rfl ?_
                refine OL.q (Q1.assign rfl) rfl rfl ?_
                refine OL.nil ?_
                refine r_ret1 Try.func6 rfl rfl ?_
                exact Ret.mk ⟨⟨_, (by first | simp [Ml.may, *] | (exfalso; omega)), rfl⟩, hE6⟩
            | false =>
              replace hj1 := hj1.symm
              refine OL.sk rfl rfl ?_
              refine OL.q (Q1.pick_f rfl rfl) rfl rfl ?_
              refine OL.q (Q1.move rfl) rfl rfl ?_
              refine OL.sk rfl rfl ?_
              refine OL.q (Q1.pick_f rfl rfl) rfl rfl ?_
              refine OL.q (Q1.assign rfl) rfl rfl ?_
              refine OL.nil ?_
              refine r_ret1 Try.func6 rfl rfl ?_
              exact Ret.mk ⟨⟨_, (by first | simp [Ml.may, *] | (exfalso; omega)), rfl⟩, hE6⟩
          · intro hJ3
            have hj01 : Ext w5 w5 := Mod.refl _ _
            refine r_region ?_
            refine OL.q (Q1.fieldAddr fl25_6 rfl) rfl rfl ?_
            refine OL.q (Q1.load1 ti3 rfl (fun _ e => e ▸ (f12.cell 6 _ rfl))) rfl rfl ?_
            refine OL.act rfl rfl (AW.callF cl18 rfl (within_c (w0 := w5)  (c.lease) (1) (1000) (by first | assumption | omega) (by first | assumption | omega) (by first | assumption | omega)) ?_)
            rintro _ w7 ⟨⟨b4, hb4, rfl⟩, hm7⟩
            have f15 := f12.ext hm7
            have f16 := f13.ext hm7
            have f17 := f14.ext hm7
            have hE6 := hE5.ext hm7
            have hb5 := hj01.ext hm7
            have hs6 := hm7.size
            refine OL.q (Q1.move rfl) rfl rfl ?_
            cases b4 with
            | true =>
              replace hb4 := hb4.symm
              have := Ml.within_true hb4
              refine OL.q (Q1.fieldAddr fl25_7 rfl) rfl rfl ?_
              refine OL.q (Q1.load1 ti3 rfl (fun _ e => e ▸ (f15.cell 7 _ rfl))) rfl rfl ?_
              refine OL.act rfl rfl (AW.callF cl18 rfl (within_c (w0 := w7)  (c.hedge) (1) (1000) (by first | assumption | omega) (by first | assumption | omega) (by first | assumption | omega)) ?_)
              rintro _ w8 ⟨⟨b5, hb6, rfl⟩, hm8⟩
              have f18 := f15.ext hm8
              have f19 := f16.ext hm8
              have f20 := f17.ext hm8
              have hE7 := hE6.ext hm8
              have hb7 := hb5.ext hm8
              have hs7 := hm8.size
              refine OL.q (Q1.pick_t rfl rfl) rfl rfl ?_
              refine OL.q (Q1.move rfl) rfl rfl ?_
              cases b5 with
              | true =>
                replace hb6 := hb6.symm
                have := Ml.within_true hb6
                refine OL.q (Q1.fieldAddr fl25_8 rfl) rfl rfl ?_
                refine OL.q (Q1.load1 ti3 rfl (fun _ e => e ▸ (f18.cell 8 _ rfl))) rfl rfl ?_
                refine OL.act rfl rfl (AW.callF cl18 rfl (within_c (w0 := w8)  (c.first) (1) (10) (by first | assumption | omega) (by first | assumption | omega) (by first | assumption | omega)) ?_)
                rintro _ w9 ⟨⟨b6, hb8, rfl⟩, hm9⟩
                have f21 := f18.ext hm9
                have f22 := f19.ext hm9
                have f23 := f20.ext hm9
                have hE8 := hE7.ext hm9
                have hb9 := hb7.ext hm9
                have hs8 := hm9.size
                refine OL.q (Q1.pick_t rfl rfl) rfl rfl ?_
                refine OL.q (Q1.move rfl) rfl rfl ?_
                cases b6 with
                | true =>
                  replace hb8 := hb8.symm
                  have := Ml.within_true hb8
                  refine OL.q (Q1.fieldAddr fl25_9 rfl) rfl rfl ?_
                  refine OL.q (Q1.load1 ti3 rfl (fun _ e => e ▸ (f21.cell 9 _ rfl))) rfl rfl ?_
                  refine OL.q (Q1.fieldAddr fl25_8 rfl) rfl rfl ?_
                  refine OL.q (Q1.load1 ti3 rfl (fun _ e => e ▸ (f21.cell 8 _ rfl))) rfl rfl ?_
                  refine OL.act rfl rfl (AW.callF cl18 rfl (within_c (w0 := w9)  (c.cap) (c.first) (50) (by first | assumption | omega) (by first | assumption | omega) (by first | assumption | omega)) ?_)
                  rintro _ w10 ⟨⟨b7, hb10, rfl⟩, hm10⟩
                  have f24 := f21.ext hm10
                  have f25 := f22.ext hm10
                  have f26 := f23.ext hm10
                  have hE9 := hE8.ext hm10
                  have hb11 := hb9.ext hm10
                  have hs9 := hm10.size
                  refine OL.q (Q1.pick_t rfl rfl) rfl rfl ?_
                  refine OL.q (Q1.move rfl) rfl rfl ?_
                  cases b7 with
                  | true =>
                    replace hb10 := hb10.symm
                    have := Ml.within_true hb10
                    refine OL.q (Q1.fieldAddr fl25_10 rfl) rfl rfl ?_
                    refine OL.q (Q1.load1 ti3 rfl (fun _ e => e ▸ (f24.cell 10 _ rfl))) rfl rfl ?_
                    refine OL.act rfl rfl (AW.callF cl18 rfl (within_c (w0 := w10)  (c.jitter) (0) (10) (by first | assumption | omega) (by first | assumption | omega) (by first | assumption | omega)) ?_)
                    rintro _ w11 ⟨⟨b8, hb12, rfl⟩, hm11⟩
                    have f27 := f24.ext hm11
                    have f28 := f25.ext hm11
                    have f29 := f26.ext hm11
                    have hE10 := hE9.ext hm11
                    have hb13 := hb11.ext hm11
                    have hs10 := hm11.size
                    refine OL.q (Q1.pick_t rfl rfl) rfl rfl ?_
                    refine OL.q (Q1.assign rfl) rfl rfl ?_
                    refine OL.nil ?_
                    exact (hJ3 _ _ ⟨b8, rfl, hb13, (by simp only [Ml.timesM]; simp only [*, Bool.and_true, Bool.and_false, Bool.true_and, Bool.false_and])⟩).sub ⟨rfl, rfl, rfl, trivial⟩
                  | false =>
                    replace hb10 := hb10.symm
                    have := Ml.within_false hb10
                    refine OL.sk rfl rfl ?_
                    refine OL.sk rfl rfl ?_
                    refine OL.sk rfl rfl ?_
                    refine OL.q (Q1.pick_f rfl rfl) rfl rfl ?_
                    refine OL.q (Q1.assign rfl) rfl rfl ?_
                    refine OL.nil ?_
                    exact (hJ3 _ _ ⟨false, rfl, hb11, (by simp only [Ml.timesM]; simp only [*, Bool.and_true, Bool.and_false, Bool.true_and, Bool.false_and])⟩).sub ⟨rfl, rfl, rfl, trivial⟩
                | false =>
                  replace hb8 := hb8.symm
                  have := Ml.within_false hb8
                  refine OL.sk rfl rfl ?_
                  refine OL.sk rfl rfl ?_
                  refine OL.sk rfl rfl ?_
                  refine OL.sk rfl rfl ?_
                  refine OL.sk rfl rfl ?_
                  refine OL.q (Q1.pick_f rfl rfl) rfl rfl ?_
                  refine OL.q (Q1.move rfl) rfl rfl ?_
                  refine OL.sk rfl rfl ?_
                  refine OL.sk rfl rfl ?_
                  refine OL.sk rfl rfl ?_
                  refine OL.q (Q1.pick_f rfl rfl) rfl rfl ?_
                  refine OL.q (Q1.assign rfl) rfl rfl ?_
                  refine OL.nil ?_
                  exact (hJ3 _ _ ⟨false, rfl, hb9, (by simp only [Ml.timesM]; simp only [*, Bool.and_true, Bool.and_false, Bool.true_and, Bool.false_and])⟩).sub ⟨rfl, rfl, rfl, trivial⟩
              | false =>
                replace hb6 := hb6.symm
                have := Ml.within_false hb6
                refine OL.sk rfl rfl ?_
                refine OL.sk rfl rfl ?_
                refine OL.sk rfl rfl ?_
                refine OL.q (Q1.pick_f rfl rfl) rfl rfl ?_
                refine OL.q (Q1.move rfl) rfl rfl ?_
                refine OL.sk rfl rfl ?_
                refine OL.sk rfl rfl ?_
                refine OL.sk rfl rfl ?_
                refine OL.sk rfl rfl ?_
                refine OL.sk rfl rfl ?_
                refine OL.q (Q1.pick_f rfl rfl) rfl rfl ?_
                refine OL.q (Q1.move rfl) rfl rfl ?_
                refine OL.sk rfl rfl ?_
                refine OL.sk rfl rfl ?_
                refine OL.sk rfl rfl ?_
                refine OL.q (Q1.pick_f rfl rfl) rfl rfl ?_
                refine OL.q (Q1.assign rfl) rfl rfl ?_
                refine OL.nil ?_
                exact (hJ3 _ _ ⟨false, rfl, hb7, (by simp only [Ml.timesM]; simp only [*, Bool.and_true, Bool.and_false, Bool.true_and, Bool.false_and])⟩).sub ⟨rfl, rfl, rfl, trivial⟩
            | false =>
              replace hb4 := hb4.symm
              have := Ml.within_false hb4
              refine OL.sk rfl rfl ?_
              refine OL.sk rfl rfl ?_
              refine OL.sk rfl rfl ?_
              refine OL.q (Q1.pick_f rfl rfl) rfl rfl ?_
              refine OL.q (Q1.move rfl) rfl rfl ?_
              refine OL.sk rfl rfl ?_
              refine OL.sk rfl rfl ?_
              refine OL.sk rfl rfl ?_
              refine OL.q (Q1.pick_f rfl rfl) rfl rfl ?_
              refine OL.q (Q1.move rfl) rfl rfl ?_
              refine OL.sk rfl rfl ?_
              refine OL.sk rfl rfl ?_
              refine OL.sk rfl rfl ?_
              refine OL.sk rfl rfl ?_
              refine OL.sk rfl rfl ?_
              refine OL.q (Q1.pick_f rfl rfl) rfl rfl ?_
              refine OL.q (Q1.move rfl) rfl rfl ?_
              refine OL.sk rfl rfl ?_
              refine OL.sk rfl rfl ?_
              refine OL.sk rfl rfl ?_
              refine OL.q (Q1.pick_f rfl rfl) rfl rfl ?_
              refine OL.q (Q1.assign rfl) rfl rfl ?_
              refine OL.nil ?_
              exact (hJ3 _ _ ⟨false, rfl, hb5, (by simp only [Ml.timesM]; simp only [*, Bool.and_true, Bool.and_false, Bool.true_and, Bool.false_and])⟩).sub ⟨rfl, rfl, rfl, trivial⟩
        · intro hJ2
          have hj01 : Ext w4 w4 := Mod.refl _ _
          refine r_region ?_
          refine OL.q (Q1.fieldAddr fl25_4 rfl) rfl rfl ?_
          refine OL.q (Q1.load1 ti3 rfl (fun _ e => e ▸ (f9.cell 4 _ rfl))) rfl rfl ?_
          refine OL.act rfl rfl (AW.callF cl18 rfl (within_c (w0 := w4)  (c.slots) (1) (4) (by first | assumption | omega) (by first | assumption | omega) (by first | assumption | omega)) ?_)
          rintro _ w6 ⟨⟨b4, hb4, rfl⟩, hm6⟩
          have f12 := f9.ext hm6
          have f13 := f10.ext hm6
          have f14 := f11.ext hm6
          have hE5 := hE4.ext hm6
          have hb5 := hj01.ext hm6
          have hs5 := hm6.size
          refine OL.q (Q1.move rfl) rfl rfl ?_
          cases b4 with
          | true =>
            replace hb4 := hb4.symm
            have := Ml.within_true hb4
            refine OL.q (Q1.fieldAddr fl25_5 rfl) rfl rfl ?_
            refine OL.q (Q1.load1 ti3 rfl (fun _ e => e ▸ (f12.cell 5 _ rfl))) rfl rfl ?_
            refine OL.act rfl rfl (AW.callF cl18 rfl (within_c (w0 := w6)  (c.batch) (1) (5) (by first | assumption | omega) (by first | assumption | omega) (by first | assumption | omega)) ?_)
            rintro _ w7 ⟨⟨b5, hb6, rfl⟩, hm7⟩
            have f15 := f12.ext hm7
            have f16 := f13.ext hm7
            have f17 := f14.ext hm7
            have hE6 := hE5.ext hm7
            have hb7 := hb5.ext hm7
            have hs6 := hm7.size
            refine OL.q (Q1.pick_t rfl rfl) rfl rfl ?_
            refine OL.q (Q1.move rfl) rfl rfl ?_
            cases b5 with
            | true =>
              replace hb6 := hb6.symm
              have := Ml.within_true hb6
              refine OL.q (Q1.fieldAddr fl25_11 rfl) rfl rfl ?_
              refine OL.q (Q1.load1 ti3 rfl (fun _ e => e ▸ (f15.cell 11 _ rfl))) rfl rfl ?_
              refine OL.act rfl rfl (AW.callF cl18 rfl (within_c (w0 := w7)  (c.net) (8) (64) (by first | assumption | omega) (by first | assumption | omega) (by first | assumption | omega)) ?_)
              rintro _ w8 ⟨⟨b6, hb8, rfl⟩, hm8⟩
              have f18 := f15.ext hm8
              have f19 := f16.ext hm8
              have f20 := f17.ext hm8
              have hE7 := hE6.ext hm8
              have hb9 := hb7.ext hm8
              have hs7 := hm8.size
              refine OL.q (Q1.pick_t rfl rfl) rfl rfl ?_
              refine OL.q (Q1.assign rfl) rfl rfl ?_
              refine OL.nil ?_
              exact (hJ2 _ _ ⟨b6, rfl, hb9, (by simp only [Ml.sizesM]; simp only [*, Bool.and_true, Bool.and_false, Bool.true_and, Bool.false_and])⟩).sub ⟨rfl, rfl, rfl, trivial⟩
            | false =>
              replace hb6 := hb6.symm
              have := Ml.within_false hb6
              refine OL.sk rfl rfl ?_
              refine OL.sk rfl rfl ?_
              refine OL.sk rfl rfl ?_
              refine OL.q (Q1.pick_f rfl rfl) rfl rfl ?_
              refine OL.q (Q1.assign rfl) rfl rfl ?_
              refine OL.nil ?_
              exact (hJ2 _ _ ⟨false, rfl, hb7, (by simp only [Ml.sizesM]; simp only [*, Bool.and_true, Bool.and_false, Bool.true_and, Bool.false_and])⟩).sub ⟨rfl, rfl, rfl, trivial⟩
          | false =>
            replace hb4 := hb4.symm
            have := Ml.within_false hb4
            refine OL.sk rfl rfl ?_
            refine OL.sk rfl rfl ?_
            refine OL.sk rfl rfl ?_
            refine OL.q (Q1.pick_f rfl rfl) rfl rfl ?_
            refine OL.q (Q1.move rfl) rfl rfl ?_
            refine OL.sk rfl rfl ?_
            refine OL.sk rfl rfl ?_
            refine OL.sk rfl rfl ?_
            refine OL.q (Q1.pick_f rfl rfl) rfl rfl ?_
            refine OL.q (Q1.assign rfl) rfl rfl ?_
            refine OL.nil ?_
            exact (hJ2 _ _ ⟨false, rfl, hb5, (by simp only [Ml.sizesM]; simp only [*, Bool.and_true, Bool.and_false, Bool.true_and, Bool.false_and])⟩).sub ⟨rfl, rfl, rfl, trivial⟩
      · intro hJ1
        have hj01 : Ext w3 w3 := Mod.refl _ _
        refine r_region ?_
        refine OL.q (Q1.fieldAddr fl25_2 rfl) rfl rfl ?_
        refine OL.q (Q1.load1 ti3 rfl (fun _ e => e ▸ (f8.cell 2 _ rfl))) rfl rfl ?_
        refine OL.act rfl rfl (AW.callF cl18 rfl (within_c (w0 := w3)  (c.workers) (1) (5) (by first | assumption | omega) (by first | assumption | omega) (by first | assumption | omega)) ?_)
        rintro _ w5 ⟨⟨b4, hb4, rfl⟩, hm5⟩
        have f9 := f6.ext hm5
        have f10 := f7.ext hm5
        have f11 := f8.ext hm5
        have hE4 := hE3.ext hm5
        have hb5 := hj01.ext hm5
        have hs4 := hm5.size
        refine OL.q (Q1.move rfl) rfl rfl ?_
        cases b4 with
        | true =>
          replace hb4 := hb4.symm
          have := Ml.within_true hb4
          refine OL.q (Q1.fieldAddr fl25_3 rfl) rfl rfl ?_
          refine OL.q (Q1.load1 ti3 rfl (fun _ e => e ▸ (f11.cell 3 _ rfl))) rfl rfl ?_
          refine OL.q (Q1.fieldAddr fl25_2 rfl) rfl rfl ?_
          refine OL.q (Q1.load1 ti3 rfl (fun _ e => e ▸ (f11.cell 2 _ rfl))) rfl rfl ?_
          refine OL.q (Q1.min rfl rfl) rfl rfl ?_
          refine OL.act rfl rfl (AW.callF cl18 rfl (within_c (w0 := w5)  (c.copies) (1) ((min 3 c.workers)) (by first | assumption | omega) (by first | assumption | omega) (by first | assumption | omega)) ?_)
          rintro _ w6 ⟨⟨b5, hb6, rfl⟩, hm6⟩
          have f12 := f9.ext hm6
          have f13 := f10.ext hm6
          have f14 := f11.ext hm6
          have hE5 := hE4.ext hm6
          have hb7 := hb5.ext hm6
          have hs5 := hm6.size
          refine OL.q (Q1.pick_t rfl rfl) rfl rfl ?_
          refine OL.q (Q1.assign rfl) rfl rfl ?_
          refine OL.nil ?_
          exact (hJ1 _ _ ⟨b5, rfl, hb7, (by simp only [Ml.nodesM]; simp only [*, Bool.and_true, Bool.and_false, Bool.true_and, Bool.false_and])⟩).sub ⟨rfl, rfl, trivial⟩
        | false =>
          replace hb4 := hb4.symm
          have := Ml.within_false hb4
          refine OL.sk rfl rfl ?_
          refine OL.sk rfl rfl ?_
          refine OL.sk rfl rfl ?_
          refine OL.sk rfl rfl ?_
          refine OL.sk rfl rfl ?_
          refine OL.sk rfl rfl ?_
          refine OL.q (Q1.pick_f rfl rfl) rfl rfl ?_
          refine OL.q (Q1.assign rfl) rfl rfl ?_
          refine OL.nil ?_
          exact (hJ1 _ _ ⟨false, rfl, hb5, (by simp only [Ml.nodesM]; simp only [*, Bool.and_true, Bool.and_false, Bool.true_and, Bool.false_and])⟩).sub ⟨rfl, rfl, trivial⟩
set_option maxHeartbeats 4000000 in
theorem shards_c {w0 : World} {c : Cfg} {v_c_words : Value} {v_c_cuts : Value} (h_c_words : Sl encS w0 (Iv 0 w0.heap.size) v_c_words c.words) (h_c_cuts : Sl encKey w0 (Iv 0 w0.heap.size) v_c_cuts c.cuts) (h_c : Cfg.Ok c) :
    Calls Try.prog 10 #[.agg #[v_c_words, v_c_cuts, .int .i64 c.workers, .int .i64 c.copies, .int .i64 c.slots, .int .i64 c.batch, .int .i64 c.lease, .int .i64 c.hedge, .int .i64 c.first, .int .i64 c.cap, .int .i64 c.jitter, .int .i64 c.net]] w0 (Ret fun rv w1 => rv = .int .i64 (((Ml.shards c : Nat) : Int)) ∧ Ext w0 w1) := by
  have hE0 : Ext w0 w0 := Mod.refl _ _
  have hle1 := h_c_words.le
  have hle2 := h_c_cuts.le
  refine calls_enter Try.func10 rfl Try.ntmps10 rfl ?_
  refine r_seq ?_
  refine r_region ?_
  refine OL.act rfl rfl (AW.box [v_c_words, v_c_cuts, .int .i64 c.workers, .int .i64 c.copies, .int .i64 c.slots, .int .i64 c.batch, .int .i64 c.lease, .int .i64 c.hedge, .int .i64 c.first, .int .i64 c.cap, .int .i64 c.jitter, .int .i64 c.net] rfl rfl ?_)
  intro w1 b1 hm1 hb1 hz1 hk1
  have f1 := h_c_words.ext hm1
  have f2 := h_c_cuts.ext hm1
  have hE1 := hE0.ext hm1
  have hs1 := hm1.size
  refine OL.q (Q1.assign rfl) rfl rfl ?_
  refine OL.nil ?_
  refine r_seq ?_
  refine r_seq ?_
  refine r_region ?_
  refine OL.q (Q1.loadN ti25 rfl (fun _ e => e ▸ hk1.row) rfl) rfl rfl ?_
  refine OL.act rfl rfl (AW.callF cl6 rfl (may_c (w0 := w1) (c := c)  ((f1).iv (Nat.zero_le _) (by omega)) ((f2).iv (Nat.zero_le _) (by omega)) (by first | assumption | exact Ml.Cfg.ok_of (by decide +kernel))) ?_)
  rintro _ w2 ⟨⟨b2, hb2, rfl⟩, hm2⟩
  have f3 := f1.ext hm2
  have f4 := f2.ext hm2
  have f5 := hk1.ext hm2
  have hE2 := hE1.ext hm2
  have hs2 := hm2.size
  cases b2 with
  | true =>
    replace hb2 := hb2.symm
    have := Ml.may_bounds hb2
    refine OL.q (Q1.not rfl) rfl rfl ?_
    refine OL.nil ?_
    refine r_cond_f rfl ?_
    refine r_skip ?_
    refine r_seq ?_
    refine r_region ?_
    refine OL.q (Q1.fieldAddr fl25_1 rfl) rfl rfl ?_
    refine OL.q (Q1.load1 ti23 rfl (fun _ e => e ▸ (f5.cell 1 _ rfl))) rfl rfl ?_
    refine OL.q (Q1.lenSl Try.underlying23 (f4) rfl) rfl rfl ?_
    refine OL.q (Q1.addI (((c.cuts.length + 1 : Nat) : Int)) rfl rfl (by omega)) rfl rfl ?_
    refine OL.q (Q1.assign rfl) rfl rfl ?_
    refine OL.nil ?_
    refine r_ret1 Try.func10 rfl rfl ?_
    exact Ret.mk ⟨(congrArg (Value.int .i64) (by first | simp only [Ml.shards, *]; rfl | (exfalso; omega))), hE2⟩
  | false =>
    replace hb2 := hb2.symm
    refine OL.q (Q1.not rfl) rfl rfl ?_
    refine OL.nil ?_
    refine r_cond_t rfl ?_
    refine r_seq ?_
    refine r_region ?_
    refine OL.q (Q1.assign rfl) rfl rfl ?_
    refine OL.nil ?_
    refine r_ret1 Try.func10 rfl rfl ?_
    exact Ret.mk ⟨(congrArg (Value.int .i64) (by first | simp only [Ml.shards, *]; rfl | (exfalso; omega))), hE2⟩
set_option maxHeartbeats 4000000 in
theorem copies_c {w0 : World} {c : Cfg} {v_c_words : Value} {v_c_cuts : Value} (shard : Int) (h_c_words : Sl encS w0 (Iv 0 w0.heap.size) v_c_words c.words) (h_c_cuts : Sl encKey w0 (Iv 0 w0.heap.size) v_c_cuts c.cuts) (h_c : Cfg.Ok c) (h_shard : I64 shard) :
    Calls Try.prog 11 #[.agg #[v_c_words, v_c_cuts, .int .i64 c.workers, .int .i64 c.copies, .int .i64 c.slots, .int .i64 c.batch, .int .i64 c.lease, .int .i64 c.hedge, .int .i64 c.first, .int .i64 c.cap, .int .i64 c.jitter, .int .i64 c.net], .int .i64 shard] w0 (Ret fun rv w1 => Sl encI w1 (Iv w0.heap.size w1.heap.size) rv (Ml.copiesM c shard) ∧ Ext w0 w1) := by
  have hE0 : Ext w0 w0 := Mod.refl _ _
  have hle1 := h_c_words.le
  have hle2 := h_c_cuts.le
  have hc1 := h_c.workers
  have hc2 := h_c.copies
  have hc3 := h_c.slots
  have hc4 := h_c.batch
  have hc5 := h_c.lease
  have hc6 := h_c.hedge
  have hc7 := h_c.first
  have hc8 := h_c.cap
  have hc9 := h_c.jitter
  have hc10 := h_c.net
  refine calls_enter Try.func11 rfl Try.ntmps11 rfl ?_
  refine r_seq ?_
  refine r_region ?_
  refine OL.act rfl rfl (AW.box [v_c_words, v_c_cuts, .int .i64 c.workers, .int .i64 c.copies, .int .i64 c.slots, .int .i64 c.batch, .int .i64 c.lease, .int .i64 c.hedge, .int .i64 c.first, .int .i64 c.cap, .int .i64 c.jitter, .int .i64 c.net] rfl rfl ?_)
  intro w1 b1 hm1 hb1 hz1 hk1
  have f1 := h_c_words.ext hm1
  have f2 := h_c_cuts.ext hm1
  have hE1 := hE0.ext hm1
  have hs1 := hm1.size
  refine OL.q (Q1.assign rfl) rfl rfl ?_
  refine OL.nil ?_
  refine r_seq ?_
  refine r_seq ?_
  refine r_region ?_
  refine OL.q (Q1.move rfl) rfl rfl ?_
  refine OL.q (Q1.loadN ti25 rfl (fun _ e => e ▸ hk1.row) rfl) rfl rfl ?_
  refine OL.act rfl rfl (AW.callF cl10 rfl (shards_c (w0 := w1) (c := c)  ((f1).iv (Nat.zero_le _) (by omega)) ((f2).iv (Nat.zero_le _) (by omega)) (by first | assumption | exact Ml.Cfg.ok_of (by decide +kernel))) ?_)
  rintro _ w2 ⟨rfl, hm2⟩
  have f3 := f1.ext hm2
  have f4 := f2.ext hm2
  have f5 := hk1.ext hm2
  have hE2 := hE1.ext hm2
  have hs2 := hm2.size
  have := Ml.shards_le c
  refine OL.q (Q1.subI (((((Ml.shards c : Nat) : Int)) - 1)) rfl rfl (by omega)) rfl rfl ?_
  refine OL.act rfl rfl (AW.callF cl18 rfl (within_c (w0 := w2)  (shard) (0) (((((Ml.shards c : Nat) : Int)) - 1)) (by first | assumption | omega) (by first | assumption | omega) (by first | assumption | omega)) ?_)
  rintro _ w3 ⟨⟨b2, hb2, rfl⟩, hm3⟩
  have f6 := f3.ext hm3
  have f7 := f4.ext hm3
  have f8 := f5.ext hm3
  have hE3 := hE2.ext hm3
  have hs3 := hm3.size
  cases b2 with
  | true =>
    replace hb2 := hb2.symm
    have := Ml.within_true hb2
    refine OL.q (Q1.not rfl) rfl rfl ?_
    refine OL.nil ?_
    refine r_cond_f rfl ?_
    refine r_skip ?_
    refine r_seq ?_
    refine r_region ?_
    refine OL.q (Q1.assign rfl) rfl rfl ?_
    refine OL.nil ?_
    refine r_seq ?_
    refine r_seq ?_
    refine r_region ?_
    refine OL.q (Q1.fieldAddr fl25_3 rfl) rfl rfl ?_
    refine OL.q (Q1.load1 ti3 rfl (fun _ e => e ▸ (f8.cell 3 _ rfl))) rfl rfl ?_
    refine OL.q (Q1.move rfl) rfl rfl ?_
    refine OL.nil ?_
    refine r_block ?_
    refine r_loop (I := fun m E W => ∃ (v_l : Value) (g_l : Nat) (l : List Int) (j : Nat), E = [(1, .int .i64 shard), (2, ptr b1 0), (5, v_l), (14, .int .i64 c.copies), (15, .int .i64 (((j : Nat) : Int)))] ∧ m = c.copies.toNat - j ∧ Ext w0 W ∧ w3.heap.size ≤ W.heap.size ∧ Acc encI 3 1 W g_l v_l l ∧ (g_l = 0 ∨ w0.heap.size < g_l) ∧ Bk W b1 [v_c_words, v_c_cuts, .int .i64 c.workers, .int .i64 c.copies, .int .i64 c.slots, .int .i64 c.batch, .int .i64 c.lease, .int .i64 c.hedge, .int .i64 c.first, .int .i64 c.cap, .int .i64 c.jitter, .int .i64 c.net] 25 ∧ Sl encS W (Iv 0 w0.heap.size) v_c_words c.words ∧ Sl encKey W (Iv 0 w0.heap.size) v_c_cuts c.cuts ∧ b1 + 1 ≠ g_l ∧ (l = (List.range j).map (fun j : Nat => 1 + (shard + (j : Int)) % c.workers)) ∧ (l.length = j) ∧ (j ≤ c.copies.toNat)) ?_ ?_
    · refine ⟨_, _, ⟨(.slice none 0 0 : Value), (0 : Nat), ([] : List Int), (0 : Nat), rfl, rfl, hE3, Nat.le_refl _, Acc.nil, (by omega), f8, f6, f7, (by omega), (by rfl), (by rfl), (by exact Nat.zero_le _)⟩, ⟨rfl, rfl, rfl, rfl, rfl, trivial⟩⟩
    · rintro _ _ w4 ⟨v_l, g_l, l, j, rfl, rfl, hE4, hs4, ha1, hg1, f9, f10, f11, hn1, hi, hl, hj⟩ ih1
      have hmy := Ml.may_bounds (Ml.may_of_shards (c := c) (by omega))
      refine r_seq ?_
      refine r_region ?_
      refine OL.qb (Q1.lt rfl rfl) rfl rfl ?_
      intro b3 hb3
      refine OL.nil ?_
      refine r_seq ?_
      cases b3 with
      | true =>
        replace hb3 := of_decide_eq_true hb3.symm
        refine r_cond_t rfl ?_
        refine r_skip ?_
        refine r_seq ?_
        refine r_block ?_
        refine r_seq ?_
        refine r_region ?_
        refine OL.q (Q1.move rfl) rfl rfl ?_
        refine OL.q (Q1.assign rfl) rfl rfl ?_
        refine OL.nil ?_
        refine r_region ?_
        refine OL.q (Q1.move rfl) rfl rfl ?_
        refine OL.q (Q1.move rfl) rfl rfl ?_
        refine OL.q (Q1.move rfl) rfl rfl ?_
        refine OL.q (Q1.addI ((shard + (((j : Nat) : Int)))) rfl rfl (by omega)) rfl rfl ?_
        refine OL.q (Q1.fieldAddr fl25_2 rfl) rfl rfl ?_
        refine OL.q (Q1.load1 ti3 rfl (fun _ e => e ▸ (f9.cell 2 _ rfl))) rfl rfl ?_
        have := Int.emod_nonneg ((shard + (((j : Nat) : Int))) : Int) (by omega : (c.workers : Int) ≠ 0)
        have := Int.emod_lt_of_pos ((shard + (((j : Nat) : Int))) : Int) (by omega : (0 : Int) < c.workers)
        refine OL.q (Q1.remI (((shard + (((j : Nat) : Int))) % c.workers)) rfl rfl ⟨by omega, by omega, rfl⟩) rfl rfl ?_
        refine OL.q (Q1.addI ((1 + (((shard + (((j : Nat) : Int))) % c.workers)))) rfl rfl (by omega)) rfl rfl ?_
        refine OL.act rfl rfl (AW.buildSlice [(.int .i64 ((1 + (((shard + (((j : Nat) : Int))) % c.workers)))) : Value)] Try.underlying28 ti3 rfl rfl rfl (by decide) ?_)
        intro w5 b4 hm4 hb4 hz2 hk2
        have hl1 := ha1.lt
        have f12 := ha1.ext hm4
        have f13 := f9.ext hm4
        have f14 := f10.ext hm4
        have f15 := f11.ext hm4
        have hE5 := hE4.ext hm4
        have hs5 := hm4.size
        have hl2 := Sl.of_blk (enc := encI) hk2 ([(1 + (((shard + (((j : Nat) : Int))) % c.workers)))] : List Int) 1 rfl rfl (by unfold maxLen; omega)
        have hl3 := f12.lt
        refine OL.act rfl rfl (AW.append f12 Try.underlying28 ti3 rfl encI_len encI_one rfl rfl (hl2) (by first | omega | (simp only [List.length_append, List.length_cons, List.length_nil]; omega) | (simp; omega)) (by unfold maxLen; first | omega | (simp only [List.length_append, List.length_cons, List.length_nil]; omega) | (simp; omega)) ?_)
        intro v1 g1 w6 ha2 hm5 hg2 hz3
        have hl4 := f12.lt
        have f16 := f13.keepG hm5 (by omega)
        have f17 := f14.keepG hm5 (by omega)
        have f18 := f15.keepG hm5 (by omega)
        have f19 := hl2.keepG hm5 (by omega)
        have hE6 := Ext.thenG hE5 hm5 (by omega)
        have hs6 := hm5.size
        refine OL.q (Q1.assign rfl) rfl rfl ?_
        refine OL.nil ?_
        refine r_inBlock ?_
        refine r_region ?_
        refine OL.q (Q1.addI (((j + 1 : Nat) : Int)) rfl rfl (by omega)) rfl rfl ?_
        refine OL.q (Q1.move rfl) rfl rfl ?_
        refine OL.nil ?_
        exact (ih1 _ _ _ ⟨(v1 : Value), (g1 : Nat), ((l ++ [(1 + (((shard + (((j : Nat) : Int))) % c.workers)))]) : List Int), (j + 1 : Nat), rfl, rfl, hE6, (by omega), ha2, (by omega), f16, f17, f18, (by omega), (by first | rw [hi, List.range_succ, List.map_append]; rfl | (exfalso; omega)), (by first | omega | (simp only [List.length_append, List.length_cons, List.length_nil]; omega) | (exfalso; omega)), (by first | omega | (exfalso; omega))⟩ (by omega)).sub ⟨rfl, rfl, rfl, rfl, rfl, trivial⟩
      | false =>
        replace hb3 := of_decide_eq_false hb3.symm
        refine r_cond_f rfl ?_
        refine r_exit rfl ?_
        refine r_seq ?_
        refine r_region ?_
        refine OL.q (Q1.move rfl) rfl rfl ?_
        refine OL.q (Q1.assign rfl) rfl rfl ?_
        refine OL.nil ?_
        refine r_ret1 Try.func11 rfl rfl ?_
        exact Ret.mk ⟨(Sl.cast (ha1.fresh (by omega)) (by first | exact Ml.copies_yes hb2 hi (by omega) | exact Ml.copies_no hb2 | (exfalso; omega))), hE4⟩
  | false =>
    replace hb2 := hb2.symm
    have := Ml.within_false hb2
    refine OL.q (Q1.not rfl) rfl rfl ?_
    refine OL.nil ?_
    refine r_cond_t rfl ?_
    refine r_seq ?_
    refine r_region ?_
    refine OL.q (Q1.assign rfl) rfl rfl ?_
    refine OL.nil ?_
    refine r_ret1 Try.func11 rfl rfl ?_
    exact Ret.mk ⟨(Sl.cast Sl.nil (by first | exact Ml.copies_yes hb2 hi (by omega) | exact Ml.copies_no hb2 | (exfalso; omega))), hE3⟩
set_option maxHeartbeats 4000000 in
theorem sindex_c {w0 : World} {v_s : Value} {s : List Int} (v : Int) (h_s : Sl encI w0 (Iv 0 w0.heap.size) v_s s) :
    Calls Try.prog 26 #[v_s, .int .i64 v] w0 (Ret fun rv w1 => rv = .int .i64 (Ml.indexI s v) ∧ Ext w0 w1) := by
  have hE0 : Ext w0 w0 := Mod.refl _ _
  have hle1 := h_s.le
  refine calls_enter Try.func26 rfl Try.ntmps26 rfl ?_
  refine r_seq ?_
  refine r_region ?_
  refine OL.q (Q1.assign rfl) rfl rfl ?_
  refine OL.nil ?_
  refine r_seq ?_
  refine r_seq ?_
  refine r_region ?_
  refine OL.q (Q1.move rfl) rfl rfl ?_
  refine OL.q (Q1.lenSl Try.underlying28 (h_s) rfl) rfl rfl ?_
  refine OL.q (Q1.move rfl) rfl rfl ?_
  refine OL.nil ?_
  refine r_block ?_
  refine r_loop (I := fun m E W => ∃ (k : Nat), E = [(0, v_s), (1, .int .i64 v), (7, .int .i64 (((s.length : Nat) : Int))), (8, .int .i64 (((k : Nat) : Int)))] ∧ m = s.length - k ∧ Ext w0 W ∧ w0.heap.size ≤ W.heap.size ∧ Sl encI W (Iv 0 w0.heap.size) v_s s ∧ (Ml.IndexInv s v k)) ?_ ?_
  · refine ⟨_, _, ⟨(0 : Nat), rfl, rfl, hE0, Nat.le_refl _, h_s, (by exact Ml.IndexInv.start s v)⟩, ⟨rfl, rfl, rfl, rfl, trivial⟩⟩
  · rintro _ _ w1 ⟨k, rfl, rfl, hE1, hs1, f1, hi⟩ ih1
    refine r_seq ?_
    refine r_region ?_
    refine OL.qb (Q1.lt rfl rfl) rfl rfl ?_
    intro b1 hb1
    refine OL.nil ?_
    refine r_seq ?_
    cases b1 with
    | true =>
      replace hb1 := of_decide_eq_true hb1.symm
      refine r_cond_t rfl ?_
      refine r_skip ?_
      refine r_seq ?_
      refine r_block ?_
      refine r_seq ?_
      refine r_region ?_
      refine OL.q (Q1.move rfl) rfl rfl ?_
      refine OL.q (Q1.assign rfl) rfl rfl ?_
      refine OL.nil ?_
      refine r_seq ?_
      refine r_region ?_
      refine OL.q (Q1.move rfl) rfl rfl ?_
      refine OL.q (Q1.move rfl) rfl rfl ?_
      refine OL.q (Q1.move rfl) rfl rfl ?_
      obtain ⟨x1, b2, o1, hx1, hr1, hl1, hu1, hw1⟩ := Sl.at' (P := Try.prog) f1 Try.underlying28 ti3 encI_len (k := .i64) (n := ((k : Nat) : Int)) (k) (by omega) (by first | assumption | omega)
      refine OL.q (Q1.indexAddr rfl rfl hr1) rfl rfl ?_
      refine OL.q (Q1.load1 ti3 rfl (fun _ e => e ▸ hw1)) rfl rfl ?_
      refine OL.qb (Q1.eq rfl rfl) rfl rfl ?_
      intro b3 hb2
      refine OL.nil ?_
      cases b3 with
      | true =>
        replace hb2 := eq_of_beq hb2.symm
        refine r_cond_t rfl ?_
        refine r_seq ?_
        refine r_region ?_
        refine OL.q (Q1.move rfl) rfl rfl ?_
        refine OL.q (Q1.assign rfl) rfl rfl ?_
        refine OL.nil ?_
        refine r_ret1 Try.func26 rfl rfl ?_
        exact Ret.mk ⟨(congrArg (Value.int .i64) (by first | exact hi.found hx1 hb2 | exact hi.fin (by omega) | (exfalso; omega))), hE1⟩
      | false =>
        replace hb2 := ne_of_beq_false hb2.symm
        refine r_cond_f rfl ?_
        refine r_skip ?_
        refine r_inBlock ?_
        refine r_region ?_
        refine OL.q (Q1.addI (((k + 1 : Nat) : Int)) rfl rfl (by omega)) rfl rfl ?_
        refine OL.q (Q1.move rfl) rfl rfl ?_
        refine OL.nil ?_
        exact (ih1 _ _ _ ⟨(k + 1 : Nat), rfl, rfl, hE1, (by omega), f1, (by first | exact hi.next hx1 hb2 | (exfalso; omega))⟩ (by omega)).sub ⟨rfl, rfl, rfl, rfl, trivial⟩
    | false =>
      replace hb1 := of_decide_eq_false hb1.symm
      refine r_cond_f rfl ?_
      refine r_exit rfl ?_
      refine r_seq ?_
      refine r_region ?_
      refine OL.q (Q1.assign rfl) rfl rfl ?_
      refine OL.nil ?_
      refine r_ret1 Try.func26 rfl rfl ?_
      exact Ret.mk ⟨(congrArg (Value.int .i64) (by first | exact hi.found hx1 hb2 | exact hi.fin (by omega) | (exfalso; omega))), hE1⟩
set_option maxHeartbeats 4000000 in
theorem scontains_c {w0 : World} {v_s : Value} {s : List Int} (v : Int) (h_s : Sl encI w0 (Iv 0 w0.heap.size) v_s s) :
    Calls Try.prog 20 #[v_s, .int .i64 v] w0 (Ret fun rv w1 => (∃ rb : Bool, rb = (s.contains v) ∧ rv = .bool rb) ∧ Ext w0 w1) := by
  have hE0 : Ext w0 w0 := Mod.refl _ _
  have hle1 := h_s.le
  refine calls_enter Try.func20 rfl Try.ntmps20 rfl ?_
  refine r_seq ?_
  refine r_region ?_
  refine OL.q (Q1.assign rfl) rfl rfl ?_
  refine OL.nil ?_
  refine r_seq ?_
  refine r_region ?_
  refine OL.q (Q1.move rfl) rfl rfl ?_
  refine OL.q (Q1.move rfl) rfl rfl ?_
  refine OL.act rfl rfl (AW.callF cl26 rfl (sindex_c (w0 := w0) (s := s) (v) ((h_s).iv (Nat.zero_le _) (by omega))) ?_)
  rintro _ w1 ⟨rfl, hm1⟩
  have f1 := h_s.ext hm1
  have hE1 := hE0.ext hm1
  have hs1 := hm1.size
  refine OL.qb (Q1.ge rfl rfl) rfl rfl ?_
  intro b1 hb1
  refine OL.q (Q1.assign rfl) rfl rfl ?_
  refine OL.nil ?_
  refine r_ret1 Try.func20 rfl rfl ?_
  exact Ret.mk ⟨⟨_, (by first | rw [Ml.contains_index]; assumption | (exfalso; omega)), rfl⟩, hE1⟩
set_option maxHeartbeats 4000000 in
theorem keeps_c {w0 : World} {c : Cfg} {v_c_words : Value} {v_c_cuts : Value} (worker : Int) (h_c_words : Sl encS w0 (Iv 0 w0.heap.size) v_c_words c.words) (h_c_cuts : Sl encKey w0 (Iv 0 w0.heap.size) v_c_cuts c.cuts) (h_c : Cfg.Ok c) (h_worker : I64 worker) :
    Calls Try.prog 8 #[.agg #[v_c_words, v_c_cuts, .int .i64 c.workers, .int .i64 c.copies, .int .i64 c.slots, .int .i64 c.batch, .int .i64 c.lease, .int .i64 c.hedge, .int .i64 c.first, .int .i64 c.cap, .int .i64 c.jitter, .int .i64 c.net], .int .i64 worker] w0 (Ret fun rv w1 => Sl encI w1 (Iv w0.heap.size w1.heap.size) rv (Ml.keepsM c worker) ∧ Ext w0 w1) := by
  have hE0 : Ext w0 w0 := Mod.refl _ _
  have hle1 := h_c_words.le
  have hle2 := h_c_cuts.le
  have hc1 := h_c.workers
  have hc2 := h_c.copies
  have hc3 := h_c.slots
  have hc4 := h_c.batch
  have hc5 := h_c.lease
  have hc6 := h_c.hedge
  have hc7 := h_c.first
  have hc8 := h_c.cap
  have hc9 := h_c.jitter
  have hc10 := h_c.net
  refine calls_enter Try.func8 rfl Try.ntmps8 rfl ?_
  refine r_seq ?_
  refine r_region ?_
  refine OL.act rfl rfl (AW.box [v_c_words, v_c_cuts, .int .i64 c.workers, .int .i64 c.copies, .int .i64 c.slots, .int .i64 c.batch, .int .i64 c.lease, .int .i64 c.hedge, .int .i64 c.first, .int .i64 c.cap, .int .i64 c.jitter, .int .i64 c.net] rfl rfl ?_)
  intro w1 b1 hm1 hb1 hz1 hk1
  have f1 := h_c_words.ext hm1
  have f2 := h_c_cuts.ext hm1
  have hE1 := hE0.ext hm1
  have hs1 := hm1.size
  refine OL.q (Q1.assign rfl) rfl rfl ?_
  refine OL.nil ?_
  refine r_seq ?_
  refine r_region ?_
  refine OL.q (Q1.assign rfl) rfl rfl ?_
  refine OL.nil ?_
  refine r_seq ?_
  refine r_seq ?_
  refine r_region ?_
  refine OL.q (Q1.loadN ti25 rfl (fun _ e => e ▸ hk1.row) rfl) rfl rfl ?_
  refine OL.act rfl rfl (AW.callF cl10 rfl (shards_c (w0 := w1) (c := c)  ((f1).iv (Nat.zero_le _) (by omega)) ((f2).iv (Nat.zero_le _) (by omega)) (by first | assumption | exact Ml.Cfg.ok_of (by decide +kernel))) ?_)
  rintro _ w2 ⟨rfl, hm2⟩
  have f3 := f1.ext hm2
  have f4 := f2.ext hm2
  have f5 := hk1.ext hm2
  have hE2 := hE1.ext hm2
  have hs2 := hm2.size
  have := Ml.shards_le c
  refine OL.q (Q1.move rfl) rfl rfl ?_
  refine OL.nil ?_
  refine r_block ?_
  refine r_loop (I := fun m E W => ∃ (v_l : Value) (g_l : Nat) (l : List Int) (k : Nat), E = [(1, .int .i64 worker), (2, ptr b1 0), (5, v_l), (8, .int .i64 ((((Ml.shards c : Nat) : Int)))), (9, .int .i64 (((k : Nat) : Int)))] ∧ m = Ml.shards c - k ∧ Ext w0 W ∧ w2.heap.size ≤ W.heap.size ∧ Acc encI 3 1 W g_l v_l l ∧ (g_l = 0 ∨ w0.heap.size < g_l) ∧ Bk W b1 [v_c_words, v_c_cuts, .int .i64 c.workers, .int .i64 c.copies, .int .i64 c.slots, .int .i64 c.batch, .int .i64 c.lease, .int .i64 c.hedge, .int .i64 c.first, .int .i64 c.cap, .int .i64 c.jitter, .int .i64 c.net] 25 ∧ Sl encS W (Iv 0 w0.heap.size) v_c_words c.words ∧ Sl encKey W (Iv 0 w0.heap.size) v_c_cuts c.cuts ∧ b1 + 1 ≠ g_l ∧ (l = ((List.range k).filter (fun s : Nat => (Ml.copiesM c (s : Int)).contains worker)).map (fun s : Nat => (s : Int))) ∧ (l.length ≤ k) ∧ (k ≤ Ml.shards c)) ?_ ?_
  · refine ⟨_, _, ⟨(.slice none 0 0 : Value), (0 : Nat), ([] : List Int), (0 : Nat), rfl, rfl, hE2, Nat.le_refl _, Acc.nil, (by omega), f5, f3, f4, (by omega), (by rfl), (by exact Nat.zero_le _), (by exact Nat.zero_le _)⟩, ⟨rfl, rfl, rfl, rfl, rfl, trivial⟩⟩
  · rintro _ _ w3 ⟨v_l, g_l, l, k, rfl, rfl, hE3, hs3, ha1, hg1, f6, f7, f8, hn1, hi, hl, hk⟩ ih1
    have hsh := Ml.shards_le c
    refine r_seq ?_
    refine r_region ?_
    refine OL.qb (Q1.lt rfl rfl) rfl rfl ?_
    intro b2 hb2
    refine OL.nil ?_
    refine r_seq ?_
    cases b2 with
    | true =>
      replace hb2 := of_decide_eq_true hb2.symm
      refine r_cond_t rfl ?_
      refine r_skip ?_
      refine r_seq ?_
      refine r_block ?_
      refine r_seq ?_
      refine r_region ?_
      refine OL.q (Q1.move rfl) rfl rfl ?_
      refine OL.q (Q1.assign rfl) rfl rfl ?_
      refine OL.nil ?_
      refine r_seq ?_
      refine r_region ?_
      refine OL.q (Q1.loadN ti25 rfl (fun _ e => e ▸ f6.row) rfl) rfl rfl ?_
      refine OL.q (Q1.move rfl) rfl rfl ?_
      refine OL.act rfl rfl (AW.callF cl11 rfl (copies_c (w0 := w3) (c := c) (((k : Nat) : Int)) ((f7).iv (Nat.zero_le _) (by omega)) ((f8).iv (Nat.zero_le _) (by omega)) (by first | assumption | exact Ml.Cfg.ok_of (by decide +kernel)) (by first | assumption | omega)) ?_)
      rintro v1 w4 ⟨h1, hm3⟩
      have hl1 := ha1.lt
      have f9 := ha1.ext hm3
      have f10 := f6.ext hm3
      have f11 := f7.ext hm3
      have f12 := f8.ext hm3
      have hE4 := hE3.ext hm3
      have hs4 := hm3.size
      have hle_1 := h1.le
      refine OL.q (Q1.move rfl) rfl rfl ?_
      refine OL.act rfl rfl (AW.callF cl20 rfl (scontains_c (w0 := w4) (s := (Ml.copiesM c (((k : Nat) : Int)))) (worker) ((h1).iv (Nat.zero_le _) (by omega))) ?_)
      rintro _ w5 ⟨⟨b3, hb3, rfl⟩, hm4⟩
      have hl2 := f9.lt
      have f13 := f9.ext hm4
      have f14 := f10.ext hm4
      have f15 := f11.ext hm4
      have f16 := f12.ext hm4
      have f17 := h1.ext hm4
      have hE5 := hE4.ext hm4
      have hs5 := hm4.size
      refine OL.nil ?_
      cases b3 with
      | true =>
        replace hb3 := hb3.symm
        refine r_cond_t rfl ?_
        refine r_region ?_
        refine OL.q (Q1.move rfl) rfl rfl ?_
        refine OL.q (Q1.move rfl) rfl rfl ?_
        refine OL.act rfl rfl (AW.buildSlice [(.int .i64 (((k : Nat) : Int)) : Value)] Try.underlying28 ti3 rfl rfl rfl (by decide) ?_)
        intro w6 b4 hm5 hb4 hz2 hk2
        have hl3 := f13.lt
        have f18 := f13.ext hm5
        have f19 := f14.ext hm5
        have f20 := f15.ext hm5
        have f21 := f16.ext hm5
        have f22 := f17.ext hm5
        have hE6 := hE5.ext hm5
        have hs6 := hm5.size
        have hl4 := Sl.of_blk (enc := encI) hk2 ([((k : Nat) : Int)] : List Int) 1 rfl rfl (by unfold maxLen; omega)
        have hl5 := f18.lt
        refine OL.act rfl rfl (AW.append f18 Try.underlying28 ti3 rfl encI_len encI_one rfl rfl (hl4) (by first | omega | (simp only [List.length_append, List.length_cons, List.length_nil]; omega) | (simp; omega)) (by unfold maxLen; first | omega | (simp only [List.length_append, List.length_cons, List.length_nil]; omega) | (simp; omega)) ?_)
        intro v2 g1 w7 ha2 hm6 hg2 hz3
        have hl6 := f18.lt
        have f23 := f19.keepG hm6 (by omega)
        have f24 := f20.keepG hm6 (by omega)
        have f25 := f21.keepG hm6 (by omega)
        have f26 := f22.keepG hm6 (by omega)
        have f27 := hl4.keepG hm6 (by omega)
        have hE7 := Ext.thenG hE6 hm6 (by omega)
        have hs7 := hm6.size
        refine OL.q (Q1.assign rfl) rfl rfl ?_
        refine OL.nil ?_
        refine r_inBlock ?_
        refine r_region ?_
        refine OL.q (Q1.addI (((k + 1 : Nat) : Int)) rfl rfl (by omega)) rfl rfl ?_
        refine OL.q (Q1.move rfl) rfl rfl ?_
        refine OL.nil ?_
        exact (ih1 _ _ _ ⟨(v2 : Value), (g1 : Nat), ((l ++ [((k : Nat) : Int)]) : List Int), (k + 1 : Nat), rfl, rfl, hE7, (by omega), ha2, (by omega), f23, f24, f25, (by omega), (by first | exact Ml.keeps_yes hi (by assumption) | exact Ml.keeps_no hi (by assumption) | (exfalso; omega)), (by first | omega | (simp only [List.length_append, List.length_cons, List.length_nil]; omega) | (exfalso; omega)), (by first | omega | (exfalso; omega))⟩ (by omega)).sub ⟨rfl, rfl, rfl, rfl, rfl, trivial⟩
      | false =>
        replace hb3 := hb3.symm
        refine r_cond_f rfl ?_
        refine r_skip ?_
        refine r_inBlock ?_
        refine r_region ?_
        refine OL.q (Q1.addI (((k + 1 : Nat) : Int)) rfl rfl (by omega)) rfl rfl ?_
        refine OL.q (Q1.move rfl) rfl rfl ?_
        refine OL.nil ?_
        exact (ih1 _ _ _ ⟨(v_l : Value), (g_l : Nat), (l : List Int), (k + 1 : Nat), rfl, rfl, hE5, (by omega), f13, (by omega), f14, f15, f16, (by omega), (by first | exact Ml.keeps_yes hi (by assumption) | exact Ml.keeps_no hi (by assumption) | (exfalso; omega)), (by first | omega | (simp only [List.length_append, List.length_cons, List.length_nil]; omega) | (exfalso; omega)), (by first | omega | (exfalso; omega))⟩ (by omega)).sub ⟨rfl, rfl, rfl, rfl, rfl, trivial⟩
    | false =>
      replace hb2 := of_decide_eq_false hb2.symm
      refine r_cond_f rfl ?_
      refine r_exit rfl ?_
      refine r_seq ?_
      refine r_region ?_
      refine OL.q (Q1.move rfl) rfl rfl ?_
      refine OL.q (Q1.assign rfl) rfl rfl ?_
      refine OL.nil ?_
      refine r_ret1 Try.func8 rfl rfl ?_
      exact Ret.mk ⟨(Sl.cast (ha1.fresh (by omega)) (by first | rw [hi, show k = Ml.shards c from by omega]; rfl | (exfalso; omega))), hE3⟩
set_option maxHeartbeats 4000000 in
theorem pwords_c {w0 : World} {c : Cfg} {v_c_words : Value} {v_c_cuts : Value} (shard : Int) (h_c_words : Sl encS w0 (Iv 0 w0.heap.size) v_c_words c.words) (h_c_cuts : Sl encKey w0 (Iv 0 w0.heap.size) v_c_cuts c.cuts) (h_c : Cfg.Ok c) (h_shard : I64 shard) (hlen : c.words.length ≤ 1000000) :
    Calls Try.prog 13 #[.agg #[v_c_words, v_c_cuts, .int .i64 c.workers, .int .i64 c.copies, .int .i64 c.slots, .int .i64 c.batch, .int .i64 c.lease, .int .i64 c.hedge, .int .i64 c.first, .int .i64 c.cap, .int .i64 c.jitter, .int .i64 c.net], .int .i64 shard] w0 (Ret fun rv w1 => Sl encS w1 (Iv w0.heap.size w1.heap.size) rv (Ml.wordsM c shard) ∧ Ext w0 w1) := by
  have hE0 : Ext w0 w0 := Mod.refl _ _
  have hle1 := h_c_words.le
  have hle2 := h_c_cuts.le
  refine calls_enter Try.func13 rfl Try.ntmps13 rfl ?_
  refine r_seq ?_
  refine r_region ?_
  refine OL.act rfl rfl (AW.box [v_c_words, v_c_cuts, .int .i64 c.workers, .int .i64 c.copies, .int .i64 c.slots, .int .i64 c.batch, .int .i64 c.lease, .int .i64 c.hedge, .int .i64 c.first, .int .i64 c.cap, .int .i64 c.jitter, .int .i64 c.net] rfl rfl ?_)
  intro w1 b1 hm1 hb1 hz1 hk1
  have f1 := h_c_words.ext hm1
  have f2 := h_c_cuts.ext hm1
  have hE1 := hE0.ext hm1
  have hs1 := hm1.size
  refine OL.q (Q1.assign rfl) rfl rfl ?_
  refine OL.nil ?_
  refine r_seq ?_
  refine r_region ?_
  refine OL.q (Q1.fieldAddr fl25_1 rfl) rfl rfl ?_
  refine OL.q (Q1.load1 ti23 rfl (fun _ e => e ▸ (hk1.cell 1 _ rfl))) rfl rfl ?_
  refine OL.q (Q1.fieldAddr fl25_0 rfl) rfl rfl ?_
  refine OL.q (Q1.load1 ti22 rfl (fun _ e => e ▸ (hk1.cell 0 _ rfl))) rfl rfl ?_
  refine OL.q (Q1.move rfl) rfl rfl ?_
  refine OL.act rfl rfl (AW.callF cl22 rfl (pslice_c (w0 := w1) (cuts := c.cuts) (words := c.words) (shard) ((f2).iv (Nat.zero_le _) (by omega)) ((f1).iv (Nat.zero_le _) (by omega)) (by first | assumption | omega) (by exact h_c.words) (by first | assumption | omega)) ?_)
  rintro v1 w2 ⟨h1, hm2⟩
  have f3 := f1.ext hm2
  have f4 := f2.ext hm2
  have f5 := hk1.ext hm2
  have hE2 := hE1.ext hm2
  have hs2 := hm2.size
  have hle_1 := h1.le
  refine OL.q (Q1.assign rfl) rfl rfl ?_
  refine OL.nil ?_
  refine r_ret1 Try.func13 rfl rfl ?_
  exact Ret.mk ⟨(Sl.cast (h1.iv (by omega) (by omega)) (by rfl)), hE2⟩
end Go.Proofs
