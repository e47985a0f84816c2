/-
  Walks through the references of chapters 1 and 5.
-/
import Derived.Test.YtjhbobjjkbppkaaWText
set_option linter.unusedVariables false
set_option linter.unusedSimpArgs false
namespace Go.Proofs
open Go.Ik Go.Ml
set_option maxRecDepth 20000 in
set_option maxHeartbeats 4000000 in
theorem rmore_c {w0 : World}  (s : Str) (i : Nat) (hs : s.length ≤ 1000000000) (hi : i ≤ 1000000003) :
    Calls Try.prog 114 #[strV s, .int .i64 (((i : Nat) : Int))] w0 (Ret fun rv w1 => ∃ u0 u1, rv = .tuple #[u0, u1] ∧ u0 = .int .i32 (Ml.moreV s i) ∧ (∃ rb : Bool, rb = (Ml.contAt s i) ∧ u1 = .bool rb) ∧ Ext w0 w1) := by
  have hE0 : Ext w0 w0 := Mod.refl _ _
  refine calls_enter Try.func114 rfl Try.ntmps114 rfl ?_
  refine r_seq ?_
  refine r_region ?_
  refine OL.q (Q1.assign rfl) rfl rfl ?_
  refine OL.q (Q1.assign rfl) rfl rfl ?_
  refine OL.nil ?_
  refine r_seq ?_
  refine r_seq ?_
  refine r_region ?_
  refine OL.q (Q1.move rfl) rfl rfl ?_
  refine OL.q (Q1.move rfl) rfl rfl ?_
  refine OL.q (Q1.lenS Try.underlying9 rfl) rfl rfl ?_
  refine OL.qb (Q1.ge rfl rfl) rfl rfl ?_
  intro b1 hb1
  refine OL.q (Q1.move rfl) rfl rfl ?_
  cases b1 with
  | true =>
    replace hb1 := of_decide_eq_true hb1.symm
    refine OL.sk rfl rfl ?_
    refine OL.sk rfl rfl ?_
    refine OL.sk rfl rfl ?_
    refine OL.sk rfl rfl ?_
    refine OL.q (Q1.pick_t rfl rfl) rfl rfl ?_
    refine OL.q (Q1.move rfl) rfl rfl ?_
    refine OL.sk rfl rfl ?_
    refine OL.sk rfl rfl ?_
    refine OL.sk rfl rfl ?_
    refine OL.sk rfl rfl ?_
    refine OL.q (Q1.pick_t rfl rfl) rfl rfl ?_
    refine OL.nil ?_
    refine r_cond_t rfl ?_
    refine r_seq ?_
    refine r_region ?_
    refine OL.q (Q1.assign rfl) rfl rfl ?_
    refine OL.q (Q1.assign rfl) rfl rfl ?_
    refine OL.nil ?_
    refine r_ret2 Try.func114 rfl rfl rfl ?_
    exact Ret.mk ⟨_, _, rfl, (congrArg (Value.int .i32) (by first | exact Ml.more_no (by omega) | exact Ml.more_yes (by omega) | exact Ml.cont_no (by omega) | exact Ml.cont_yes (by omega) | (exfalso; omega))), ⟨_, (by first | exact Ml.more_no (by omega) | exact Ml.more_yes (by omega) | exact Ml.cont_no (by omega) | exact Ml.cont_yes (by omega) | (exfalso; omega)), rfl⟩, hE0⟩
  | false =>
    replace hb1 := of_decide_eq_false hb1.symm
    refine OL.q (Q1.move rfl) rfl rfl ?_
    refine OL.q (Q1.move rfl) rfl rfl ?_
    have hy1 := byteAt_lt s (i)
    refine OL.q (Q1.indexB (i) Try.underlying9 rfl rfl (by omega) (by first | assumption | omega)) rfl rfl ?_
    refine OL.qb (Q1.lt rfl rfl) rfl rfl ?_
    intro b2 hb2
    refine OL.q (Q1.pick_f rfl rfl) rfl rfl ?_
    refine OL.q (Q1.move rfl) rfl rfl ?_
    cases b2 with
    | true =>
      replace hb2 := of_decide_eq_true hb2.symm
      refine OL.sk rfl rfl ?_
      refine OL.sk rfl rfl ?_
      refine OL.sk rfl rfl ?_
      refine OL.sk rfl rfl ?_
      refine OL.q (Q1.pick_t rfl rfl) rfl rfl ?_
      refine OL.nil ?_
      refine r_cond_t rfl ?_
      refine r_seq ?_
      refine r_region ?_
      refine OL.q (Q1.assign rfl) rfl rfl ?_
      refine OL.q (Q1.assign rfl) rfl rfl ?_
      refine OL.nil ?_
      refine r_ret2 Try.func114 rfl rfl rfl ?_
      exact Ret.mk ⟨_, _, rfl, (congrArg (Value.int .i32) (by first | exact Ml.more_no (by omega) | exact Ml.more_yes (by omega) | exact Ml.cont_no (by omega) | exact Ml.cont_yes (by omega) | (exfalso; omega))), ⟨_, (by first | exact Ml.more_no (by omega) | exact Ml.more_yes (by omega) | exact Ml.cont_no (by omega) | exact Ml.cont_yes (by omega) | (exfalso; omega)), rfl⟩, hE0⟩
    | false =>
      replace hb2 := of_decide_eq_false hb2.symm
      refine OL.q (Q1.move rfl) rfl rfl ?_
      refine OL.q (Q1.move rfl) rfl rfl ?_
      have hy2 := byteAt_lt s (i)
      refine OL.q (Q1.indexB (i) Try.underlying9 rfl rfl (by omega) (by first | assumption | omega)) rfl rfl ?_
      refine OL.qb (Q1.gt rfl rfl) rfl rfl ?_
      intro b3 hb3
      refine OL.q (Q1.pick_f rfl rfl) rfl rfl ?_
      refine OL.nil ?_
      cases b3 with
      | true =>
        replace hb3 := of_decide_eq_true hb3.symm
        refine r_cond_t rfl ?_
        refine r_seq ?_
        refine r_region ?_
        refine OL.q (Q1.assign rfl) rfl rfl ?_
        refine OL.q (Q1.assign rfl) rfl rfl ?_
        refine OL.nil ?_
        refine r_ret2 Try.func114 rfl rfl rfl ?_
        exact Ret.mk ⟨_, _, rfl, (congrArg (Value.int .i32) (by first | exact Ml.more_no (by omega) | exact Ml.more_yes (by omega) | exact Ml.cont_no (by omega) | exact Ml.cont_yes (by omega) | (exfalso; omega))), ⟨_, (by first | exact Ml.more_no (by omega) | exact Ml.more_yes (by omega) | exact Ml.cont_no (by omega) | exact Ml.cont_yes (by omega) | (exfalso; omega)), rfl⟩, hE0⟩
      | false =>
        replace hb3 := of_decide_eq_false hb3.symm
        refine r_cond_f rfl ?_
        refine r_skip ?_
        refine r_seq ?_
        refine r_region ?_
        refine OL.q (Q1.move rfl) rfl rfl ?_
        refine OL.q (Q1.move rfl) rfl rfl ?_
        have hy3 := byteAt_lt s (i)
        refine OL.q (Q1.indexB (i) Try.underlying9 rfl rfl (by omega) (by first | assumption | omega)) rfl rfl ?_
        refine OL.q (Q1.convN (by kernel_rfl) Try.underlying21 rfl (IntWalk.i32_in _ (by omega))) rfl rfl ?_
        refine OL.q (Q1.sub32 ((((byteAt s i : Nat) : Int) - 128)) rfl rfl (by omega)) rfl rfl ?_
        refine OL.q (Q1.assign rfl) rfl rfl ?_
        refine OL.q (Q1.assign rfl) rfl rfl ?_
        refine OL.nil ?_
        refine r_ret2 Try.func114 rfl rfl rfl ?_
        exact Ret.mk ⟨_, _, rfl, (congrArg (Value.int .i32) (by first | exact Ml.more_no (by omega) | exact Ml.more_yes (by omega) | exact Ml.cont_no (by omega) | exact Ml.cont_yes (by omega) | (exfalso; omega))), ⟨_, (by first | exact Ml.more_no (by omega) | exact Ml.more_yes (by omega) | exact Ml.cont_no (by omega) | exact Ml.cont_yes (by omega) | (exfalso; omega)), rfl⟩, hE0⟩
set_option maxRecDepth 20000 in
set_option maxHeartbeats 4000000 in
theorem rone_c {w0 : World}  (s : Str) (i : Nat) (hs : s.length ≤ 1000000000) (hi : i < s.length) :
    Calls Try.prog 101 #[strV s, .int .i64 (((i : Nat) : Int))] w0 (Ret fun rv w1 => ∃ u0 u1, rv = .tuple #[u0, u1] ∧ u0 = .int .i32 ((Ml.oneM s i).1) ∧ u1 = .int .i64 ((((Ml.oneM s i).2.toNat : Nat) : Int)) ∧ Ext w0 w1) := by
  have hE0 : Ext w0 w0 := Mod.refl _ _
  refine calls_enter Try.func101 rfl Try.ntmps101 rfl ?_
  refine r_seq ?_
  refine r_region ?_
  refine OL.q (Q1.assign rfl) rfl rfl ?_
  refine OL.q (Q1.assign rfl) rfl rfl ?_
  refine OL.nil ?_
  refine r_seq ?_
  refine r_region ?_
  refine OL.q (Q1.move rfl) rfl rfl ?_
  refine OL.q (Q1.move rfl) rfl rfl ?_
  have hy1 := byteAt_lt s (i)
  refine OL.q (Q1.indexB (i) Try.underlying9 rfl rfl (by omega) (by first | assumption | omega)) rfl rfl ?_
  refine OL.q (Q1.convN (by kernel_rfl) Try.underlying21 rfl (IntWalk.i32_in _ (by omega))) rfl rfl ?_
  refine OL.q (Q1.assign rfl) rfl rfl ?_
  refine OL.nil ?_
  refine r_seq ?_
  refine r_region ?_
  refine OL.q (Q1.move rfl) rfl rfl ?_
  refine OL.q (Q1.move rfl) rfl rfl ?_
  refine OL.q (Q1.addI (((i + 1 : Nat) : Int)) rfl rfl (by omega)) rfl rfl ?_
  refine OL.act rfl rfl (AW.callF cl114 rfl (rmore_c (w0 := w0)  s (i + 1) (by first | assumption | omega) (by first | assumption | omega)) ?_)
  rintro _ w1 ⟨_, _, rfl, rfl, ⟨b1, hb1, rfl⟩, hm1⟩
  have hE1 := hE0.ext hm1
  have hs1 := hm1.size
  have := Ml.more_range s (i + 1)
  refine OL.q (Q1.move rfl) rfl rfl ?_
  refine OL.q (Q1.extract rfl rfl) rfl rfl ?_
  refine OL.q (Q1.extract rfl rfl) rfl rfl ?_
  refine OL.q (Q1.assign rfl) rfl rfl ?_
  refine OL.q (Q1.assign rfl) rfl rfl ?_
  refine OL.nil ?_
  refine r_seq ?_
  refine r_region ?_
  refine OL.q (Q1.move rfl) rfl rfl ?_
  refine OL.q (Q1.move rfl) rfl rfl ?_
  refine OL.q (Q1.addI (((i + 2 : Nat) : Int)) rfl rfl (by omega)) rfl rfl ?_
  refine OL.act rfl rfl (AW.callF cl114 rfl (rmore_c (w0 := w1)  s (i + 2) (by first | assumption | omega) (by first | assumption | omega)) ?_)
  rintro _ w2 ⟨_, _, rfl, rfl, ⟨b2, hb2, rfl⟩, hm2⟩
  have hE2 := hE1.ext hm2
  have hs2 := hm2.size
  have := Ml.more_range s (i + 2)
  refine OL.q (Q1.move rfl) rfl rfl ?_
  refine OL.q (Q1.extract rfl rfl) rfl rfl ?_
  refine OL.q (Q1.extract rfl rfl) rfl rfl ?_
  refine OL.q (Q1.assign rfl) rfl rfl ?_
  refine OL.q (Q1.assign rfl) rfl rfl ?_
  refine OL.nil ?_
  refine r_seq ?_
  refine r_region ?_
  refine OL.q (Q1.move rfl) rfl rfl ?_
  refine OL.q (Q1.move rfl) rfl rfl ?_
  refine OL.q (Q1.addI (((i + 3 : Nat) : Int)) rfl rfl (by omega)) rfl rfl ?_
  refine OL.act rfl rfl (AW.callF cl114 rfl (rmore_c (w0 := w2)  s (i + 3) (by first | assumption | omega) (by first | assumption | omega)) ?_)
  rintro _ w3 ⟨_, _, rfl, rfl, ⟨b3, hb3, rfl⟩, hm3⟩
  have hE3 := hE2.ext hm3
  have hs3 := hm3.size
  have := Ml.more_range s (i + 3)
  refine OL.q (Q1.move rfl) rfl rfl ?_
  refine OL.q (Q1.extract rfl rfl) rfl rfl ?_
  refine OL.q (Q1.extract rfl rfl) rfl rfl ?_
  refine OL.q (Q1.assign rfl) rfl rfl ?_
  refine OL.q (Q1.assign rfl) rfl rfl ?_
  refine OL.nil ?_
  refine r_seq ?_
  refine r_block ?_
  refine r_seq ?_
  refine r_region ?_
  refine OL.q (Q1.move rfl) rfl rfl ?_
  refine OL.qb (Q1.lt rfl rfl) rfl rfl ?_
  intro b4 hb4
  refine OL.q (Q1.assign rfl) rfl rfl ?_
  refine OL.nil ?_
  cases b4 with
  | true =>
    replace hb4 := of_decide_eq_true hb4.symm
    refine r_cond_t rfl ?_
    refine r_seq ?_
    refine r_region ?_
    refine OL.q (Q1.move rfl) rfl rfl ?_
    refine OL.q (Q1.assign rfl) rfl rfl ?_
    refine OL.q (Q1.assign rfl) rfl rfl ?_
    obtain ⟨hone1, hone2⟩ := Ml.one_1 (by omega)
    refine OL.nil ?_
    refine r_ret2 Try.func101 rfl rfl rfl ?_
    exact Ret.mk ⟨_, _, rfl, (congrArg (Value.int .i32) (by first | (with_reducible exact hone1) | (rw [← hone2]; rfl) | (exfalso; omega))), (congrArg (Value.int .i64) (by first | (with_reducible exact hone1) | (rw [← hone2]; rfl) | (exfalso; omega))), hE3⟩
  | false =>
    replace hb4 := of_decide_eq_false hb4.symm
    refine r_cond_f rfl ?_
    refine r_seq ?_
    refine r_region ?_
    refine OL.q (Q1.move rfl) rfl rfl ?_
    refine OL.qb (Q1.ge rfl rfl) rfl rfl ?_
    intro b5 hb5
    refine OL.q (Q1.move rfl) rfl rfl ?_
    cases b5 with
    | true =>
      replace hb5 := of_decide_eq_true hb5.symm
      refine OL.q (Q1.move rfl) rfl rfl ?_
      refine OL.qb (Q1.le rfl rfl) rfl rfl ?_
      intro b6 hb6
      refine OL.q (Q1.pick_t rfl rfl) rfl rfl ?_
      refine OL.q (Q1.move rfl) rfl rfl ?_
      cases b6 with
      | true =>
        replace hb6 := of_decide_eq_true hb6.symm
        refine OL.q (Q1.move rfl) rfl rfl ?_
        refine OL.q (Q1.pick_t rfl rfl) rfl rfl ?_
        refine OL.q (Q1.assign rfl) rfl rfl ?_
        refine OL.nil ?_
        cases b1 with
        | true =>
          replace hb1 := hb1.symm
          refine r_cond_t rfl ?_
          refine r_seq ?_
          refine r_region ?_
          refine OL.q (Q1.move rfl) rfl rfl ?_
          refine OL.q (Q1.sub32 ((((byteAt s i : Nat) : Int) - 192)) rfl rfl (by omega)) rfl rfl ?_
          refine OL.q (Q1.mul32 (((((byteAt s i : Nat) : Int) - 192) * 64)) rfl rfl (by omega)) rfl rfl ?_
          refine OL.q (Q1.move rfl) rfl rfl ?_
          refine OL.q (Q1.add32 ((((((byteAt s i : Nat) : Int) - 192) * 64) + ((Ml.moreV s (i + 1))))) rfl rfl (by omega)) rfl rfl ?_
          refine OL.q (Q1.assign rfl) rfl rfl ?_
          refine OL.q (Q1.assign rfl) rfl rfl ?_
          obtain ⟨hone1, hone2⟩ := Ml.one_2 (by omega) ⟨by omega, by omega, by assumption⟩
          refine OL.nil ?_
          refine r_ret2 Try.func101 rfl rfl rfl ?_
          exact Ret.mk ⟨_, _, rfl, (congrArg (Value.int .i32) (by first | (with_reducible exact hone1) | (rw [← hone2]; rfl) | (exfalso; omega))), (congrArg (Value.int .i64) (by first | (with_reducible exact hone1) | (rw [← hone2]; rfl) | (exfalso; omega))), hE3⟩
        | false =>
          replace hb1 := hb1.symm
          refine r_cond_f rfl ?_
          refine r_seq ?_
          refine r_region ?_
          refine OL.q (Q1.move rfl) rfl rfl ?_
          refine OL.qb (Q1.ge rfl rfl) rfl rfl ?_
          intro b7 hb7
          refine OL.q (Q1.move rfl) rfl rfl ?_
          cases b7 with
          | true =>
            replace hb7 := of_decide_eq_true hb7.symm
            refine OL.q (Q1.move rfl) rfl rfl ?_
            refine OL.qb (Q1.le rfl rfl) rfl rfl ?_
            intro b8 hb8
            refine OL.q (Q1.pick_t rfl rfl) rfl rfl ?_
            refine OL.q (Q1.move rfl) rfl rfl ?_
            cases b8 with
            | true =>
              replace hb8 := of_decide_eq_true hb8.symm
              refine OL.q (Q1.move rfl) rfl rfl ?_
              refine OL.q (Q1.pick_t rfl rfl) rfl rfl ?_
              refine OL.q (Q1.move rfl) rfl rfl ?_
              refine OL.sk rfl rfl ?_
              refine OL.q (Q1.pick_f rfl rfl) rfl rfl ?_
              refine OL.q (Q1.assign rfl) rfl rfl ?_
              refine OL.nil ?_
              refine r_cond_f rfl ?_
              refine r_seq ?_
              refine r_region ?_
              refine OL.q (Q1.move rfl) rfl rfl ?_
              refine OL.qb (Q1.ge rfl rfl) rfl rfl ?_
              intro b9 hb9
              refine OL.q (Q1.move rfl) rfl rfl ?_
              cases b9 with
              | true =>
                replace hb9 := of_decide_eq_true hb9.symm
                refine OL.q (Q1.move rfl) rfl rfl ?_
                refine OL.qb (Q1.le rfl rfl) rfl rfl ?_
                intro b10 hb10
                refine OL.q (Q1.pick_t rfl rfl) rfl rfl ?_
                refine OL.q (Q1.move rfl) rfl rfl ?_
                cases b10 with
                | true =>
                  replace hb10 := of_decide_eq_true hb10.symm
                  refine OL.q (Q1.move rfl) rfl rfl ?_
                  refine OL.q (Q1.pick_t rfl rfl) rfl rfl ?_
                  refine OL.q (Q1.move rfl) rfl rfl ?_
                  refine OL.sk rfl rfl ?_
                  refine OL.q (Q1.pick_f rfl rfl) rfl rfl ?_
                  refine OL.q (Q1.move rfl) rfl rfl ?_
                  refine OL.sk rfl rfl ?_
                  refine OL.q (Q1.pick_f rfl rfl) rfl rfl ?_
                  refine OL.q (Q1.assign rfl) rfl rfl ?_
                  refine OL.nil ?_
                  refine r_cond_f rfl ?_
                  refine r_skip ?_
                  refine r_inBlock ?_
                  refine r_seq ?_
                  refine r_region ?_
                  refine OL.q (Q1.assign rfl) rfl rfl ?_
                  refine OL.q (Q1.assign rfl) rfl rfl ?_
                  obtain ⟨hone1, hone2⟩ := Ml.one_0 (by omega) (by intro hh; first | omega | (simp_all; done)) (by intro hh; first | omega | (simp_all; done)) (by intro hh; first | omega | (simp_all; done))
                  refine OL.nil ?_
                  refine r_ret2 Try.func101 rfl rfl rfl ?_
                  exact Ret.mk ⟨_, _, rfl, (congrArg (Value.int .i32) (by first | (with_reducible exact hone1) | (rw [← hone2]; rfl) | (exfalso; omega))), (congrArg (Value.int .i64) (by first | (with_reducible exact hone1) | (rw [← hone2]; rfl) | (exfalso; omega))), hE3⟩
                | false =>
                  replace hb10 := of_decide_eq_false hb10.symm
                  refine OL.sk rfl rfl ?_
                  refine OL.q (Q1.pick_f rfl rfl) rfl rfl ?_
                  refine OL.q (Q1.move rfl) rfl rfl ?_
                  refine OL.sk rfl rfl ?_
                  refine OL.q (Q1.pick_f rfl rfl) rfl rfl ?_
                  refine OL.q (Q1.move rfl) rfl rfl ?_
                  refine OL.sk rfl rfl ?_
                  refine OL.q (Q1.pick_f rfl rfl) rfl rfl ?_
                  refine OL.q (Q1.assign rfl) rfl rfl ?_
                  refine OL.nil ?_
                  refine r_cond_f rfl ?_
                  refine r_skip ?_
                  refine r_inBlock ?_
                  refine r_seq ?_
                  refine r_region ?_
                  refine OL.q (Q1.assign rfl) rfl rfl ?_
                  refine OL.q (Q1.assign rfl) rfl rfl ?_
                  obtain ⟨hone1, hone2⟩ := Ml.one_0 (by omega) (by intro hh; first | omega | (simp_all; done)) (by intro hh; first | omega | (simp_all; done)) (by intro hh; first | omega | (simp_all; done))
                  refine OL.nil ?_
                  refine r_ret2 Try.func101 rfl rfl rfl ?_
                  exact Ret.mk ⟨_, _, rfl, (congrArg (Value.int .i32) (by first | (with_reducible exact hone1) | (rw [← hone2]; rfl) | (exfalso; omega))), (congrArg (Value.int .i64) (by first | (with_reducible exact hone1) | (rw [← hone2]; rfl) | (exfalso; omega))), hE3⟩
              | false =>
                replace hb9 := of_decide_eq_false hb9.symm
                refine OL.sk rfl rfl ?_
                refine OL.sk rfl rfl ?_
                refine OL.q (Q1.pick_f rfl rfl) rfl rfl ?_
                refine OL.q (Q1.move rfl) rfl rfl ?_
                refine OL.sk rfl rfl ?_
                refine OL.q (Q1.pick_f rfl rfl) rfl rfl ?_
                refine OL.q (Q1.move rfl) rfl rfl ?_
                refine OL.sk rfl rfl ?_
                refine OL.q (Q1.pick_f rfl rfl) rfl rfl ?_
                refine OL.q (Q1.move rfl) rfl rfl ?_
                refine OL.sk rfl rfl ?_
                refine OL.q (Q1.pick_f rfl rfl) rfl rfl ?_
                refine OL.q (Q1.assign rfl) rfl rfl ?_
                refine OL.nil ?_
                refine r_cond_f rfl ?_
                refine r_skip ?_
                refine r_inBlock ?_
                refine r_seq ?_
                refine r_region ?_
                refine OL.q (Q1.assign rfl) rfl rfl ?_
                refine OL.q (Q1.assign rfl) rfl rfl ?_
                obtain ⟨hone1, hone2⟩ := Ml.one_0 (by omega) (by intro hh; first | omega | (simp_all; done)) (by intro hh; first | omega | (simp_all; done)) (by intro hh; first | omega | (simp_all; done))
                refine OL.nil ?_
                refine r_ret2 Try.func101 rfl rfl rfl ?_
                exact Ret.mk ⟨_, _, rfl, (congrArg (Value.int .i32) (by first | (with_reducible exact hone1) | (rw [← hone2]; rfl) | (exfalso; omega))), (congrArg (Value.int .i64) (by first | (with_reducible exact hone1) | (rw [← hone2]; rfl) | (exfalso; omega))), hE3⟩
            | false =>
              replace hb8 := of_decide_eq_false hb8.symm
              refine OL.sk rfl rfl ?_
              refine OL.q (Q1.pick_f rfl rfl) rfl rfl ?_
              refine OL.q (Q1.move rfl) rfl rfl ?_
              refine OL.sk rfl rfl ?_
              refine OL.q (Q1.pick_f rfl rfl) rfl rfl ?_
              refine OL.q (Q1.assign rfl) rfl rfl ?_
              refine OL.nil ?_
              refine r_cond_f rfl ?_
              refine r_seq ?_
              refine r_region ?_
              refine OL.q (Q1.move rfl) rfl rfl ?_
              refine OL.qb (Q1.ge rfl rfl) rfl rfl ?_
              intro b9 hb9
              refine OL.q (Q1.move rfl) rfl rfl ?_
              cases b9 with
              | true =>
                replace hb9 := of_decide_eq_true hb9.symm
                refine OL.q (Q1.move rfl) rfl rfl ?_
                refine OL.qb (Q1.le rfl rfl) rfl rfl ?_
                intro b10 hb10
                refine OL.q (Q1.pick_t rfl rfl) rfl rfl ?_
                refine OL.q (Q1.move rfl) rfl rfl ?_
                cases b10 with
                | true =>
                  replace hb10 := of_decide_eq_true hb10.symm
                  refine OL.q (Q1.move rfl) rfl rfl ?_
                  refine OL.q (Q1.pick_t rfl rfl) rfl rfl ?_
                  refine OL.q (Q1.move rfl) rfl rfl ?_
                  refine OL.sk rfl rfl ?_
                  refine OL.q (Q1.pick_f rfl rfl) rfl rfl ?_
                  refine OL.q (Q1.move rfl) rfl rfl ?_
                  refine OL.sk rfl rfl ?_
                  refine OL.q (Q1.pick_f rfl rfl) rfl rfl ?_
                  refine OL.q (Q1.assign rfl) rfl rfl ?_
                  refine OL.nil ?_
                  refine r_cond_f rfl ?_
                  refine r_skip ?_
                  refine r_inBlock ?_
                  refine r_seq ?_
                  refine r_region ?_
                  refine OL.q (Q1.assign rfl) rfl rfl ?_
                  refine OL.q (Q1.assign rfl) rfl rfl ?_
                  obtain ⟨hone1, hone2⟩ := Ml.one_0 (by omega) (by intro hh; first | omega | (simp_all; done)) (by intro hh; first | omega | (simp_all; done)) (by intro hh; first | omega | (simp_all; done))
                  refine OL.nil ?_
                  refine r_ret2 Try.func101 rfl rfl rfl ?_
                  exact Ret.mk ⟨_, _, rfl, (congrArg (Value.int .i32) (by first | (with_reducible exact hone1) | (rw [← hone2]; rfl) | (exfalso; omega))), (congrArg (Value.int .i64) (by first | (with_reducible exact hone1) | (rw [← hone2]; rfl) | (exfalso; omega))), hE3⟩
                | false =>
                  replace hb10 := of_decide_eq_false hb10.symm
                  refine OL.sk rfl rfl ?_
                  refine OL.q (Q1.pick_f rfl rfl) rfl rfl ?_
                  refine OL.q (Q1.move rfl) rfl rfl ?_
                  refine OL.sk rfl rfl ?_
                  refine OL.q (Q1.pick_f rfl rfl) rfl rfl ?_
                  refine OL.q (Q1.move rfl) rfl rfl ?_
                  refine OL.sk rfl rfl ?_
                  refine OL.q (Q1.pick_f rfl rfl) rfl rfl ?_
                  refine OL.q (Q1.assign rfl) rfl rfl ?_
                  refine OL.nil ?_
                  refine r_cond_f rfl ?_
                  refine r_skip ?_
                  refine r_inBlock ?_
                  refine r_seq ?_
                  refine r_region ?_
                  refine OL.q (Q1.assign rfl) rfl rfl ?_
                  refine OL.q (Q1.assign rfl) rfl rfl ?_
                  obtain ⟨hone1, hone2⟩ := Ml.one_0 (by omega) (by intro hh; first | omega | (simp_all; done)) (by intro hh; first | omega | (simp_all; done)) (by intro hh; first | omega | (simp_all; done))
                  refine OL.nil ?_
                  refine r_ret2 Try.func101 rfl rfl rfl ?_
                  exact Ret.mk ⟨_, _, rfl, (congrArg (Value.int .i32) (by first | (with_reducible exact hone1) | (rw [← hone2]; rfl) | (exfalso; omega))), (congrArg (Value.int .i64) (by first | (with_reducible exact hone1) | (rw [← hone2]; rfl) | (exfalso; omega))), hE3⟩
              | false =>
                replace hb9 := of_decide_eq_false hb9.symm
                refine OL.sk rfl rfl ?_
                refine OL.sk rfl rfl ?_
                refine OL.q (Q1.pick_f rfl rfl) rfl rfl ?_
                refine OL.q (Q1.move rfl) rfl rfl ?_
                refine OL.sk rfl rfl ?_
                refine OL.q (Q1.pick_f rfl rfl) rfl rfl ?_
                refine OL.q (Q1.move rfl) rfl rfl ?_
                refine OL.sk rfl rfl ?_
                refine OL.q (Q1.pick_f rfl rfl) rfl rfl ?_
                refine OL.q (Q1.move rfl) rfl rfl ?_
                refine OL.sk rfl rfl ?_
                refine OL.q (Q1.pick_f rfl rfl) rfl rfl ?_
                refine OL.q (Q1.assign rfl) rfl rfl ?_
                refine OL.nil ?_
                refine r_cond_f rfl ?_
                refine r_skip ?_
                refine r_inBlock ?_
                refine r_seq ?_
                refine r_region ?_
                refine OL.q (Q1.assign rfl) rfl rfl ?_
                refine OL.q (Q1.assign rfl) rfl rfl ?_
                obtain ⟨hone1, hone2⟩ := Ml.one_0 (by omega) (by intro hh; first | omega | (simp_all; done)) (by intro hh; first | omega | (simp_all; done)) (by intro hh; first | omega | (simp_all; done))
                refine OL.nil ?_
                refine r_ret2 Try.func101 rfl rfl rfl ?_
                exact Ret.mk ⟨_, _, rfl, (congrArg (Value.int .i32) (by first | (with_reducible exact hone1) | (rw [← hone2]; rfl) | (exfalso; omega))), (congrArg (Value.int .i64) (by first | (with_reducible exact hone1) | (rw [← hone2]; rfl) | (exfalso; omega))), hE3⟩
          | false =>
            replace hb7 := of_decide_eq_false hb7.symm
            refine OL.sk rfl rfl ?_
            refine OL.sk rfl rfl ?_
            refine OL.q (Q1.pick_f rfl rfl) rfl rfl ?_
            refine OL.q (Q1.move rfl) rfl rfl ?_
            refine OL.sk rfl rfl ?_
            refine OL.q (Q1.pick_f rfl rfl) rfl rfl ?_
            refine OL.q (Q1.move rfl) rfl rfl ?_
            refine OL.sk rfl rfl ?_
            refine OL.q (Q1.pick_f rfl rfl) rfl rfl ?_
            refine OL.q (Q1.assign rfl) rfl rfl ?_
            refine OL.nil ?_
            refine r_cond_f rfl ?_
            refine r_seq ?_
            refine r_region ?_
            refine OL.q (Q1.move rfl) rfl rfl ?_
            refine OL.qb (Q1.ge rfl rfl) rfl rfl ?_
            intro b8 hb8
            refine OL.q (Q1.move rfl) rfl rfl ?_
            cases b8 with
            | true =>
              replace hb8 := of_decide_eq_true hb8.symm
              refine OL.q (Q1.move rfl) rfl rfl ?_
              refine OL.qb (Q1.le rfl rfl) rfl rfl ?_
              intro b9 hb9
              refine OL.q (Q1.pick_t rfl rfl) rfl rfl ?_
              refine OL.q (Q1.move rfl) rfl rfl ?_
              cases b9 with
              | true =>
                replace hb9 := of_decide_eq_true hb9.symm
                refine OL.q (Q1.move rfl) rfl rfl ?_
                refine OL.q (Q1.pick_t rfl rfl) rfl rfl ?_
                refine OL.q (Q1.move rfl) rfl rfl ?_
                refine OL.sk rfl rfl ?_
                refine OL.q (Q1.pick_f rfl rfl) rfl rfl ?_
                refine OL.q (Q1.move rfl) rfl rfl ?_
                refine OL.sk rfl rfl ?_
                refine OL.q (Q1.pick_f rfl rfl) rfl rfl ?_
                refine OL.q (Q1.assign rfl) rfl rfl ?_
                refine OL.nil ?_
                refine r_cond_f rfl ?_
                refine r_skip ?_
                refine r_inBlock ?_
                refine r_seq ?_
                refine r_region ?_
                refine OL.q (Q1.assign rfl) rfl rfl ?_
                refine OL.q (Q1.assign rfl) rfl rfl ?_
                obtain ⟨hone1, hone2⟩ := Ml.one_0 (by omega) (by intro hh; first | omega | (simp_all; done)) (by intro hh; first | omega | (simp_all; done)) (by intro hh; first | omega | (simp_all; done))
                refine OL.nil ?_
                refine r_ret2 Try.func101 rfl rfl rfl ?_
                exact Ret.mk ⟨_, _, rfl, (congrArg (Value.int .i32) (by first | (with_reducible exact hone1) | (rw [← hone2]; rfl) | (exfalso; omega))), (congrArg (Value.int .i64) (by first | (with_reducible exact hone1) | (rw [← hone2]; rfl) | (exfalso; omega))), hE3⟩
              | false =>
                replace hb9 := of_decide_eq_false hb9.symm
                refine OL.sk rfl rfl ?_
                refine OL.q (Q1.pick_f rfl rfl) rfl rfl ?_
                refine OL.q (Q1.move rfl) rfl rfl ?_
                refine OL.sk rfl rfl ?_
                refine OL.q (Q1.pick_f rfl rfl) rfl rfl ?_
                refine OL.q (Q1.move rfl) rfl rfl ?_
                refine OL.sk rfl rfl ?_
                refine OL.q (Q1.pick_f rfl rfl) rfl rfl ?_
                refine OL.q (Q1.assign rfl) rfl rfl ?_
                refine OL.nil ?_
                refine r_cond_f rfl ?_
                refine r_skip ?_
                refine r_inBlock ?_
                refine r_seq ?_
                refine r_region ?_
                refine OL.q (Q1.assign rfl) rfl rfl ?_
                refine OL.q (Q1.assign rfl) rfl rfl ?_
                obtain ⟨hone1, hone2⟩ := Ml.one_0 (by omega) (by intro hh; first | omega | (simp_all; done)) (by intro hh; first | omega | (simp_all; done)) (by intro hh; first | omega | (simp_all; done))
                refine OL.nil ?_
                refine r_ret2 Try.func101 rfl rfl rfl ?_
                exact Ret.mk ⟨_, _, rfl, (congrArg (Value.int .i32) (by first | (with_reducible exact hone1) | (rw [← hone2]; rfl) | (exfalso; omega))), (congrArg (Value.int .i64) (by first | (with_reducible exact hone1) | (rw [← hone2]; rfl) | (exfalso; omega))), hE3⟩
            | false =>
              replace hb8 := of_decide_eq_false hb8.symm
              refine OL.sk rfl rfl ?_
              refine OL.sk rfl rfl ?_
              refine OL.q (Q1.pick_f rfl rfl) rfl rfl ?_
              refine OL.q (Q1.move rfl) rfl rfl ?_
              refine OL.sk rfl rfl ?_
              refine OL.q (Q1.pick_f rfl rfl) rfl rfl ?_
              refine OL.q (Q1.move rfl) rfl rfl ?_
              refine OL.sk rfl rfl ?_
              refine OL.q (Q1.pick_f rfl rfl) rfl rfl ?_
              refine OL.q (Q1.move rfl) rfl rfl ?_
              refine OL.sk rfl rfl ?_
              refine OL.q (Q1.pick_f rfl rfl) rfl rfl ?_
              refine OL.q (Q1.assign rfl) rfl rfl ?_
              refine OL.nil ?_
              refine r_cond_f rfl ?_
              refine r_skip ?_
              refine r_inBlock ?_
              refine r_seq ?_
              refine r_region ?_
              refine OL.q (Q1.assign rfl) rfl rfl ?_
              refine OL.q (Q1.assign rfl) rfl rfl ?_
              obtain ⟨hone1, hone2⟩ := Ml.one_0 (by omega) (by intro hh; first | omega | (simp_all; done)) (by intro hh; first | omega | (simp_all; done)) (by intro hh; first | omega | (simp_all; done))
              refine OL.nil ?_
              refine r_ret2 Try.func101 rfl rfl rfl ?_
              exact Ret.mk ⟨_, _, rfl, (congrArg (Value.int .i32) (by first | (with_reducible exact hone1) | (rw [← hone2]; rfl) | (exfalso; omega))), (congrArg (Value.int .i64) (by first | (with_reducible exact hone1) | (rw [← hone2]; rfl) | (exfalso; omega))), hE3⟩
      | false =>
        replace hb6 := of_decide_eq_false hb6.symm
        refine OL.sk rfl rfl ?_
        refine OL.q (Q1.pick_f rfl rfl) rfl rfl ?_
        refine OL.q (Q1.assign rfl) rfl rfl ?_
        refine OL.nil ?_
        refine r_cond_f rfl ?_
        refine r_seq ?_
        refine r_region ?_
        refine OL.q (Q1.move rfl) rfl rfl ?_
        refine OL.qb (Q1.ge rfl rfl) rfl rfl ?_
        intro b7 hb7
        refine OL.q (Q1.move rfl) rfl rfl ?_
        cases b7 with
        | true =>
          replace hb7 := of_decide_eq_true hb7.symm
          refine OL.q (Q1.move rfl) rfl rfl ?_
          refine OL.qb (Q1.le rfl rfl) rfl rfl ?_
          intro b8 hb8
          refine OL.q (Q1.pick_t rfl rfl) rfl rfl ?_
          refine OL.q (Q1.move rfl) rfl rfl ?_
          cases b8 with
          | true =>
            replace hb8 := of_decide_eq_true hb8.symm
            refine OL.q (Q1.move rfl) rfl rfl ?_
            refine OL.q (Q1.pick_t rfl rfl) rfl rfl ?_
            refine OL.q (Q1.move rfl) rfl rfl ?_
            cases b1 with
            | true =>
              replace hb1 := hb1.symm
              refine OL.q (Q1.move rfl) rfl rfl ?_
              refine OL.q (Q1.pick_t rfl rfl) rfl rfl ?_
              refine OL.q (Q1.assign rfl) rfl rfl ?_
              refine OL.nil ?_
              cases b2 with
              | true =>
                replace hb2 := hb2.symm
                refine r_cond_t rfl ?_
                refine r_seq ?_
                refine r_region ?_
                refine OL.q (Q1.move rfl) rfl rfl ?_
                refine OL.q (Q1.sub32 ((((byteAt s i : Nat) : Int) - 224)) rfl rfl (by omega)) rfl rfl ?_
                refine OL.q (Q1.mul32 (((((byteAt s i : Nat) : Int) - 224) * 4096)) rfl rfl (by omega)) rfl rfl ?_
                refine OL.q (Q1.move rfl) rfl rfl ?_
                refine OL.q (Q1.mul32 (((Ml.moreV s (i + 1)) * 64)) rfl rfl (by omega)) rfl rfl ?_
                refine OL.q (Q1.add32 ((((((byteAt s i : Nat) : Int) - 224) * 4096) + (((Ml.moreV s (i + 1)) * 64)))) rfl rfl (by omega)) rfl rfl ?_
                refine OL.q (Q1.move rfl) rfl rfl ?_
                refine OL.q (Q1.add32 (((((((byteAt s i : Nat) : Int) - 224) * 4096) + (((Ml.moreV s (i + 1)) * 64))) + ((Ml.moreV s (i + 2))))) rfl rfl (by omega)) rfl rfl ?_
                refine OL.q (Q1.assign rfl) rfl rfl ?_
                refine OL.q (Q1.assign rfl) rfl rfl ?_
                obtain ⟨hone1, hone2⟩ := Ml.one_3 (by omega) (by intro hh; first | omega | (simp_all; done)) ⟨by omega, by omega, by assumption, by assumption⟩
                refine OL.nil ?_
                refine r_ret2 Try.func101 rfl rfl rfl ?_
                exact Ret.mk ⟨_, _, rfl, (congrArg (Value.int .i32) (by first | (with_reducible exact hone1) | (rw [← hone2]; rfl) | (exfalso; omega))), (congrArg (Value.int .i64) (by first | (with_reducible exact hone1) | (rw [← hone2]; rfl) | (exfalso; omega))), hE3⟩
              | false =>
                replace hb2 := hb2.symm
                refine r_cond_f rfl ?_
                refine r_seq ?_
                refine r_region ?_
                refine OL.q (Q1.move rfl) rfl rfl ?_
                refine OL.qb (Q1.ge rfl rfl) rfl rfl ?_
                intro b9 hb9
                refine OL.q (Q1.move rfl) rfl rfl ?_
                cases b9 with
                | true =>
                  replace hb9 := of_decide_eq_true hb9.symm
                  refine OL.q (Q1.move rfl) rfl rfl ?_
                  refine OL.qb (Q1.le rfl rfl) rfl rfl ?_
                  intro b10 hb10
                  refine OL.q (Q1.pick_t rfl rfl) rfl rfl ?_
                  refine OL.q (Q1.move rfl) rfl rfl ?_
                  cases b10 with
                  | true =>
                    replace hb10 := of_decide_eq_true hb10.symm
                    refine OL.q (Q1.move rfl) rfl rfl ?_
                    refine OL.q (Q1.pick_t rfl rfl) rfl rfl ?_
                    refine OL.q (Q1.move rfl) rfl rfl ?_
                    refine OL.q (Q1.move rfl) rfl rfl ?_
                    refine OL.q (Q1.pick_t rfl rfl) rfl rfl ?_
                    refine OL.q (Q1.move rfl) rfl rfl ?_
                    refine OL.sk rfl rfl ?_
                    refine OL.q (Q1.pick_f rfl rfl) rfl rfl ?_
                    refine OL.q (Q1.assign rfl) rfl rfl ?_
                    refine OL.nil ?_
                    refine r_cond_f rfl ?_
                    refine r_skip ?_
                    refine r_inBlock ?_
                    refine r_seq ?_
                    refine r_region ?_
                    refine OL.q (Q1.assign rfl) rfl rfl ?_
                    refine OL.q (Q1.assign rfl) rfl rfl ?_
                    obtain ⟨hone1, hone2⟩ := Ml.one_0 (by omega) (by intro hh; first | omega | (simp_all; done)) (by intro hh; first | omega | (simp_all; done)) (by intro hh; first | omega | (simp_all; done))
                    refine OL.nil ?_
                    refine r_ret2 Try.func101 rfl rfl rfl ?_
                    exact Ret.mk ⟨_, _, rfl, (congrArg (Value.int .i32) (by first | (with_reducible exact hone1) | (rw [← hone2]; rfl) | (exfalso; omega))), (congrArg (Value.int .i64) (by first | (with_reducible exact hone1) | (rw [← hone2]; rfl) | (exfalso; omega))), hE3⟩
                  | false =>
                    replace hb10 := of_decide_eq_false hb10.symm
                    refine OL.sk rfl rfl ?_
                    refine OL.q (Q1.pick_f rfl rfl) rfl rfl ?_
                    refine OL.q (Q1.move rfl) rfl rfl ?_
                    refine OL.sk rfl rfl ?_
                    refine OL.q (Q1.pick_f rfl rfl) rfl rfl ?_
                    refine OL.q (Q1.move rfl) rfl rfl ?_
                    refine OL.sk rfl rfl ?_
                    refine OL.q (Q1.pick_f rfl rfl) rfl rfl ?_
                    refine OL.q (Q1.assign rfl) rfl rfl ?_
                    refine OL.nil ?_
                    refine r_cond_f rfl ?_
                    refine r_skip ?_
                    refine r_inBlock ?_
                    refine r_seq ?_
                    refine r_region ?_
                    refine OL.q (Q1.assign rfl) rfl rfl ?_
                    refine OL.q (Q1.assign rfl) rfl rfl ?_
                    obtain ⟨hone1, hone2⟩ := Ml.one_0 (by omega) (by intro hh; first | omega | (simp_all; done)) (by intro hh; first | omega | (simp_all; done)) (by intro hh; first | omega | (simp_all; done))
                    refine OL.nil ?_
                    refine r_ret2 Try.func101 rfl rfl rfl ?_
                    exact Ret.mk ⟨_, _, rfl, (congrArg (Value.int .i32) (by first | (with_reducible exact hone1) | (rw [← hone2]; rfl) | (exfalso; omega))), (congrArg (Value.int .i64) (by first | (with_reducible exact hone1) | (rw [← hone2]; rfl) | (exfalso; omega))), hE3⟩
                | false =>
                  replace hb9 := of_decide_eq_false hb9.symm
                  refine OL.sk rfl rfl ?_
                  refine OL.sk rfl rfl ?_
                  refine OL.q (Q1.pick_f rfl rfl) rfl rfl ?_
                  refine OL.q (Q1.move rfl) rfl rfl ?_
                  refine OL.sk rfl rfl ?_
                  refine OL.q (Q1.pick_f rfl rfl) rfl rfl ?_
                  refine OL.q (Q1.move rfl) rfl rfl ?_
                  refine OL.sk rfl rfl ?_
                  refine OL.q (Q1.pick_f rfl rfl) rfl rfl ?_
                  refine OL.q (Q1.move rfl) rfl rfl ?_
                  refine OL.sk rfl rfl ?_
                  refine OL.q (Q1.pick_f rfl rfl) rfl rfl ?_
                  refine OL.q (Q1.assign rfl) rfl rfl ?_
                  refine OL.nil ?_
                  refine r_cond_f rfl ?_
                  refine r_skip ?_
                  refine r_inBlock ?_
                  refine r_seq ?_
                  refine r_region ?_
                  refine OL.q (Q1.assign rfl) rfl rfl ?_
                  refine OL.q (Q1.assign rfl) rfl rfl ?_
                  obtain ⟨hone1, hone2⟩ := Ml.one_0 (by omega) (by intro hh; first | omega | (simp_all; done)) (by intro hh; first | omega | (simp_all; done)) (by intro hh; first | omega | (simp_all; done))
                  refine OL.nil ?_
                  refine r_ret2 Try.func101 rfl rfl rfl ?_
                  exact Ret.mk ⟨_, _, rfl, (congrArg (Value.int .i32) (by first | (with_reducible exact hone1) | (rw [← hone2]; rfl) | (exfalso; omega))), (congrArg (Value.int .i64) (by first | (with_reducible exact hone1) | (rw [← hone2]; rfl) | (exfalso; omega))), hE3⟩
            | false =>
              replace hb1 := hb1.symm
              refine OL.sk rfl rfl ?_
              refine OL.q (Q1.pick_f rfl rfl) rfl rfl ?_
              refine OL.q (Q1.assign rfl) rfl rfl ?_
              refine OL.nil ?_
              refine r_cond_f rfl ?_
              refine r_seq ?_
              refine r_region ?_
              refine OL.q (Q1.move rfl) rfl rfl ?_
              refine OL.qb (Q1.ge rfl rfl) rfl rfl ?_
              intro b9 hb9
              refine OL.q (Q1.move rfl) rfl rfl ?_
              cases b9 with
              | true =>
                replace hb9 := of_decide_eq_true hb9.symm
                refine OL.q (Q1.move rfl) rfl rfl ?_
                refine OL.qb (Q1.le rfl rfl) rfl rfl ?_
                intro b10 hb10
                refine OL.q (Q1.pick_t rfl rfl) rfl rfl ?_
                refine OL.q (Q1.move rfl) rfl rfl ?_
                cases b10 with
                | true =>
                  replace hb10 := of_decide_eq_true hb10.symm
                  refine OL.q (Q1.move rfl) rfl rfl ?_
                  refine OL.q (Q1.pick_t rfl rfl) rfl rfl ?_
                  refine OL.q (Q1.move rfl) rfl rfl ?_
                  refine OL.sk rfl rfl ?_
                  refine OL.q (Q1.pick_f rfl rfl) rfl rfl ?_
                  refine OL.q (Q1.move rfl) rfl rfl ?_
                  refine OL.sk rfl rfl ?_
                  refine OL.q (Q1.pick_f rfl rfl) rfl rfl ?_
                  refine OL.q (Q1.assign rfl) rfl rfl ?_
                  refine OL.nil ?_
                  refine r_cond_f rfl ?_
                  refine r_skip ?_
                  refine r_inBlock ?_
                  refine r_seq ?_
                  refine r_region ?_
                  refine OL.q (Q1.assign rfl) rfl rfl ?_
                  refine OL.q (Q1.assign rfl) rfl rfl ?_
                  obtain ⟨hone1, hone2⟩ := Ml.one_0 (by omega) (by intro hh; first | omega | (simp_all; done)) (by intro hh; first | omega | (simp_all; done)) (by intro hh; first | omega | (simp_all; done))
                  refine OL.nil ?_
                  refine r_ret2 Try.func101 rfl rfl rfl ?_
                  exact Ret.mk ⟨_, _, rfl, (congrArg (Value.int .i32) (by first | (with_reducible exact hone1) | (rw [← hone2]; rfl) | (exfalso; omega))), (congrArg (Value.int .i64) (by first | (with_reducible exact hone1) | (rw [← hone2]; rfl) | (exfalso; omega))), hE3⟩
                | false =>
                  replace hb10 := of_decide_eq_false hb10.symm
                  refine OL.sk rfl rfl ?_
                  refine OL.q (Q1.pick_f rfl rfl) rfl rfl ?_
                  refine OL.q (Q1.move rfl) rfl rfl ?_
                  refine OL.sk rfl rfl ?_
                  refine OL.q (Q1.pick_f rfl rfl) rfl rfl ?_
                  refine OL.q (Q1.move rfl) rfl rfl ?_
                  refine OL.sk rfl rfl ?_
                  refine OL.q (Q1.pick_f rfl rfl) rfl rfl ?_
                  refine OL.q (Q1.assign rfl) rfl rfl ?_
                  refine OL.nil ?_
                  refine r_cond_f rfl ?_
                  refine r_skip ?_
                  refine r_inBlock ?_
                  refine r_seq ?_
                  refine r_region ?_
                  refine OL.q (Q1.assign rfl) rfl rfl ?_
                  refine OL.q (Q1.assign rfl) rfl rfl ?_
                  obtain ⟨hone1, hone2⟩ := Ml.one_0 (by omega) (by intro hh; first | omega | (simp_all; done)) (by intro hh; first | omega | (simp_all; done)) (by intro hh; first | omega | (simp_all; done))
                  refine OL.nil ?_
                  refine r_ret2 Try.func101 rfl rfl rfl ?_
                  exact Ret.mk ⟨_, _, rfl, (congrArg (Value.int .i32) (by first | (with_reducible exact hone1) | (rw [← hone2]; rfl) | (exfalso; omega))), (congrArg (Value.int .i64) (by first | (with_reducible exact hone1) | (rw [← hone2]; rfl) | (exfalso; omega))), hE3⟩
              | false =>
                replace hb9 := of_decide_eq_false hb9.symm
                refine OL.sk rfl rfl ?_
                refine OL.sk rfl rfl ?_
                refine OL.q (Q1.pick_f rfl rfl) rfl rfl ?_
                refine OL.q (Q1.move rfl) rfl rfl ?_
                refine OL.sk rfl rfl ?_
                refine OL.q (Q1.pick_f rfl rfl) rfl rfl ?_
                refine OL.q (Q1.move rfl) rfl rfl ?_
                refine OL.sk rfl rfl ?_
                refine OL.q (Q1.pick_f rfl rfl) rfl rfl ?_
                refine OL.q (Q1.move rfl) rfl rfl ?_
                refine OL.sk rfl rfl ?_
                refine OL.q (Q1.pick_f rfl rfl) rfl rfl ?_
                refine OL.q (Q1.assign rfl) rfl rfl ?_
                refine OL.nil ?_
                refine r_cond_f rfl ?_
                refine r_skip ?_
                refine r_inBlock ?_
                refine r_seq ?_
                refine r_region ?_
                refine OL.q (Q1.assign rfl) rfl rfl ?_
                refine OL.q (Q1.assign rfl) rfl rfl ?_
                obtain ⟨hone1, hone2⟩ := Ml.one_0 (by omega) (by intro hh; first | omega | (simp_all; done)) (by intro hh; first | omega | (simp_all; done)) (by intro hh; first | omega | (simp_all; done))
                refine OL.nil ?_
                refine r_ret2 Try.func101 rfl rfl rfl ?_
                exact Ret.mk ⟨_, _, rfl, (congrArg (Value.int .i32) (by first | (with_reducible exact hone1) | (rw [← hone2]; rfl) | (exfalso; omega))), (congrArg (Value.int .i64) (by first | (with_reducible exact hone1) | (rw [← hone2]; rfl) | (exfalso; omega))), hE3⟩
          | false =>
            replace hb8 := of_decide_eq_false hb8.symm
            refine OL.sk rfl rfl ?_
            refine OL.q (Q1.pick_f rfl rfl) rfl rfl ?_
            refine OL.q (Q1.move rfl) rfl rfl ?_
            refine OL.sk rfl rfl ?_
            refine OL.q (Q1.pick_f rfl rfl) rfl rfl ?_
            refine OL.q (Q1.assign rfl) rfl rfl ?_
            refine OL.nil ?_
            refine r_cond_f rfl ?_
            refine r_seq ?_
            refine r_region ?_
            refine OL.q (Q1.move rfl) rfl rfl ?_
            refine OL.qb (Q1.ge rfl rfl) rfl rfl ?_
            intro b9 hb9
            refine OL.q (Q1.move rfl) rfl rfl ?_
            cases b9 with
            | true =>
              replace hb9 := of_decide_eq_true hb9.symm
              refine OL.q (Q1.move rfl) rfl rfl ?_
              refine OL.qb (Q1.le rfl rfl) rfl rfl ?_
              intro b10 hb10
              refine OL.q (Q1.pick_t rfl rfl) rfl rfl ?_
              refine OL.q (Q1.move rfl) rfl rfl ?_
              cases b10 with
              | true =>
                replace hb10 := of_decide_eq_true hb10.symm
                refine OL.q (Q1.move rfl) rfl rfl ?_
                refine OL.q (Q1.pick_t rfl rfl) rfl rfl ?_
                refine OL.q (Q1.move rfl) rfl rfl ?_
                cases b1 with
                | true =>
                  replace hb1 := hb1.symm
                  refine OL.q (Q1.move rfl) rfl rfl ?_
                  refine OL.q (Q1.pick_t rfl rfl) rfl rfl ?_
                  refine OL.q (Q1.move rfl) rfl rfl ?_
                  cases b2 with
                  | true =>
                    replace hb2 := hb2.symm
                    refine OL.q (Q1.move rfl) rfl rfl ?_
                    refine OL.q (Q1.pick_t rfl rfl) rfl rfl ?_
                    refine OL.q (Q1.assign rfl) rfl rfl ?_
                    refine OL.nil ?_
                    cases b3 with
                    | true =>
                      replace hb3 := hb3.symm
                      refine r_cond_t rfl ?_
                      refine r_seq ?_
                      refine r_region ?_
                      refine OL.q (Q1.move rfl) rfl rfl ?_
                      refine OL.q (Q1.sub32 ((((byteAt s i : Nat) : Int) - 240)) rfl rfl (by omega)) rfl rfl ?_
                      refine OL.q (Q1.mul32 (((((byteAt s i : Nat) : Int) - 240) * 262144)) rfl rfl (by omega)) rfl rfl ?_
                      refine OL.q (Q1.move rfl) rfl rfl ?_
                      refine OL.q (Q1.mul32 (((Ml.moreV s (i + 1)) * 4096)) rfl rfl (by omega)) rfl rfl ?_
                      refine OL.q (Q1.add32 ((((((byteAt s i : Nat) : Int) - 240) * 262144) + (((Ml.moreV s (i + 1)) * 4096)))) rfl rfl (by omega)) rfl rfl ?_
                      refine OL.q (Q1.move rfl) rfl rfl ?_
                      refine OL.q (Q1.mul32 (((Ml.moreV s (i + 2)) * 64)) rfl rfl (by omega)) rfl rfl ?_
                      refine OL.q (Q1.add32 (((((((byteAt s i : Nat) : Int) - 240) * 262144) + (((Ml.moreV s (i + 1)) * 4096))) + (((Ml.moreV s (i + 2)) * 64)))) rfl rfl (by omega)) rfl rfl ?_
                      refine OL.q (Q1.move rfl) rfl rfl ?_
                      refine OL.q (Q1.add32 ((((((((byteAt s i : Nat) : Int) - 240) * 262144) + (((Ml.moreV s (i + 1)) * 4096))) + (((Ml.moreV s (i + 2)) * 64))) + ((Ml.moreV s (i + 3))))) rfl rfl (by omega)) rfl rfl ?_
                      refine OL.q (Q1.assign rfl) rfl rfl ?_
                      refine OL.q (Q1.assign rfl) rfl rfl ?_
                      obtain ⟨hone1, hone2⟩ := Ml.one_4 (by omega) (by intro hh; first | omega | (simp_all; done)) (by intro hh; first | omega | (simp_all; done)) ⟨by omega, by omega, by assumption, by assumption, by assumption⟩
                      refine OL.nil ?_
                      refine r_ret2 Try.func101 rfl rfl rfl ?_
                      exact Ret.mk ⟨_, _, rfl, (congrArg (Value.int .i32) (by first | (with_reducible exact hone1) | (rw [← hone2]; rfl) | (exfalso; omega))), (congrArg (Value.int .i64) (by first | (with_reducible exact hone1) | (rw [← hone2]; rfl) | (exfalso; omega))), hE3⟩
                    | false =>
                      replace hb3 := hb3.symm
                      refine r_cond_f rfl ?_
                      refine r_skip ?_
                      refine r_inBlock ?_
                      refine r_seq ?_
                      refine r_region ?_
                      refine OL.q (Q1.assign rfl) rfl rfl ?_
                      refine OL.q (Q1.assign rfl) rfl rfl ?_
                      obtain ⟨hone1, hone2⟩ := Ml.one_0 (by omega) (by intro hh; first | omega | (simp_all; done)) (by intro hh; first | omega | (simp_all; done)) (by intro hh; first | omega | (simp_all; done))
                      refine OL.nil ?_
                      refine r_ret2 Try.func101 rfl rfl rfl ?_
                      exact Ret.mk ⟨_, _, rfl, (congrArg (Value.int .i32) (by first | (with_reducible exact hone1) | (rw [← hone2]; rfl) | (exfalso; omega))), (congrArg (Value.int .i64) (by first | (with_reducible exact hone1) | (rw [← hone2]; rfl) | (exfalso; omega))), hE3⟩
                  | false =>
                    replace hb2 := hb2.symm
                    refine OL.sk rfl rfl ?_
                    refine OL.q (Q1.pick_f rfl rfl) rfl rfl ?_
                    refine OL.q (Q1.assign rfl) rfl rfl ?_
                    refine OL.nil ?_
                    refine r_cond_f rfl ?_
                    refine r_skip ?_
                    refine r_inBlock ?_
                    refine r_seq ?_
                    refine r_region ?_
                    refine OL.q (Q1.assign rfl) rfl rfl ?_
                    refine OL.q (Q1.assign rfl) rfl rfl ?_
                    obtain ⟨hone1, hone2⟩ := Ml.one_0 (by omega) (by intro hh; first | omega | (simp_all; done)) (by intro hh; first | omega | (simp_all; done)) (by intro hh; first | omega | (simp_all; done))
                    refine OL.nil ?_
                    refine r_ret2 Try.func101 rfl rfl rfl ?_
                    exact Ret.mk ⟨_, _, rfl, (congrArg (Value.int .i32) (by first | (with_reducible exact hone1) | (rw [← hone2]; rfl) | (exfalso; omega))), (congrArg (Value.int .i64) (by first | (with_reducible exact hone1) | (rw [← hone2]; rfl) | (exfalso; omega))), hE3⟩
                | false =>
                  replace hb1 := hb1.symm
                  refine OL.sk rfl rfl ?_
                  refine OL.q (Q1.pick_f rfl rfl) rfl rfl ?_
                  refine OL.q (Q1.move rfl) rfl rfl ?_
                  refine OL.sk rfl rfl ?_
                  refine OL.q (Q1.pick_f rfl rfl) rfl rfl ?_
                  refine OL.q (Q1.assign rfl) rfl rfl ?_
                  refine OL.nil ?_
                  refine r_cond_f rfl ?_
                  refine r_skip ?_
                  refine r_inBlock ?_
                  refine r_seq ?_
                  refine r_region ?_
                  refine OL.q (Q1.assign rfl) rfl rfl ?_
                  refine OL.q (Q1.assign rfl) rfl rfl ?_
                  obtain ⟨hone1, hone2⟩ := Ml.one_0 (by omega) (by intro hh; first | omega | (simp_all; done)) (by intro hh; first | omega | (simp_all; done)) (by intro hh; first | omega | (simp_all; done))
                  refine OL.nil ?_
                  refine r_ret2 Try.func101 rfl rfl rfl ?_
                  exact Ret.mk ⟨_, _, rfl, (congrArg (Value.int .i32) (by first | (with_reducible exact hone1) | (rw [← hone2]; rfl) | (exfalso; omega))), (congrArg (Value.int .i64) (by first | (with_reducible exact hone1) | (rw [← hone2]; rfl) | (exfalso; omega))), hE3⟩
              | false =>
                replace hb10 := of_decide_eq_false hb10.symm
                refine OL.sk rfl rfl ?_
                refine OL.q (Q1.pick_f rfl rfl) rfl rfl ?_
                refine OL.q (Q1.move rfl) rfl rfl ?_
                refine OL.sk rfl rfl ?_
                refine OL.q (Q1.pick_f rfl rfl) rfl rfl ?_
                refine OL.q (Q1.move rfl) rfl rfl ?_
                refine OL.sk rfl rfl ?_
                refine OL.q (Q1.pick_f rfl rfl) rfl rfl ?_
                refine OL.q (Q1.assign rfl) rfl rfl ?_
                refine OL.nil ?_
                refine r_cond_f rfl ?_
                refine r_skip ?_
                refine r_inBlock ?_
                refine r_seq ?_
                refine r_region ?_
                refine OL.q (Q1.assign rfl) rfl rfl ?_
                refine OL.q (Q1.assign rfl) rfl rfl ?_
                obtain ⟨hone1, hone2⟩ := Ml.one_0 (by omega) (by intro hh; first | omega | (simp_all; done)) (by intro hh; first | omega | (simp_all; done)) (by intro hh; first | omega | (simp_all; done))
                refine OL.nil ?_
                refine r_ret2 Try.func101 rfl rfl rfl ?_
                exact Ret.mk ⟨_, _, rfl, (congrArg (Value.int .i32) (by first | (with_reducible exact hone1) | (rw [← hone2]; rfl) | (exfalso; omega))), (congrArg (Value.int .i64) (by first | (with_reducible exact hone1) | (rw [← hone2]; rfl) | (exfalso; omega))), hE3⟩
            | false =>
              replace hb9 := of_decide_eq_false hb9.symm
              refine OL.sk rfl rfl ?_
              refine OL.sk rfl rfl ?_
              refine OL.q (Q1.pick_f rfl rfl) rfl rfl ?_
              refine OL.q (Q1.move rfl) rfl rfl ?_
              refine OL.sk rfl rfl ?_
              refine OL.q (Q1.pick_f rfl rfl) rfl rfl ?_
              refine OL.q (Q1.move rfl) rfl rfl ?_
              refine OL.sk rfl rfl ?_
              refine OL.q (Q1.pick_f rfl rfl) rfl rfl ?_
              refine OL.q (Q1.move rfl) rfl rfl ?_
              refine OL.sk rfl rfl ?_
              refine OL.q (Q1.pick_f rfl rfl) rfl rfl ?_
              refine OL.q (Q1.assign rfl) rfl rfl ?_
              refine OL.nil ?_
              refine r_cond_f rfl ?_
              refine r_skip ?_
              refine r_inBlock ?_
              refine r_seq ?_
              refine r_region ?_
              refine OL.q (Q1.assign rfl) rfl rfl ?_
              refine OL.q (Q1.assign rfl) rfl rfl ?_
              obtain ⟨hone1, hone2⟩ := Ml.one_0 (by omega) (by intro hh; first | omega | (simp_all; done)) (by intro hh; first | omega | (simp_all; done)) (by intro hh; first | omega | (simp_all; done))
              refine OL.nil ?_
              refine r_ret2 Try.func101 rfl rfl rfl ?_
              exact Ret.mk ⟨_, _, rfl, (congrArg (Value.int .i32) (by first | (with_reducible exact hone1) | (rw [← hone2]; rfl) | (exfalso; omega))), (congrArg (Value.int .i64) (by first | (with_reducible exact hone1) | (rw [← hone2]; rfl) | (exfalso; omega))), hE3⟩
        | false =>
          replace hb7 := of_decide_eq_false hb7.symm
          refine OL.sk rfl rfl ?_
          refine OL.sk rfl rfl ?_
          refine OL.q (Q1.pick_f rfl rfl) rfl rfl ?_
          refine OL.q (Q1.move rfl) rfl rfl ?_
          refine OL.sk rfl rfl ?_
          refine OL.q (Q1.pick_f rfl rfl) rfl rfl ?_
          refine OL.q (Q1.move rfl) rfl rfl ?_
          refine OL.sk rfl rfl ?_
          refine OL.q (Q1.pick_f rfl rfl) rfl rfl ?_
          refine OL.q (Q1.assign rfl) rfl rfl ?_
          refine OL.nil ?_
          refine r_cond_f rfl ?_
          refine r_seq ?_
          refine r_region ?_
          refine OL.q (Q1.move rfl) rfl rfl ?_
          refine OL.qb (Q1.ge rfl rfl) rfl rfl ?_
          intro b8 hb8
          refine OL.q (Q1.move rfl) rfl rfl ?_
          cases b8 with
          | true =>
            replace hb8 := of_decide_eq_true hb8.symm
            refine OL.q (Q1.move rfl) rfl rfl ?_
            refine OL.qb (Q1.le rfl rfl) rfl rfl ?_
            intro b9 hb9
            refine OL.q (Q1.pick_t rfl rfl) rfl rfl ?_
            refine OL.q (Q1.move rfl) rfl rfl ?_
            cases b9 with
            | true =>
              replace hb9 := of_decide_eq_true hb9.symm
              refine OL.q (Q1.move rfl) rfl rfl ?_
              refine OL.q (Q1.pick_t rfl rfl) rfl rfl ?_
              refine OL.q (Q1.move rfl) rfl rfl ?_
              cases b1 with
              | true =>
                replace hb1 := hb1.symm
                refine OL.q (Q1.move rfl) rfl rfl ?_
                refine OL.q (Q1.pick_t rfl rfl) rfl rfl ?_
                refine OL.q (Q1.move rfl) rfl rfl ?_
                cases b2 with
                | true =>
                  replace hb2 := hb2.symm
                  refine OL.q (Q1.move rfl) rfl rfl ?_
                  refine OL.q (Q1.pick_t rfl rfl) rfl rfl ?_
                  refine OL.q (Q1.assign rfl) rfl rfl ?_
                  refine OL.nil ?_
                  cases b3 with
                  | true =>
                    replace hb3 := hb3.symm
                    refine r_cond_t rfl ?_
                    refine r_seq ?_
                    refine r_region ?_
                    refine OL.q (Q1.move rfl) rfl rfl ?_
                    refine OL.q (Q1.sub32 ((((byteAt s i : Nat) : Int) - 240)) rfl rfl (by omega)) rfl rfl ?_
                    refine OL.q (Q1.mul32 (((((byteAt s i : Nat) : Int) - 240) * 262144)) rfl rfl (by omega)) rfl rfl ?_
                    refine OL.q (Q1.move rfl) rfl rfl ?_
                    refine OL.q (Q1.mul32 (((Ml.moreV s (i + 1)) * 4096)) rfl rfl (by omega)) rfl rfl ?_
                    refine OL.q (Q1.add32 ((((((byteAt s i : Nat) : Int) - 240) * 262144) + (((Ml.moreV s (i + 1)) * 4096)))) rfl rfl (by omega)) rfl rfl ?_
                    refine OL.q (Q1.move rfl) rfl rfl ?_
                    refine OL.q (Q1.mul32 (((Ml.moreV s (i + 2)) * 64)) rfl rfl (by omega)) rfl rfl ?_
                    refine OL.q (Q1.add32 (((((((byteAt s i : Nat) : Int) - 240) * 262144) + (((Ml.moreV s (i + 1)) * 4096))) + (((Ml.moreV s (i + 2)) * 64)))) rfl rfl (by omega)) rfl rfl ?_
                    refine OL.q (Q1.move rfl) rfl rfl ?_
                    refine OL.q (Q1.add32 ((((((((byteAt s i : Nat) : Int) - 240) * 262144) + (((Ml.moreV s (i + 1)) * 4096))) + (((Ml.moreV s (i + 2)) * 64))) + ((Ml.moreV s (i + 3))))) rfl rfl (by omega)) rfl rfl ?_
                    refine OL.q (Q1.assign rfl) rfl rfl ?_
                    refine OL.q (Q1.assign rfl) rfl rfl ?_
                    obtain ⟨hone1, hone2⟩ := Ml.one_4 (by omega) (by intro hh; first | omega | (simp_all; done)) (by intro hh; first | omega | (simp_all; done)) ⟨by omega, by omega, by assumption, by assumption, by assumption⟩
                    refine OL.nil ?_
                    refine r_ret2 Try.func101 rfl rfl rfl ?_
                    exact Ret.mk ⟨_, _, rfl, (congrArg (Value.int .i32) (by first | (with_reducible exact hone1) | (rw [← hone2]; rfl) | (exfalso; omega))), (congrArg (Value.int .i64) (by first | (with_reducible exact hone1) | (rw [← hone2]; rfl) | (exfalso; omega))), hE3⟩
                  | false =>
                    replace hb3 := hb3.symm
                    refine r_cond_f rfl ?_
                    refine r_skip ?_
                    refine r_inBlock ?_
                    refine r_seq ?_
                    refine r_region ?_
                    refine OL.q (Q1.assign rfl) rfl rfl ?_
                    refine OL.q (Q1.assign rfl) rfl rfl ?_
                    obtain ⟨hone1, hone2⟩ := Ml.one_0 (by omega) (by intro hh; first | omega | (simp_all; done)) (by intro hh; first | omega | (simp_all; done)) (by intro hh; first | omega | (simp_all; done))
                    refine OL.nil ?_
                    refine r_ret2 Try.func101 rfl rfl rfl ?_
                    exact Ret.mk ⟨_, _, rfl, (congrArg (Value.int .i32) (by first | (with_reducible exact hone1) | (rw [← hone2]; rfl) | (exfalso; omega))), (congrArg (Value.int .i64) (by first | (with_reducible exact hone1) | (rw [← hone2]; rfl) | (exfalso; omega))), hE3⟩
                | false =>
                  replace hb2 := hb2.symm
                  refine OL.sk rfl rfl ?_
                  refine OL.q (Q1.pick_f rfl rfl) rfl rfl ?_
                  refine OL.q (Q1.assign rfl) rfl rfl ?_
                  refine OL.nil ?_
                  refine r_cond_f rfl ?_
                  refine r_skip ?_
                  refine r_inBlock ?_
                  refine r_seq ?_
                  refine r_region ?_
                  refine OL.q (Q1.assign rfl) rfl rfl ?_
                  refine OL.q (Q1.assign rfl) rfl rfl ?_
                  obtain ⟨hone1, hone2⟩ := Ml.one_0 (by omega) (by intro hh; first | omega | (simp_all; done)) (by intro hh; first | omega | (simp_all; done)) (by intro hh; first | omega | (simp_all; done))
                  refine OL.nil ?_
                  refine r_ret2 Try.func101 rfl rfl rfl ?_
                  exact Ret.mk ⟨_, _, rfl, (congrArg (Value.int .i32) (by first | (with_reducible exact hone1) | (rw [← hone2]; rfl) | (exfalso; omega))), (congrArg (Value.int .i64) (by first | (with_reducible exact hone1) | (rw [← hone2]; rfl) | (exfalso; omega))), hE3⟩
              | false =>
                replace hb1 := hb1.symm
                refine OL.sk rfl rfl ?_
                refine OL.q (Q1.pick_f rfl rfl) rfl rfl ?_
                refine OL.q (Q1.move rfl) rfl rfl ?_
                refine OL.sk rfl rfl ?_
                refine OL.q (Q1.pick_f rfl rfl) rfl rfl ?_
                refine OL.q (Q1.assign rfl) rfl rfl ?_
                refine OL.nil ?_
                refine r_cond_f rfl ?_
                refine r_skip ?_
                refine r_inBlock ?_
                refine r_seq ?_
                refine r_region ?_
                refine OL.q (Q1.assign rfl) rfl rfl ?_
                refine OL.q (Q1.assign rfl) rfl rfl ?_
                obtain ⟨hone1, hone2⟩ := Ml.one_0 (by omega) (by intro hh; first | omega | (simp_all; done)) (by intro hh; first | omega | (simp_all; done)) (by intro hh; first | omega | (simp_all; done))
                refine OL.nil ?_
                refine r_ret2 Try.func101 rfl rfl rfl ?_
                exact Ret.mk ⟨_, _, rfl, (congrArg (Value.int .i32) (by first | (with_reducible exact hone1) | (rw [← hone2]; rfl) | (exfalso; omega))), (congrArg (Value.int .i64) (by first | (with_reducible exact hone1) | (rw [← hone2]; rfl) | (exfalso; omega))), hE3⟩
            | false =>
              replace hb9 := of_decide_eq_false hb9.symm
              refine OL.sk rfl rfl ?_
              refine OL.q (Q1.pick_f rfl rfl) rfl rfl ?_
              refine OL.q (Q1.move rfl) rfl rfl ?_
              refine OL.sk rfl rfl ?_
              refine OL.q (Q1.pick_f rfl rfl) rfl rfl ?_
              refine OL.q (Q1.move rfl) rfl rfl ?_
              refine OL.sk rfl rfl ?_
              refine OL.q (Q1.pick_f rfl rfl) rfl rfl ?_
              refine OL.q (Q1.assign rfl) rfl rfl ?_
              refine OL.nil ?_
              refine r_cond_f rfl ?_
              refine r_skip ?_
              refine r_inBlock ?_
              refine r_seq ?_
              refine r_region ?_
              refine OL.q (Q1.assign rfl) rfl rfl ?_
              refine OL.q (Q1.assign rfl) rfl rfl ?_
              obtain ⟨hone1, hone2⟩ := Ml.one_0 (by omega) (by intro hh; first | omega | (simp_all; done)) (by intro hh; first | omega | (simp_all; done)) (by intro hh; first | omega | (simp_all; done))
              refine OL.nil ?_
              refine r_ret2 Try.func101 rfl rfl rfl ?_
              exact Ret.mk ⟨_, _, rfl, (congrArg (Value.int .i32) (by first | (with_reducible exact hone1) | (rw [← hone2]; rfl) | (exfalso; omega))), (congrArg (Value.int .i64) (by first | (with_reducible exact hone1) | (rw [← hone2]; rfl) | (exfalso; omega))), hE3⟩
          | false =>
            replace hb8 := of_decide_eq_false hb8.symm
            refine OL.sk rfl rfl ?_
            refine OL.sk rfl rfl ?_
            refine OL.q (Q1.pick_f rfl rfl) rfl rfl ?_
            refine OL.q (Q1.move rfl) rfl rfl ?_
            refine OL.sk rfl rfl ?_
            refine OL.q (Q1.pick_f rfl rfl) rfl rfl ?_
            refine OL.q (Q1.move rfl) rfl rfl ?_
            refine OL.sk rfl rfl ?_
            refine OL.q (Q1.pick_f rfl rfl) rfl rfl ?_
            refine OL.q (Q1.move rfl) rfl rfl ?_
            refine OL.sk rfl rfl ?_
            refine OL.q (Q1.pick_f rfl rfl) rfl rfl ?_
            refine OL.q (Q1.assign rfl) rfl rfl ?_
            refine OL.nil ?_
            refine r_cond_f rfl ?_
            refine r_skip ?_
            refine r_inBlock ?_
            refine r_seq ?_
            refine r_region ?_
            refine OL.q (Q1.assign rfl) rfl rfl ?_
            refine OL.q (Q1.assign rfl) rfl rfl ?_
            obtain ⟨hone1, hone2⟩ := Ml.one_0 (by omega) (by intro hh; first | omega | (simp_all; done)) (by intro hh; first | omega | (simp_all; done)) (by intro hh; first | omega | (simp_all; done))
            refine OL.nil ?_
            refine r_ret2 Try.func101 rfl rfl rfl ?_
            exact Ret.mk ⟨_, _, rfl, (congrArg (Value.int .i32) (by first | (with_reducible exact hone1) | (rw [← hone2]; rfl) | (exfalso; omega))), (congrArg (Value.int .i64) (by first | (with_reducible exact hone1) | (rw [← hone2]; rfl) | (exfalso; omega))), hE3⟩
    | false =>
      replace hb5 := of_decide_eq_false hb5.symm
      refine OL.sk rfl rfl ?_
      refine OL.sk rfl rfl ?_
      refine OL.q (Q1.pick_f rfl rfl) rfl rfl ?_
      refine OL.q (Q1.move rfl) rfl rfl ?_
      refine OL.sk rfl rfl ?_
      refine OL.q (Q1.pick_f rfl rfl) rfl rfl ?_
      refine OL.q (Q1.assign rfl) rfl rfl ?_
      refine OL.nil ?_
      refine r_cond_f rfl ?_
      refine r_seq ?_
      refine r_region ?_
      refine OL.q (Q1.move rfl) rfl rfl ?_
      refine OL.qb (Q1.ge rfl rfl) rfl rfl ?_
      intro b6 hb6
      refine OL.q (Q1.move rfl) rfl rfl ?_
      cases b6 with
      | true =>
        replace hb6 := of_decide_eq_true hb6.symm
        refine OL.q (Q1.move rfl) rfl rfl ?_
        refine OL.qb (Q1.le rfl rfl) rfl rfl ?_
        intro b7 hb7
        refine OL.q (Q1.pick_t rfl rfl) rfl rfl ?_
        refine OL.q (Q1.move rfl) rfl rfl ?_
        cases b7 with
        | true =>
          replace hb7 := of_decide_eq_true hb7.symm
          refine OL.q (Q1.move rfl) rfl rfl ?_
          refine OL.q (Q1.pick_t rfl rfl) rfl rfl ?_
          refine OL.q (Q1.move rfl) rfl rfl ?_
          cases b1 with
          | true =>
            replace hb1 := hb1.symm
            refine OL.q (Q1.move rfl) rfl rfl ?_
            refine OL.q (Q1.pick_t rfl rfl) rfl rfl ?_
            refine OL.q (Q1.assign rfl) rfl rfl ?_
            refine OL.nil ?_
            cases b2 with
            | true =>
              replace hb2 := hb2.symm
              refine r_cond_t rfl ?_
              refine r_seq ?_
              refine r_region ?_
              refine OL.q (Q1.move rfl) rfl rfl ?_
              refine OL.q (Q1.sub32 ((((byteAt s i : Nat) : Int) - 224)) rfl rfl (by omega)) rfl rfl ?_
              refine OL.q (Q1.mul32 (((((byteAt s i : Nat) : Int) - 224) * 4096)) rfl rfl (by omega)) rfl rfl ?_
              refine OL.q (Q1.move rfl) rfl rfl ?_
              refine OL.q (Q1.mul32 (((Ml.moreV s (i + 1)) * 64)) rfl rfl (by omega)) rfl rfl ?_
              refine OL.q (Q1.add32 ((((((byteAt s i : Nat) : Int) - 224) * 4096) + (((Ml.moreV s (i + 1)) * 64)))) rfl rfl (by omega)) rfl rfl ?_
              refine OL.q (Q1.move rfl) rfl rfl ?_
              refine OL.q (Q1.add32 (((((((byteAt s i : Nat) : Int) - 224) * 4096) + (((Ml.moreV s (i + 1)) * 64))) + ((Ml.moreV s (i + 2))))) rfl rfl (by omega)) rfl rfl ?_
              refine OL.q (Q1.assign rfl) rfl rfl ?_
              refine OL.q (Q1.assign rfl) rfl rfl ?_
              obtain ⟨hone1, hone2⟩ := Ml.one_3 (by omega) (by intro hh; first | omega | (simp_all; done)) ⟨by omega, by omega, by assumption, by assumption⟩
              refine OL.nil ?_
              refine r_ret2 Try.func101 rfl rfl rfl ?_
              exact Ret.mk ⟨_, _, rfl, (congrArg (Value.int .i32) (by first | (with_reducible exact hone1) | (rw [← hone2]; rfl) | (exfalso; omega))), (congrArg (Value.int .i64) (by first | (with_reducible exact hone1) | (rw [← hone2]; rfl) | (exfalso; omega))), hE3⟩
            | false =>
              replace hb2 := hb2.symm
              refine r_cond_f rfl ?_
              refine r_seq ?_
              refine r_region ?_
              refine OL.q (Q1.move rfl) rfl rfl ?_
              refine OL.qb (Q1.ge rfl rfl) rfl rfl ?_
              intro b8 hb8
              refine OL.q (Q1.move rfl) rfl rfl ?_
              cases b8 with
              | true =>
                replace hb8 := of_decide_eq_true hb8.symm
                refine OL.q (Q1.move rfl) rfl rfl ?_
                refine OL.qb (Q1.le rfl rfl) rfl rfl ?_
                intro b9 hb9
                refine OL.q (Q1.pick_t rfl rfl) rfl rfl ?_
                refine OL.q (Q1.move rfl) rfl rfl ?_
                cases b9 with
                | true =>
                  replace hb9 := of_decide_eq_true hb9.symm
                  refine OL.q (Q1.move rfl) rfl rfl ?_
                  refine OL.q (Q1.pick_t rfl rfl) rfl rfl ?_
                  refine OL.q (Q1.move rfl) rfl rfl ?_
                  refine OL.q (Q1.move rfl) rfl rfl ?_
                  refine OL.q (Q1.pick_t rfl rfl) rfl rfl ?_
                  refine OL.q (Q1.move rfl) rfl rfl ?_
                  refine OL.sk rfl rfl ?_
                  refine OL.q (Q1.pick_f rfl rfl) rfl rfl ?_
                  refine OL.q (Q1.assign rfl) rfl rfl ?_
                  refine OL.nil ?_
                  refine r_cond_f rfl ?_
                  refine r_skip ?_
                  refine r_inBlock ?_
                  refine r_seq ?_
                  refine r_region ?_
                  refine OL.q (Q1.assign rfl) rfl rfl ?_
                  refine OL.q (Q1.assign rfl) rfl rfl ?_
                  obtain ⟨hone1, hone2⟩ := Ml.one_0 (by omega) (by intro hh; first | omega | (simp_all; done)) (by intro hh; first | omega | (simp_all; done)) (by intro hh; first | omega | (simp_all; done))
                  refine OL.nil ?_
                  refine r_ret2 Try.func101 rfl rfl rfl ?_
                  exact Ret.mk ⟨_, _, rfl, (congrArg (Value.int .i32) (by first | (with_reducible exact hone1) | (rw [← hone2]; rfl) | (exfalso; omega))), (congrArg (Value.int .i64) (by first | (with_reducible exact hone1) | (rw [← hone2]; rfl) | (exfalso; omega))), hE3⟩
                | false =>
                  replace hb9 := of_decide_eq_false hb9.symm
                  refine OL.sk rfl rfl ?_
                  refine OL.q (Q1.pick_f rfl rfl) rfl rfl ?_
                  refine OL.q (Q1.move rfl) rfl rfl ?_
                  refine OL.sk rfl rfl ?_
                  refine OL.q (Q1.pick_f rfl rfl) rfl rfl ?_
                  refine OL.q (Q1.move rfl) rfl rfl ?_
                  refine OL.sk rfl rfl ?_
                  refine OL.q (Q1.pick_f rfl rfl) rfl rfl ?_
                  refine OL.q (Q1.assign rfl) rfl rfl ?_
                  refine OL.nil ?_
                  refine r_cond_f rfl ?_
                  refine r_skip ?_
                  refine r_inBlock ?_
                  refine r_seq ?_
                  refine r_region ?_
                  refine OL.q (Q1.assign rfl) rfl rfl ?_
                  refine OL.q (Q1.assign rfl) rfl rfl ?_
                  obtain ⟨hone1, hone2⟩ := Ml.one_0 (by omega) (by intro hh; first | omega | (simp_all; done)) (by intro hh; first | omega | (simp_all; done)) (by intro hh; first | omega | (simp_all; done))
                  refine OL.nil ?_
                  refine r_ret2 Try.func101 rfl rfl rfl ?_
                  exact Ret.mk ⟨_, _, rfl, (congrArg (Value.int .i32) (by first | (with_reducible exact hone1) | (rw [← hone2]; rfl) | (exfalso; omega))), (congrArg (Value.int .i64) (by first | (with_reducible exact hone1) | (rw [← hone2]; rfl) | (exfalso; omega))), hE3⟩
              | false =>
                replace hb8 := of_decide_eq_false hb8.symm
                refine OL.sk rfl rfl ?_
                refine OL.sk rfl rfl ?_
                refine OL.q (Q1.pick_f rfl rfl) rfl rfl ?_
                refine OL.q (Q1.move rfl) rfl rfl ?_
                refine OL.sk rfl rfl ?_
                refine OL.q (Q1.pick_f rfl rfl) rfl rfl ?_
                refine OL.q (Q1.move rfl) rfl rfl ?_
                refine OL.sk rfl rfl ?_
                refine OL.q (Q1.pick_f rfl rfl) rfl rfl ?_
                refine OL.q (Q1.move rfl) rfl rfl ?_
                refine OL.sk rfl rfl ?_
                refine OL.q (Q1.pick_f rfl rfl) rfl rfl ?_
                refine OL.q (Q1.assign rfl) rfl rfl ?_
                refine OL.nil ?_
                refine r_cond_f rfl ?_
                refine r_skip ?_
                refine r_inBlock ?_
                refine r_seq ?_
                refine r_region ?_
                refine OL.q (Q1.assign rfl) rfl rfl ?_
                refine OL.q (Q1.assign rfl) rfl rfl ?_
                obtain ⟨hone1, hone2⟩ := Ml.one_0 (by omega) (by intro hh; first | omega | (simp_all; done)) (by intro hh; first | omega | (simp_all; done)) (by intro hh; first | omega | (simp_all; done))
                refine OL.nil ?_
                refine r_ret2 Try.func101 rfl rfl rfl ?_
                exact Ret.mk ⟨_, _, rfl, (congrArg (Value.int .i32) (by first | (with_reducible exact hone1) | (rw [← hone2]; rfl) | (exfalso; omega))), (congrArg (Value.int .i64) (by first | (with_reducible exact hone1) | (rw [← hone2]; rfl) | (exfalso; omega))), hE3⟩
          | false =>
            replace hb1 := hb1.symm
            refine OL.sk rfl rfl ?_
            refine OL.q (Q1.pick_f rfl rfl) rfl rfl ?_
            refine OL.q (Q1.assign rfl) rfl rfl ?_
            refine OL.nil ?_
            refine r_cond_f rfl ?_
            refine r_seq ?_
            refine r_region ?_
            refine OL.q (Q1.move rfl) rfl rfl ?_
            refine OL.qb (Q1.ge rfl rfl) rfl rfl ?_
            intro b8 hb8
            refine OL.q (Q1.move rfl) rfl rfl ?_
            cases b8 with
            | true =>
              replace hb8 := of_decide_eq_true hb8.symm
              refine OL.q (Q1.move rfl) rfl rfl ?_
              refine OL.qb (Q1.le rfl rfl) rfl rfl ?_
              intro b9 hb9
              refine OL.q (Q1.pick_t rfl rfl) rfl rfl ?_
              refine OL.q (Q1.move rfl) rfl rfl ?_
              cases b9 with
              | true =>
                replace hb9 := of_decide_eq_true hb9.symm
                refine OL.q (Q1.move rfl) rfl rfl ?_
                refine OL.q (Q1.pick_t rfl rfl) rfl rfl ?_
                refine OL.q (Q1.move rfl) rfl rfl ?_
                refine OL.sk rfl rfl ?_
                refine OL.q (Q1.pick_f rfl rfl) rfl rfl ?_
                refine OL.q (Q1.move rfl) rfl rfl ?_
                refine OL.sk rfl rfl ?_
                refine OL.q (Q1.pick_f rfl rfl) rfl rfl ?_
                refine OL.q (Q1.assign rfl) rfl rfl ?_
                refine OL.nil ?_
                refine r_cond_f rfl ?_
                refine r_skip ?_
                refine r_inBlock ?_
                refine r_seq ?_
                refine r_region ?_
                refine OL.q (Q1.assign rfl) rfl rfl ?_
                refine OL.q (Q1.assign rfl) rfl rfl ?_
                obtain ⟨hone1, hone2⟩ := Ml.one_0 (by omega) (by intro hh; first | omega | (simp_all; done)) (by intro hh; first | omega | (simp_all; done)) (by intro hh; first | omega | (simp_all; done))
                refine OL.nil ?_
                refine r_ret2 Try.func101 rfl rfl rfl ?_
                exact Ret.mk ⟨_, _, rfl, (congrArg (Value.int .i32) (by first | (with_reducible exact hone1) | (rw [← hone2]; rfl) | (exfalso; omega))), (congrArg (Value.int .i64) (by first | (with_reducible exact hone1) | (rw [← hone2]; rfl) | (exfalso; omega))), hE3⟩
              | false =>
                replace hb9 := of_decide_eq_false hb9.symm
                refine OL.sk rfl rfl ?_
                refine OL.q (Q1.pick_f rfl rfl) rfl rfl ?_
                refine OL.q (Q1.move rfl) rfl rfl ?_
                refine OL.sk rfl rfl ?_
                refine OL.q (Q1.pick_f rfl rfl) rfl rfl ?_
                refine OL.q (Q1.move rfl) rfl rfl ?_
                refine OL.sk rfl rfl ?_
                refine OL.q (Q1.pick_f rfl rfl) rfl rfl ?_
                refine OL.q (Q1.assign rfl) rfl rfl ?_
                refine OL.nil ?_
                refine r_cond_f rfl ?_
                refine r_skip ?_
                refine r_inBlock ?_
                refine r_seq ?_
                refine r_region ?_
                refine OL.q (Q1.assign rfl) rfl rfl ?_
                refine OL.q (Q1.assign rfl) rfl rfl ?_
                obtain ⟨hone1, hone2⟩ := Ml.one_0 (by omega) (by intro hh; first | omega | (simp_all; done)) (by intro hh; first | omega | (simp_all; done)) (by intro hh; first | omega | (simp_all; done))
                refine OL.nil ?_
                refine r_ret2 Try.func101 rfl rfl rfl ?_
                exact Ret.mk ⟨_, _, rfl, (congrArg (Value.int .i32) (by first | (with_reducible exact hone1) | (rw [← hone2]; rfl) | (exfalso; omega))), (congrArg (Value.int .i64) (by first | (with_reducible exact hone1) | (rw [← hone2]; rfl) | (exfalso; omega))), hE3⟩
            | false =>
              replace hb8 := of_decide_eq_false hb8.symm
              refine OL.sk rfl rfl ?_
              refine OL.sk rfl rfl ?_
              refine OL.q (Q1.pick_f rfl rfl) rfl rfl ?_
              refine OL.q (Q1.move rfl) rfl rfl ?_
              refine OL.sk rfl rfl ?_
              refine OL.q (Q1.pick_f rfl rfl) rfl rfl ?_
              refine OL.q (Q1.move rfl) rfl rfl ?_
              refine OL.sk rfl rfl ?_
              refine OL.q (Q1.pick_f rfl rfl) rfl rfl ?_
              refine OL.q (Q1.move rfl) rfl rfl ?_
              refine OL.sk rfl rfl ?_
              refine OL.q (Q1.pick_f rfl rfl) rfl rfl ?_
              refine OL.q (Q1.assign rfl) rfl rfl ?_
              refine OL.nil ?_
              refine r_cond_f rfl ?_
              refine r_skip ?_
              refine r_inBlock ?_
              refine r_seq ?_
              refine r_region ?_
              refine OL.q (Q1.assign rfl) rfl rfl ?_
              refine OL.q (Q1.assign rfl) rfl rfl ?_
              obtain ⟨hone1, hone2⟩ := Ml.one_0 (by omega) (by intro hh; first | omega | (simp_all; done)) (by intro hh; first | omega | (simp_all; done)) (by intro hh; first | omega | (simp_all; done))
              refine OL.nil ?_
              refine r_ret2 Try.func101 rfl rfl rfl ?_
              exact Ret.mk ⟨_, _, rfl, (congrArg (Value.int .i32) (by first | (with_reducible exact hone1) | (rw [← hone2]; rfl) | (exfalso; omega))), (congrArg (Value.int .i64) (by first | (with_reducible exact hone1) | (rw [← hone2]; rfl) | (exfalso; omega))), hE3⟩
        | false =>
          replace hb7 := of_decide_eq_false hb7.symm
          refine OL.sk rfl rfl ?_
          refine OL.q (Q1.pick_f rfl rfl) rfl rfl ?_
          refine OL.q (Q1.move rfl) rfl rfl ?_
          refine OL.sk rfl rfl ?_
          refine OL.q (Q1.pick_f rfl rfl) rfl rfl ?_
          refine OL.q (Q1.assign rfl) rfl rfl ?_
          refine OL.nil ?_
          refine r_cond_f rfl ?_
          refine r_seq ?_
          refine r_region ?_
          refine OL.q (Q1.move rfl) rfl rfl ?_
          refine OL.qb (Q1.ge rfl rfl) rfl rfl ?_
          intro b8 hb8
          refine OL.q (Q1.move rfl) rfl rfl ?_
          cases b8 with
          | true =>
            replace hb8 := of_decide_eq_true hb8.symm
            refine OL.q (Q1.move rfl) rfl rfl ?_
            refine OL.qb (Q1.le rfl rfl) rfl rfl ?_
            intro b9 hb9
            refine OL.q (Q1.pick_t rfl rfl) rfl rfl ?_
            refine OL.q (Q1.move rfl) rfl rfl ?_
            cases b9 with
            | true =>
              replace hb9 := of_decide_eq_true hb9.symm
              refine OL.q (Q1.move rfl) rfl rfl ?_
              refine OL.q (Q1.pick_t rfl rfl) rfl rfl ?_
              refine OL.q (Q1.move rfl) rfl rfl ?_
              cases b1 with
              | true =>
                replace hb1 := hb1.symm
                refine OL.q (Q1.move rfl) rfl rfl ?_
                refine OL.q (Q1.pick_t rfl rfl) rfl rfl ?_
                refine OL.q (Q1.move rfl) rfl rfl ?_
                cases b2 with
                | true =>
                  replace hb2 := hb2.symm
                  refine OL.q (Q1.move rfl) rfl rfl ?_
                  refine OL.q (Q1.pick_t rfl rfl) rfl rfl ?_
                  refine OL.q (Q1.assign rfl) rfl rfl ?_
                  refine OL.nil ?_
                  cases b3 with
                  | true =>
                    replace hb3 := hb3.symm
                    refine r_cond_t rfl ?_
                    refine r_seq ?_
                    refine r_region ?_
                    refine OL.q (Q1.move rfl) rfl rfl ?_
                    refine OL.q (Q1.sub32 ((((byteAt s i : Nat) : Int) - 240)) rfl rfl (by omega)) rfl rfl ?_
                    refine OL.q (Q1.mul32 (((((byteAt s i : Nat) : Int) - 240) * 262144)) rfl rfl (by omega)) rfl rfl ?_
                    refine OL.q (Q1.move rfl) rfl rfl ?_
                    refine OL.q (Q1.mul32 (((Ml.moreV s (i + 1)) * 4096)) rfl rfl (by omega)) rfl rfl ?_
                    refine OL.q (Q1.add32 ((((((byteAt s i : Nat) : Int) - 240) * 262144) + (((Ml.moreV s (i + 1)) * 4096)))) rfl rfl (by omega)) rfl rfl ?_
                    refine OL.q (Q1.move rfl) rfl rfl ?_
                    refine OL.q (Q1.mul32 (((Ml.moreV s (i + 2)) * 64)) rfl rfl (by omega)) rfl rfl ?_
                    refine OL.q (Q1.add32 (((((((byteAt s i : Nat) : Int) - 240) * 262144) + (((Ml.moreV s (i + 1)) * 4096))) + (((Ml.moreV s (i + 2)) * 64)))) rfl rfl (by omega)) rfl rfl ?_
                    refine OL.q (Q1.move rfl) rfl rfl ?_
                    refine OL.q (Q1.add32 ((((((((byteAt s i : Nat) : Int) - 240) * 262144) + (((Ml.moreV s (i + 1)) * 4096))) + (((Ml.moreV s (i + 2)) * 64))) + ((Ml.moreV s (i + 3))))) rfl rfl (by omega)) rfl rfl ?_
                    refine OL.q (Q1.assign rfl) rfl rfl ?_
                    refine OL.q (Q1.assign rfl) rfl rfl ?_
                    obtain ⟨hone1, hone2⟩ := Ml.one_4 (by omega) (by intro hh; first | omega | (simp_all; done)) (by intro hh; first | omega | (simp_all; done)) ⟨by omega, by omega, by assumption, by assumption, by assumption⟩
                    refine OL.nil ?_
                    refine r_ret2 Try.func101 rfl rfl rfl ?_
                    exact Ret.mk ⟨_, _, rfl, (congrArg (Value.int .i32) (by first | (with_reducible exact hone1) | (rw [← hone2]; rfl) | (exfalso; omega))), (congrArg (Value.int .i64) (by first | (with_reducible exact hone1) | (rw [← hone2]; rfl) | (exfalso; omega))), hE3⟩
                  | false =>
                    replace hb3 := hb3.symm
                    refine r_cond_f rfl ?_
                    refine r_skip ?_
                    refine r_inBlock ?_
                    refine r_seq ?_
                    refine r_region ?_
                    refine OL.q (Q1.assign rfl) rfl rfl ?_
                    refine OL.q (Q1.assign rfl) rfl rfl ?_
                    obtain ⟨hone1, hone2⟩ := Ml.one_0 (by omega) (by intro hh; first | omega | (simp_all; done)) (by intro hh; first | omega | (simp_all; done)) (by intro hh; first | omega | (simp_all; done))
                    refine OL.nil ?_
                    refine r_ret2 Try.func101 rfl rfl rfl ?_
                    exact Ret.mk ⟨_, _, rfl, (congrArg (Value.int .i32) (by first | (with_reducible exact hone1) | (rw [← hone2]; rfl) | (exfalso; omega))), (congrArg (Value.int .i64) (by first | (with_reducible exact hone1) | (rw [← hone2]; rfl) | (exfalso; omega))), hE3⟩
                | false =>
                  replace hb2 := hb2.symm
                  refine OL.sk rfl rfl ?_
                  refine OL.q (Q1.pick_f rfl rfl) rfl rfl ?_
                  refine OL.q (Q1.assign rfl) rfl rfl ?_
                  refine OL.nil ?_
                  refine r_cond_f rfl ?_
                  refine r_skip ?_
                  refine r_inBlock ?_
                  refine r_seq ?_
                  refine r_region ?_
                  refine OL.q (Q1.assign rfl) rfl rfl ?_
                  refine OL.q (Q1.assign rfl) rfl rfl ?_
                  obtain ⟨hone1, hone2⟩ := Ml.one_0 (by omega) (by intro hh; first | omega | (simp_all; done)) (by intro hh; first | omega | (simp_all; done)) (by intro hh; first | omega | (simp_all; done))
                  refine OL.nil ?_
                  refine r_ret2 Try.func101 rfl rfl rfl ?_
                  exact Ret.mk ⟨_, _, rfl, (congrArg (Value.int .i32) (by first | (with_reducible exact hone1) | (rw [← hone2]; rfl) | (exfalso; omega))), (congrArg (Value.int .i64) (by first | (with_reducible exact hone1) | (rw [← hone2]; rfl) | (exfalso; omega))), hE3⟩
              | false =>
                replace hb1 := hb1.symm
                refine OL.sk rfl rfl ?_
                refine OL.q (Q1.pick_f rfl rfl) rfl rfl ?_
                refine OL.q (Q1.move rfl) rfl rfl ?_
                refine OL.sk rfl rfl ?_
                refine OL.q (Q1.pick_f rfl rfl) rfl rfl ?_
                refine OL.q (Q1.assign rfl) rfl rfl ?_
                refine OL.nil ?_
                refine r_cond_f rfl ?_
                refine r_skip ?_
                refine r_inBlock ?_
                refine r_seq ?_
                refine r_region ?_
                refine OL.q (Q1.assign rfl) rfl rfl ?_
                refine OL.q (Q1.assign rfl) rfl rfl ?_
                obtain ⟨hone1, hone2⟩ := Ml.one_0 (by omega) (by intro hh; first | omega | (simp_all; done)) (by intro hh; first | omega | (simp_all; done)) (by intro hh; first | omega | (simp_all; done))
                refine OL.nil ?_
                refine r_ret2 Try.func101 rfl rfl rfl ?_
                exact Ret.mk ⟨_, _, rfl, (congrArg (Value.int .i32) (by first | (with_reducible exact hone1) | (rw [← hone2]; rfl) | (exfalso; omega))), (congrArg (Value.int .i64) (by first | (with_reducible exact hone1) | (rw [← hone2]; rfl) | (exfalso; omega))), hE3⟩
            | false =>
              replace hb9 := of_decide_eq_false hb9.symm
              refine OL.sk rfl rfl ?_
              refine OL.q (Q1.pick_f rfl rfl) rfl rfl ?_
              refine OL.q (Q1.move rfl) rfl rfl ?_
              refine OL.sk rfl rfl ?_
              refine OL.q (Q1.pick_f rfl rfl) rfl rfl ?_
              refine OL.q (Q1.move rfl) rfl rfl ?_
              refine OL.sk rfl rfl ?_
              refine OL.q (Q1.pick_f rfl rfl) rfl rfl ?_
              refine OL.q (Q1.assign rfl) rfl rfl ?_
              refine OL.nil ?_
              refine r_cond_f rfl ?_
              refine r_skip ?_
              refine r_inBlock ?_
              refine r_seq ?_
              refine r_region ?_
              refine OL.q (Q1.assign rfl) rfl rfl ?_
              refine OL.q (Q1.assign rfl) rfl rfl ?_
              obtain ⟨hone1, hone2⟩ := Ml.one_0 (by omega) (by intro hh; first | omega | (simp_all; done)) (by intro hh; first | omega | (simp_all; done)) (by intro hh; first | omega | (simp_all; done))
              refine OL.nil ?_
              refine r_ret2 Try.func101 rfl rfl rfl ?_
              exact Ret.mk ⟨_, _, rfl, (congrArg (Value.int .i32) (by first | (with_reducible exact hone1) | (rw [← hone2]; rfl) | (exfalso; omega))), (congrArg (Value.int .i64) (by first | (with_reducible exact hone1) | (rw [← hone2]; rfl) | (exfalso; omega))), hE3⟩
          | false =>
            replace hb8 := of_decide_eq_false hb8.symm
            refine OL.sk rfl rfl ?_
            refine OL.sk rfl rfl ?_
            refine OL.q (Q1.pick_f rfl rfl) rfl rfl ?_
            refine OL.q (Q1.move rfl) rfl rfl ?_
            refine OL.sk rfl rfl ?_
            refine OL.q (Q1.pick_f rfl rfl) rfl rfl ?_
            refine OL.q (Q1.move rfl) rfl rfl ?_
            refine OL.sk rfl rfl ?_
            refine OL.q (Q1.pick_f rfl rfl) rfl rfl ?_
            refine OL.q (Q1.move rfl) rfl rfl ?_
            refine OL.sk rfl rfl ?_
            refine OL.q (Q1.pick_f rfl rfl) rfl rfl ?_
            refine OL.q (Q1.assign rfl) rfl rfl ?_
            refine OL.nil ?_
            refine r_cond_f rfl ?_
            refine r_skip ?_
            refine r_inBlock ?_
            refine r_seq ?_
            refine r_region ?_
            refine OL.q (Q1.assign rfl) rfl rfl ?_
            refine OL.q (Q1.assign rfl) rfl rfl ?_
            obtain ⟨hone1, hone2⟩ := Ml.one_0 (by omega) (by intro hh; first | omega | (simp_all; done)) (by intro hh; first | omega | (simp_all; done)) (by intro hh; first | omega | (simp_all; done))
            refine OL.nil ?_
            refine r_ret2 Try.func101 rfl rfl rfl ?_
            exact Ret.mk ⟨_, _, rfl, (congrArg (Value.int .i32) (by first | (with_reducible exact hone1) | (rw [← hone2]; rfl) | (exfalso; omega))), (congrArg (Value.int .i64) (by first | (with_reducible exact hone1) | (rw [← hone2]; rfl) | (exfalso; omega))), hE3⟩
      | false =>
        replace hb6 := of_decide_eq_false hb6.symm
        refine OL.sk rfl rfl ?_
        refine OL.sk rfl rfl ?_
        refine OL.q (Q1.pick_f rfl rfl) rfl rfl ?_
        refine OL.q (Q1.move rfl) rfl rfl ?_
        refine OL.sk rfl rfl ?_
        refine OL.q (Q1.pick_f rfl rfl) rfl rfl ?_
        refine OL.q (Q1.move rfl) rfl rfl ?_
        refine OL.sk rfl rfl ?_
        refine OL.q (Q1.pick_f rfl rfl) rfl rfl ?_
        refine OL.q (Q1.assign rfl) rfl rfl ?_
        refine OL.nil ?_
        refine r_cond_f rfl ?_
        refine r_seq ?_
        refine r_region ?_
        refine OL.q (Q1.move rfl) rfl rfl ?_
        refine OL.qb (Q1.ge rfl rfl) rfl rfl ?_
        intro b7 hb7
        refine OL.q (Q1.move rfl) rfl rfl ?_
        cases b7 with
        | true =>
          replace hb7 := of_decide_eq_true hb7.symm
          refine OL.q (Q1.move rfl) rfl rfl ?_
          refine OL.qb (Q1.le rfl rfl) rfl rfl ?_
          intro b8 hb8
          refine OL.q (Q1.pick_t rfl rfl) rfl rfl ?_
          refine OL.q (Q1.move rfl) rfl rfl ?_
          cases b8 with
          | true =>
            replace hb8 := of_decide_eq_true hb8.symm
            refine OL.q (Q1.move rfl) rfl rfl ?_
            refine OL.q (Q1.pick_t rfl rfl) rfl rfl ?_
            refine OL.q (Q1.move rfl) rfl rfl ?_
            cases b1 with
            | true =>
              replace hb1 := hb1.symm
              refine OL.q (Q1.move rfl) rfl rfl ?_
              refine OL.q (Q1.pick_t rfl rfl) rfl rfl ?_
              refine OL.q (Q1.move rfl) rfl rfl ?_
              cases b2 with
              | true =>
                replace hb2 := hb2.symm
                refine OL.q (Q1.move rfl) rfl rfl ?_
                refine OL.q (Q1.pick_t rfl rfl) rfl rfl ?_
                refine OL.q (Q1.assign rfl) rfl rfl ?_
                refine OL.nil ?_
                cases b3 with
                | true =>
                  replace hb3 := hb3.symm
                  refine r_cond_t rfl ?_
                  refine r_seq ?_
                  refine r_region ?_
                  refine OL.q (Q1.move rfl) rfl rfl ?_
                  refine OL.q (Q1.sub32 ((((byteAt s i : Nat) : Int) - 240)) rfl rfl (by omega)) rfl rfl ?_
                  refine OL.q (Q1.mul32 (((((byteAt s i : Nat) : Int) - 240) * 262144)) rfl rfl (by omega)) rfl rfl ?_
                  refine OL.q (Q1.move rfl) rfl rfl ?_
                  refine OL.q (Q1.mul32 (((Ml.moreV s (i + 1)) * 4096)) rfl rfl (by omega)) rfl rfl ?_
                  refine OL.q (Q1.add32 ((((((byteAt s i : Nat) : Int) - 240) * 262144) + (((Ml.moreV s (i + 1)) * 4096)))) rfl rfl (by omega)) rfl rfl ?_
                  refine OL.q (Q1.move rfl) rfl rfl ?_
                  refine OL.q (Q1.mul32 (((Ml.moreV s (i + 2)) * 64)) rfl rfl (by omega)) rfl rfl ?_
                  refine OL.q (Q1.add32 (((((((byteAt s i : Nat) : Int) - 240) * 262144) + (((Ml.moreV s (i + 1)) * 4096))) + (((Ml.moreV s (i + 2)) * 64)))) rfl rfl (by omega)) rfl rfl ?_
                  refine OL.q (Q1.move rfl) rfl rfl ?_
                  refine OL.q (Q1.add32 ((((((((byteAt s i : Nat) : Int) - 240) * 262144) + (((Ml.moreV s (i + 1)) * 4096))) + (((Ml.moreV s (i + 2)) * 64))) + ((Ml.moreV s (i + 3))))) rfl rfl (by omega)) rfl rfl ?_
                  refine OL.q (Q1.assign rfl) rfl rfl ?_
                  refine OL.q (Q1.assign rfl) rfl rfl ?_
                  obtain ⟨hone1, hone2⟩ := Ml.one_4 (by omega) (by intro hh; first | omega | (simp_all; done)) (by intro hh; first | omega | (simp_all; done)) ⟨by omega, by omega, by assumption, by assumption, by assumption⟩
                  refine OL.nil ?_
                  refine r_ret2 Try.func101 rfl rfl rfl ?_
                  exact Ret.mk ⟨_, _, rfl, (congrArg (Value.int .i32) (by first | (with_reducible exact hone1) | (rw [← hone2]; rfl) | (exfalso; omega))), (congrArg (Value.int .i64) (by first | (with_reducible exact hone1) | (rw [← hone2]; rfl) | (exfalso; omega))), hE3⟩
                | false =>
                  replace hb3 := hb3.symm
                  refine r_cond_f rfl ?_
                  refine r_skip ?_
                  refine r_inBlock ?_
                  refine r_seq ?_
                  refine r_region ?_
                  refine OL.q (Q1.assign rfl) rfl rfl ?_
                  refine OL.q (Q1.assign rfl) rfl rfl ?_
                  obtain ⟨hone1, hone2⟩ := Ml.one_0 (by omega) (by intro hh; first | omega | (simp_all; done)) (by intro hh; first | omega | (simp_all; done)) (by intro hh; first | omega | (simp_all; done))
                  refine OL.nil ?_
                  refine r_ret2 Try.func101 rfl rfl rfl ?_
                  exact Ret.mk ⟨_, _, rfl, (congrArg (Value.int .i32) (by first | (with_reducible exact hone1) | (rw [← hone2]; rfl) | (exfalso; omega))), (congrArg (Value.int .i64) (by first | (with_reducible exact hone1) | (rw [← hone2]; rfl) | (exfalso; omega))), hE3⟩
              | false =>
                replace hb2 := hb2.symm
                refine OL.sk rfl rfl ?_
                refine OL.q (Q1.pick_f rfl rfl) rfl rfl ?_
                refine OL.q (Q1.assign rfl) rfl rfl ?_
                refine OL.nil ?_
                refine r_cond_f rfl ?_
                refine r_skip ?_
                refine r_inBlock ?_
                refine r_seq ?_
                refine r_region ?_
                refine OL.q (Q1.assign rfl) rfl rfl ?_
                refine OL.q (Q1.assign rfl) rfl rfl ?_
                obtain ⟨hone1, hone2⟩ := Ml.one_0 (by omega) (by intro hh; first | omega | (simp_all; done)) (by intro hh; first | omega | (simp_all; done)) (by intro hh; first | omega | (simp_all; done))
                refine OL.nil ?_
                refine r_ret2 Try.func101 rfl rfl rfl ?_
                exact Ret.mk ⟨_, _, rfl, (congrArg (Value.int .i32) (by first | (with_reducible exact hone1) | (rw [← hone2]; rfl) | (exfalso; omega))), (congrArg (Value.int .i64) (by first | (with_reducible exact hone1) | (rw [← hone2]; rfl) | (exfalso; omega))), hE3⟩
            | false =>
              replace hb1 := hb1.symm
              refine OL.sk rfl rfl ?_
              refine OL.q (Q1.pick_f rfl rfl) rfl rfl ?_
              refine OL.q (Q1.move rfl) rfl rfl ?_
              refine OL.sk rfl rfl ?_
              refine OL.q (Q1.pick_f rfl rfl) rfl rfl ?_
              refine OL.q (Q1.assign rfl) rfl rfl ?_
              refine OL.nil ?_
              refine r_cond_f rfl ?_
              refine r_skip ?_
              refine r_inBlock ?_
              refine r_seq ?_
              refine r_region ?_
              refine OL.q (Q1.assign rfl) rfl rfl ?_
              refine OL.q (Q1.assign rfl) rfl rfl ?_
              obtain ⟨hone1, hone2⟩ := Ml.one_0 (by omega) (by intro hh; first | omega | (simp_all; done)) (by intro hh; first | omega | (simp_all; done)) (by intro hh; first | omega | (simp_all; done))
              refine OL.nil ?_
              refine r_ret2 Try.func101 rfl rfl rfl ?_
              exact Ret.mk ⟨_, _, rfl, (congrArg (Value.int .i32) (by first | (with_reducible exact hone1) | (rw [← hone2]; rfl) | (exfalso; omega))), (congrArg (Value.int .i64) (by first | (with_reducible exact hone1) | (rw [← hone2]; rfl) | (exfalso; omega))), hE3⟩
          | false =>
            replace hb8 := of_decide_eq_false hb8.symm
            refine OL.sk rfl rfl ?_
            refine OL.q (Q1.pick_f rfl rfl) rfl rfl ?_
            refine OL.q (Q1.move rfl) rfl rfl ?_
            refine OL.sk rfl rfl ?_
            refine OL.q (Q1.pick_f rfl rfl) rfl rfl ?_
            refine OL.q (Q1.move rfl) rfl rfl ?_
            refine OL.sk rfl rfl ?_
            refine OL.q (Q1.pick_f rfl rfl) rfl rfl ?_
            refine OL.q (Q1.assign rfl) rfl rfl ?_
            refine OL.nil ?_
            refine r_cond_f rfl ?_
            refine r_skip ?_
            refine r_inBlock ?_
            refine r_seq ?_
            refine r_region ?_
            refine OL.q (Q1.assign rfl) rfl rfl ?_
            refine OL.q (Q1.assign rfl) rfl rfl ?_
            obtain ⟨hone1, hone2⟩ := Ml.one_0 (by omega) (by intro hh; first | omega | (simp_all; done)) (by intro hh; first | omega | (simp_all; done)) (by intro hh; first | omega | (simp_all; done))
            refine OL.nil ?_
            refine r_ret2 Try.func101 rfl rfl rfl ?_
            exact Ret.mk ⟨_, _, rfl, (congrArg (Value.int .i32) (by first | (with_reducible exact hone1) | (rw [← hone2]; rfl) | (exfalso; omega))), (congrArg (Value.int .i64) (by first | (with_reducible exact hone1) | (rw [← hone2]; rfl) | (exfalso; omega))), hE3⟩
        | false =>
          replace hb7 := of_decide_eq_false hb7.symm
          refine OL.sk rfl rfl ?_
          refine OL.sk rfl rfl ?_
          refine OL.q (Q1.pick_f rfl rfl) rfl rfl ?_
          refine OL.q (Q1.move rfl) rfl rfl ?_
          refine OL.sk rfl rfl ?_
          refine OL.q (Q1.pick_f rfl rfl) rfl rfl ?_
          refine OL.q (Q1.move rfl) rfl rfl ?_
          refine OL.sk rfl rfl ?_
          refine OL.q (Q1.pick_f rfl rfl) rfl rfl ?_
          refine OL.q (Q1.move rfl) rfl rfl ?_
          refine OL.sk rfl rfl ?_
          refine OL.q (Q1.pick_f rfl rfl) rfl rfl ?_
          refine OL.q (Q1.assign rfl) rfl rfl ?_
          refine OL.nil ?_
          refine r_cond_f rfl ?_
          refine r_skip ?_
          refine r_inBlock ?_
          refine r_seq ?_
          refine r_region ?_
          refine OL.q (Q1.assign rfl) rfl rfl ?_
          refine OL.q (Q1.assign rfl) rfl rfl ?_
          obtain ⟨hone1, hone2⟩ := Ml.one_0 (by omega) (by intro hh; first | omega | (simp_all; done)) (by intro hh; first | omega | (simp_all; done)) (by intro hh; first | omega | (simp_all; done))
          refine OL.nil ?_
          refine r_ret2 Try.func101 rfl rfl rfl ?_
          exact Ret.mk ⟨_, _, rfl, (congrArg (Value.int .i32) (by first | (with_reducible exact hone1) | (rw [← hone2]; rfl) | (exfalso; omega))), (congrArg (Value.int .i64) (by first | (with_reducible exact hone1) | (rw [← hone2]; rfl) | (exfalso; omega))), hE3⟩
set_option maxRecDepth 20000 in
set_option maxHeartbeats 4000000 in
theorem rgood_c {w0 : World}  (r : Int) (h_r : -2147483648 ≤ r ∧ r ≤ 2147483647) :
    Calls Try.prog 102 #[.int .i32 r] w0 (Ret fun rv w1 => (∃ rb : Bool, rb = (Ml.goodR r) ∧ rv = .bool rb) ∧ Ext w0 w1) := by
  have hE0 : Ext w0 w0 := Mod.refl _ _
  refine calls_enter Try.func102 rfl Try.ntmps102 rfl ?_
  refine r_seq ?_
  refine r_region ?_
  refine OL.q (Q1.assign rfl) rfl rfl ?_
  refine OL.nil ?_
  refine r_seq ?_
  refine r_region ?_
  refine OL.q (Q1.move rfl) rfl rfl ?_
  refine OL.qb (Q1.ge rfl rfl) rfl rfl ?_
  intro b1 hb1
  refine OL.q (Q1.move rfl) rfl rfl ?_
  cases b1 with
  | true =>
    replace hb1 := of_decide_eq_true hb1.symm
    refine OL.q (Q1.move rfl) rfl rfl ?_
    refine OL.qb (Q1.le rfl rfl) rfl rfl ?_
    intro b2 hb2
    refine OL.q (Q1.pick_t rfl rfl) rfl rfl ?_
    refine OL.q (Q1.move rfl) rfl rfl ?_
    cases b2 with
    | true =>
      replace hb2 := of_decide_eq_true hb2.symm
      refine OL.q (Q1.move rfl) rfl rfl ?_
      refine OL.qb (Q1.lt rfl rfl) rfl rfl ?_
      intro b3 hb3
      refine OL.q (Q1.move rfl) rfl rfl ?_
      cases b3 with
      | true =>
        replace hb3 := of_decide_eq_true hb3.symm
        refine OL.sk rfl rfl ?_
        refine OL.sk rfl rfl ?_
        refine OL.q (Q1.pick_t rfl rfl) rfl rfl ?_
        refine OL.q (Q1.pick_t rfl rfl) rfl rfl ?_
        refine OL.q (Q1.move rfl) rfl rfl ?_
        refine OL.q (Q1.move rfl) rfl rfl ?_
        refine OL.qb (Q1.ne rfl rfl) rfl rfl ?_
        intro b4 hb4
        refine OL.q (Q1.pick_t rfl rfl) rfl rfl ?_
        refine OL.q (Q1.assign rfl) rfl rfl ?_
        refine OL.nil ?_
        refine r_ret1 Try.func102 rfl rfl ?_
        exact Ret.mk ⟨⟨_, (by first | exact Ml.good_no (by omega) | exact Ml.good_ne (by omega) (by assumption) | (exfalso; omega)), rfl⟩, hE0⟩
      | false =>
        replace hb3 := of_decide_eq_false hb3.symm
        refine OL.q (Q1.move rfl) rfl rfl ?_
        refine OL.qb (Q1.gt rfl rfl) rfl rfl ?_
        intro b4 hb4
        refine OL.q (Q1.pick_f rfl rfl) rfl rfl ?_
        refine OL.q (Q1.pick_t rfl rfl) rfl rfl ?_
        refine OL.q (Q1.move rfl) rfl rfl ?_
        cases b4 with
        | true =>
          replace hb4 := of_decide_eq_true hb4.symm
          refine OL.q (Q1.move rfl) rfl rfl ?_
          refine OL.qb (Q1.ne rfl rfl) rfl rfl ?_
          intro b5 hb5
          refine OL.q (Q1.pick_t rfl rfl) rfl rfl ?_
          refine OL.q (Q1.assign rfl) rfl rfl ?_
          refine OL.nil ?_
          refine r_ret1 Try.func102 rfl rfl ?_
          exact Ret.mk ⟨⟨_, (by first | exact Ml.good_no (by omega) | exact Ml.good_ne (by omega) (by assumption) | (exfalso; omega)), rfl⟩, hE0⟩
        | false =>
          replace hb4 := of_decide_eq_false hb4.symm
          refine OL.sk rfl rfl ?_
          refine OL.sk rfl rfl ?_
          refine OL.q (Q1.pick_f rfl rfl) rfl rfl ?_
          refine OL.q (Q1.assign rfl) rfl rfl ?_
          refine OL.nil ?_
          refine r_ret1 Try.func102 rfl rfl ?_
          exact Ret.mk ⟨⟨_, (by first | exact Ml.good_no (by omega) | exact Ml.good_ne (by omega) (by assumption) | (exfalso; omega)), rfl⟩, hE0⟩
    | false =>
      replace hb2 := of_decide_eq_false hb2.symm
      refine OL.sk rfl rfl ?_
      refine OL.sk rfl rfl ?_
      refine OL.sk rfl rfl ?_
      refine OL.sk rfl rfl ?_
      refine OL.sk rfl rfl ?_
      refine OL.sk rfl rfl ?_
      refine OL.q (Q1.pick_f rfl rfl) rfl rfl ?_
      refine OL.q (Q1.move rfl) rfl rfl ?_
      refine OL.sk rfl rfl ?_
      refine OL.sk rfl rfl ?_
      refine OL.q (Q1.pick_f rfl rfl) rfl rfl ?_
      refine OL.q (Q1.assign rfl) rfl rfl ?_
      refine OL.nil ?_
      refine r_ret1 Try.func102 rfl rfl ?_
      exact Ret.mk ⟨⟨_, (by first | exact Ml.good_no (by omega) | exact Ml.good_ne (by omega) (by assumption) | (exfalso; omega)), rfl⟩, hE0⟩
  | false =>
    replace hb1 := of_decide_eq_false hb1.symm
    refine OL.sk rfl rfl ?_
    refine OL.sk rfl rfl ?_
    refine OL.q (Q1.pick_f rfl rfl) rfl rfl ?_
    refine OL.q (Q1.move rfl) rfl rfl ?_
    refine OL.sk rfl rfl ?_
    refine OL.sk rfl rfl ?_
    refine OL.sk rfl rfl ?_
    refine OL.sk rfl rfl ?_
    refine OL.sk rfl rfl ?_
    refine OL.sk rfl rfl ?_
    refine OL.q (Q1.pick_f rfl rfl) rfl rfl ?_
    refine OL.q (Q1.move rfl) rfl rfl ?_
    refine OL.sk rfl rfl ?_
    refine OL.sk rfl rfl ?_
    refine OL.q (Q1.pick_f rfl rfl) rfl rfl ?_
    refine OL.q (Q1.assign rfl) rfl rfl ?_
    refine OL.nil ?_
    refine r_ret1 Try.func102 rfl rfl ?_
    exact Ret.mk ⟨⟨_, (by first | exact Ml.good_no (by omega) | exact Ml.good_ne (by omega) (by assumption) | (exfalso; omega)), rfl⟩, hE0⟩
set_option maxRecDepth 20000 in
set_option maxHeartbeats 4000000 in
theorem rrunes_c {w0 : World}  (s : Str) (hs : s.length ≤ 1000000000) :
    Calls Try.prog 84 #[strV s] w0 (Ret fun rv w1 => ∃ u0 u1, rv = .tuple #[u0, u1] ∧ Sl encRn w1 (Iv w0.heap.size w1.heap.size) u0 (Ml.runesM s) ∧ (∃ rb : Bool, rb = (Ml.fineT s) ∧ u1 = .bool rb) ∧ Ext w0 w1) := by
  have hE0 : Ext w0 w0 := Mod.refl _ _
  refine calls_enter Try.func84 rfl Try.ntmps84 rfl ?_
  refine r_seq ?_
  refine r_region ?_
  refine OL.q (Q1.assign rfl) rfl rfl ?_
  refine OL.q (Q1.assign rfl) rfl rfl ?_
  refine OL.nil ?_
  refine r_seq ?_
  refine r_region ?_
  refine OL.q (Q1.assign rfl) rfl rfl ?_
  refine OL.nil ?_
  refine r_seq ?_
  refine r_seq ?_
  refine r_region ?_
  refine OL.q (Q1.assign rfl) rfl rfl ?_
  refine OL.nil ?_
  refine r_block ?_
  refine r_loop (I := fun m E W => ∃ (v_l : Value) (g_l : Nat) (l : List Int) (i : Nat), E = [(0, strV s), (4, v_l), (5, .int .i64 (((i : Nat) : Int)))] ∧ m = s.length - i ∧ Ext w0 W ∧ w0.heap.size ≤ W.heap.size ∧ Acc encRn 21 1 W g_l v_l l ∧ (g_l = 0 ∨ w0.heap.size < g_l) ∧ (Ml.RunInv s i l) ∧ (i ≤ s.length)) ?_ ?_
  · refine ⟨_, _, ⟨(.slice none 0 0 : Value), (0 : Nat), ([] : List Int), (0 : Nat), rfl, rfl, hE0, Nat.le_refl _, Acc.nil, (by omega), (by exact Ml.RunInv.start s), (by omega)⟩, ⟨rfl, rfl, rfl, trivial⟩⟩
  · rintro _ _ w1 ⟨v_l, g_l, l, i, rfl, rfl, hE1, hs1, ha1, hg1, hr, hil⟩ ih1
    have hll := hr.len
    refine r_seq ?_
    refine r_seq ?_
    refine r_region ?_
    refine OL.q (Q1.move rfl) rfl rfl ?_
    refine OL.q (Q1.move rfl) rfl rfl ?_
    refine OL.q (Q1.lenS Try.underlying9 rfl) rfl rfl ?_
    refine OL.qb (Q1.lt rfl rfl) rfl rfl ?_
    intro b1 hb1
    refine OL.nil ?_
    cases b1 with
    | true =>
      replace hb1 := of_decide_eq_true hb1.symm
      refine r_cond_t rfl ?_
      refine r_skip ?_
      refine r_block ?_
      refine r_seq ?_
      refine r_region ?_
      refine OL.q (Q1.move rfl) rfl rfl ?_
      refine OL.q (Q1.move rfl) rfl rfl ?_
      refine OL.act rfl rfl (AW.callF cl101 rfl (rone_c (w0 := w1)  s (i) (by first | assumption | omega) (by first | assumption | omega)) ?_)
      rintro _ w2 ⟨_, _, rfl, rfl, rfl, hm1⟩
      have hl1 := ha1.lt
      have f1 := ha1.ext hm1
      have hE2 := hE1.ext hm1
      have hs2 := hm1.size
      have := Ml.one_range s i
      have := Ml.one_fits s i (by omega)
      refine OL.q (Q1.move rfl) rfl rfl ?_
      refine OL.q (Q1.extract rfl rfl) rfl rfl ?_
      refine OL.q (Q1.extract rfl rfl) rfl rfl ?_
      refine OL.q (Q1.assign rfl) rfl rfl ?_
      refine OL.q (Q1.assign rfl) rfl rfl ?_
      refine OL.nil ?_
      refine r_seq ?_
      refine r_seq ?_
      refine r_region ?_
      refine OL.q (Q1.move rfl) rfl rfl ?_
      refine OL.qb (Q1.eq rfl rfl) rfl rfl ?_
      intro b2 hb2
      refine OL.q (Q1.move rfl) rfl rfl ?_
      cases b2 with
      | true =>
        replace hb2 := eq_of_beq hb2.symm
        refine OL.sk rfl rfl ?_
        refine OL.sk rfl rfl ?_
        refine OL.sk rfl rfl ?_
        refine OL.q (Q1.pick_t rfl rfl) rfl rfl ?_
        refine OL.q (Q1.move rfl) rfl rfl ?_
        refine OL.sk rfl rfl ?_
        refine OL.sk rfl rfl ?_
        refine OL.sk rfl rfl ?_
        refine OL.sk rfl rfl ?_
        refine OL.sk rfl rfl ?_
        refine OL.sk rfl rfl ?_
        refine OL.q (Q1.pick_t rfl rfl) rfl rfl ?_
        refine OL.q (Q1.move rfl) rfl rfl ?_
        refine OL.sk rfl rfl ?_
        refine OL.sk rfl rfl ?_
        refine OL.sk rfl rfl ?_
        refine OL.sk rfl rfl ?_
        refine OL.sk rfl rfl ?_
        refine OL.sk rfl rfl ?_
        refine OL.q (Q1.pick_t rfl rfl) rfl rfl ?_
        refine OL.nil ?_
        refine r_cond_t rfl ?_
        refine r_seq ?_
        refine r_region ?_
        refine OL.q (Q1.assign rfl) rfl rfl ?_
        refine OL.q (Q1.assign rfl) rfl rfl ?_
        refine OL.nil ?_
        refine r_ret2 Try.func84 rfl rfl rfl ?_
        exact Ret.mk ⟨_, _, rfl, (Sl.cast Sl.nil (by first | (with_reducible exact Ml.runesM_no (by exact (hr.bad (by omega) (by first | exact Ml.bad_yes (by omega) | (with_reducible exact Ml.bad_good (by assumption)))))) | (with_reducible exact (hr.bad (by omega) (by first | exact Ml.bad_yes (by omega) | (with_reducible exact Ml.bad_good (by assumption))))) | (with_reducible exact (hr.fin (by omega)).1.trans (Ml.runesM_yes (hr.fin (by omega)).2)) | (with_reducible exact (hr.fin (by omega)).2) | (exfalso; omega))), ⟨_, (by first | (with_reducible exact Ml.runesM_no (by exact (hr.bad (by omega) (by first | exact Ml.bad_yes (by omega) | (with_reducible exact Ml.bad_good (by assumption)))))) | (with_reducible exact (hr.bad (by omega) (by first | exact Ml.bad_yes (by omega) | (with_reducible exact Ml.bad_good (by assumption))))) | (with_reducible exact (hr.fin (by omega)).1.trans (Ml.runesM_yes (hr.fin (by omega)).2)) | (with_reducible exact (hr.fin (by omega)).2) | (exfalso; omega)), rfl⟩, hE2⟩
      | false =>
        replace hb2 := ne_of_beq_false hb2.symm
        refine OL.q (Q1.move rfl) rfl rfl ?_
        refine OL.act rfl rfl (AW.callF cl102 rfl (rgood_c (w0 := w2)  (((Ml.oneM s i).1)) (by first | omega | assumption)) ?_)
        rintro _ w3 ⟨⟨b3, hb3, rfl⟩, hm2⟩
        have hl2 := f1.lt
        have f2 := f1.ext hm2
        have hE3 := hE2.ext hm2
        have hs3 := hm2.size
        cases b3 with
        | true =>
          replace hb3 := hb3.symm
          refine OL.q (Q1.not rfl) rfl rfl ?_
          refine OL.q (Q1.pick_f rfl rfl) rfl rfl ?_
          refine OL.q (Q1.move rfl) rfl rfl ?_
          refine OL.q (Q1.move rfl) rfl rfl ?_
          refine OL.qb (Q1.eq rfl rfl) rfl rfl ?_
          intro b4 hb4
          refine OL.q (Q1.move rfl) rfl rfl ?_
          cases b4 with
          | true =>
            replace hb4 := eq_of_beq hb4.symm
            refine OL.q (Q1.move rfl) rfl rfl ?_
            refine OL.qb (Q1.lt rfl rfl) rfl rfl ?_
            intro b5 hb5
            refine OL.q (Q1.pick_t rfl rfl) rfl rfl ?_
            refine OL.q (Q1.pick_f rfl rfl) rfl rfl ?_
            refine OL.q (Q1.move rfl) rfl rfl ?_
            cases b5 with
            | true =>
              replace hb5 := of_decide_eq_true hb5.symm
              refine OL.sk rfl rfl ?_
              refine OL.sk rfl rfl ?_
              refine OL.sk rfl rfl ?_
              refine OL.sk rfl rfl ?_
              refine OL.sk rfl rfl ?_
              refine OL.sk rfl rfl ?_
              refine OL.q (Q1.pick_t rfl rfl) rfl rfl ?_
              refine OL.nil ?_
              refine r_cond_t rfl ?_
              refine r_seq ?_
              refine r_region ?_
              refine OL.q (Q1.assign rfl) rfl rfl ?_
              refine OL.q (Q1.assign rfl) rfl rfl ?_
              refine OL.nil ?_
              refine r_ret2 Try.func84 rfl rfl rfl ?_
              exact Ret.mk ⟨_, _, rfl, (Sl.cast Sl.nil (by first | (with_reducible exact Ml.runesM_no (by exact (hr.bad (by omega) (by first | exact Ml.bad_yes (by omega) | (with_reducible exact Ml.bad_good (by assumption)))))) | (with_reducible exact (hr.bad (by omega) (by first | exact Ml.bad_yes (by omega) | (with_reducible exact Ml.bad_good (by assumption))))) | (with_reducible exact (hr.fin (by omega)).1.trans (Ml.runesM_yes (hr.fin (by omega)).2)) | (with_reducible exact (hr.fin (by omega)).2) | (exfalso; omega))), ⟨_, (by first | (with_reducible exact Ml.runesM_no (by exact (hr.bad (by omega) (by first | exact Ml.bad_yes (by omega) | (with_reducible exact Ml.bad_good (by assumption)))))) | (with_reducible exact (hr.bad (by omega) (by first | exact Ml.bad_yes (by omega) | (with_reducible exact Ml.bad_good (by assumption))))) | (with_reducible exact (hr.fin (by omega)).1.trans (Ml.runesM_yes (hr.fin (by omega)).2)) | (with_reducible exact (hr.fin (by omega)).2) | (exfalso; omega)), rfl⟩, hE3⟩
            | false =>
              replace hb5 := of_decide_eq_false hb5.symm
              refine OL.q (Q1.move rfl) rfl rfl ?_
              refine OL.qb (Q1.eq rfl rfl) rfl rfl ?_
              intro b6 hb6
              refine OL.q (Q1.move rfl) rfl rfl ?_
              cases b6 with
              | true =>
                replace hb6 := eq_of_beq hb6.symm
                refine OL.q (Q1.move rfl) rfl rfl ?_
                refine OL.qb (Q1.lt rfl rfl) rfl rfl ?_
                intro b7 hb7
                refine OL.q (Q1.pick_t rfl rfl) rfl rfl ?_
                refine OL.q (Q1.pick_f rfl rfl) rfl rfl ?_
                refine OL.nil ?_
                cases b7 with
                | true =>
                  replace hb7 := of_decide_eq_true hb7.symm
                  refine r_cond_t rfl ?_
                  refine r_seq ?_
                  refine r_region ?_
                  refine OL.q (Q1.assign rfl) rfl rfl ?_
                  refine OL.q (Q1.assign rfl) rfl rfl ?_
                  refine OL.nil ?_
                  refine r_ret2 Try.func84 rfl rfl rfl ?_
                  exact Ret.mk ⟨_, _, rfl, (Sl.cast Sl.nil (by first | (with_reducible exact Ml.runesM_no (by exact (hr.bad (by omega) (by first | exact Ml.bad_yes (by omega) | (with_reducible exact Ml.bad_good (by assumption)))))) | (with_reducible exact (hr.bad (by omega) (by first | exact Ml.bad_yes (by omega) | (with_reducible exact Ml.bad_good (by assumption))))) | (with_reducible exact (hr.fin (by omega)).1.trans (Ml.runesM_yes (hr.fin (by omega)).2)) | (with_reducible exact (hr.fin (by omega)).2) | (exfalso; omega))), ⟨_, (by first | (with_reducible exact Ml.runesM_no (by exact (hr.bad (by omega) (by first | exact Ml.bad_yes (by omega) | (with_reducible exact Ml.bad_good (by assumption)))))) | (with_reducible exact (hr.bad (by omega) (by first | exact Ml.bad_yes (by omega) | (with_reducible exact Ml.bad_good (by assumption))))) | (with_reducible exact (hr.fin (by omega)).1.trans (Ml.runesM_yes (hr.fin (by omega)).2)) | (with_reducible exact (hr.fin (by omega)).2) | (exfalso; omega)), rfl⟩, hE3⟩
                | false =>
                  replace hb7 := of_decide_eq_false hb7.symm
                  refine r_cond_f rfl ?_
                  refine r_skip ?_
                  refine r_seq ?_
                  refine r_region ?_
                  refine OL.q (Q1.move rfl) rfl rfl ?_
                  refine OL.q (Q1.move rfl) rfl rfl ?_
                  refine OL.act rfl rfl (AW.buildSlice [(.int .i32 (((Ml.oneM s i).1)) : Value)] Try.underlying74 ti21 rfl rfl rfl (by decide) ?_)
                  intro w4 b8 hm3 hb8 hz1 hk1
                  have hl3 := f2.lt
                  have f3 := f2.ext hm3
                  have hE4 := hE3.ext hm3
                  have hs4 := hm3.size
                  have hl4 := Sl.of_blk (enc := encRn) hk1 ([((Ml.oneM s i).1)] : List Int) 1 rfl rfl (by unfold maxLen; omega)
                  have hl5 := f3.lt
                  refine OL.act rfl rfl (AW.append f3 Try.underlying74 ti21 rfl encRn_len encRn_one rfl rfl (hl4) (by first | omega | (simp only [List.length_append, List.length_cons, List.length_nil]; omega) | (simp; omega)) (by unfold maxLen; first | omega | (simp only [List.length_append, List.length_cons, List.length_nil]; omega) | (simp; omega)) ?_)
                  intro v1 g1 w5 ha2 hm4 hg2 hz2
                  have hl6 := f3.lt
                  have f4 := hl4.keepG hm4 (by omega)
                  have hE5 := Ext.thenG hE4 hm4 (by omega)
                  have hs5 := hm4.size
                  refine OL.q (Q1.assign rfl) rfl rfl ?_
                  refine OL.nil ?_
                  refine r_region ?_
                  refine OL.q (Q1.move rfl) rfl rfl ?_
                  refine OL.q (Q1.move rfl) rfl rfl ?_
                  refine OL.q (Q1.addI (((i + ((Ml.oneM s i).2.toNat) : Nat) : Int)) rfl rfl (by omega)) rfl rfl ?_
                  refine OL.q (Q1.assign rfl) rfl rfl ?_
                  refine OL.nil ?_
                  refine r_inBlock ?_
                  exact (ih1 _ _ _ ⟨(v1 : Value), (g1 : Nat), ((l ++ [((Ml.oneM s i).1)]) : List Int), (i + ((Ml.oneM s i).2.toNat) : Nat), rfl, rfl, hE5, (by omega), ha2, (by omega), (by first | exact hr.next (by omega) (Ml.bad_no (by omega) (by with_reducible assumption) (by omega) (by omega)) (by omega) | (exfalso; omega)), (by first | omega | (exfalso; omega))⟩ (by omega)).sub ⟨rfl, rfl, rfl, trivial⟩
              | false =>
                replace hb6 := ne_of_beq_false hb6.symm
                refine OL.sk rfl rfl ?_
                refine OL.sk rfl rfl ?_
                refine OL.q (Q1.pick_f rfl rfl) rfl rfl ?_
                refine OL.q (Q1.pick_f rfl rfl) rfl rfl ?_
                refine OL.nil ?_
                refine r_cond_f rfl ?_
                refine r_skip ?_
                refine r_seq ?_
                refine r_region ?_
                refine OL.q (Q1.move rfl) rfl rfl ?_
                refine OL.q (Q1.move rfl) rfl rfl ?_
                refine OL.act rfl rfl (AW.buildSlice [(.int .i32 (((Ml.oneM s i).1)) : Value)] Try.underlying74 ti21 rfl rfl rfl (by decide) ?_)
                intro w4 b7 hm3 hb7 hz1 hk1
                have hl3 := f2.lt
                have f3 := f2.ext hm3
                have hE4 := hE3.ext hm3
                have hs4 := hm3.size
                have hl4 := Sl.of_blk (enc := encRn) hk1 ([((Ml.oneM s i).1)] : List Int) 1 rfl rfl (by unfold maxLen; omega)
                have hl5 := f3.lt
                refine OL.act rfl rfl (AW.append f3 Try.underlying74 ti21 rfl encRn_len encRn_one rfl rfl (hl4) (by first | omega | (simp only [List.length_append, List.length_cons, List.length_nil]; omega) | (simp; omega)) (by unfold maxLen; first | omega | (simp only [List.length_append, List.length_cons, List.length_nil]; omega) | (simp; omega)) ?_)
                intro v1 g1 w5 ha2 hm4 hg2 hz2
                have hl6 := f3.lt
                have f4 := hl4.keepG hm4 (by omega)
                have hE5 := Ext.thenG hE4 hm4 (by omega)
                have hs5 := hm4.size
                refine OL.q (Q1.assign rfl) rfl rfl ?_
                refine OL.nil ?_
                refine r_region ?_
                refine OL.q (Q1.move rfl) rfl rfl ?_
                refine OL.q (Q1.move rfl) rfl rfl ?_
                refine OL.q (Q1.addI (((i + ((Ml.oneM s i).2.toNat) : Nat) : Int)) rfl rfl (by omega)) rfl rfl ?_
                refine OL.q (Q1.assign rfl) rfl rfl ?_
                refine OL.nil ?_
                refine r_inBlock ?_
                exact (ih1 _ _ _ ⟨(v1 : Value), (g1 : Nat), ((l ++ [((Ml.oneM s i).1)]) : List Int), (i + ((Ml.oneM s i).2.toNat) : Nat), rfl, rfl, hE5, (by omega), ha2, (by omega), (by first | exact hr.next (by omega) (Ml.bad_no (by omega) (by with_reducible assumption) (by omega) (by omega)) (by omega) | (exfalso; omega)), (by first | omega | (exfalso; omega))⟩ (by omega)).sub ⟨rfl, rfl, rfl, trivial⟩
          | false =>
            replace hb4 := ne_of_beq_false hb4.symm
            refine OL.sk rfl rfl ?_
            refine OL.sk rfl rfl ?_
            refine OL.q (Q1.pick_f rfl rfl) rfl rfl ?_
            refine OL.q (Q1.pick_f rfl rfl) rfl rfl ?_
            refine OL.q (Q1.move rfl) rfl rfl ?_
            refine OL.q (Q1.move rfl) rfl rfl ?_
            refine OL.qb (Q1.eq rfl rfl) rfl rfl ?_
            intro b5 hb5
            refine OL.q (Q1.move rfl) rfl rfl ?_
            cases b5 with
            | true =>
              replace hb5 := eq_of_beq hb5.symm
              refine OL.q (Q1.move rfl) rfl rfl ?_
              refine OL.qb (Q1.lt rfl rfl) rfl rfl ?_
              intro b6 hb6
              refine OL.q (Q1.pick_t rfl rfl) rfl rfl ?_
              refine OL.q (Q1.pick_f rfl rfl) rfl rfl ?_
              refine OL.nil ?_
              cases b6 with
              | true =>
                replace hb6 := of_decide_eq_true hb6.symm
                refine r_cond_t rfl ?_
                refine r_seq ?_
                refine r_region ?_
                refine OL.q (Q1.assign rfl) rfl rfl ?_
                refine OL.q (Q1.assign rfl) rfl rfl ?_
                refine OL.nil ?_
                refine r_ret2 Try.func84 rfl rfl rfl ?_
                exact Ret.mk ⟨_, _, rfl, (Sl.cast Sl.nil (by first | (with_reducible exact Ml.runesM_no (by exact (hr.bad (by omega) (by first | exact Ml.bad_yes (by omega) | (with_reducible exact Ml.bad_good (by assumption)))))) | (with_reducible exact (hr.bad (by omega) (by first | exact Ml.bad_yes (by omega) | (with_reducible exact Ml.bad_good (by assumption))))) | (with_reducible exact (hr.fin (by omega)).1.trans (Ml.runesM_yes (hr.fin (by omega)).2)) | (with_reducible exact (hr.fin (by omega)).2) | (exfalso; omega))), ⟨_, (by first | (with_reducible exact Ml.runesM_no (by exact (hr.bad (by omega) (by first | exact Ml.bad_yes (by omega) | (with_reducible exact Ml.bad_good (by assumption)))))) | (with_reducible exact (hr.bad (by omega) (by first | exact Ml.bad_yes (by omega) | (with_reducible exact Ml.bad_good (by assumption))))) | (with_reducible exact (hr.fin (by omega)).1.trans (Ml.runesM_yes (hr.fin (by omega)).2)) | (with_reducible exact (hr.fin (by omega)).2) | (exfalso; omega)), rfl⟩, hE3⟩
              | false =>
                replace hb6 := of_decide_eq_false hb6.symm
                refine r_cond_f rfl ?_
                refine r_skip ?_
                refine r_seq ?_
                refine r_region ?_
                refine OL.q (Q1.move rfl) rfl rfl ?_
                refine OL.q (Q1.move rfl) rfl rfl ?_
                refine OL.act rfl rfl (AW.buildSlice [(.int .i32 (((Ml.oneM s i).1)) : Value)] Try.underlying74 ti21 rfl rfl rfl (by decide) ?_)
                intro w4 b7 hm3 hb7 hz1 hk1
                have hl3 := f2.lt
                have f3 := f2.ext hm3
                have hE4 := hE3.ext hm3
                have hs4 := hm3.size
                have hl4 := Sl.of_blk (enc := encRn) hk1 ([((Ml.oneM s i).1)] : List Int) 1 rfl rfl (by unfold maxLen; omega)
                have hl5 := f3.lt
                refine OL.act rfl rfl (AW.append f3 Try.underlying74 ti21 rfl encRn_len encRn_one rfl rfl (hl4) (by first | omega | (simp only [List.length_append, List.length_cons, List.length_nil]; omega) | (simp; omega)) (by unfold maxLen; first | omega | (simp only [List.length_append, List.length_cons, List.length_nil]; omega) | (simp; omega)) ?_)
                intro v1 g1 w5 ha2 hm4 hg2 hz2
                have hl6 := f3.lt
                have f4 := hl4.keepG hm4 (by omega)
                have hE5 := Ext.thenG hE4 hm4 (by omega)
                have hs5 := hm4.size
                refine OL.q (Q1.assign rfl) rfl rfl ?_
                refine OL.nil ?_
                refine r_region ?_
                refine OL.q (Q1.move rfl) rfl rfl ?_
                refine OL.q (Q1.move rfl) rfl rfl ?_
                refine OL.q (Q1.addI (((i + ((Ml.oneM s i).2.toNat) : Nat) : Int)) rfl rfl (by omega)) rfl rfl ?_
                refine OL.q (Q1.assign rfl) rfl rfl ?_
                refine OL.nil ?_
                refine r_inBlock ?_
                exact (ih1 _ _ _ ⟨(v1 : Value), (g1 : Nat), ((l ++ [((Ml.oneM s i).1)]) : List Int), (i + ((Ml.oneM s i).2.toNat) : Nat), rfl, rfl, hE5, (by omega), ha2, (by omega), (by first | exact hr.next (by omega) (Ml.bad_no (by omega) (by with_reducible assumption) (by omega) (by omega)) (by omega) | (exfalso; omega)), (by first | omega | (exfalso; omega))⟩ (by omega)).sub ⟨rfl, rfl, rfl, trivial⟩
            | false =>
              replace hb5 := ne_of_beq_false hb5.symm
              refine OL.sk rfl rfl ?_
              refine OL.sk rfl rfl ?_
              refine OL.q (Q1.pick_f rfl rfl) rfl rfl ?_
              refine OL.q (Q1.pick_f rfl rfl) rfl rfl ?_
              refine OL.nil ?_
              refine r_cond_f rfl ?_
              refine r_skip ?_
              refine r_seq ?_
              refine r_region ?_
              refine OL.q (Q1.move rfl) rfl rfl ?_
              refine OL.q (Q1.move rfl) rfl rfl ?_
              refine OL.act rfl rfl (AW.buildSlice [(.int .i32 (((Ml.oneM s i).1)) : Value)] Try.underlying74 ti21 rfl rfl rfl (by decide) ?_)
              intro w4 b6 hm3 hb6 hz1 hk1
              have hl3 := f2.lt
              have f3 := f2.ext hm3
              have hE4 := hE3.ext hm3
              have hs4 := hm3.size
              have hl4 := Sl.of_blk (enc := encRn) hk1 ([((Ml.oneM s i).1)] : List Int) 1 rfl rfl (by unfold maxLen; omega)
              have hl5 := f3.lt
              refine OL.act rfl rfl (AW.append f3 Try.underlying74 ti21 rfl encRn_len encRn_one rfl rfl (hl4) (by first | omega | (simp only [List.length_append, List.length_cons, List.length_nil]; omega) | (simp; omega)) (by unfold maxLen; first | omega | (simp only [List.length_append, List.length_cons, List.length_nil]; omega) | (simp; omega)) ?_)
              intro v1 g1 w5 ha2 hm4 hg2 hz2
              have hl6 := f3.lt
              have f4 := hl4.keepG hm4 (by omega)
              have hE5 := Ext.thenG hE4 hm4 (by omega)
              have hs5 := hm4.size
              refine OL.q (Q1.assign rfl) rfl rfl ?_
              refine OL.nil ?_
              refine r_region ?_
              refine OL.q (Q1.move rfl) rfl rfl ?_
              refine OL.q (Q1.move rfl) rfl rfl ?_
              refine OL.q (Q1.addI (((i + ((Ml.oneM s i).2.toNat) : Nat) : Int)) rfl rfl (by omega)) rfl rfl ?_
              refine OL.q (Q1.assign rfl) rfl rfl ?_
              refine OL.nil ?_
              refine r_inBlock ?_
              exact (ih1 _ _ _ ⟨(v1 : Value), (g1 : Nat), ((l ++ [((Ml.oneM s i).1)]) : List Int), (i + ((Ml.oneM s i).2.toNat) : Nat), rfl, rfl, hE5, (by omega), ha2, (by omega), (by first | exact hr.next (by omega) (Ml.bad_no (by omega) (by with_reducible assumption) (by omega) (by omega)) (by omega) | (exfalso; omega)), (by first | omega | (exfalso; omega))⟩ (by omega)).sub ⟨rfl, rfl, rfl, trivial⟩
        | false =>
          replace hb3 := hb3.symm
          refine OL.q (Q1.not rfl) rfl rfl ?_
          refine OL.q (Q1.pick_f rfl rfl) rfl rfl ?_
          refine OL.q (Q1.move rfl) rfl rfl ?_
          refine OL.sk rfl rfl ?_
          refine OL.sk rfl rfl ?_
          refine OL.sk rfl rfl ?_
          refine OL.sk rfl rfl ?_
          refine OL.sk rfl rfl ?_
          refine OL.sk rfl rfl ?_
          refine OL.q (Q1.pick_t rfl rfl) rfl rfl ?_
          refine OL.q (Q1.move rfl) rfl rfl ?_
          refine OL.sk rfl rfl ?_
          refine OL.sk rfl rfl ?_
          refine OL.sk rfl rfl ?_
          refine OL.sk rfl rfl ?_
          refine OL.sk rfl rfl ?_
          refine OL.sk rfl rfl ?_
          refine OL.q (Q1.pick_t rfl rfl) rfl rfl ?_
          refine OL.nil ?_
          refine r_cond_t rfl ?_
          refine r_seq ?_
          refine r_region ?_
          refine OL.q (Q1.assign rfl) rfl rfl ?_
          refine OL.q (Q1.assign rfl) rfl rfl ?_
          refine OL.nil ?_
          refine r_ret2 Try.func84 rfl rfl rfl ?_
          exact Ret.mk ⟨_, _, rfl, (Sl.cast Sl.nil (by first | (with_reducible exact Ml.runesM_no (by exact (hr.bad (by omega) (by first | exact Ml.bad_yes (by omega) | (with_reducible exact Ml.bad_good (by assumption)))))) | (with_reducible exact (hr.bad (by omega) (by first | exact Ml.bad_yes (by omega) | (with_reducible exact Ml.bad_good (by assumption))))) | (with_reducible exact (hr.fin (by omega)).1.trans (Ml.runesM_yes (hr.fin (by omega)).2)) | (with_reducible exact (hr.fin (by omega)).2) | (exfalso; omega))), ⟨_, (by first | (with_reducible exact Ml.runesM_no (by exact (hr.bad (by omega) (by first | exact Ml.bad_yes (by omega) | (with_reducible exact Ml.bad_good (by assumption)))))) | (with_reducible exact (hr.bad (by omega) (by first | exact Ml.bad_yes (by omega) | (with_reducible exact Ml.bad_good (by assumption))))) | (with_reducible exact (hr.fin (by omega)).1.trans (Ml.runesM_yes (hr.fin (by omega)).2)) | (with_reducible exact (hr.fin (by omega)).2) | (exfalso; omega)), rfl⟩, hE3⟩
    | false =>
      replace hb1 := of_decide_eq_false hb1.symm
      refine r_cond_f rfl ?_
      refine r_exit rfl ?_
      refine r_seq ?_
      refine r_region ?_
      refine OL.q (Q1.move rfl) rfl rfl ?_
      refine OL.q (Q1.assign rfl) rfl rfl ?_
      refine OL.q (Q1.assign rfl) rfl rfl ?_
      refine OL.nil ?_
      refine r_ret2 Try.func84 rfl rfl rfl ?_
      exact Ret.mk ⟨_, _, rfl, (Sl.cast (ha1.fresh (by omega)) (by first | (with_reducible exact Ml.runesM_no (by exact (hr.bad (by omega) (by first | exact Ml.bad_yes (by omega) | (with_reducible exact Ml.bad_good (by assumption)))))) | (with_reducible exact (hr.bad (by omega) (by first | exact Ml.bad_yes (by omega) | (with_reducible exact Ml.bad_good (by assumption))))) | (with_reducible exact (hr.fin (by omega)).1.trans (Ml.runesM_yes (hr.fin (by omega)).2)) | (with_reducible exact (hr.fin (by omega)).2) | (exfalso; omega))), ⟨_, (by first | (with_reducible exact Ml.runesM_no (by exact (hr.bad (by omega) (by first | exact Ml.bad_yes (by omega) | (with_reducible exact Ml.bad_good (by assumption)))))) | (with_reducible exact (hr.bad (by omega) (by first | exact Ml.bad_yes (by omega) | (with_reducible exact Ml.bad_good (by assumption))))) | (with_reducible exact (hr.fin (by omega)).1.trans (Ml.runesM_yes (hr.fin (by omega)).2)) | (with_reducible exact (hr.fin (by omega)).2) | (exfalso; omega)), rfl⟩, hE1⟩
set_option maxRecDepth 20000 in
set_option maxHeartbeats 4000000 in
theorem rlen_c {w0 : World}  (s : Str) (hs : s.length ≤ 1000000000) :
    Calls Try.prog 61 #[strV s] w0 (Ret fun rv w1 => rv = .int .i64 (Ml.lenT s) ∧ Ext w0 w1 ∧ I64 (Ml.lenT s)) := by
  have hE0 : Ext w0 w0 := Mod.refl _ _
  refine calls_enter Try.func61 rfl Try.ntmps61 rfl ?_
  refine r_seq ?_
  refine r_region ?_
  refine OL.q (Q1.assign rfl) rfl rfl ?_
  refine OL.nil ?_
  refine r_seq ?_
  refine r_region ?_
  refine OL.q (Q1.move rfl) rfl rfl ?_
  refine OL.act rfl rfl (AW.callF cl84 rfl (rrunes_c (w0 := w0)  s (by first | assumption | omega)) ?_)
  rintro _ w1 ⟨v1, _, rfl, h1, ⟨b1, hb1, rfl⟩, hm1⟩
  have hE1 := hE0.ext hm1
  have hs1 := hm1.size
  have hle_1 := h1.le
  refine OL.q (Q1.move rfl) rfl rfl ?_
  refine OL.q (Q1.extract rfl rfl) rfl rfl ?_
  refine OL.q (Q1.extract rfl rfl) rfl rfl ?_
  refine OL.q (Q1.assign rfl) rfl rfl ?_
  refine OL.q (Q1.assign rfl) rfl rfl ?_
  refine OL.nil ?_
  refine r_seq ?_
  refine r_seq ?_
  refine r_region ?_
  refine OL.q (Q1.move rfl) rfl rfl ?_
  cases b1 with
  | true =>
    replace hb1 := hb1.symm
    refine OL.q (Q1.not rfl) rfl rfl ?_
    refine OL.nil ?_
    refine r_cond_f rfl ?_
    refine r_skip ?_
    refine r_seq ?_
    refine r_region ?_
    refine OL.q (Q1.move rfl) rfl rfl ?_
    refine OL.q (Q1.lenSl Try.underlying74 (h1) rfl) rfl rfl ?_
    refine OL.q (Q1.assign rfl) rfl rfl ?_
    refine OL.nil ?_
    refine r_ret1 Try.func61 rfl rfl ?_
    exact Ret.mk ⟨(congrArg (Value.int .i64) (by first | (with_reducible exact Ml.rlen_no (by assumption)) | (with_reducible exact Ml.rlen_yes (by assumption)) | (exfalso; omega))), hE1, by exact Ml.lenT_I64 (by omega)⟩
  | false =>
    replace hb1 := hb1.symm
    refine OL.q (Q1.not rfl) rfl rfl ?_
    refine OL.nil ?_
    refine r_cond_t rfl ?_
    refine r_seq ?_
    refine r_region ?_
    refine OL.q (Q1.assign rfl) rfl rfl ?_
    refine OL.nil ?_
    refine r_ret1 Try.func61 rfl rfl ?_
    exact Ret.mk ⟨(congrArg (Value.int .i64) (by first | (with_reducible exact Ml.rlen_no (by assumption)) | (with_reducible exact Ml.rlen_yes (by assumption)) | (exfalso; omega))), hE1, by exact Ml.lenT_I64 (by omega)⟩
set_option maxRecDepth 20000 in
set_option maxHeartbeats 4000000 in
theorem rcmp_c {w0 : World}  (a : Str) (b : Str) (hs_a : a.length ≤ 1000000000) (hs_b : b.length ≤ 1000000000) :
    Calls Try.prog 64 #[strV a, strV b] w0 (Ret fun rv w1 => rv = .int .i64 (Lib.compareBytes a b) ∧ Ext w0 w1 ∧ I64 (Lib.compareBytes a b)) := by
  have hE0 : Ext w0 w0 := Mod.refl _ _
  refine calls_enter Try.func64 rfl Try.ntmps64 rfl ?_
  refine r_seq ?_
  refine r_region ?_
  refine OL.q (Q1.assign rfl) rfl rfl ?_
  refine OL.nil ?_
  refine r_seq ?_
  refine r_seq ?_
  refine r_region ?_
  refine OL.q (Q1.assign rfl) rfl rfl ?_
  refine OL.nil ?_
  refine r_block ?_
  refine r_loop (I := fun m E W => ∃ (i : Nat), E = [(0, strV a), (1, strV b), (5, .int .i64 (((i : Nat) : Int)))] ∧ m = a.length - i ∧ Ext w0 W ∧ w0.heap.size ≤ W.heap.size ∧ (Ml.CmpInv a b i) ∧ (i ≤ a.length) ∧ (i ≤ b.length)) ?_ ?_
  · refine ⟨_, _, ⟨(0 : Nat), rfl, rfl, hE0, Nat.le_refl _, (by exact Ml.CmpInv.start a b), (by omega), (by omega)⟩, ⟨rfl, rfl, rfl, trivial⟩⟩
  · rintro _ _ w1 ⟨i, rfl, rfl, hE1, hs1, hc, hia, hib⟩ ih1
    refine r_seq ?_
    refine r_seq ?_
    refine r_region ?_
    refine OL.q (Q1.move rfl) rfl rfl ?_
    refine OL.q (Q1.move rfl) rfl rfl ?_
    refine OL.q (Q1.lenS Try.underlying9 rfl) rfl rfl ?_
    refine OL.qb (Q1.lt rfl rfl) rfl rfl ?_
    intro b1 hb1
    refine OL.q (Q1.move rfl) rfl rfl ?_
    cases b1 with
    | true =>
      replace hb1 := of_decide_eq_true hb1.symm
      refine OL.q (Q1.move rfl) rfl rfl ?_
      refine OL.q (Q1.move rfl) rfl rfl ?_
      refine OL.q (Q1.lenS Try.underlying9 rfl) rfl rfl ?_
      refine OL.qb (Q1.lt rfl rfl) rfl rfl ?_
      intro b2 hb2
      refine OL.q (Q1.pick_t rfl rfl) rfl rfl ?_
      refine OL.nil ?_
      cases b2 with
      | true =>
        replace hb2 := of_decide_eq_true hb2.symm
        refine r_cond_t rfl ?_
        refine r_skip ?_
        refine r_seq ?_
        refine r_block ?_
        refine r_seq ?_
        refine r_seq ?_
        refine r_draw1 (fun i => false) 7 (fun w' => Mod (Mg 0) w1 w') mixed (by kernel_rfl) ?_
        intro w2 hm1
        have hE2 := hE1.ext hm1
        have hs2 := hm1.size
        have hCw2 : Mod (Mg 0) w1 w2 := Mod.ofExt hm1
        refine ⟨hCw2, ?_⟩
        rw [show List.range' 0 (Array.size _) = [0, 1, 2, 3, 4, 5, 6] from rfl]
        refine OD.q rfl rfl (Q1.move rfl) rfl rfl ?_
        refine OD.q rfl rfl (Q1.move rfl) rfl rfl ?_
        have hy1 := byteAt_lt a (i)
        refine OD.q rfl rfl (Q1.indexB (i) Try.underlying9 rfl rfl (by omega) (by first | assumption | omega)) rfl rfl ?_
        refine OD.q rfl rfl (Q1.move rfl) rfl rfl ?_
        refine OD.q rfl rfl (Q1.move rfl) rfl rfl ?_
        have hy2 := byteAt_lt b (i)
        refine OD.q rfl rfl (Q1.indexB (i) Try.underlying9 rfl rfl (by omega) (by first | assumption | omega)) rfl rfl ?_
        refine OD.qb rfl rfl (Q1.lt rfl rfl) rfl rfl ?_
        intro b3 hb3
        refine OD.nil ?_
        cases b3 with
        | true =>
          replace hb3 := of_decide_eq_true hb3.symm
          refine r_cond_t rfl ?_
          refine r_seq ?_
          refine r_region ?_
          refine OL.q (Q1.assign rfl) rfl rfl ?_
          refine OL.nil ?_
          refine r_ret1 Try.func64 rfl rfl ?_
          exact Ret.mk ⟨(congrArg (Value.int .i64) (by first | exact hc.lt (by omega) (by omega) (by omega) | exact hc.gt (by omega) (by omega) (by omega) | exact hc.fin (by omega) hia hib (by omega) | (exfalso; omega))), hE2, by exact Ml.cmp_I64 _ _⟩
        | false =>
          replace hb3 := of_decide_eq_false hb3.symm
          refine r_cond_f rfl ?_
          refine r_skip ?_
          refine r_seq ?_
          refine r_draw1 (fun i => false) 7 (fun w' => Mod (Mg 0) w2 w') mixed (by kernel_rfl) ?_
          intro w3 hm2
          have hE3 := hE2.ext hm2
          have hs3 := hm2.size
          have hCw3 : Mod (Mg 0) w2 w3 := Mod.ofExt hm2
          refine ⟨hCw3, ?_⟩
          rw [show List.range' 0 (Array.size _) = [0, 1, 2, 3, 4, 5, 6] from rfl]
          refine OD.q rfl rfl (Q1.move rfl) rfl rfl ?_
          refine OD.q rfl rfl (Q1.move rfl) rfl rfl ?_
          have hy3 := byteAt_lt a (i)
          refine OD.q rfl rfl (Q1.indexB (i) Try.underlying9 rfl rfl (by omega) (by first | assumption | omega)) rfl rfl ?_
          refine OD.q rfl rfl (Q1.move rfl) rfl rfl ?_
          refine OD.q rfl rfl (Q1.move rfl) rfl rfl ?_
          have hy4 := byteAt_lt b (i)
          refine OD.q rfl rfl (Q1.indexB (i) Try.underlying9 rfl rfl (by omega) (by first | assumption | omega)) rfl rfl ?_
          refine OD.qb rfl rfl (Q1.gt rfl rfl) rfl rfl ?_
          intro b4 hb4
          refine OD.nil ?_
          cases b4 with
          | true =>
            replace hb4 := of_decide_eq_true hb4.symm
            refine r_cond_t rfl ?_
            refine r_seq ?_
            refine r_region ?_
            refine OL.q (Q1.assign rfl) rfl rfl ?_
            refine OL.nil ?_
            refine r_ret1 Try.func64 rfl rfl ?_
            exact Ret.mk ⟨(congrArg (Value.int .i64) (by first | exact hc.lt (by omega) (by omega) (by omega) | exact hc.gt (by omega) (by omega) (by omega) | exact hc.fin (by omega) hia hib (by omega) | (exfalso; omega))), hE3, by exact Ml.cmp_I64 _ _⟩
          | false =>
            replace hb4 := of_decide_eq_false hb4.symm
            refine r_cond_f rfl ?_
            refine r_skip ?_
            refine r_inBlock ?_
            refine r_region ?_
            refine OL.q (Q1.move rfl) rfl rfl ?_
            refine OL.q (Q1.addI (((i + 1 : Nat) : Int)) rfl rfl (by omega)) rfl rfl ?_
            refine OL.q (Q1.assign rfl) rfl rfl ?_
            refine OL.nil ?_
            exact (ih1 _ _ _ ⟨(i + 1 : Nat), rfl, rfl, hE3, (by omega), (by first | exact hc.next (by omega) (by omega) (by omega) | (exfalso; omega)), (by first | omega | (exfalso; omega)), (by first | omega | (exfalso; omega))⟩ (by omega)).sub ⟨rfl, rfl, rfl, trivial⟩
      | false =>
        replace hb2 := of_decide_eq_false hb2.symm
        refine r_cond_f rfl ?_
        refine r_exit rfl ?_
        refine r_seq ?_
        refine r_seq ?_
        refine r_region ?_
        refine OL.q (Q1.move rfl) rfl rfl ?_
        refine OL.q (Q1.lenS Try.underlying9 rfl) rfl rfl ?_
        refine OL.q (Q1.move rfl) rfl rfl ?_
        refine OL.q (Q1.lenS Try.underlying9 rfl) rfl rfl ?_
        refine OL.qb (Q1.lt rfl rfl) rfl rfl ?_
        intro b3 hb3
        refine OL.nil ?_
        cases b3 with
        | true =>
          replace hb3 := of_decide_eq_true hb3.symm
          refine r_cond_t rfl ?_
          refine r_seq ?_
          refine r_region ?_
          refine OL.q (Q1.assign rfl) rfl rfl ?_
          refine OL.nil ?_
          refine r_ret1 Try.func64 rfl rfl ?_
          exact Ret.mk ⟨(congrArg (Value.int .i64) (by first | exact hc.lt (by omega) (by omega) (by omega) | exact hc.gt (by omega) (by omega) (by omega) | exact hc.fin (by omega) hia hib (by omega) | (exfalso; omega))), hE1, by exact Ml.cmp_I64 _ _⟩
        | false =>
          replace hb3 := of_decide_eq_false hb3.symm
          refine r_cond_f rfl ?_
          refine r_skip ?_
          refine r_seq ?_
          refine r_seq ?_
          refine r_region ?_
          refine OL.q (Q1.move rfl) rfl rfl ?_
          refine OL.q (Q1.lenS Try.underlying9 rfl) rfl rfl ?_
          refine OL.q (Q1.move rfl) rfl rfl ?_
          refine OL.q (Q1.lenS Try.underlying9 rfl) rfl rfl ?_
          refine OL.qb (Q1.gt rfl rfl) rfl rfl ?_
          intro b4 hb4
          refine OL.nil ?_
          cases b4 with
          | true =>
            replace hb4 := of_decide_eq_true hb4.symm
            refine r_cond_t rfl ?_
            refine r_seq ?_
            refine r_region ?_
            refine OL.q (Q1.assign rfl) rfl rfl ?_
            refine OL.nil ?_
            refine r_ret1 Try.func64 rfl rfl ?_
            exact Ret.mk ⟨(congrArg (Value.int .i64) (by first | exact hc.lt (by omega) (by omega) (by omega) | exact hc.gt (by omega) (by omega) (by omega) | exact hc.fin (by omega) hia hib (by omega) | (exfalso; omega))), hE1, by exact Ml.cmp_I64 _ _⟩
          | false =>
            replace hb4 := of_decide_eq_false hb4.symm
            refine r_cond_f rfl ?_
            refine r_skip ?_
            refine r_seq ?_
            refine r_region ?_
            refine OL.q (Q1.assign rfl) rfl rfl ?_
            refine OL.nil ?_
            refine r_ret1 Try.func64 rfl rfl ?_
            exact Ret.mk ⟨(congrArg (Value.int .i64) (by first | exact hc.lt (by omega) (by omega) (by omega) | exact hc.gt (by omega) (by omega) (by omega) | exact hc.fin (by omega) hia hib (by omega) | (exfalso; omega))), hE1, by exact Ml.cmp_I64 _ _⟩
    | false =>
      replace hb1 := of_decide_eq_false hb1.symm
      refine OL.sk rfl rfl ?_
      refine OL.sk rfl rfl ?_
      refine OL.sk rfl rfl ?_
      refine OL.sk rfl rfl ?_
      refine OL.q (Q1.pick_f rfl rfl) rfl rfl ?_
      refine OL.nil ?_
      refine r_cond_f rfl ?_
      refine r_exit rfl ?_
      refine r_seq ?_
      refine r_seq ?_
      refine r_region ?_
      refine OL.q (Q1.move rfl) rfl rfl ?_
      refine OL.q (Q1.lenS Try.underlying9 rfl) rfl rfl ?_
      refine OL.q (Q1.move rfl) rfl rfl ?_
      refine OL.q (Q1.lenS Try.underlying9 rfl) rfl rfl ?_
      refine OL.qb (Q1.lt rfl rfl) rfl rfl ?_
      intro b2 hb2
      refine OL.nil ?_
      cases b2 with
      | true =>
        replace hb2 := of_decide_eq_true hb2.symm
        refine r_cond_t rfl ?_
        refine r_seq ?_
        refine r_region ?_
        refine OL.q (Q1.assign rfl) rfl rfl ?_
        refine OL.nil ?_
        refine r_ret1 Try.func64 rfl rfl ?_
        exact Ret.mk ⟨(congrArg (Value.int .i64) (by first | exact hc.lt (by omega) (by omega) (by omega) | exact hc.gt (by omega) (by omega) (by omega) | exact hc.fin (by omega) hia hib (by omega) | (exfalso; omega))), hE1, by exact Ml.cmp_I64 _ _⟩
      | false =>
        replace hb2 := of_decide_eq_false hb2.symm
        refine r_cond_f rfl ?_
        refine r_skip ?_
        refine r_seq ?_
        refine r_seq ?_
        refine r_region ?_
        refine OL.q (Q1.move rfl) rfl rfl ?_
        refine OL.q (Q1.lenS Try.underlying9 rfl) rfl rfl ?_
        refine OL.q (Q1.move rfl) rfl rfl ?_
        refine OL.q (Q1.lenS Try.underlying9 rfl) rfl rfl ?_
        refine OL.qb (Q1.gt rfl rfl) rfl rfl ?_
        intro b3 hb3
        refine OL.nil ?_
        cases b3 with
        | true =>
          replace hb3 := of_decide_eq_true hb3.symm
          refine r_cond_t rfl ?_
          refine r_seq ?_
          refine r_region ?_
          refine OL.q (Q1.assign rfl) rfl rfl ?_
          refine OL.nil ?_
          refine r_ret1 Try.func64 rfl rfl ?_
          exact Ret.mk ⟨(congrArg (Value.int .i64) (by first | exact hc.lt (by omega) (by omega) (by omega) | exact hc.gt (by omega) (by omega) (by omega) | exact hc.fin (by omega) hia hib (by omega) | (exfalso; omega))), hE1, by exact Ml.cmp_I64 _ _⟩
        | false =>
          replace hb3 := of_decide_eq_false hb3.symm
          refine r_cond_f rfl ?_
          refine r_skip ?_
          refine r_seq ?_
          refine r_region ?_
          refine OL.q (Q1.assign rfl) rfl rfl ?_
          refine OL.nil ?_
          refine r_ret1 Try.func64 rfl rfl ?_
          exact Ret.mk ⟨(congrArg (Value.int .i64) (by first | exact hc.lt (by omega) (by omega) (by omega) | exact hc.gt (by omega) (by omega) (by omega) | exact hc.fin (by omega) hia hib (by omega) | (exfalso; omega))), hE1, by exact Ml.cmp_I64 _ _⟩
set_option maxRecDepth 20000 in
set_option maxHeartbeats 4000000 in
theorem rasked_c {w0 : World}  (s : Str) (hs : s.length ≤ 1000000) :
    Calls Try.prog 39 #[strV s] w0 (Ret fun rv w1 => (∃ rb : Bool, rb = (Ml.asked s) ∧ rv = .bool rb) ∧ Ext w0 w1) := by
  have hE0 : Ext w0 w0 := Mod.refl _ _
  refine calls_enter Try.func39 rfl Try.ntmps39 rfl ?_
  refine r_seq ?_
  refine r_region ?_
  refine OL.q (Q1.assign rfl) rfl rfl ?_
  refine OL.nil ?_
  refine r_seq ?_
  refine r_region ?_
  refine OL.q (Q1.move rfl) rfl rfl ?_
  refine OL.act rfl rfl (AW.callF cl61 rfl (rlen_c (w0 := w0)  s (by first | assumption | omega)) ?_)
  rintro _ w1 ⟨rfl, hm1, hp1⟩
  have hE1 := hE0.ext hm1
  have hs1 := hm1.size
  refine OL.qb (Q1.ge rfl rfl) rfl rfl ?_
  intro b1 hb1
  refine OL.q (Q1.move rfl) rfl rfl ?_
  cases b1 with
  | true =>
    replace hb1 := of_decide_eq_true hb1.symm
    refine OL.q (Q1.move rfl) rfl rfl ?_
    refine OL.act rfl rfl (AW.callF cl61 rfl (rlen_c (w0 := w1)  s (by first | assumption | omega)) ?_)
    rintro _ w2 ⟨rfl, hm2, hp2⟩
    have hE2 := hE1.ext hm2
    have hs2 := hm2.size
    refine OL.qb (Q1.le rfl rfl) rfl rfl ?_
    intro b2 hb2
    refine OL.q (Q1.pick_t rfl rfl) rfl rfl ?_
    refine OL.q (Q1.assign rfl) rfl rfl ?_
    refine OL.nil ?_
    refine r_ret1 Try.func39 rfl rfl ?_
    exact Ret.mk ⟨⟨_, (by first | simp only [Ml.asked, *]; simp | (exfalso; omega)), rfl⟩, hE2⟩
  | false =>
    replace hb1 := of_decide_eq_false hb1.symm
    refine OL.sk rfl rfl ?_
    refine OL.sk rfl rfl ?_
    refine OL.sk rfl rfl ?_
    refine OL.q (Q1.pick_f rfl rfl) rfl rfl ?_
    refine OL.q (Q1.assign rfl) rfl rfl ?_
    refine OL.nil ?_
    refine r_ret1 Try.func39 rfl rfl ?_
    exact Ret.mk ⟨⟨_, (by first | simp only [Ml.asked, *]; simp | (exfalso; omega)), rfl⟩, hE1⟩
set_option maxRecDepth 20000 in
set_option maxHeartbeats 4000000 in
theorem rtable_c {w0 : World} {v_a : Value} {a : List Int} {v_b : Value} {b : List Int} (h_a : Sl encRn w0 (Iv 0 w0.heap.size) v_a a) (h_b : Sl encRn w0 (Iv 0 w0.heap.size) v_b b) (hal : a.length ≤ 1000) (hbl : b.length ≤ 1000) :
    Calls Try.prog 103 #[v_a, v_b] w0 (Ret fun rv w1 => Ext w0 w1 ∧ ∃ hs F2, (boxR (R := fun _ => False) [accR encH 55 1 rv hs, hlR Ik.encI hs (tabL a b)]).p F2 w1 ∧ ∀ b, F2 b → b < w1.heap.size ∧ w0.heap.size ≤ b) := by
  have hS0 := St.start0 w0
  refine calls_enter Try.func103 rfl Try.ntmps103 rfl ?_
  refine r_seq ?_
  refine r_region ?_
  refine OL.q (Q1.assign rfl) rfl rfl ?_
  refine OL.nil ?_
  refine r_seq ?_
  refine r_region ?_
  refine OL.q (Q1.assign rfl) rfl rfl ?_
  refine OL.nil ?_
  refine r_seq ?_
  refine r_seq ?_
  refine r_region ?_
  have hS1 : St (fun _ => False) (fun _ => False) w0 w0 [hlR Ik.encI [] []] := hS0.new (Mod.refl _ _) (F := fun _ => False) (All2.nil) (fun _ h => h.elim)
  refine OL.q (Q1.assign rfl) rfl rfl ?_
  refine OL.nil ?_
  refine r_block ?_
  have hS3 : St (fun _ => False) (fun _ => False) w0 w0 [hlR Ik.encI [] [], accR encH 55 1 (.slice none 0 0) []] := hS1.newAcc (Mod.refl _ _) Acc.nil (.inl rfl)
  have hS4 : St (fun _ => False) (fun _ => False) w0 w0 [accR encH 55 1 (.slice none 0 0) [], hlR Ik.encI [] []] := hS3.sel [1, 0] (by rfl) (by decide)
  refine r_loop (I := fun m E W => ∃ (v_hs : Value) (hs : List SH) (i : Nat), E = [(0, v_a), (1, v_b), (5, v_hs), (6, .int .i64 (((i : Nat) : Int)))] ∧ m = a.length + 1 - i ∧ St (fun _ => False) (fun _ => False) w0 W [accR encH 55 1 v_hs hs, hlR Ik.encI hs ((tabL a b).take i)] ∧ (i ≤ a.length + 1) ∧ (hs.length = i)) ?_ ?_
  · refine ⟨_, _, ⟨(.slice none 0 0 : Value), ([] : List SH), (0 : Nat), rfl, rfl, hS4, (by omega), (by rfl)⟩, ⟨rfl, rfl, rfl, rfl, trivial⟩⟩
  · rintro _ _ w1 ⟨v_hs, hs, i, rfl, rfl, hS2, hil, hhs⟩ ih1
    refine r_seq ?_
    refine r_seq ?_
    refine r_region ?_
    refine OL.q (Q1.move rfl) rfl rfl ?_
    refine OL.q (Q1.move rfl) rfl rfl ?_
    have f1 := hS2.out h_a (fun _ _ h => h)
    refine OL.q (Q1.lenSl Try.underlying74 (f1) rfl) rfl rfl ?_
    refine OL.qb (Q1.le rfl rfl) rfl rfl ?_
    intro b1 hb1
    refine OL.nil ?_
    cases b1 with
    | true =>
      replace hb1 := of_decide_eq_true hb1.symm
      refine r_cond_t rfl ?_
      refine r_skip ?_
      refine r_seq ?_
      refine r_block ?_
      refine r_seq ?_
      refine r_region ?_
      refine OL.q (Q1.assign rfl) rfl rfl ?_
      refine OL.nil ?_
      refine r_seq ?_
      refine r_seq ?_
      refine r_region ?_
      refine OL.q (Q1.assign rfl) rfl rfl ?_
      refine OL.nil ?_
      refine r_block ?_
      have hS6 : St (fun _ => False) (fun _ => False) w0 w1 [accR encH 55 1 v_hs hs, hlR Ik.encI hs ((tabL a b).take i), accR Ik.encI 3 1 (.slice none 0 0) []] := hS2.newAcc (Mod.refl _ _) Acc.nil (.inl rfl)
      have hS7 : St (fun _ => False) (fun _ => False) w0 w1 [accR encH 55 1 v_hs hs, accR Ik.encI 3 1 (.slice none 0 0) [], hlR Ik.encI hs ((tabL a b).take i)] := hS6.sel [0, 2, 1] (by rfl) (by decide)
      refine r_loop (I := fun m E W => ∃ (v_row : Value) (row : List Int) (k : Nat), E = [(0, v_a), (1, v_b), (5, v_hs), (6, .int .i64 (((i : Nat) : Int))), (7, v_row), (8, .int .i64 (((k : Nat) : Int)))] ∧ m = b.length + 1 - k ∧ St (fun _ => False) (fun _ => False) w0 W [accR encH 55 1 v_hs hs, accR Ik.encI 3 1 v_row row, hlR Ik.encI hs ((tabL a b).take i)] ∧ (row = (rowL b.length (rowF b (a.take i))).take k) ∧ (row.length = k) ∧ (k ≤ b.length + 1)) ?_ ?_
      · refine ⟨_, _, ⟨(.slice none 0 0 : Value), ([] : List Int), (0 : Nat), rfl, rfl, hS7, (by rfl), (by rfl), (by omega)⟩, ⟨rfl, rfl, rfl, rfl, rfl, rfl, trivial⟩⟩
      · rintro _ _ w2 ⟨v_row, row, k, rfl, rfl, hS5, hrow, hrl, hkl⟩ ih2
        refine r_seq ?_
        refine r_seq ?_
        refine r_region ?_
        refine OL.q (Q1.move rfl) rfl rfl ?_
        refine OL.q (Q1.move rfl) rfl rfl ?_
        have f2 := hS5.out h_b (fun _ _ h => h)
        refine OL.q (Q1.lenSl Try.underlying74 (f2) rfl) rfl rfl ?_
        refine OL.qb (Q1.le rfl rfl) rfl rfl ?_
        intro b2 hb2
        refine OL.nil ?_
        cases b2 with
        | true =>
          replace hb2 := of_decide_eq_true hb2.symm
          refine r_cond_t rfl ?_
          refine r_skip ?_
          refine r_seq ?_
          refine r_block ?_
          refine r_seq ?_
          refine r_region ?_
          refine OL.q (Q1.assign rfl) rfl rfl ?_
          refine OL.nil ?_
          refine r_seq ?_
          refine r_block ?_
          refine r_seq ?_
          refine r_region ?_
          refine OL.q (Q1.move rfl) rfl rfl ?_
          refine OL.qb (Q1.eq rfl rfl) rfl rfl ?_
          intro b3 hb3
          refine OL.q (Q1.assign rfl) rfl rfl ?_
          refine OL.nil ?_
          cases b3 with
          | true =>
            replace hb3 := eq_of_beq hb3.symm
            refine r_cond_t rfl ?_
            refine r_region ?_
            refine OL.q (Q1.move rfl) rfl rfl ?_
            refine OL.q (Q1.assign rfl) rfl rfl ?_
            refine OL.nil ?_
            refine r_inBlock ?_
            refine r_region ?_
            refine OL.q (Q1.move rfl) rfl rfl ?_
            refine OL.q (Q1.move rfl) rfl rfl ?_
            refine OL.act rfl rfl (AW.buildSlice [(.int .i64 (((k : Nat) : Int)) : Value)] Try.underlying55 ti3 rfl rfl rfl (by decide) ?_)
            intro w3 b4 hm1 hb4 hz1 hk1
            have hS8 := hS5.ext hm1
            have hl1 := Sl.of_blk (enc := Ik.encI) hk1 ([((k : Nat) : Int)] : List Int) 1 rfl rfl (by unfold maxLen; omega)
            have hS9 : St (fun _ => False) (fun _ => False) w0 w3 [accR encH 55 1 v_hs hs, accR Ik.encI 3 1 v_row row, hlR Ik.encI hs ((tabL a b).take i), slR Ik.encI [((.slice (some ⟨b4, 0, none⟩) 1 1), [((k : Nat) : Int)])]] := hS5.newSlB hm1 hb4 hz1 hl1
            obtain ⟨g2, f3, hl2, k1⟩ := hS9.accK (i := 1) rfl
            have f4 := hS9.sl (i := 3) (k := 0) rfl rfl
            refine OL.act rfl rfl (AW.append f3 Try.underlying55 ti3 rfl Ik.encI_len Ik.encI_one rfl rfl (f4) (by first | omega | (simp only [List.length_append, List.length_cons, List.length_nil]; omega) | (simp; omega)) (by unfold maxLen; first | omega | (simp only [List.length_append, List.length_cons, List.length_nil]; omega) | (simp; omega)) ?_)
            intro v1 g1 w4 ha1 hm2 hg1 hz2
            have hS10 : St (fun _ => False) (fun _ => False) w0 w4 [accR encH 55 1 v_hs hs, accR Ik.encI 3 1 v1 ((row ++ [((k : Nat) : Int)])), hlR Ik.encI hs ((tabL a b).take i), slR Ik.encI [((.slice (some ⟨b4, 0, none⟩) 1 1), [((k : Nat) : Int)])]] := k1 _ _ _ _ hm2 ha1 hg1
            clear hg1
            refine OL.q (Q1.assign rfl) rfl rfl ?_
            refine OL.nil ?_
            refine r_inBlock ?_
            refine r_region ?_
            refine OL.q (Q1.move rfl) rfl rfl ?_
            refine OL.q (Q1.addI (((k + 1 : Nat) : Int)) rfl rfl (by omega)) rfl rfl ?_
            refine OL.q (Q1.assign rfl) rfl rfl ?_
            refine OL.nil ?_
            have hS11 : St (fun _ => False) (fun _ => False) w0 w4 [accR encH 55 1 v_hs hs, accR Ik.encI 3 1 v1 ((row ++ [((k : Nat) : Int)])), hlR Ik.encI hs ((tabL a b).take i)] := hS10.sel [0, 1, 2] (by rfl) (by decide)
            exact (ih2 _ _ _ ⟨(v1 : Value), ((row ++ [((k : Nat) : Int)]) : List Int), (k + 1 : Nat), rfl, rfl, hS11, (by first | (exact row_take hrow (by omega) (by first | exact tab_cell0 (by omega) | exact tab_celli (by omega) (by omega) | exact htq _ (by rw [if_pos (by assumption)]) | exact htq _ (by rw [if_neg (fun h => h (by assumption))]; omega))) | (exfalso; omega)), (by first | (simp only [List.length_append, List.length_cons, List.length_nil]; omega) | (exfalso; omega)), (by first | omega | (exfalso; omega))⟩ (by omega)).sub ⟨rfl, rfl, rfl, rfl, rfl, rfl, trivial⟩
          | false =>
            replace hb3 := ne_of_beq_false hb3.symm
            refine r_cond_f rfl ?_
            refine r_seq ?_
            refine r_region ?_
            refine OL.q (Q1.move rfl) rfl rfl ?_
            refine OL.qb (Q1.eq rfl rfl) rfl rfl ?_
            intro b4 hb4
            refine OL.q (Q1.assign rfl) rfl rfl ?_
            refine OL.nil ?_
            cases b4 with
            | true =>
              replace hb4 := eq_of_beq hb4.symm
              refine r_cond_t rfl ?_
              refine r_region ?_
              refine OL.q (Q1.move rfl) rfl rfl ?_
              refine OL.q (Q1.assign rfl) rfl rfl ?_
              refine OL.nil ?_
              refine r_inBlock ?_
              refine r_region ?_
              refine OL.q (Q1.move rfl) rfl rfl ?_
              refine OL.q (Q1.move rfl) rfl rfl ?_
              refine OL.act rfl rfl (AW.buildSlice [(.int .i64 (((i : Nat) : Int)) : Value)] Try.underlying55 ti3 rfl rfl rfl (by decide) ?_)
              intro w3 b5 hm1 hb5 hz1 hk1
              have hS8 := hS5.ext hm1
              have hl1 := Sl.of_blk (enc := Ik.encI) hk1 ([((i : Nat) : Int)] : List Int) 1 rfl rfl (by unfold maxLen; omega)
              have hS9 : St (fun _ => False) (fun _ => False) w0 w3 [accR encH 55 1 v_hs hs, accR Ik.encI 3 1 v_row row, hlR Ik.encI hs ((tabL a b).take i), slR Ik.encI [((.slice (some ⟨b5, 0, none⟩) 1 1), [((i : Nat) : Int)])]] := hS5.newSlB hm1 hb5 hz1 hl1
              obtain ⟨g2, f3, hl2, k1⟩ := hS9.accK (i := 1) rfl
              have f4 := hS9.sl (i := 3) (k := 0) rfl rfl
              refine OL.act rfl rfl (AW.append f3 Try.underlying55 ti3 rfl Ik.encI_len Ik.encI_one rfl rfl (f4) (by first | omega | (simp only [List.length_append, List.length_cons, List.length_nil]; omega) | (simp; omega)) (by unfold maxLen; first | omega | (simp only [List.length_append, List.length_cons, List.length_nil]; omega) | (simp; omega)) ?_)
              intro v1 g1 w4 ha1 hm2 hg1 hz2
              have hS10 : St (fun _ => False) (fun _ => False) w0 w4 [accR encH 55 1 v_hs hs, accR Ik.encI 3 1 v1 ((row ++ [((i : Nat) : Int)])), hlR Ik.encI hs ((tabL a b).take i), slR Ik.encI [((.slice (some ⟨b5, 0, none⟩) 1 1), [((i : Nat) : Int)])]] := k1 _ _ _ _ hm2 ha1 hg1
              clear hg1
              refine OL.q (Q1.assign rfl) rfl rfl ?_
              refine OL.nil ?_
              refine r_inBlock ?_
              refine r_region ?_
              refine OL.q (Q1.move rfl) rfl rfl ?_
              refine OL.q (Q1.addI (((k + 1 : Nat) : Int)) rfl rfl (by omega)) rfl rfl ?_
              refine OL.q (Q1.assign rfl) rfl rfl ?_
              refine OL.nil ?_
              have hS11 : St (fun _ => False) (fun _ => False) w0 w4 [accR encH 55 1 v_hs hs, accR Ik.encI 3 1 v1 ((row ++ [((i : Nat) : Int)])), hlR Ik.encI hs ((tabL a b).take i)] := hS10.sel [0, 1, 2] (by rfl) (by decide)
              exact (ih2 _ _ _ ⟨(v1 : Value), ((row ++ [((i : Nat) : Int)]) : List Int), (k + 1 : Nat), rfl, rfl, hS11, (by first | (exact row_take hrow (by omega) (by first | exact tab_cell0 (by omega) | exact tab_celli (by omega) (by omega) | exact htq _ (by rw [if_pos (by assumption)]) | exact htq _ (by rw [if_neg (fun h => h (by assumption))]; omega))) | (exfalso; omega)), (by first | (simp only [List.length_append, List.length_cons, List.length_nil]; omega) | (exfalso; omega)), (by first | omega | (exfalso; omega))⟩ (by omega)).sub ⟨rfl, rfl, rfl, rfl, rfl, rfl, trivial⟩
            | false =>
              replace hb4 := ne_of_beq_false hb4.symm
              refine r_cond_f rfl ?_
              refine r_seq ?_
              refine r_region ?_
              refine OL.q (Q1.move rfl) rfl rfl ?_
              refine OL.q (Q1.move rfl) rfl rfl ?_
              refine OL.q (Q1.subI ((((i : Nat) : Int) - 1)) rfl rfl (by omega)) rfl rfl ?_
              obtain ⟨g1, f3, hl1, k1⟩ := hS5.accK (i := 0) rfl
              obtain ⟨x1, b5, o1, hx1, hr1, hl2, hw1⟩ := Sl.atF (P := Try.prog) f3.sl Try.underlying144 ti55 encH_len (k := .i64) (n := (((i : Nat) : Int) - 1)) ((i - 1)) (by omega) (by first | assumption | omega)
              refine OL.q (Q1.indexAddr rfl rfl hr1) rfl rfl ?_
              refine OL.q (Q1.load1 ti55 rfl (fun _ e => e ▸ hw1)) rfl rfl ?_
              obtain ⟨ly1, hly1, hn1⟩ := hS5.hlAt (i := 2) rfl hx1
              have hlt1 := tab_at hly1
              have := rowL_len b.length (rowF b (a.take ((i - 1))))
              rw [← hlt1.1] at this
              refine OL.q (Q1.move rfl) rfl rfl ?_
              refine OL.q (Q1.subI ((((k : Nat) : Int) - 1)) rfl rfl (by omega)) rfl rfl ?_
              obtain ⟨x2, b6, o2, hx2, hr2, hl3, hw2⟩ := Sl.atF (P := Try.prog) hn1 Try.underlying55 ti3 Ik.encI_len (k := .i64) (n := (((k : Nat) : Int) - 1)) ((k - 1)) (by omega) (by first | assumption | omega)
              refine OL.q (Q1.indexAddr rfl rfl hr2) rfl rfl ?_
              refine OL.q (Q1.load1 ti3 rfl (fun _ e => e ▸ hw2)) rfl rfl ?_
              obtain ⟨hca1, hcb1⟩ := rowL_at (hlt1.1 ▸ hx2)
              have hcc1 : 0 ≤ x2 ∧ x2 ≤ 3000 := by have := rowF_le b (a.take ((i - 1))) ((k - 1)); rw [← hca1] at this; have := List.length_take_le ((i - 1)) a; have := hcb1; omega
              refine OL.q (Q1.assign rfl) rfl rfl ?_
              refine OL.nil ?_
              refine r_seq ?_
              refine r_seq ?_
              refine r_draw1 (fun i => false) 11 (fun w' => Mod (Mg 0) w2 w') mixed (by kernel_rfl) ?_
              intro w3 hm1
              have hS8 := hS5.ext hm1
              have hCw3 : Mod (Mg 0) w2 w3 := Mod.ofExt hm1
              refine ⟨hCw3, ?_⟩
              rw [show List.range' 0 (Array.size _) = [0, 1, 2, 3, 4, 5, 6, 7, 8, 9, 10] from rfl]
              refine OD.q rfl rfl (Q1.move rfl) rfl rfl ?_
              refine OD.q rfl rfl (Q1.move rfl) rfl rfl ?_
              refine OD.q rfl rfl (Q1.subI ((((i : Nat) : Int) - 1)) rfl rfl (by omega)) rfl rfl ?_
              have f5 := hS5.out h_a (fun _ _ h => h)
              obtain ⟨x3, b7, o3, hx3, hr3, hl4, hw3⟩ := Sl.atF (P := Try.prog) f5 Try.underlying74 ti21 encRn_len (k := .i64) (n := (((i : Nat) : Int) - 1)) ((i - 1)) (by omega) (by first | assumption | omega)
              refine OD.q rfl rfl (Q1.indexAddr rfl rfl hr3) rfl rfl ?_
              refine OD.q rfl rfl (Q1.load1 ti21 rfl (fun _ hc => hw3.keepG hc (Nat.succ_ne_zero _))) rfl rfl ?_
              refine OD.q rfl rfl (Q1.move rfl) rfl rfl ?_
              refine OD.q rfl rfl (Q1.move rfl) rfl rfl ?_
              refine OD.q rfl rfl (Q1.subI ((((k : Nat) : Int) - 1)) rfl rfl (by omega)) rfl rfl ?_
              obtain ⟨x4, b8, o4, hx4, hr4, hl5, hw4⟩ := Sl.atF (P := Try.prog) f2 Try.underlying74 ti21 encRn_len (k := .i64) (n := (((k : Nat) : Int) - 1)) ((k - 1)) (by omega) (by first | assumption | omega)
              refine OD.q rfl rfl (Q1.indexAddr rfl rfl hr4) rfl rfl ?_
              refine OD.q rfl rfl (Q1.load1 ti21 rfl (fun _ hc => hw4.keepG hc (Nat.succ_ne_zero _))) rfl rfl ?_
              refine OD.qb rfl rfl (Q1.ne rfl rfl) rfl rfl ?_
              intro b9 hb5
              refine OD.nil ?_
              cases b9 with
              | true =>
                replace hb5 := bne_iff_ne.1 hb5.symm
                refine r_cond_t rfl ?_
                refine r_region ?_
                refine OL.q (Q1.move rfl) rfl rfl ?_
                refine OL.q (Q1.addI ((x2 + 1)) rfl rfl (by omega)) rfl rfl ?_
                refine OL.q (Q1.assign rfl) rfl rfl ?_
                refine OL.nil ?_
                refine r_draw1 (fun i => false) 18 (fun w' => Mod (Mg 0) w3 w') mixed (by kernel_rfl) ?_
                intro w4 hm2
                have hS9 := hS8.ext hm2
                have hCw4 : Mod (Mg 0) w3 w4 := Mod.ofExt hm2
                refine ⟨hCw4, ?_⟩
                rw [show List.range' 0 (Array.size _) = [0, 1, 2, 3, 4, 5, 6, 7, 8, 9, 10, 11, 12, 13, 14, 15, 16, 17] from rfl]
                refine OD.q rfl rfl (Q1.move rfl) rfl rfl ?_
                refine OD.q rfl rfl (Q1.move rfl) rfl rfl ?_
                refine OD.q rfl rfl (Q1.move rfl) rfl rfl ?_
                refine OD.q rfl rfl (Q1.subI ((((i : Nat) : Int) - 1)) rfl rfl (by omega)) rfl rfl ?_
                obtain ⟨g2, f6, hl6, k2⟩ := hS8.accK (i := 0) rfl
                obtain ⟨x5, b10, o5, hx5, hr5, hl7, hw5⟩ := Sl.atF (P := Try.prog) f6.sl Try.underlying144 ti55 encH_len (k := .i64) (n := (((i : Nat) : Int) - 1)) ((i - 1)) (by omega) (by first | assumption | omega)
                obtain rfl : x1 = x5 := Option.some.inj (hx1.symm.trans hx5)
                refine OD.q rfl rfl (Q1.indexAddr rfl rfl hr5) rfl rfl ?_
                refine OD.q rfl rfl (Q1.load1 ti55 rfl (fun _ hc => hw5.keepG hc (Nat.succ_ne_zero _))) rfl rfl ?_
                obtain ⟨ly2, hly2, hn2⟩ := hS8.hlAt (i := 2) rfl hx5
                have hlt2 := tab_at hly2
                have := rowL_len b.length (rowF b (a.take ((i - 1))))
                rw [← hlt2.1] at this
                refine OD.q rfl rfl (Q1.move rfl) rfl rfl ?_
                obtain ⟨x6, b11, o6, hx6, hr6, hl8, hw6⟩ := Sl.atF (P := Try.prog) hn2 Try.underlying55 ti3 Ik.encI_len (k := .i64) (n := ((k : Nat) : Int)) (k) (by omega) (by first | assumption | omega)
                refine OD.q rfl rfl (Q1.indexAddr rfl rfl hr6) rfl rfl ?_
                refine OD.q rfl rfl (Q1.load1 ti3 rfl (fun _ hc => hw6.keepG hc (Nat.succ_ne_zero _))) rfl rfl ?_
                obtain ⟨hca2, hcb2⟩ := rowL_at (hlt2.1 ▸ hx6)
                have hcc2 : 0 ≤ x6 ∧ x6 ≤ 3000 := by have := rowF_le b (a.take ((i - 1))) (k); rw [← hca2] at this; have := List.length_take_le ((i - 1)) a; have := hcb2; omega
                refine OD.q rfl rfl (Q1.addI ((x6 + 1)) rfl rfl (by omega)) rfl rfl ?_
                refine OD.q rfl rfl (Q1.move rfl) rfl rfl ?_
                refine OD.q rfl rfl (Q1.move rfl) rfl rfl ?_
                refine OD.q rfl rfl (Q1.subI ((((k : Nat) : Int) - 1)) rfl rfl (by omega)) rfl rfl ?_
                obtain ⟨g3, f8, hl9, k3⟩ := hS8.accK (i := 1) rfl
                obtain ⟨x7, b12, o7, hx7, hr7, hl10, hw7⟩ := Sl.atF (P := Try.prog) f8.sl Try.underlying55 ti3 Ik.encI_len (k := .i64) (n := (((k : Nat) : Int) - 1)) ((k - 1)) (by omega) (by first | assumption | omega)
                refine OD.q rfl rfl (Q1.indexAddr rfl rfl hr7) rfl rfl ?_
                refine OD.q rfl rfl (Q1.load1 ti3 rfl (fun _ hc => hw7.keepG hc (Nat.succ_ne_zero _))) rfl rfl ?_
                have hca3 := row_at (hrow ▸ hx7)
                have hcc3 : 0 ≤ x7 ∧ x7 ≤ 3000 := by have := rowF_le b (a.take i) ((k - 1)); rw [← hca3] at this; have := List.length_take_le i a; omega
                have htq := fun (t : Int) (ht : t = _) => tab_cell (a := a) (b := b) (i := i) (k := k) (by omega) (by omega) hx3 hx4 hca1 hca2 hca3 (t := t) ht
                refine OD.q rfl rfl (Q1.addI ((x7 + 1)) rfl rfl (by omega)) rfl rfl ?_
                refine OD.q rfl rfl (Q1.min3 rfl rfl rfl) rfl rfl ?_
                refine OD.q rfl rfl (Q1.assign rfl) rfl rfl ?_
                refine OD.nil ?_
                refine r_inBlock ?_
                refine r_region ?_
                refine OL.q (Q1.move rfl) rfl rfl ?_
                refine OL.q (Q1.move rfl) rfl rfl ?_
                refine OL.act rfl rfl (AW.buildSlice [(.int .i64 ((min ((min ((x2 + 1)) ((x6 + 1)))) ((x7 + 1)))) : Value)] Try.underlying55 ti3 rfl rfl rfl (by decide) ?_)
                intro w5 b13 hm3 hb6 hz1 hk1
                have hS10 := hS9.ext hm3
                have hl11 := Sl.of_blk (enc := Ik.encI) hk1 ([(min ((min ((x2 + 1)) ((x6 + 1)))) ((x7 + 1)))] : List Int) 1 rfl rfl (by unfold maxLen; omega)
                have hS11 : St (fun _ => False) (fun _ => False) w0 w5 [accR encH 55 1 v_hs hs, accR Ik.encI 3 1 v_row row, hlR Ik.encI hs ((tabL a b).take i), slR Ik.encI [((.slice (some ⟨b13, 0, none⟩) 1 1), [(min ((min ((x2 + 1)) ((x6 + 1)))) ((x7 + 1)))])]] := hS9.newSlB hm3 hb6 hz1 hl11
                obtain ⟨g5, f9, hl12, k4⟩ := hS11.accK (i := 1) rfl
                have f10 := hS11.sl (i := 3) (k := 0) rfl rfl
                refine OL.act rfl rfl (AW.append f9 Try.underlying55 ti3 rfl Ik.encI_len Ik.encI_one rfl rfl (f10) (by first | omega | (simp only [List.length_append, List.length_cons, List.length_nil]; omega) | (simp; omega)) (by unfold maxLen; first | omega | (simp only [List.length_append, List.length_cons, List.length_nil]; omega) | (simp; omega)) ?_)
                intro v1 g4 w6 ha1 hm4 hg1 hz2
                have hS12 : St (fun _ => False) (fun _ => False) w0 w6 [accR encH 55 1 v_hs hs, accR Ik.encI 3 1 v1 ((row ++ [(min ((min ((x2 + 1)) ((x6 + 1)))) ((x7 + 1)))])), hlR Ik.encI hs ((tabL a b).take i), slR Ik.encI [((.slice (some ⟨b13, 0, none⟩) 1 1), [(min ((min ((x2 + 1)) ((x6 + 1)))) ((x7 + 1)))])]] := k4 _ _ _ _ hm4 ha1 hg1
                clear hg1
                refine OL.q (Q1.assign rfl) rfl rfl ?_
                refine OL.nil ?_
                refine r_inBlock ?_
                refine r_region ?_
                refine OL.q (Q1.move rfl) rfl rfl ?_
                refine OL.q (Q1.addI (((k + 1 : Nat) : Int)) rfl rfl (by omega)) rfl rfl ?_
                refine OL.q (Q1.assign rfl) rfl rfl ?_
                refine OL.nil ?_
                have hS13 : St (fun _ => False) (fun _ => False) w0 w6 [accR encH 55 1 v_hs hs, accR Ik.encI 3 1 v1 ((row ++ [(min ((min ((x2 + 1)) ((x6 + 1)))) ((x7 + 1)))])), hlR Ik.encI hs ((tabL a b).take i)] := hS12.sel [0, 1, 2] (by rfl) (by decide)
                exact (ih2 _ _ _ ⟨(v1 : Value), ((row ++ [(min ((min ((x2 + 1)) ((x6 + 1)))) ((x7 + 1)))]) : List Int), (k + 1 : Nat), rfl, rfl, hS13, (by first | (exact row_take hrow (by omega) (by first | exact tab_cell0 (by omega) | exact tab_celli (by omega) (by omega) | exact htq _ (by rw [if_pos (by assumption)]) | exact htq _ (by rw [if_neg (fun h => h (by assumption))]; omega))) | (exfalso; omega)), (by first | (simp only [List.length_append, List.length_cons, List.length_nil]; omega) | (exfalso; omega)), (by first | omega | (exfalso; omega))⟩ (by omega)).sub ⟨rfl, rfl, rfl, rfl, rfl, rfl, trivial⟩
              | false =>
                replace hb5 := bne_eq_false_iff_eq.1 hb5.symm
                refine r_cond_f rfl ?_
                refine r_skip ?_
                refine r_draw1 (fun i => false) 18 (fun w' => Mod (Mg 0) w3 w') mixed (by kernel_rfl) ?_
                intro w4 hm2
                have hS9 := hS8.ext hm2
                have hCw4 : Mod (Mg 0) w3 w4 := Mod.ofExt hm2
                refine ⟨hCw4, ?_⟩
                rw [show List.range' 0 (Array.size _) = [0, 1, 2, 3, 4, 5, 6, 7, 8, 9, 10, 11, 12, 13, 14, 15, 16, 17] from rfl]
                refine OD.q rfl rfl (Q1.move rfl) rfl rfl ?_
                refine OD.q rfl rfl (Q1.move rfl) rfl rfl ?_
                refine OD.q rfl rfl (Q1.move rfl) rfl rfl ?_
                refine OD.q rfl rfl (Q1.subI ((((i : Nat) : Int) - 1)) rfl rfl (by omega)) rfl rfl ?_
                obtain ⟨g2, f6, hl6, k2⟩ := hS8.accK (i := 0) rfl
                obtain ⟨x5, b10, o5, hx5, hr5, hl7, hw5⟩ := Sl.atF (P := Try.prog) f6.sl Try.underlying144 ti55 encH_len (k := .i64) (n := (((i : Nat) : Int) - 1)) ((i - 1)) (by omega) (by first | assumption | omega)
                obtain rfl : x1 = x5 := Option.some.inj (hx1.symm.trans hx5)
                refine OD.q rfl rfl (Q1.indexAddr rfl rfl hr5) rfl rfl ?_
                refine OD.q rfl rfl (Q1.load1 ti55 rfl (fun _ hc => hw5.keepG hc (Nat.succ_ne_zero _))) rfl rfl ?_
                obtain ⟨ly2, hly2, hn2⟩ := hS8.hlAt (i := 2) rfl hx5
                have hlt2 := tab_at hly2
                have := rowL_len b.length (rowF b (a.take ((i - 1))))
                rw [← hlt2.1] at this
                refine OD.q rfl rfl (Q1.move rfl) rfl rfl ?_
                obtain ⟨x6, b11, o6, hx6, hr6, hl8, hw6⟩ := Sl.atF (P := Try.prog) hn2 Try.underlying55 ti3 Ik.encI_len (k := .i64) (n := ((k : Nat) : Int)) (k) (by omega) (by first | assumption | omega)
                refine OD.q rfl rfl (Q1.indexAddr rfl rfl hr6) rfl rfl ?_
                refine OD.q rfl rfl (Q1.load1 ti3 rfl (fun _ hc => hw6.keepG hc (Nat.succ_ne_zero _))) rfl rfl ?_
                obtain ⟨hca2, hcb2⟩ := rowL_at (hlt2.1 ▸ hx6)
                have hcc2 : 0 ≤ x6 ∧ x6 ≤ 3000 := by have := rowF_le b (a.take ((i - 1))) (k); rw [← hca2] at this; have := List.length_take_le ((i - 1)) a; have := hcb2; omega
                refine OD.q rfl rfl (Q1.addI ((x6 + 1)) rfl rfl (by omega)) rfl rfl ?_
                refine OD.q rfl rfl (Q1.move rfl) rfl rfl ?_
                refine OD.q rfl rfl (Q1.move rfl) rfl rfl ?_
                refine OD.q rfl rfl (Q1.subI ((((k : Nat) : Int) - 1)) rfl rfl (by omega)) rfl rfl ?_
                obtain ⟨g3, f8, hl9, k3⟩ := hS8.accK (i := 1) rfl
                obtain ⟨x7, b12, o7, hx7, hr7, hl10, hw7⟩ := Sl.atF (P := Try.prog) f8.sl Try.underlying55 ti3 Ik.encI_len (k := .i64) (n := (((k : Nat) : Int) - 1)) ((k - 1)) (by omega) (by first | assumption | omega)
                refine OD.q rfl rfl (Q1.indexAddr rfl rfl hr7) rfl rfl ?_
                refine OD.q rfl rfl (Q1.load1 ti3 rfl (fun _ hc => hw7.keepG hc (Nat.succ_ne_zero _))) rfl rfl ?_
                have hca3 := row_at (hrow ▸ hx7)
                have hcc3 : 0 ≤ x7 ∧ x7 ≤ 3000 := by have := rowF_le b (a.take i) ((k - 1)); rw [← hca3] at this; have := List.length_take_le i a; omega
                have htq := fun (t : Int) (ht : t = _) => tab_cell (a := a) (b := b) (i := i) (k := k) (by omega) (by omega) hx3 hx4 hca1 hca2 hca3 (t := t) ht
                refine OD.q rfl rfl (Q1.addI ((x7 + 1)) rfl rfl (by omega)) rfl rfl ?_
                refine OD.q rfl rfl (Q1.min3 rfl rfl rfl) rfl rfl ?_
                refine OD.q rfl rfl (Q1.assign rfl) rfl rfl ?_
                refine OD.nil ?_
                refine r_inBlock ?_
                refine r_region ?_
                refine OL.q (Q1.move rfl) rfl rfl ?_
                refine OL.q (Q1.move rfl) rfl rfl ?_
                refine OL.act rfl rfl (AW.buildSlice [(.int .i64 ((min ((min x2 ((x6 + 1)))) ((x7 + 1)))) : Value)] Try.underlying55 ti3 rfl rfl rfl (by decide) ?_)
                intro w5 b13 hm3 hb6 hz1 hk1
                have hS10 := hS9.ext hm3
                have hl11 := Sl.of_blk (enc := Ik.encI) hk1 ([(min ((min x2 ((x6 + 1)))) ((x7 + 1)))] : List Int) 1 rfl rfl (by unfold maxLen; omega)
                have hS11 : St (fun _ => False) (fun _ => False) w0 w5 [accR encH 55 1 v_hs hs, accR Ik.encI 3 1 v_row row, hlR Ik.encI hs ((tabL a b).take i), slR Ik.encI [((.slice (some ⟨b13, 0, none⟩) 1 1), [(min ((min x2 ((x6 + 1)))) ((x7 + 1)))])]] := hS9.newSlB hm3 hb6 hz1 hl11
                obtain ⟨g5, f9, hl12, k4⟩ := hS11.accK (i := 1) rfl
                have f10 := hS11.sl (i := 3) (k := 0) rfl rfl
                refine OL.act rfl rfl (AW.append f9 Try.underlying55 ti3 rfl Ik.encI_len Ik.encI_one rfl rfl (f10) (by first | omega | (simp only [List.length_append, List.length_cons, List.length_nil]; omega) | (simp; omega)) (by unfold maxLen; first | omega | (simp only [List.length_append, List.length_cons, List.length_nil]; omega) | (simp; omega)) ?_)
                intro v1 g4 w6 ha1 hm4 hg1 hz2
                have hS12 : St (fun _ => False) (fun _ => False) w0 w6 [accR encH 55 1 v_hs hs, accR Ik.encI 3 1 v1 ((row ++ [(min ((min x2 ((x6 + 1)))) ((x7 + 1)))])), hlR Ik.encI hs ((tabL a b).take i), slR Ik.encI [((.slice (some ⟨b13, 0, none⟩) 1 1), [(min ((min x2 ((x6 + 1)))) ((x7 + 1)))])]] := k4 _ _ _ _ hm4 ha1 hg1
                clear hg1
                refine OL.q (Q1.assign rfl) rfl rfl ?_
                refine OL.nil ?_
                refine r_inBlock ?_
                refine r_region ?_
                refine OL.q (Q1.move rfl) rfl rfl ?_
                refine OL.q (Q1.addI (((k + 1 : Nat) : Int)) rfl rfl (by omega)) rfl rfl ?_
                refine OL.q (Q1.assign rfl) rfl rfl ?_
                refine OL.nil ?_
                have hS13 : St (fun _ => False) (fun _ => False) w0 w6 [accR encH 55 1 v_hs hs, accR Ik.encI 3 1 v1 ((row ++ [(min ((min x2 ((x6 + 1)))) ((x7 + 1)))])), hlR Ik.encI hs ((tabL a b).take i)] := hS12.sel [0, 1, 2] (by rfl) (by decide)
                exact (ih2 _ _ _ ⟨(v1 : Value), ((row ++ [(min ((min x2 ((x6 + 1)))) ((x7 + 1)))]) : List Int), (k + 1 : Nat), rfl, rfl, hS13, (by first | (exact row_take hrow (by omega) (by first | exact tab_cell0 (by omega) | exact tab_celli (by omega) (by omega) | exact htq _ (by rw [if_pos (by assumption)]) | exact htq _ (by rw [if_neg (fun h => h (by assumption))]; omega))) | (exfalso; omega)), (by first | (simp only [List.length_append, List.length_cons, List.length_nil]; omega) | (exfalso; omega)), (by first | omega | (exfalso; omega))⟩ (by omega)).sub ⟨rfl, rfl, rfl, rfl, rfl, rfl, trivial⟩
        | false =>
          replace hb2 := of_decide_eq_false hb2.symm
          refine r_cond_f rfl ?_
          refine r_exit rfl ?_
          refine r_region ?_
          refine OL.q (Q1.move rfl) rfl rfl ?_
          refine OL.q (Q1.move rfl) rfl rfl ?_
          obtain ⟨g1, f3, hl1, k1⟩ := hS5.accK (i := 1) rfl
          obtain ⟨ad1, cp1, hv1⟩ := f3.shape
          subst hv1
          refine OL.act rfl rfl (AW.buildSlice [(.slice ad1 row.length cp1)] Try.underlying144 ti55 rfl rfl rfl (by decide) ?_)
          intro w3 b3 hm1 hb3 hz1 hk1
          have hS8 := hS5.ext hm1
          have hl2 := Sl.of_blk (enc := encH) hk1 ([(SH.mk ad1 row.length cp1)] : List SH) 1 rfl rfl (by unfold maxLen; omega)
          have hS9 : St (fun _ => False) (fun _ => False) w0 w3 [accR encH 55 1 v_hs hs, accR Ik.encI 3 1 ((.slice ad1 row.length cp1)) row, hlR Ik.encI hs ((tabL a b).take i), slR encH [((.slice (some ⟨b3, 0, none⟩) 1 1), [(SH.mk ad1 row.length cp1)])]] := hS5.newSlB hm1 hb3 hz1 hl2
          obtain ⟨g3, f4, hl3, k2⟩ := hS9.accK (i := 0) rfl
          have f5 := hS9.sl (i := 3) (k := 0) rfl rfl
          refine OL.act rfl rfl (AW.append f4 Try.underlying144 ti55 rfl encH_len encH_one rfl rfl (f5) (by first | omega | (simp only [List.length_append, List.length_cons, List.length_nil]; omega) | (simp; omega)) (by unfold maxLen; first | omega | (simp only [List.length_append, List.length_cons, List.length_nil]; omega) | (simp; omega)) ?_)
          intro v1 g2 w4 ha1 hm2 hg1 hz2
          have hS10 : St (fun _ => False) (fun _ => False) w0 w4 [accR encH 55 1 v1 ((hs ++ [(SH.mk ad1 row.length cp1)])), accR Ik.encI 3 1 ((.slice ad1 row.length cp1)) row, hlR Ik.encI hs ((tabL a b).take i), slR encH [((.slice (some ⟨b3, 0, none⟩) 1 1), [(SH.mk ad1 row.length cp1)])]] := k2 _ _ _ _ hm2 ha1 hg1
          clear hg1
          refine OL.q (Q1.assign rfl) rfl rfl ?_
          have hhl := hS10.hlLen (i := 2) rfl
          have hS11 : St (fun _ => False) (fun _ => False) w0 w4 [accR encH 55 1 v1 ((hs ++ [(SH.mk ad1 row.length cp1)])), slR encH [((.slice (some ⟨b3, 0, none⟩) 1 1), [(SH.mk ad1 row.length cp1)])], hlR Ik.encI hs ((tabL a b).take i), accR Ik.encI 3 1 ((.slice ad1 row.length cp1)) row] := hS10.sel [0, 3, 2, 1] (by rfl) (by decide)
          have hS12 : St (fun _ => False) (fun _ => False) w0 w4 [accR encH 55 1 v1 ((hs ++ [(SH.mk ad1 row.length cp1)])), slR encH [((.slice (some ⟨b3, 0, none⟩) 1 1), [(SH.mk ad1 row.length cp1)])], boxR [hlR Ik.encI hs ((tabL a b).take i), accR Ik.encI 3 1 ((.slice ad1 row.length cp1)) row]] := St.close (L1 := [accR encH 55 1 v1 ((hs ++ [(SH.mk ad1 row.length cp1)])), slR encH [((.slice (some ⟨b3, 0, none⟩) 1 1), [(SH.mk ad1 row.length cp1)])]]) hS11
          have hS13 : St (fun _ => False) (fun _ => False) w0 w4 [accR encH 55 1 v1 ((hs ++ [(SH.mk ad1 row.length cp1)])), slR encH [((.slice (some ⟨b3, 0, none⟩) 1 1), [(SH.mk ad1 row.length cp1)])], hlR Ik.encI (hs ++ [(SH.mk ad1 row.length cp1)]) ((tabL a b).take i ++ [row])] := hS12.imp (i := 2) rfl (fun F_ h_ => hl_push rfl h_)
          have hS14 : St (fun _ => False) (fun _ => False) w0 w4 [accR encH 55 1 v1 ((hs ++ [(SH.mk ad1 row.length cp1)])), slR encH [((.slice (some ⟨b3, 0, none⟩) 1 1), [(SH.mk ad1 row.length cp1)])], hlR Ik.encI (hs ++ [(SH.mk ad1 row.length cp1)]) ((tabL a b).take (i + 1))] := hS13.imp (i := 2) rfl (fun F_ h_ => by rw [← tab_take (by omega) (row_all hrow (by omega))]; exact h_)
          refine OL.nil ?_
          refine r_inBlock ?_
          refine r_region ?_
          refine OL.q (Q1.move rfl) rfl rfl ?_
          refine OL.q (Q1.addI (((i + 1 : Nat) : Int)) rfl rfl (by omega)) rfl rfl ?_
          refine OL.q (Q1.assign rfl) rfl rfl ?_
          refine OL.nil ?_
          have hS15 : St (fun _ => False) (fun _ => False) w0 w4 [accR encH 55 1 v1 ((hs ++ [(SH.mk ad1 row.length cp1)])), hlR Ik.encI (hs ++ [(SH.mk ad1 row.length cp1)]) ((tabL a b).take (i + 1))] := hS14.sel [0, 2] (by rfl) (by decide)
          exact (ih1 _ _ _ ⟨(v1 : Value), ((hs ++ [(SH.mk ad1 row.length cp1)]) : List SH), (i + 1 : Nat), rfl, rfl, hS15, (by first | omega | (exfalso; omega)), (by first | (simp only [List.length_append, List.length_cons, List.length_nil]; omega) | (exfalso; omega))⟩ (by omega)).sub ⟨rfl, rfl, rfl, rfl, trivial⟩
    | false =>
      replace hb1 := of_decide_eq_false hb1.symm
      refine r_cond_f rfl ?_
      refine r_exit rfl ?_
      refine r_seq ?_
      refine r_region ?_
      refine OL.q (Q1.move rfl) rfl rfl ?_
      refine OL.q (Q1.assign rfl) rfl rfl ?_
      refine OL.nil ?_
      refine r_ret1 Try.func103 rfl rfl ?_
      have hie : i = a.length + 1 := by omega
      have hS5 : St (fun _ => False) (fun _ => False) w0 w1 [accR encH 55 1 v_hs hs, hlR Ik.encI hs (tabL a b)] := hS2.imp (i := 1) rfl (fun F_ h_ => by rw [hie, List.take_of_length_le (by rw [tabL_len]; omega)] at h_; exact h_)
      have hS6 : St (fun _ => False) (fun _ => False) w0 w1 [boxR [accR encH 55 1 v_hs hs, hlR Ik.encI hs (tabL a b)]] := St.close (L1 := []) hS5
      obtain ⟨hmF, F2, hA2, hF2⟩ := hS6.fin
      exact Ret.mk ⟨hmF, hs, F2, hA2, fun b hb => ⟨(hF2 b hb).1, (hF2 b hb).2.resolve_left id⟩⟩
set_option maxRecDepth 20000 in
set_option maxHeartbeats 4000000 in
theorem rlev_c {w0 : World}  {v_a : Value} {a : List Int} {v_b : Value} {b : List Int} (h_a : Sl encRn w0 (Iv 0 w0.heap.size) v_a a) (h_b : Sl encRn w0 (Iv 0 w0.heap.size) v_b b) (hal : a.length ≤ 1000) (hbl : b.length ≤ 1000) :
    Calls Try.prog 85 #[v_a, v_b] w0 (Ret fun rv w1 => rv = .int .i64 (lev b a) ∧ Ext w0 w1) := by
  have hle_a := h_a.le
  have hle_b := h_b.le
  have hS0 := St.start0 w0
  refine calls_enter Try.func85 rfl Try.ntmps85 rfl ?_
  refine r_seq ?_
  refine r_region ?_
  refine OL.q (Q1.assign rfl) rfl rfl ?_
  refine OL.nil ?_
  refine r_seq ?_
  refine r_region ?_
  refine OL.q (Q1.move rfl) rfl rfl ?_
  refine OL.q (Q1.move rfl) rfl rfl ?_
  refine OL.act rfl rfl (AW.callF cl103 rfl (rtable_c (w0 := w0) h_a h_b hal hbl) ?_)
  rintro v1 w1 ⟨hm1, hs1, F1, hB1, hF1⟩
  have hS1 := hS0.ext hm1
  have hS2 : St (fun _ => False) (fun _ => False) w0 w1 [boxR [accR encH 55 1 v1 hs1, hlR Ik.encI hs1 (tabL a b)]] := hS0.new hm1 hB1 (fun b hb => ⟨(hF1 b hb).2, (hF1 b hb).1⟩)
  have hS3 : St (fun _ => False) (fun _ => False) w0 w1 [accR encH 55 1 v1 hs1, hlR Ik.encI hs1 (tabL a b)] := St.open (L1 := []) hS2
  have hhl := hS3.hlLen (i := 1) rfl
  rw [tabL_len] at hhl
  refine OL.q (Q1.move rfl) rfl rfl ?_
  have f1 := hS3.out h_a (fun _ _ h => h)
  refine OL.q (Q1.lenSl Try.underlying74 (f1) rfl) rfl rfl ?_
  obtain ⟨g1, f2, hl1, k1⟩ := hS3.accK (i := 0) rfl
  obtain ⟨x1, b1, o1, hx1, hr1, hl2, hw1⟩ := Sl.atF (P := Try.prog) f2.sl Try.underlying144 ti55 encH_len (k := .i64) (n := ((a.length : Nat) : Int)) (a.length) (by omega) (by first | assumption | omega)
  refine OL.q (Q1.indexAddr rfl rfl hr1) rfl rfl ?_
  refine OL.q (Q1.load1 ti55 rfl (fun _ e => e ▸ hw1)) rfl rfl ?_
  obtain ⟨ly1, hly1, hn1⟩ := hS3.hlAt (i := 1) rfl hx1
  have htl := tabL_at hly1
  have hrl := rowL_len b.length (rowF b (a.take (a.length)))
  rw [← htl] at hrl
  refine OL.q (Q1.move rfl) rfl rfl ?_
  have f3 := hS3.out h_b (fun _ _ h => h)
  refine OL.q (Q1.lenSl Try.underlying74 (f3) rfl) rfl rfl ?_
  obtain ⟨x2, b2, o2, hx2, hr2, hl3, hw2⟩ := Sl.atF (P := Try.prog) hn1 Try.underlying55 ti3 Ik.encI_len (k := .i64) (n := ((b.length : Nat) : Int)) (b.length) (by omega) (by first | assumption | omega)
  refine OL.q (Q1.indexAddr rfl rfl hr2) rfl rfl ?_
  refine OL.q (Q1.load1 ti3 rfl (fun _ e => e ▸ hw2)) rfl rfl ?_
  refine OL.q (Q1.assign rfl) rfl rfl ?_
  refine OL.nil ?_
  refine r_ret1 Try.func85 rfl rfl ?_
  exact Ret.mk ⟨(congrArg (Value.int .i64) (by first | exact tab_end rfl rfl htl hx2 | (exfalso; omega))), hS3.mod⟩
set_option maxRecDepth 20000 in
set_option maxHeartbeats 4000000 in
theorem rdist_c {w0 : World}  (a : Str) (b : Str) (hsa : a.length ≤ 1000) (hsb : b.length ≤ 1000) :
    Calls Try.prog 62 #[strV a, strV b] w0 (Ret fun rv w1 => rv = .int .i64 (distT a b) ∧ Ext w0 w1) := by
  have hE0 : Ext w0 w0 := Mod.refl _ _
  have hral := Ml.runesM_len a
  have hrbl := Ml.runesM_len b
  refine calls_enter Try.func62 rfl Try.ntmps62 rfl ?_
  refine r_seq ?_
  refine r_region ?_
  refine OL.q (Q1.assign rfl) rfl rfl ?_
  refine OL.nil ?_
  refine r_seq ?_
  refine r_region ?_
  refine OL.q (Q1.move rfl) rfl rfl ?_
  refine OL.act rfl rfl (AW.callF cl84 rfl (rrunes_c (w0 := w0)  a (by first | assumption | omega)) ?_)
  rintro _ w1 ⟨v1, _, rfl, h1, ⟨b1, hb1, rfl⟩, hm1⟩
  have hE1 := hE0.ext hm1
  have hs1 := hm1.size
  have hle_1 := h1.le
  refine OL.q (Q1.move rfl) rfl rfl ?_
  refine OL.q (Q1.extract rfl rfl) rfl rfl ?_
  refine OL.q (Q1.extract rfl rfl) rfl rfl ?_
  refine OL.q (Q1.assign rfl) rfl rfl ?_
  refine OL.q (Q1.assign rfl) rfl rfl ?_
  refine OL.nil ?_
  refine r_seq ?_
  refine r_region ?_
  refine OL.q (Q1.move rfl) rfl rfl ?_
  refine OL.act rfl rfl (AW.callF cl84 rfl (rrunes_c (w0 := w1)  b (by first | assumption | omega)) ?_)
  rintro _ w2 ⟨v2, _, rfl, h2, ⟨b2, hb2, rfl⟩, hm2⟩
  have f1 := h1.ext hm2
  have hE2 := hE1.ext hm2
  have hs2 := hm2.size
  have hle_2 := h2.le
  refine OL.q (Q1.move rfl) rfl rfl ?_
  refine OL.q (Q1.extract rfl rfl) rfl rfl ?_
  refine OL.q (Q1.extract rfl rfl) rfl rfl ?_
  refine OL.q (Q1.assign rfl) rfl rfl ?_
  refine OL.q (Q1.assign rfl) rfl rfl ?_
  refine OL.nil ?_
  refine r_seq ?_
  refine r_seq ?_
  refine r_region ?_
  refine OL.q (Q1.move rfl) rfl rfl ?_
  cases b1 with
  | true =>
    replace hb1 := hb1.symm
    refine OL.q (Q1.not rfl) rfl rfl ?_
    refine OL.q (Q1.move rfl) rfl rfl ?_
    refine OL.q (Q1.move rfl) rfl rfl ?_
    cases b2 with
    | true =>
      replace hb2 := hb2.symm
      refine OL.q (Q1.not rfl) rfl rfl ?_
      refine OL.q (Q1.pick_f rfl rfl) rfl rfl ?_
      refine OL.nil ?_
      refine r_cond_f rfl ?_
      refine r_skip ?_
      refine r_seq ?_
      refine r_region ?_
      refine OL.q (Q1.move rfl) rfl rfl ?_
      refine OL.q (Q1.move rfl) rfl rfl ?_
      refine OL.act rfl rfl (AW.callF cl85 rfl (rlev_c (w0 := w2) (a := (Ml.runesM a)) (b := (Ml.runesM b))  ((f1).iv (Nat.zero_le _) (by omega)) ((h2).iv (Nat.zero_le _) (by omega)) (by first | assumption | omega) (by first | assumption | omega)) ?_)
      rintro _ w3 ⟨rfl, hm3⟩
      have f2 := f1.ext hm3
      have f3 := h2.ext hm3
      have hE3 := hE2.ext hm3
      have hs3 := hm3.size
      have := lev_le ((Ml.runesM b)) ((Ml.runesM a))
      refine OL.q (Q1.assign rfl) rfl rfl ?_
      refine OL.nil ?_
      refine r_ret1 Try.func62 rfl rfl ?_
      exact Ret.mk ⟨(congrArg (Value.int .i64) (by first | exact distT_no (by first | exact .inl (by assumption) | exact .inr (by assumption)) | exact distT_yes (by assumption) (by assumption) | (exfalso; omega))), hE3⟩
    | false =>
      replace hb2 := hb2.symm
      refine OL.q (Q1.not rfl) rfl rfl ?_
      refine OL.q (Q1.pick_f rfl rfl) rfl rfl ?_
      refine OL.nil ?_
      refine r_cond_t rfl ?_
      refine r_seq ?_
      refine r_region ?_
      refine OL.q (Q1.assign rfl) rfl rfl ?_
      refine OL.nil ?_
      refine r_ret1 Try.func62 rfl rfl ?_
      exact Ret.mk ⟨(congrArg (Value.int .i64) (by first | exact distT_no (by first | exact .inl (by assumption) | exact .inr (by assumption)) | exact distT_yes (by assumption) (by assumption) | (exfalso; omega))), hE2⟩
  | false =>
    replace hb1 := hb1.symm
    refine OL.q (Q1.not rfl) rfl rfl ?_
    refine OL.q (Q1.move rfl) rfl rfl ?_
    refine OL.sk rfl rfl ?_
    refine OL.sk rfl rfl ?_
    refine OL.q (Q1.pick_t rfl rfl) rfl rfl ?_
    refine OL.nil ?_
    refine r_cond_t rfl ?_
    refine r_seq ?_
    refine r_region ?_
    refine OL.q (Q1.assign rfl) rfl rfl ?_
    refine OL.nil ?_
    refine r_ret1 Try.func62 rfl rfl ?_
    exact Ret.mk ⟨(congrArg (Value.int .i64) (by first | exact distT_no (by first | exact .inl (by assumption) | exact .inr (by assumption)) | exact distT_yes (by assumption) (by assumption) | (exfalso; omega))), hE2⟩
end Go.Proofs
