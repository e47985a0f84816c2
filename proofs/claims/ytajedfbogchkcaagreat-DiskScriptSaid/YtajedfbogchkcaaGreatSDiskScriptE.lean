/-
  What the law DiskScript needs, part 5 of 7: theory, and walks through the code.
-/
import Derived.Test.YtajedfbogchkcaaGreatSDiskScriptD
set_option linter.unusedVariables false
set_option linter.unusedSimpArgs false
namespace Go.Proofs
open Go.Ik Go.Ml
set_option maxRecDepth 20000 in
set_option maxHeartbeats 4000000 in
theorem rmore_c {w0 : World}  (s : Str) (i : Nat) (hs : s.length ≤ 1000000000) (hi : i ≤ 1000000003) :
    Calls Tryz.prog 101 #[strV s, .int .i64 (((i : Nat) : Int))] w0 (Ret fun rv w1 => ∃ u0 u1, rv = .tuple #[u0, u1] ∧ u0 = .int .i32 (Ml.moreV s i) ∧ (∃ rb : Bool, rb = (Ml.contAt s i) ∧ u1 = .bool rb) ∧ Ext w0 w1) := by
  have hE0 : Ext w0 w0 := Mod.refl _ _
  refine calls_enter Tryz.func101 rfl Tryz.ntmps101 rfl ?_
  refine r_seq ?_
  refine r_region ?_
  refine OL.q (Q1.assign rfl) rfl rfl ?_
  refine OL.q (Q1.assign rfl) rfl rfl ?_
  refine OL.nil ?_
  refine r_seq ?_
  refine r_seq ?_
  refine r_region ?_
  refine OL.q (Q1.move rfl) rfl rfl ?_
  refine OL.q (Q1.move rfl) rfl rfl ?_
  refine OL.q (Q1.lenS Tryz.underlying9 rfl) rfl rfl ?_
  refine OL.qb (Q1.ge rfl rfl) rfl rfl ?_
  intro b1 hb1
  refine OL.q (Q1.move rfl) rfl rfl ?_
  cases b1 with
  | true =>
    replace hb1 := of_decide_eq_true hb1.symm
    refine OL.sk rfl rfl ?_
    refine OL.sk rfl rfl ?_
    refine OL.sk rfl rfl ?_
    refine OL.sk rfl rfl ?_
    refine OL.q (Q1.pick_t rfl rfl) rfl rfl ?_
    refine OL.q (Q1.move rfl) rfl rfl ?_
    refine OL.sk rfl rfl ?_
    refine OL.sk rfl rfl ?_
    refine OL.sk rfl rfl ?_
    refine OL.sk rfl rfl ?_
    refine OL.q (Q1.pick_t rfl rfl) rfl rfl ?_
    refine OL.nil ?_
    refine r_cond_t rfl ?_
    refine r_seq ?_
    refine r_region ?_
    refine OL.q (Q1.assign rfl) rfl rfl ?_
    refine OL.q (Q1.assign rfl) rfl rfl ?_
    refine OL.nil ?_
    refine r_ret2 Tryz.func101 rfl rfl rfl ?_
    exact Ret.mk ⟨_, _, rfl, (congrArg (Value.int .i32) (by first | exact Ml.more_no (by omega) | exact Ml.more_yes (by omega) | exact Ml.cont_no (by omega) | exact Ml.cont_yes (by omega) | (exfalso; omega))), ⟨_, (by first | exact Ml.more_no (by omega) | exact Ml.more_yes (by omega) | exact Ml.cont_no (by omega) | exact Ml.cont_yes (by omega) | (exfalso; omega)), rfl⟩, hE0⟩
  | false =>
    replace hb1 := of_decide_eq_false hb1.symm
    refine OL.q (Q1.move rfl) rfl rfl ?_
    refine OL.q (Q1.move rfl) rfl rfl ?_
    have hy1 := byteAt_lt s (i)
    refine OL.q (Q1.indexB (i) Tryz.underlying9 rfl rfl (by omega) (by first | assumption | omega)) rfl rfl ?_
    refine OL.qb (Q1.lt rfl rfl) rfl rfl ?_
    intro b2 hb2
    refine OL.q (Q1.pick_f rfl rfl) rfl rfl ?_
    refine OL.q (Q1.move rfl) rfl rfl ?_
    cases b2 with
    | true =>
      replace hb2 := of_decide_eq_true hb2.symm
      refine OL.sk rfl rfl ?_
      refine OL.sk rfl rfl ?_
      refine OL.sk rfl rfl ?_
      refine OL.sk rfl rfl ?_
      refine OL.q (Q1.pick_t rfl rfl) rfl rfl ?_
      refine OL.nil ?_
      refine r_cond_t rfl ?_
      refine r_seq ?_
      refine r_region ?_
      refine OL.q (Q1.assign rfl) rfl rfl ?_
      refine OL.q (Q1.assign rfl) rfl rfl ?_
      refine OL.nil ?_
      refine r_ret2 Tryz.func101 rfl rfl rfl ?_
      exact Ret.mk ⟨_, _, rfl, (congrArg (Value.int .i32) (by first | exact Ml.more_no (by omega) | exact Ml.more_yes (by omega) | exact Ml.cont_no (by omega) | exact Ml.cont_yes (by omega) | (exfalso; omega))), ⟨_, (by first | exact Ml.more_no (by omega) | exact Ml.more_yes (by omega) | exact Ml.cont_no (by omega) | exact Ml.cont_yes (by omega) | (exfalso; omega)), rfl⟩, hE0⟩
    | false =>
      replace hb2 := of_decide_eq_false hb2.symm
      refine OL.q (Q1.move rfl) rfl rfl ?_
      refine OL.q (Q1.move rfl) rfl rfl ?_
      have hy2 := byteAt_lt s (i)
      refine OL.q (Q1.indexB (i) Tryz.underlying9 rfl rfl (by omega) (by first | assumption | omega)) rfl rfl ?_
      refine OL.qb (Q1.gt rfl rfl) rfl rfl ?_
      intro b3 hb3
      refine OL.q (Q1.pick_f rfl rfl) rfl rfl ?_
      refine OL.nil ?_
      cases b3 with
      | true =>
        replace hb3 := of_decide_eq_true hb3.symm
        refine r_cond_t rfl ?_
        refine r_seq ?_
        refine r_region ?_
        refine OL.q (Q1.assign rfl) rfl rfl ?_
        refine OL.q (Q1.assign rfl) rfl rfl ?_
        refine OL.nil ?_
        refine r_ret2 Tryz.func101 rfl rfl rfl ?_
        exact Ret.mk ⟨_, _, rfl, (congrArg (Value.int .i32) (by first | exact Ml.more_no (by omega) | exact Ml.more_yes (by omega) | exact Ml.cont_no (by omega) | exact Ml.cont_yes (by omega) | (exfalso; omega))), ⟨_, (by first | exact Ml.more_no (by omega) | exact Ml.more_yes (by omega) | exact Ml.cont_no (by omega) | exact Ml.cont_yes (by omega) | (exfalso; omega)), rfl⟩, hE0⟩
      | false =>
        replace hb3 := of_decide_eq_false hb3.symm
        refine r_cond_f rfl ?_
        refine r_skip ?_
        refine r_seq ?_
        refine r_region ?_
        refine OL.q (Q1.move rfl) rfl rfl ?_
        refine OL.q (Q1.move rfl) rfl rfl ?_
        have hy3 := byteAt_lt s (i)
        refine OL.q (Q1.indexB (i) Tryz.underlying9 rfl rfl (by omega) (by first | assumption | omega)) rfl rfl ?_
        refine OL.q (Q1.convN (by kernel_rfl) Tryz.underlying21 rfl (IntWalk.i32_in _ (by omega))) rfl rfl ?_
        refine OL.q (Q1.sub32 ((((byteAt s i : Nat) : Int) - 128)) rfl rfl (by omega)) rfl rfl ?_
        refine OL.q (Q1.assign rfl) rfl rfl ?_
        refine OL.q (Q1.assign rfl) rfl rfl ?_
        refine OL.nil ?_
        refine r_ret2 Tryz.func101 rfl rfl rfl ?_
        exact Ret.mk ⟨_, _, rfl, (congrArg (Value.int .i32) (by first | exact Ml.more_no (by omega) | exact Ml.more_yes (by omega) | exact Ml.cont_no (by omega) | exact Ml.cont_yes (by omega) | (exfalso; omega))), ⟨_, (by first | exact Ml.more_no (by omega) | exact Ml.more_yes (by omega) | exact Ml.cont_no (by omega) | exact Ml.cont_yes (by omega) | (exfalso; omega)), rfl⟩, hE0⟩
set_option maxRecDepth 20000 in
set_option maxHeartbeats 4000000 in
theorem rone_c {w0 : World}  (s : Str) (i : Nat) (hs : s.length ≤ 1000000000) (hi : i < s.length) :
    Calls Tryz.prog 89 #[strV s, .int .i64 (((i : Nat) : Int))] w0 (Ret fun rv w1 => ∃ u0 u1, rv = .tuple #[u0, u1] ∧ u0 = .int .i32 ((Ml.oneM s i).1) ∧ u1 = .int .i64 ((((Ml.oneM s i).2.toNat : Nat) : Int)) ∧ Ext w0 w1) := by
  have hE0 : Ext w0 w0 := Mod.refl _ _
  refine calls_enter Tryz.func89 rfl Tryz.ntmps89 rfl ?_
  refine r_seq ?_
  refine r_region ?_
  refine OL.q (Q1.assign rfl) rfl rfl ?_
  refine OL.q (Q1.assign rfl) rfl rfl ?_
  refine OL.nil ?_
  refine r_seq ?_
  refine r_region ?_
  refine OL.q (Q1.move rfl) rfl rfl ?_
  refine OL.q (Q1.move rfl) rfl rfl ?_
  have hy1 := byteAt_lt s (i)
  refine OL.q (Q1.indexB (i) Tryz.underlying9 rfl rfl (by omega) (by first | assumption | omega)) rfl rfl ?_
  refine OL.q (Q1.convN (by kernel_rfl) Tryz.underlying21 rfl (IntWalk.i32_in _ (by omega))) rfl rfl ?_
  refine OL.q (Q1.assign rfl) rfl rfl ?_
  refine OL.nil ?_
  refine r_seq ?_
  refine r_region ?_
  refine OL.q (Q1.move rfl) rfl rfl ?_
  refine OL.q (Q1.move rfl) rfl rfl ?_
  refine OL.q (Q1.addI (((i + 1 : Nat) : Int)) rfl rfl (by omega)) rfl rfl ?_
  refine OL.act rfl rfl (AW.callF cl101 rfl (rmore_c (w0 := w0)  s (i + 1) (by first | assumption | omega) (by first | assumption | omega)) ?_)
  rintro _ w1 ⟨_, _, rfl, rfl, ⟨b1, hb1, rfl⟩, hm1⟩
  have hE1 := hE0.ext hm1
  have hs1 := hm1.size
  have := Ml.more_range s (i + 1)
  refine OL.q (Q1.move rfl) rfl rfl ?_
  refine OL.q (Q1.extract rfl rfl) rfl rfl ?_
  refine OL.q (Q1.extract rfl rfl) rfl rfl ?_
  refine OL.q (Q1.assign rfl) rfl rfl ?_
  refine OL.q (Q1.assign rfl) rfl rfl ?_
  refine OL.nil ?_
  refine r_seq ?_
  refine r_region ?_
  refine OL.q (Q1.move rfl) rfl rfl ?_
  refine OL.q (Q1.move rfl) rfl rfl ?_
  refine OL.q (Q1.addI (((i + 2 : Nat) : Int)) rfl rfl (by omega)) rfl rfl ?_
  refine OL.act rfl rfl (AW.callF cl101 rfl (rmore_c (w0 := w1)  s (i + 2) (by first | assumption | omega) (by first | assumption | omega)) ?_)
  rintro _ w2 ⟨_, _, rfl, rfl, ⟨b2, hb2, rfl⟩, hm2⟩
  have hE2 := hE1.ext hm2
  have hs2 := hm2.size
  have := Ml.more_range s (i + 2)
  refine OL.q (Q1.move rfl) rfl rfl ?_
  refine OL.q (Q1.extract rfl rfl) rfl rfl ?_
  refine OL.q (Q1.extract rfl rfl) rfl rfl ?_
  refine OL.q (Q1.assign rfl) rfl rfl ?_
  refine OL.q (Q1.assign rfl) rfl rfl ?_
  refine OL.nil ?_
  refine r_seq ?_
  refine r_region ?_
  refine OL.q (Q1.move rfl) rfl rfl ?_
  refine OL.q (Q1.move rfl) rfl rfl ?_
  refine OL.q (Q1.addI (((i + 3 : Nat) : Int)) rfl rfl (by omega)) rfl rfl ?_
  refine OL.act rfl rfl (AW.callF cl101 rfl (rmore_c (w0 := w2)  s (i + 3) (by first | assumption | omega) (by first | assumption | omega)) ?_)
  rintro _ w3 ⟨_, _, rfl, rfl, ⟨b3, hb3, rfl⟩, hm3⟩
  have hE3 := hE2.ext hm3
  have hs3 := hm3.size
  have := Ml.more_range s (i + 3)
  refine OL.q (Q1.move rfl) rfl rfl ?_
  refine OL.q (Q1.extract rfl rfl) rfl rfl ?_
  refine OL.q (Q1.extract rfl rfl) rfl rfl ?_
  refine OL.q (Q1.assign rfl) rfl rfl ?_
  refine OL.q (Q1.assign rfl) rfl rfl ?_
  refine OL.nil ?_
  refine r_seq ?_
  refine r_block ?_
  refine r_seq ?_
  refine r_region ?_
  refine OL.q (Q1.move rfl) rfl rfl ?_
  refine OL.qb (Q1.lt rfl rfl) rfl rfl ?_
  intro b4 hb4
  refine OL.q (Q1.assign rfl) rfl rfl ?_
  refine OL.nil ?_
  cases b4 with
  | true =>
    replace hb4 := of_decide_eq_true hb4.symm
    refine r_cond_t rfl ?_
    refine r_seq ?_
    refine r_region ?_
    refine OL.q (Q1.move rfl) rfl rfl ?_
    refine OL.q (Q1.assign rfl) rfl rfl ?_
    refine OL.q (Q1.assign rfl) rfl rfl ?_
    obtain ⟨hone1, hone2⟩ := Ml.one_1 (by omega)
    refine OL.nil ?_
    refine r_ret2 Tryz.func89 rfl rfl rfl ?_
    exact Ret.mk ⟨_, _, rfl, (congrArg (Value.int .i32) (by first | (with_reducible exact hone1) | (rw [← hone2]; rfl) | (exfalso; omega))), (congrArg (Value.int .i64) (by first | (with_reducible exact hone1) | (rw [← hone2]; rfl) | (exfalso; omega))), hE3⟩
  | false =>
    replace hb4 := of_decide_eq_false hb4.symm
    refine r_cond_f rfl ?_
    refine r_seq ?_
    refine r_region ?_
    refine OL.q (Q1.move rfl) rfl rfl ?_
    refine OL.qb (Q1.ge rfl rfl) rfl rfl ?_
    intro b5 hb5
    refine OL.q (Q1.move rfl) rfl rfl ?_
    cases b5 with
    | true =>
      replace hb5 := of_decide_eq_true hb5.symm
      refine OL.q (Q1.move rfl) rfl rfl ?_
      refine OL.qb (Q1.le rfl rfl) rfl rfl ?_
      intro b6 hb6
      refine OL.q (Q1.pick_t rfl rfl) rfl rfl ?_
      refine OL.q (Q1.move rfl) rfl rfl ?_
      cases b6 with
      | true =>
        replace hb6 := of_decide_eq_true hb6.symm
        refine OL.q (Q1.move rfl) rfl rfl ?_
        refine OL.q (Q1.pick_t rfl rfl) rfl rfl ?_
        refine OL.q (Q1.assign rfl) rfl rfl ?_
        refine OL.nil ?_
        cases b1 with
        | true =>
          replace hb1 := hb1.symm
          refine r_cond_t rfl ?_
          refine r_seq ?_
          refine r_region ?_
          refine OL.q (Q1.move rfl) rfl rfl ?_
          refine OL.q (Q1.sub32 ((((byteAt s i : Nat) : Int) - 192)) rfl rfl (by omega)) rfl rfl ?_
          refine OL.q (Q1.mul32 (((((byteAt s i : Nat) : Int) - 192) * 64)) rfl rfl (by omega)) rfl rfl ?_
          refine OL.q (Q1.move rfl) rfl rfl ?_
          refine OL.q (Q1.add32 ((((((byteAt s i : Nat) : Int) - 192) * 64) + ((Ml.moreV s (i + 1))))) rfl rfl (by omega)) rfl rfl ?_
          refine OL.q (Q1.assign rfl) rfl rfl ?_
          refine OL.q (Q1.assign rfl) rfl rfl ?_
          obtain ⟨hone1, hone2⟩ := Ml.one_2 (by omega) ⟨by omega, by omega, by assumption⟩
          refine OL.nil ?_
          refine r_ret2 Tryz.func89 rfl rfl rfl ?_
          exact Ret.mk ⟨_, _, rfl, (congrArg (Value.int .i32) (by first | (with_reducible exact hone1) | (rw [← hone2]; rfl) | (exfalso; omega))), (congrArg (Value.int .i64) (by first | (with_reducible exact hone1) | (rw [← hone2]; rfl) | (exfalso; omega))), hE3⟩
        | false =>
          replace hb1 := hb1.symm
          refine r_cond_f rfl ?_
          refine r_seq ?_
          refine r_region ?_
          refine OL.q (Q1.move rfl) rfl rfl ?_
          refine OL.qb (Q1.ge rfl rfl) rfl rfl ?_
          intro b7 hb7
          refine OL.q (Q1.move rfl) rfl rfl ?_
          cases b7 with
          | true =>
            replace hb7 := of_decide_eq_true hb7.symm
            refine OL.q (Q1.move rfl) rfl rfl ?_
            refine OL.qb (Q1.le rfl rfl) rfl rfl ?_
            intro b8 hb8
            refine OL.q (Q1.pick_t rfl rfl) rfl rfl ?_
            refine OL.q (Q1.move rfl) rfl rfl ?_
            cases b8 with
            | true =>
              replace hb8 := of_decide_eq_true hb8.symm
              refine OL.q (Q1.move rfl) rfl rfl ?_
              refine OL.q (Q1.pick_t rfl rfl) rfl rfl ?_
              refine OL.q (Q1.move rfl) rfl rfl ?_
              refine OL.sk rfl rfl ?_
              refine OL.q (Q1.pick_f rfl rfl) rfl rfl ?_
              refine OL.q (Q1.assign rfl) rfl rfl ?_
              refine OL.nil ?_
              refine r_cond_f rfl ?_
              refine r_seq ?_
              refine r_region ?_
              refine OL.q (Q1.move rfl) rfl rfl ?_
              refine OL.qb (Q1.ge rfl rfl) rfl rfl ?_
              intro b9 hb9
              refine OL.q (Q1.move rfl) rfl rfl ?_
              cases b9 with
              | true =>
                replace hb9 := of_decide_eq_true hb9.symm
                refine OL.q (Q1.move rfl) rfl rfl ?_
                refine OL.qb (Q1.le rfl rfl) rfl rfl ?_
                intro b10 hb10
                refine OL.q (Q1.pick_t rfl rfl) rfl rfl ?_
                refine OL.q (Q1.move rfl) rfl rfl ?_
                cases b10 with
                | true =>
                  replace hb10 := of_decide_eq_true hb10.symm
                  refine OL.q (Q1.move rfl) rfl rfl ?_
                  refine OL.q (Q1.pick_t rfl rfl) rfl rfl ?_
                  refine OL.q (Q1.move rfl) rfl rfl ?_
                  refine OL.sk rfl rfl ?_
                  refine OL.q (Q1.pick_f rfl rfl) rfl rfl ?_
                  refine OL.q (Q1.move rfl) rfl rfl ?_
                  refine OL.sk rfl rfl ?_
                  refine OL.q (Q1.pick_f rfl rfl) rfl rfl ?_
                  refine OL.q (Q1.assign rfl) rfl rfl ?_
                  refine OL.nil ?_
                  refine r_cond_f rfl ?_
                  refine r_skip ?_
                  refine r_inBlock ?_
                  refine r_seq ?_
                  refine r_region ?_
                  refine OL.q (Q1.assign rfl) rfl rfl ?_
                  refine OL.q (Q1.assign rfl) rfl rfl ?_
                  obtain ⟨hone1, hone2⟩ := Ml.one_0 (by omega) (by intro hh; first | omega | (simp_all; done)) (by intro hh; first | omega | (simp_all; done)) (by intro hh; first | omega | (simp_all; done))
                  refine OL.nil ?_
                  refine r_ret2 Tryz.func89 rfl rfl rfl ?_
                  exact Ret.mk ⟨_, _, rfl, (congrArg (Value.int .i32) (by first | (with_reducible exact hone1) | (rw [← hone2]; rfl) | (exfalso; omega))), (congrArg (Value.int .i64) (by first | (with_reducible exact hone1) | (rw [← hone2]; rfl) | (exfalso; omega))), hE3⟩
                | false =>
                  replace hb10 := of_decide_eq_false hb10.symm
                  refine OL.sk rfl rfl ?_
                  refine OL.q (Q1.pick_f rfl rfl) rfl rfl ?_
                  refine OL.q (Q1.move rfl) rfl rfl ?_
                  refine OL.sk rfl rfl ?_
                  refine OL.q (Q1.pick_f rfl rfl) rfl rfl ?_
                  refine OL.q (Q1.move rfl) rfl rfl ?_
                  refine OL.sk rfl rfl ?_
                  refine OL.q (Q1.pick_f rfl rfl) rfl rfl ?_
                  refine OL.q (Q1.assign rfl) rfl rfl ?_
                  refine OL.nil ?_
                  refine r_cond_f rfl ?_
                  refine r_skip ?_
                  refine r_inBlock ?_
                  refine r_seq ?_
                  refine r_region ?_
                  refine OL.q (Q1.assign rfl) rfl rfl ?_
                  refine OL.q (Q1.assign rfl) rfl rfl ?_
                  obtain ⟨hone1, hone2⟩ := Ml.one_0 (by omega) (by intro hh; first | omega | (simp_all; done)) (by intro hh; first | omega | (simp_all; done)) (by intro hh; first | omega | (simp_all; done))
                  refine OL.nil ?_
                  refine r_ret2 Tryz.func89 rfl rfl rfl ?_
                  exact Ret.mk ⟨_, _, rfl, (congrArg (Value.int .i32) (by first | (with_reducible exact hone1) | (rw [← hone2]; rfl) | (exfalso; omega))), (congrArg (Value.int .i64) (by first | (with_reducible exact hone1) | (rw [← hone2]; rfl) | (exfalso; omega))), hE3⟩
              | false =>
                replace hb9 := of_decide_eq_false hb9.symm
                refine OL.sk rfl rfl ?_
                refine OL.sk rfl rfl ?_
                refine OL.q (Q1.pick_f rfl rfl) rfl rfl ?_
                refine OL.q (Q1.move rfl) rfl rfl ?_
                refine OL.sk rfl rfl ?_
                refine OL.q (Q1.pick_f rfl rfl) rfl rfl ?_
                refine OL.q (Q1.move rfl) rfl rfl ?_
                refine OL.sk rfl rfl ?_
                refine OL.q (Q1.pick_f rfl rfl) rfl rfl ?_
                refine OL.q (Q1.move rfl) rfl rfl ?_
                refine OL.sk rfl rfl ?_
                refine OL.q (Q1.pick_f rfl rfl) rfl rfl ?_
                refine OL.q (Q1.assign rfl) rfl rfl ?_
                refine OL.nil ?_
                refine r_cond_f rfl ?_
                refine r_skip ?_
                refine r_inBlock ?_
                refine r_seq ?_
                refine r_region ?_
                refine OL.q (Q1.assign rfl) rfl rfl ?_
                refine OL.q (Q1.assign rfl) rfl rfl ?_
                obtain ⟨hone1, hone2⟩ := Ml.one_0 (by omega) (by intro hh; first | omega | (simp_all; done)) (by intro hh; first | omega | (simp_all; done)) (by intro hh; first | omega | (simp_all; done))
                refine OL.nil ?_
                refine r_ret2 Tryz.func89 rfl rfl rfl ?_
                exact Ret.mk ⟨_, _, rfl, (congrArg (Value.int .i32) (by first | (with_reducible exact hone1) | (rw [← hone2]; rfl) | (exfalso; omega))), (congrArg (Value.int .i64) (by first | (with_reducible exact hone1) | (rw [← hone2]; rfl) | (exfalso; omega))), hE3⟩
            | false =>
              replace hb8 := of_decide_eq_false hb8.symm
              refine OL.sk rfl rfl ?_
              refine OL.q (Q1.pick_f rfl rfl) rfl rfl ?_
              refine OL.q (Q1.move rfl) rfl rfl ?_
              refine OL.sk rfl rfl ?_
              refine OL.q (Q1.pick_f rfl rfl) rfl rfl ?_
              refine OL.q (Q1.assign rfl) rfl rfl ?_
              refine OL.nil ?_
              refine r_cond_f rfl ?_
              refine r_seq ?_
              refine r_region ?_
              refine OL.q (Q1.move rfl) rfl rfl ?_
              refine OL.qb (Q1.ge rfl rfl) rfl rfl ?_
              intro b9 hb9
              refine OL.q (Q1.move rfl) rfl rfl ?_
              cases b9 with
              | true =>
                replace hb9 := of_decide_eq_true hb9.symm
                refine OL.q (Q1.move rfl) rfl rfl ?_
                refine OL.qb (Q1.le rfl rfl) rfl rfl ?_
                intro b10 hb10
                refine OL.q (Q1.pick_t rfl rfl) rfl rfl ?_
                refine OL.q (Q1.move rfl) rfl rfl ?_
                cases b10 with
                | true =>
                  replace hb10 := of_decide_eq_true hb10.symm
                  refine OL.q (Q1.move rfl) rfl rfl ?_
                  refine OL.q (Q1.pick_t rfl rfl) rfl rfl ?_
                  refine OL.q (Q1.move rfl) rfl rfl ?_
                  refine OL.sk rfl rfl ?_
                  refine OL.q (Q1.pick_f rfl rfl) rfl rfl ?_
                  refine OL.q (Q1.move rfl) rfl rfl ?_
                  refine OL.sk rfl rfl ?_
                  refine OL.q (Q1.pick_f rfl rfl) rfl rfl ?_
                  refine OL.q (Q1.assign rfl) rfl rfl ?_
                  refine OL.nil ?_
                  refine r_cond_f rfl ?_
                  refine r_skip ?_
                  refine r_inBlock ?_
                  refine r_seq ?_
                  refine r_region ?_
                  refine OL.q (Q1.assign rfl) rfl rfl ?_
                  refine OL.q (Q1.assign rfl) rfl rfl ?_
                  obtain ⟨hone1, hone2⟩ := Ml.one_0 (by omega) (by intro hh; first | omega | (simp_all; done)) (by intro hh; first | omega | (simp_all; done)) (by intro hh; first | omega | (simp_all; done))
                  refine OL.nil ?_
                  refine r_ret2 Tryz.func89 rfl rfl rfl ?_
                  exact Ret.mk ⟨_, _, rfl, (congrArg (Value.int .i32) (by first | (with_reducible exact hone1) | (rw [← hone2]; rfl) | (exfalso; omega))), (congrArg (Value.int .i64) (by first | (with_reducible exact hone1) | (rw [← hone2]; rfl) | (exfalso; omega))), hE3⟩
                | false =>
                  replace hb10 := of_decide_eq_false hb10.symm
                  refine OL.sk rfl rfl ?_
                  refine OL.q (Q1.pick_f rfl rfl) rfl rfl ?_
                  refine OL.q (Q1.move rfl) rfl rfl ?_
                  refine OL.sk rfl rfl ?_
                  refine OL.q (Q1.pick_f rfl rfl) rfl rfl ?_
                  refine OL.q (Q1.move rfl) rfl rfl ?_
                  refine OL.sk rfl rfl ?_
                  refine OL.q (Q1.pick_f rfl rfl) rfl rfl ?_
                  refine OL.q (Q1.assign rfl) rfl rfl ?_
                  refine OL.nil ?_
                  refine r_cond_f rfl ?_
                  refine r_skip ?_
                  refine r_inBlock ?_
                  refine r_seq ?_
                  refine r_region ?_
                  refine OL.q (Q1.assign rfl) rfl rfl ?_
                  refine OL.q (Q1.assign rfl) rfl rfl ?_
                  obtain ⟨hone1, hone2⟩ := Ml.one_0 (by omega) (by intro hh; first | omega | (simp_all; done)) (by intro hh; first | omega | (simp_all; done)) (by intro hh; first | omega | (simp_all; done))
                  refine OL.nil ?_
                  refine r_ret2 Tryz.func89 rfl rfl rfl ?_
                  exact Ret.mk ⟨_, _, rfl, (congrArg (Value.int .i32) (by first | (with_reducible exact hone1) | (rw [← hone2]; rfl) | (exfalso; omega))), (congrArg (Value.int .i64) (by first | (with_reducible exact hone1) | (rw [← hone2]; rfl) | (exfalso; omega))), hE3⟩
              | false =>
                replace hb9 := of_decide_eq_false hb9.symm
                refine OL.sk rfl rfl ?_
                refine OL.sk rfl rfl ?_
                refine OL.q (Q1.pick_f rfl rfl) rfl rfl ?_
                refine OL.q (Q1.move rfl) rfl rfl ?_
                refine OL.sk rfl rfl ?_
                refine OL.q (Q1.pick_f rfl rfl) rfl rfl ?_
                refine OL.q (Q1.move rfl) rfl rfl ?_
                refine OL.sk rfl rfl ?_
                refine OL.q (Q1.pick_f rfl rfl) rfl rfl ?_
                refine OL.q (Q1.move rfl) rfl rfl ?_
                refine OL.sk rfl rfl ?_
                refine OL.q (Q1.pick_f rfl rfl) rfl rfl ?_
                refine OL.q (Q1.assign rfl) rfl rfl ?_
                refine OL.nil ?_
                refine r_cond_f rfl ?_
                refine r_skip ?_
                refine r_inBlock ?_
                refine r_seq ?_
                refine r_region ?_
                refine OL.q (Q1.assign rfl) rfl rfl ?_
                refine OL.q (Q1.assign rfl) rfl rfl ?_
                obtain ⟨hone1, hone2⟩ := Ml.one_0 (by omega) (by intro hh; first | omega | (simp_all; done)) (by intro hh; first | omega | (simp_all; done)) (by intro hh; first | omega | (simp_all; done))
                refine OL.nil ?_
                refine r_ret2 Tryz.func89 rfl rfl rfl ?_
                exact Ret.mk ⟨_, _, rfl, (congrArg (Value.int .i32) (by first | (with_reducible exact hone1) | (rw [← hone2]; rfl) | (exfalso; omega))), (congrArg (Value.int .i64) (by first | (with_reducible exact hone1) | (rw [← hone2]; rfl) | (exfalso; omega))), hE3⟩
          | false =>
            replace hb7 := of_decide_eq_false hb7.symm
            refine OL.sk rfl rfl ?_
            refine OL.sk rfl rfl ?_
            refine OL.q (Q1.pick_f rfl rfl) rfl rfl ?_
            refine OL.q (Q1.move rfl) rfl rfl ?_
            refine OL.sk rfl rfl ?_
            refine OL.q (Q1.pick_f rfl rfl) rfl rfl ?_
            refine OL.q (Q1.move rfl) rfl rfl ?_
            refine OL.sk rfl rfl ?_
            refine OL.q (Q1.pick_f rfl rfl) rfl rfl ?_
            refine OL.q (Q1.assign rfl) rfl rfl ?_
            refine OL.nil ?_
            refine r_cond_f rfl ?_
            refine r_seq ?_
            refine r_region ?_
            refine OL.q (Q1.move rfl) rfl rfl ?_
            refine OL.qb (Q1.ge rfl rfl) rfl rfl ?_
            intro b8 hb8
            refine OL.q (Q1.move rfl) rfl rfl ?_
            cases b8 with
            | true =>
              replace hb8 := of_decide_eq_true hb8.symm
              refine OL.q (Q1.move rfl) rfl rfl ?_
              refine OL.qb (Q1.le rfl rfl) rfl rfl ?_
              intro b9 hb9
              refine OL.q (Q1.pick_t rfl rfl) rfl rfl ?_
              refine OL.q (Q1.move rfl) rfl rfl ?_
              cases b9 with
              | true =>
                replace hb9 := of_decide_eq_true hb9.symm
                refine OL.q (Q1.move rfl) rfl rfl ?_
                refine OL.q (Q1.pick_t rfl rfl) rfl rfl ?_
                refine OL.q (Q1.move rfl) rfl rfl ?_
                refine OL.sk rfl rfl ?_
                refine OL.q (Q1.pick_f rfl rfl) rfl rfl ?_
                refine OL.q (Q1.move rfl) rfl rfl ?_
                refine OL.sk rfl rfl ?_
                refine OL.q (Q1.pick_f rfl rfl) rfl rfl ?_
                refine OL.q (Q1.assign rfl) rfl rfl ?_
                refine OL.nil ?_
                refine r_cond_f rfl ?_
                refine r_skip ?_
                refine r_inBlock ?_
                refine r_seq ?_
                refine r_region ?_
                refine OL.q (Q1.assign rfl) rfl rfl ?_
                refine OL.q (Q1.assign rfl) rfl rfl ?_
                obtain ⟨hone1, hone2⟩ := Ml.one_0 (by omega) (by intro hh; first | omega | (simp_all; done)) (by intro hh; first | omega | (simp_all; done)) (by intro hh; first | omega | (simp_all; done))
                refine OL.nil ?_
                refine r_ret2 Tryz.func89 rfl rfl rfl ?_
                exact Ret.mk ⟨_, _, rfl, (congrArg (Value.int .i32) (by first | (with_reducible exact hone1) | (rw [← hone2]; rfl) | (exfalso; omega))), (congrArg (Value.int .i64) (by first | (with_reducible exact hone1) | (rw [← hone2]; rfl) | (exfalso; omega))), hE3⟩
              | false =>
                replace hb9 := of_decide_eq_false hb9.symm
                refine OL.sk rfl rfl ?_
                refine OL.q (Q1.pick_f rfl rfl) rfl rfl ?_
                refine OL.q (Q1.move rfl) rfl rfl ?_
                refine OL.sk rfl rfl ?_
                refine OL.q (Q1.pick_f rfl rfl) rfl rfl ?_
                refine OL.q (Q1.move rfl) rfl rfl ?_
                refine OL.sk rfl rfl ?_
                refine OL.q (Q1.pick_f rfl rfl) rfl rfl ?_
                refine OL.q (Q1.assign rfl) rfl rfl ?_
                refine OL.nil ?_
                refine r_cond_f rfl ?_
                refine r_skip ?_
                refine r_inBlock ?_
                refine r_seq ?_
                refine r_region ?_
                refine OL.q (Q1.assign rfl) rfl rfl ?_
                refine OL.q (Q1.assign rfl) rfl rfl ?_
                obtain ⟨hone1, hone2⟩ := Ml.one_0 (by omega) (by intro hh; first | omega | (simp_all; done)) (by intro hh; first | omega | (simp_all; done)) (by intro hh; first | omega | (simp_all; done))
                refine OL.nil ?_
                refine r_ret2 Tryz.func89 rfl rfl rfl ?_
                exact Ret.mk ⟨_, _, rfl, (congrArg (Value.int .i32) (by first | (with_reducible exact hone1) | (rw [← hone2]; rfl) | (exfalso; omega))), (congrArg (Value.int .i64) (by first | (with_reducible exact hone1) | (rw [← hone2]; rfl) | (exfalso; omega))), hE3⟩
            | false =>
              replace hb8 := of_decide_eq_false hb8.symm
              refine OL.sk rfl rfl ?_
              refine OL.sk rfl rfl ?_
              refine OL.q (Q1.pick_f rfl rfl) rfl rfl ?_
              refine OL.q (Q1.move rfl) rfl rfl ?_
              refine OL.sk rfl rfl ?_
              refine OL.q (Q1.pick_f rfl rfl) rfl rfl ?_
              refine OL.q (Q1.move rfl) rfl rfl ?_
              refine OL.sk rfl rfl ?_
              refine OL.q (Q1.pick_f rfl rfl) rfl rfl ?_
              refine OL.q (Q1.move rfl) rfl rfl ?_
              refine OL.sk rfl rfl ?_
              refine OL.q (Q1.pick_f rfl rfl) rfl rfl ?_
              refine OL.q (Q1.assign rfl) rfl rfl ?_
              refine OL.nil ?_
              refine r_cond_f rfl ?_
              refine r_skip ?_
              refine r_inBlock ?_
              refine r_seq ?_
              refine r_region ?_
              refine OL.q (Q1.assign rfl) rfl rfl ?_
              refine OL.q (Q1.assign rfl) rfl rfl ?_
              obtain ⟨hone1, hone2⟩ := Ml.one_0 (by omega) (by intro hh; first | omega | (simp_all; done)) (by intro hh; first | omega | (simp_all; done)) (by intro hh; first | omega | (simp_all; done))
              refine OL.nil ?_
              refine r_ret2 Tryz.func89 rfl rfl rfl ?_
              exact Ret.mk ⟨_, _, rfl, (congrArg (Value.int .i32) (by first | (with_reducible exact hone1) | (rw [← hone2]; rfl) | (exfalso; omega))), (congrArg (Value.int .i64) (by first | (with_reducible exact hone1) | (rw [← hone2]; rfl) | (exfalso; omega))), hE3⟩
      | false =>
        replace hb6 := of_decide_eq_false hb6.symm
        refine OL.sk rfl rfl ?_
        refine OL.q (Q1.pick_f rfl rfl) rfl rfl ?_
        refine OL.q (Q1.assign rfl) rfl rfl ?_
        refine OL.nil ?_
        refine r_cond_f rfl ?_
        refine r_seq ?_
        refine r_region ?_
        refine OL.q (Q1.move rfl) rfl rfl ?_
        refine OL.qb (Q1.ge rfl rfl) rfl rfl ?_
        intro b7 hb7
        refine OL.q (Q1.move rfl) rfl rfl ?_
        cases b7 with
        | true =>
          replace hb7 := of_decide_eq_true hb7.symm
          refine OL.q (Q1.move rfl) rfl rfl ?_
          refine OL.qb (Q1.le rfl rfl) rfl rfl ?_
          intro b8 hb8
          refine OL.q (Q1.pick_t rfl rfl) rfl rfl ?_
          refine OL.q (Q1.move rfl) rfl rfl ?_
          cases b8 with
          | true =>
            replace hb8 := of_decide_eq_true hb8.symm
            refine OL.q (Q1.move rfl) rfl rfl ?_
            refine OL.q (Q1.pick_t rfl rfl) rfl rfl ?_
            refine OL.q (Q1.move rfl) rfl rfl ?_
            cases b1 with
            | true =>
              replace hb1 := hb1.symm
              refine OL.q (Q1.move rfl) rfl rfl ?_
              refine OL.q (Q1.pick_t rfl rfl) rfl rfl ?_
              refine OL.q (Q1.assign rfl) rfl rfl ?_
              refine OL.nil ?_
              cases b2 with
              | true =>
                replace hb2 := hb2.symm
                refine r_cond_t rfl ?_
                refine r_seq ?_
                refine r_region ?_
                refine OL.q (Q1.move rfl) rfl rfl ?_
                refine OL.q (Q1.sub32 ((((byteAt s i : Nat) : Int) - 224)) rfl rfl (by omega)) rfl rfl ?_
                refine OL.q (Q1.mul32 (((((byteAt s i : Nat) : Int) - 224) * 4096)) rfl rfl (by omega)) rfl rfl ?_
                refine OL.q (Q1.move rfl) rfl rfl ?_
                refine OL.q (Q1.mul32 (((Ml.moreV s (i + 1)) * 64)) rfl rfl (by omega)) rfl rfl ?_
                refine OL.q (Q1.add32 ((((((byteAt s i : Nat) : Int) - 224) * 4096) + (((Ml.moreV s (i + 1)) * 64)))) rfl rfl (by omega)) rfl rfl ?_
                refine OL.q (Q1.move rfl) rfl rfl ?_
                refine OL.q (Q1.add32 (((((((byteAt s i : Nat) : Int) - 224) * 4096) + (((Ml.moreV s (i + 1)) * 64))) + ((Ml.moreV s (i + 2))))) rfl rfl (by omega)) rfl rfl ?_
                refine OL.q (Q1.assign rfl) rfl rfl ?_
                refine OL.q (Q1.assign rfl) rfl rfl ?_
                obtain ⟨hone1, hone2⟩ := Ml.one_3 (by omega) (by intro hh; first | omega | (simp_all; done)) ⟨by omega, by omega, by assumption, by assumption⟩
                refine OL.nil ?_
                refine r_ret2 Tryz.func89 rfl rfl rfl ?_
                exact Ret.mk ⟨_, _, rfl, (congrArg (Value.int .i32) (by first | (with_reducible exact hone1) | (rw [← hone2]; rfl) | (exfalso; omega))), (congrArg (Value.int .i64) (by first | (with_reducible exact hone1) | (rw [← hone2]; rfl) | (exfalso; omega))), hE3⟩
              | false =>
                replace hb2 := hb2.symm
                refine r_cond_f rfl ?_
                refine r_seq ?_
                refine r_region ?_
                refine OL.q (Q1.move rfl) rfl rfl ?_
                refine OL.qb (Q1.ge rfl rfl) rfl rfl ?_
                intro b9 hb9
                refine OL.q (Q1.move rfl) rfl rfl ?_
                cases b9 with
                | true =>
                  replace hb9 := of_decide_eq_true hb9.symm
                  refine OL.q (Q1.move rfl) rfl rfl ?_
                  refine OL.qb (Q1.le rfl rfl) rfl rfl ?_
                  intro b10 hb10
                  refine OL.q (Q1.pick_t rfl rfl) rfl rfl ?_
                  refine OL.q (Q1.move rfl) rfl rfl ?_
                  cases b10 with
                  | true =>
                    replace hb10 := of_decide_eq_true hb10.symm
                    refine OL.q (Q1.move rfl) rfl rfl ?_
                    refine OL.q (Q1.pick_t rfl rfl) rfl rfl ?_
                    refine OL.q (Q1.move rfl) rfl rfl ?_
                    refine OL.q (Q1.move rfl) rfl rfl ?_
                    refine OL.q (Q1.pick_t rfl rfl) rfl rfl ?_
                    refine OL.q (Q1.move rfl) rfl rfl ?_
                    refine OL.sk rfl rfl ?_
                    refine OL.q (Q1.pick_f rfl rfl) rfl rfl ?_
                    refine OL.q (Q1.assign rfl) rfl rfl ?_
                    refine OL.nil ?_
                    refine r_cond_f rfl ?_
                    refine r_skip ?_
                    refine r_inBlock ?_
                    refine r_seq ?_
                    refine r_region ?_
                    refine OL.q (Q1.assign rfl) rfl rfl ?_
                    refine OL.q (Q1.assign rfl) rfl rfl ?_
                    obtain ⟨hone1, hone2⟩ := Ml.one_0 (by omega) (by intro hh; first | omega | (simp_all; done)) (by intro hh; first | omega | (simp_all; done)) (by intro hh; first | omega | (simp_all; done))
                    refine OL.nil ?_
                    refine r_ret2 Tryz.func89 rfl rfl rfl ?_
                    exact Ret.mk ⟨_, _, rfl, (congrArg (Value.int .i32) (by first | (with_reducible exact hone1) | (rw [← hone2]; rfl) | (exfalso; omega))), (congrArg (Value.int .i64) (by first | (with_reducible exact hone1) | (rw [← hone2]; rfl) | (exfalso; omega))), hE3⟩
                  | false =>
                    replace hb10 := of_decide_eq_false hb10.symm
                    refine OL.sk rfl rfl ?_
                    refine OL.q (Q1.pick_f rfl rfl) rfl rfl ?_
                    refine OL.q (Q1.move rfl) rfl rfl ?_
                    refine OL.sk rfl rfl ?_
                    refine OL.q (Q1.pick_f rfl rfl) rfl rfl ?_
                    refine OL.q (Q1.move rfl) rfl rfl ?_
                    refine OL.sk rfl rfl ?_
                    refine OL.q (Q1.pick_f rfl rfl) rfl rfl ?_
                    refine OL.q (Q1.assign rfl) rfl rfl ?_
                    refine OL.nil ?_
                    refine r_cond_f rfl ?_
                    refine r_skip ?_
                    refine r_inBlock ?_
                    refine r_seq ?_
                    refine r_region ?_
                    refine OL.q (Q1.assign rfl) rfl rfl ?_
                    refine OL.q (Q1.assign rfl) rfl rfl ?_
                    obtain ⟨hone1, hone2⟩ := Ml.one_0 (by omega) (by intro hh; first | omega | (simp_all; done)) (by intro hh; first | omega | (simp_all; done)) (by intro hh; first | omega | (simp_all; done))
                    refine OL.nil ?_
                    refine r_ret2 Tryz.func89 rfl rfl rfl ?_
                    exact Ret.mk ⟨_, _, rfl, (congrArg (Value.int .i32) (by first | (with_reducible exact hone1) | (rw [← hone2]; rfl) | (exfalso; omega))), (congrArg (Value.int .i64) (by first | (with_reducible exact hone1) | (rw [← hone2]; rfl) | (exfalso; omega))), hE3⟩
                | false =>
                  replace hb9 := of_decide_eq_false hb9.symm
                  refine OL.sk rfl rfl ?_
                  refine OL.sk rfl rfl ?_
                  refine OL.q (Q1.pick_f rfl rfl) rfl rfl ?_
                  refine OL.q (Q1.move rfl) rfl rfl ?_
                  refine OL.sk rfl rfl ?_
                  refine OL.q (Q1.pick_f rfl rfl) rfl rfl ?_
                  refine OL.q (Q1.move rfl) rfl rfl ?_
                  refine OL.sk rfl rfl ?_
                  refine OL.q (Q1.pick_f rfl rfl) rfl rfl ?_
                  refine OL.q (Q1.move rfl) rfl rfl ?_
                  refine OL.sk rfl rfl ?_
                  refine OL.q (Q1.pick_f rfl rfl) rfl rfl ?_
                  refine OL.q (Q1.assign rfl) rfl rfl ?_
                  refine OL.nil ?_
                  refine r_cond_f rfl ?_
                  refine r_skip ?_
                  refine r_inBlock ?_
                  refine r_seq ?_
                  refine r_region ?_
                  refine OL.q (Q1.assign rfl) rfl rfl ?_
                  refine OL.q (Q1.assign rfl) rfl rfl ?_
                  obtain ⟨hone1, hone2⟩ := Ml.one_0 (by omega) (by intro hh; first | omega | (simp_all; done)) (by intro hh; first | omega | (simp_all; done)) (by intro hh; first | omega | (simp_all; done))
                  refine OL.nil ?_
                  refine r_ret2 Tryz.func89 rfl rfl rfl ?_
                  exact Ret.mk ⟨_, _, rfl, (congrArg (Value.int .i32) (by first | (with_reducible exact hone1) | (rw [← hone2]; rfl) | (exfalso; omega))), (congrArg (Value.int .i64) (by first | (with_reducible exact hone1) | (rw [← hone2]; rfl) | (exfalso; omega))), hE3⟩
            | false =>
              replace hb1 := hb1.symm
              refine OL.sk rfl rfl ?_
              refine OL.q (Q1.pick_f rfl rfl) rfl rfl ?_
              refine OL.q (Q1.assign rfl) rfl rfl ?_
              refine OL.nil ?_
              refine r_cond_f rfl ?_
              refine r_seq ?_
              refine r_region ?_
              refine OL.q (Q1.move rfl) rfl rfl ?_
              refine OL.qb (Q1.ge rfl rfl) rfl rfl ?_
              intro b9 hb9
              refine OL.q (Q1.move rfl) rfl rfl ?_
              cases b9 with
              | true =>
                replace hb9 := of_decide_eq_true hb9.symm
                refine OL.q (Q1.move rfl) rfl rfl ?_
                refine OL.qb (Q1.le rfl rfl) rfl rfl ?_
                intro b10 hb10
                refine OL.q (Q1.pick_t rfl rfl) rfl rfl ?_
                refine OL.q (Q1.move rfl) rfl rfl ?_
                cases b10 with
                | true =>
                  replace hb10 := of_decide_eq_true hb10.symm
                  refine OL.q (Q1.move rfl) rfl rfl ?_
                  refine OL.q (Q1.pick_t rfl rfl) rfl rfl ?_
                  refine OL.q (Q1.move rfl) rfl rfl ?_
                  refine OL.sk rfl rfl ?_
                  refine OL.q (Q1.pick_f rfl rfl) rfl rfl ?_
                  refine OL.q (Q1.move rfl) rfl rfl ?_
                  refine OL.sk rfl rfl ?_
                  refine OL.q (Q1.pick_f rfl rfl) rfl rfl ?_
                  refine OL.q (Q1.assign rfl) rfl rfl ?_
                  refine OL.nil ?_
                  refine r_cond_f rfl ?_
                  refine r_skip ?_
                  refine r_inBlock ?_
                  refine r_seq ?_
                  refine r_region ?_
                  refine OL.q (Q1.assign rfl) rfl rfl ?_
                  refine OL.q (Q1.assign rfl) rfl rfl ?_
                  obtain ⟨hone1, hone2⟩ := Ml.one_0 (by omega) (by intro hh; first | omega | (simp_all; done)) (by intro hh; first | omega | (simp_all; done)) (by intro hh; first | omega | (simp_all; done))
                  refine OL.nil ?_
                  refine r_ret2 Tryz.func89 rfl rfl rfl ?_
                  exact Ret.mk ⟨_, _, rfl, (congrArg (Value.int .i32) (by first | (with_reducible exact hone1) | (rw [← hone2]; rfl) | (exfalso; omega))), (congrArg (Value.int .i64) (by first | (with_reducible exact hone1) | (rw [← hone2]; rfl) | (exfalso; omega))), hE3⟩
                | false =>
                  replace hb10 := of_decide_eq_false hb10.symm
                  refine OL.sk rfl rfl ?_
                  refine OL.q (Q1.pick_f rfl rfl) rfl rfl ?_
                  refine OL.q (Q1.move rfl) rfl rfl ?_
                  refine OL.sk rfl rfl ?_
                  refine OL.q (Q1.pick_f rfl rfl) rfl rfl ?_
                  refine OL.q (Q1.move rfl) rfl rfl ?_
                  refine OL.sk rfl rfl ?_
                  refine OL.q (Q1.pick_f rfl rfl) rfl rfl ?_
                  refine OL.q (Q1.assign rfl) rfl rfl ?_
                  refine OL.nil ?_
                  refine r_cond_f rfl ?_
                  refine r_skip ?_
                  refine r_inBlock ?_
                  refine r_seq ?_
                  refine r_region ?_
                  refine OL.q (Q1.assign rfl) rfl rfl ?_
                  refine OL.q (Q1.assign rfl) rfl rfl ?_
                  obtain ⟨hone1, hone2⟩ := Ml.one_0 (by omega) (by intro hh; first | omega | (simp_all; done)) (by intro hh; first | omega | (simp_all; done)) (by intro hh; first | omega | (simp_all; done))
                  refine OL.nil ?_
                  refine r_ret2 Tryz.func89 rfl rfl rfl ?_
                  exact Ret.mk ⟨_, _, rfl, (congrArg (Value.int .i32) (by first | (with_reducible exact hone1) | (rw [← hone2]; rfl) | (exfalso; omega))), (congrArg (Value.int .i64) (by first | (with_reducible exact hone1) | (rw [← hone2]; rfl) | (exfalso; omega))), hE3⟩
              | false =>
                replace hb9 := of_decide_eq_false hb9.symm
                refine OL.sk rfl rfl ?_
                refine OL.sk rfl rfl ?_
                refine OL.q (Q1.pick_f rfl rfl) rfl rfl ?_
                refine OL.q (Q1.move rfl) rfl rfl ?_
                refine OL.sk rfl rfl ?_
                refine OL.q (Q1.pick_f rfl rfl) rfl rfl ?_
                refine OL.q (Q1.move rfl) rfl rfl ?_
                refine OL.sk rfl rfl ?_
                refine OL.q (Q1.pick_f rfl rfl) rfl rfl ?_
                refine OL.q (Q1.move rfl) rfl rfl ?_
                refine OL.sk rfl rfl ?_
                refine OL.q (Q1.pick_f rfl rfl) rfl rfl ?_
                refine OL.q (Q1.assign rfl) rfl rfl ?_
                refine OL.nil ?_
                refine r_cond_f rfl ?_
                refine r_skip ?_
                refine r_inBlock ?_
                refine r_seq ?_
                refine r_region ?_
                refine OL.q (Q1.assign rfl) rfl rfl ?_
                refine OL.q (Q1.assign rfl) rfl rfl ?_
                obtain ⟨hone1, hone2⟩ := Ml.one_0 (by omega) (by intro hh; first | omega | (simp_all; done)) (by intro hh; first | omega | (simp_all; done)) (by intro hh; first | omega | (simp_all; done))
                refine OL.nil ?_
                refine r_ret2 Tryz.func89 rfl rfl rfl ?_
                exact Ret.mk ⟨_, _, rfl, (congrArg (Value.int .i32) (by first | (with_reducible exact hone1) | (rw [← hone2]; rfl) | (exfalso; omega))), (congrArg (Value.int .i64) (by first | (with_reducible exact hone1) | (rw [← hone2]; rfl) | (exfalso; omega))), hE3⟩
          | false =>
            replace hb8 := of_decide_eq_false hb8.symm
            refine OL.sk rfl rfl ?_
            refine OL.q (Q1.pick_f rfl rfl) rfl rfl ?_
            refine OL.q (Q1.move rfl) rfl rfl ?_
            refine OL.sk rfl rfl ?_
            refine OL.q (Q1.pick_f rfl rfl) rfl rfl ?_
            refine OL.q (Q1.assign rfl) rfl rfl ?_
            refine OL.nil ?_
            refine r_cond_f rfl ?_
            refine r_seq ?_
            refine r_region ?_
            refine OL.q (Q1.move rfl) rfl rfl ?_
            refine OL.qb (Q1.ge rfl rfl) rfl rfl ?_
            intro b9 hb9
            refine OL.q (Q1.move rfl) rfl rfl ?_
            cases b9 with
            | true =>
              replace hb9 := of_decide_eq_true hb9.symm
              refine OL.q (Q1.move rfl) rfl rfl ?_
              refine OL.qb (Q1.le rfl rfl) rfl rfl ?_
              intro b10 hb10
              refine OL.q (Q1.pick_t rfl rfl) rfl rfl ?_
              refine OL.q (Q1.move rfl) rfl rfl ?_
              cases b10 with
              | true =>
                replace hb10 := of_decide_eq_true hb10.symm
                refine OL.q (Q1.move rfl) rfl rfl ?_
                refine OL.q (Q1.pick_t rfl rfl) rfl rfl ?_
                refine OL.q (Q1.move rfl) rfl rfl ?_
                cases b1 with
                | true =>
                  replace hb1 := hb1.symm
                  refine OL.q (Q1.move rfl) rfl rfl ?_
                  refine OL.q (Q1.pick_t rfl rfl) rfl rfl ?_
                  refine OL.q (Q1.move rfl) rfl rfl ?_
                  cases b2 with
                  | true =>
                    replace hb2 := hb2.symm
                    refine OL.q (Q1.move rfl) rfl rfl ?_
                    refine OL.q (Q1.pick_t rfl rfl) rfl rfl ?_
                    refine OL.q (Q1.assign rfl) rfl rfl ?_
                    refine OL.nil ?_
                    cases b3 with
                    | true =>
                      replace hb3 := hb3.symm
                      refine r_cond_t rfl ?_
                      refine r_seq ?_
                      refine r_region ?_
                      refine OL.q (Q1.move rfl) rfl rfl ?_
                      refine OL.q (Q1.sub32 ((((byteAt s i : Nat) : Int) - 240)) rfl rfl (by omega)) rfl rfl ?_
                      refine OL.q (Q1.mul32 (((((byteAt s i : Nat) : Int) - 240) * 262144)) rfl rfl (by omega)) rfl rfl ?_
                      refine OL.q (Q1.move rfl) rfl rfl ?_
                      refine OL.q (Q1.mul32 (((Ml.moreV s (i + 1)) * 4096)) rfl rfl (by omega)) rfl rfl ?_
                      refine OL.q (Q1.add32 ((((((byteAt s i : Nat) : Int) - 240) * 262144) + (((Ml.moreV s (i + 1)) * 4096)))) rfl rfl (by omega)) rfl rfl ?_
                      refine OL.q (Q1.move rfl) rfl rfl ?_
                      refine OL.q (Q1.mul32 (((Ml.moreV s (i + 2)) * 64)) rfl rfl (by omega)) rfl rfl ?_
                      refine OL.q (Q1.add32 (((((((byteAt s i : Nat) : Int) - 240) * 262144) + (((Ml.moreV s (i + 1)) * 4096))) + (((Ml.moreV s (i + 2)) * 64)))) rfl rfl (by omega)) rfl rfl ?_
                      refine OL.q (Q1.move rfl) rfl rfl ?_
                      refine OL.q (Q1.add32 ((((((((byteAt s i : Nat) : Int) - 240) * 262144) + (((Ml.moreV s (i + 1)) * 4096))) + (((Ml.moreV s (i + 2)) * 64))) + ((Ml.moreV s (i + 3))))) rfl rfl (by omega)) rfl rfl ?_
                      refine OL.q (Q1.assign rfl) rfl rfl ?_
                      refine OL.q (Q1.assign rfl) rfl rfl ?_
                      obtain ⟨hone1, hone2⟩ := Ml.one_4 (by omega) (by intro hh; first | omega | (simp_all; done)) (by intro hh; first | omega | (simp_all; done)) ⟨by omega, by omega, by assumption, by assumption, by assumption⟩
                      refine OL.nil ?_
                      refine r_ret2 Tryz.func89 rfl rfl rfl ?_
                      exact Ret.mk ⟨_, _, rfl, (congrArg (Value.int .i32) (by first | (with_reducible exact hone1) | (rw [← hone2]; rfl) | (exfalso; omega))), (congrArg (Value.int .i64) (by first | (with_reducible exact hone1) | (rw [← hone2]; rfl) | (exfalso; omega))), hE3⟩
                    | false =>
                      replace hb3 := hb3.symm
                      refine r_cond_f rfl ?_
                      refine r_skip ?_
                      refine r_inBlock ?_
                      refine r_seq ?_
                      refine r_region ?_
                      refine OL.q (Q1.assign rfl) rfl rfl ?_
                      refine OL.q (Q1.assign rfl) rfl rfl ?_
                      obtain ⟨hone1, hone2⟩ := Ml.one_0 (by omega) (by intro hh; first | omega | (simp_all; done)) (by intro hh; first | omega | (simp_all; done)) (by intro hh; first | omega | (simp_all; done))
                      refine OL.nil ?_
                      refine r_ret2 Tryz.func89 rfl rfl rfl ?_
                      exact Ret.mk ⟨_, _, rfl, (congrArg (Value.int .i32) (by first | (with_reducible exact hone1) | (rw [← hone2]; rfl) | (exfalso; omega))), (congrArg (Value.int .i64) (by first | (with_reducible exact hone1) | (rw [← hone2]; rfl) | (exfalso; omega))), hE3⟩
                  | false =>
                    replace hb2 := hb2.symm
                    refine OL.sk rfl rfl ?_
                    refine OL.q (Q1.pick_f rfl rfl) rfl rfl ?_
                    refine OL.q (Q1.assign rfl) rfl rfl ?_
                    refine OL.nil ?_
                    refine r_cond_f rfl ?_
                    refine r_skip ?_
                    refine r_inBlock ?_
                    refine r_seq ?_
                    refine r_region ?_
                    refine OL.q (Q1.assign rfl) rfl rfl ?_
                    refine OL.q (Q1.assign rfl) rfl rfl ?_
                    obtain ⟨hone1, hone2⟩ := Ml.one_0 (by omega) (by intro hh; first | omega | (simp_all; done)) (by intro hh; first | omega | (simp_all; done)) (by intro hh; first | omega | (simp_all; done))
                    refine OL.nil ?_
                    refine r_ret2 Tryz.func89 rfl rfl rfl ?_
                    exact Ret.mk ⟨_, _, rfl, (congrArg (Value.int .i32) (by first | (with_reducible exact hone1) | (rw [← hone2]; rfl) | (exfalso; omega))), (congrArg (Value.int .i64) (by first | (with_reducible exact hone1) | (rw [← hone2]; rfl) | (exfalso; omega))), hE3⟩
                | false =>
                  replace hb1 := hb1.symm
                  refine OL.sk rfl rfl ?_
                  refine OL.q (Q1.pick_f rfl rfl) rfl rfl ?_
                  refine OL.q (Q1.move rfl) rfl rfl ?_
                  refine OL.sk rfl rfl ?_
                  refine OL.q (Q1.pick_f rfl rfl) rfl rfl ?_
                  refine OL.q (Q1.assign rfl) rfl rfl ?_
                  refine OL.nil ?_
                  refine r_cond_f rfl ?_
                  refine r_skip ?_
                  refine r_inBlock ?_
                  refine r_seq ?_
                  refine r_region ?_
                  refine OL.q (Q1.assign rfl) rfl rfl ?_
                  refine OL.q (Q1.assign rfl) rfl rfl ?_
                  obtain ⟨hone1, hone2⟩ := Ml.one_0 (by omega) (by intro hh; first | omega | (simp_all; done)) (by intro hh; first | omega | (simp_all; done)) (by intro hh; first | omega | (simp_all; done))
                  refine OL.nil ?_
                  refine r_ret2 Tryz.func89 rfl rfl rfl ?_
                  exact Ret.mk ⟨_, _, rfl, (congrArg (Value.int .i32) (by first | (with_reducible exact hone1) | (rw [← hone2]; rfl) | (exfalso; omega))), (congrArg (Value.int .i64) (by first | (with_reducible exact hone1) | (rw [← hone2]; rfl) | (exfalso; omega))), hE3⟩
              | false =>
                replace hb10 := of_decide_eq_false hb10.symm
                refine OL.sk rfl rfl ?_
                refine OL.q (Q1.pick_f rfl rfl) rfl rfl ?_
                refine OL.q (Q1.move rfl) rfl rfl ?_
                refine OL.sk rfl rfl ?_
                refine OL.q (Q1.pick_f rfl rfl) rfl rfl ?_
                refine OL.q (Q1.move rfl) rfl rfl ?_
                refine OL.sk rfl rfl ?_
                refine OL.q (Q1.pick_f rfl rfl) rfl rfl ?_
                refine OL.q (Q1.assign rfl) rfl rfl ?_
                refine OL.nil ?_
                refine r_cond_f rfl ?_
                refine r_skip ?_
                refine r_inBlock ?_
                refine r_seq ?_
                refine r_region ?_
                refine OL.q (Q1.assign rfl) rfl rfl ?_
                refine OL.q (Q1.assign rfl) rfl rfl ?_
                obtain ⟨hone1, hone2⟩ := Ml.one_0 (by omega) (by intro hh; first | omega | (simp_all; done)) (by intro hh; first | omega | (simp_all; done)) (by intro hh; first | omega | (simp_all; done))
                refine OL.nil ?_
                refine r_ret2 Tryz.func89 rfl rfl rfl ?_
                exact Ret.mk ⟨_, _, rfl, (congrArg (Value.int .i32) (by first | (with_reducible exact hone1) | (rw [← hone2]; rfl) | (exfalso; omega))), (congrArg (Value.int .i64) (by first | (with_reducible exact hone1) | (rw [← hone2]; rfl) | (exfalso; omega))), hE3⟩
            | false =>
              replace hb9 := of_decide_eq_false hb9.symm
              refine OL.sk rfl rfl ?_
              refine OL.sk rfl rfl ?_
              refine OL.q (Q1.pick_f rfl rfl) rfl rfl ?_
              refine OL.q (Q1.move rfl) rfl rfl ?_
              refine OL.sk rfl rfl ?_
              refine OL.q (Q1.pick_f rfl rfl) rfl rfl ?_
              refine OL.q (Q1.move rfl) rfl rfl ?_
              refine OL.sk rfl rfl ?_
              refine OL.q (Q1.pick_f rfl rfl) rfl rfl ?_
              refine OL.q (Q1.move rfl) rfl rfl ?_
              refine OL.sk rfl rfl ?_
              refine OL.q (Q1.pick_f rfl rfl) rfl rfl ?_
              refine OL.q (Q1.assign rfl) rfl rfl ?_
              refine OL.nil ?_
              refine r_cond_f rfl ?_
              refine r_skip ?_
              refine r_inBlock ?_
              refine r_seq ?_
              refine r_region ?_
              refine OL.q (Q1.assign rfl) rfl rfl ?_
              refine OL.q (Q1.assign rfl) rfl rfl ?_
              obtain ⟨hone1, hone2⟩ := Ml.one_0 (by omega) (by intro hh; first | omega | (simp_all; done)) (by intro hh; first | omega | (simp_all; done)) (by intro hh; first | omega | (simp_all; done))
              refine OL.nil ?_
              refine r_ret2 Tryz.func89 rfl rfl rfl ?_
              exact Ret.mk ⟨_, _, rfl, (congrArg (Value.int .i32) (by first | (with_reducible exact hone1) | (rw [← hone2]; rfl) | (exfalso; omega))), (congrArg (Value.int .i64) (by first | (with_reducible exact hone1) | (rw [← hone2]; rfl) | (exfalso; omega))), hE3⟩
        | false =>
          replace hb7 := of_decide_eq_false hb7.symm
          refine OL.sk rfl rfl ?_
          refine OL.sk rfl rfl ?_
          refine OL.q (Q1.pick_f rfl rfl) rfl rfl ?_
          refine OL.q (Q1.move rfl) rfl rfl ?_
          refine OL.sk rfl rfl ?_
          refine OL.q (Q1.pick_f rfl rfl) rfl rfl ?_
          refine OL.q (Q1.move rfl) rfl rfl ?_
          refine OL.sk rfl rfl ?_
          refine OL.q (Q1.pick_f rfl rfl) rfl rfl ?_
          refine OL.q (Q1.assign rfl) rfl rfl ?_
          refine OL.nil ?_
          refine r_cond_f rfl ?_
          refine r_seq ?_
          refine r_region ?_
          refine OL.q (Q1.move rfl) rfl rfl ?_
          refine OL.qb (Q1.ge rfl rfl) rfl rfl ?_
          intro b8 hb8
          refine OL.q (Q1.move rfl) rfl rfl ?_
          cases b8 with
          | true =>
            replace hb8 := of_decide_eq_true hb8.symm
            refine OL.q (Q1.move rfl) rfl rfl ?_
            refine OL.qb (Q1.le rfl rfl) rfl rfl ?_
            intro b9 hb9
            refine OL.q (Q1.pick_t rfl rfl) rfl rfl ?_
            refine OL.q (Q1.move rfl) rfl rfl ?_
            cases b9 with
            | true =>
              replace hb9 := of_decide_eq_true hb9.symm
              refine OL.q (Q1.move rfl) rfl rfl ?_
              refine OL.q (Q1.pick_t rfl rfl) rfl rfl ?_
              refine OL.q (Q1.move rfl) rfl rfl ?_
              cases b1 with
              | true =>
                replace hb1 := hb1.symm
                refine OL.q (Q1.move rfl) rfl rfl ?_
                refine OL.q (Q1.pick_t rfl rfl) rfl rfl ?_
                refine OL.q (Q1.move rfl) rfl rfl ?_
                cases b2 with
                | true =>
                  replace hb2 := hb2.symm
                  refine OL.q (Q1.move rfl) rfl rfl ?_
                  refine OL.q (Q1.pick_t rfl rfl) rfl rfl ?_
                  refine OL.q (Q1.assign rfl) rfl rfl ?_
                  refine OL.nil ?_
                  cases b3 with
                  | true =>
                    replace hb3 := hb3.symm
                    refine r_cond_t rfl ?_
                    refine r_seq ?_
                    refine r_region ?_
                    refine OL.q (Q1.move rfl) rfl rfl ?_
                    refine OL.q (Q1.sub32 ((((byteAt s i : Nat) : Int) - 240)) rfl rfl (by omega)) rfl rfl ?_
                    refine OL.q (Q1.mul32 (((((byteAt s i : Nat) : Int) - 240) * 262144)) rfl rfl (by omega)) rfl rfl ?_
                    refine OL.q (Q1.move rfl) rfl rfl ?_
                    refine OL.q (Q1.mul32 (((Ml.moreV s (i + 1)) * 4096)) rfl rfl (by omega)) rfl rfl ?_
                    refine OL.q (Q1.add32 ((((((byteAt s i : Nat) : Int) - 240) * 262144) + (((Ml.moreV s (i + 1)) * 4096)))) rfl rfl (by omega)) rfl rfl ?_
                    refine OL.q (Q1.move rfl) rfl rfl ?_
                    refine OL.q (Q1.mul32 (((Ml.moreV s (i + 2)) * 64)) rfl rfl (by omega)) rfl rfl ?_
                    refine OL.q (Q1.add32 (((((((byteAt s i : Nat) : Int) - 240) * 262144) + (((Ml.moreV s (i + 1)) * 4096))) + (((Ml.moreV s (i + 2)) * 64)))) rfl rfl (by omega)) rfl rfl ?_
                    refine OL.q (Q1.move rfl) rfl rfl ?_
                    refine OL.q (Q1.add32 ((((((((byteAt s i : Nat) : Int) - 240) * 262144) + (((Ml.moreV s (i + 1)) * 4096))) + (((Ml.moreV s (i + 2)) * 64))) + ((Ml.moreV s (i + 3))))) rfl rfl (by omega)) rfl rfl ?_
                    refine OL.q (Q1.assign rfl) rfl rfl ?_
                    refine OL.q (Q1.assign rfl) rfl rfl ?_
                    obtain ⟨hone1, hone2⟩ := Ml.one_4 (by omega) (by intro hh; first | omega | (simp_all; done)) (by intro hh; first | omega | (simp_all; done)) ⟨by omega, by omega, by assumption, by assumption, by assumption⟩
                    refine OL.nil ?_
                    refine r_ret2 Tryz.func89 rfl rfl rfl ?_
                    exact Ret.mk ⟨_, _, rfl, (congrArg (Value.int .i32) (by first | (with_reducible exact hone1) | (rw [← hone2]; rfl) | (exfalso; omega))), (congrArg (Value.int .i64) (by first | (with_reducible exact hone1) | (rw [← hone2]; rfl) | (exfalso; omega))), hE3⟩
                  | false =>
                    replace hb3 := hb3.symm
                    refine r_cond_f rfl ?_
                    refine r_skip ?_
                    refine r_inBlock ?_
                    refine r_seq ?_
                    refine r_region ?_
                    refine OL.q (Q1.assign rfl) rfl rfl ?_
                    refine OL.q (Q1.assign rfl) rfl rfl ?_
                    obtain ⟨hone1, hone2⟩ := Ml.one_0 (by omega) (by intro hh; first | omega | (simp_all; done)) (by intro hh; first | omega | (simp_all; done)) (by intro hh; first | omega | (simp_all; done))
                    refine OL.nil ?_
                    refine r_ret2 Tryz.func89 rfl rfl rfl ?_
                    exact Ret.mk ⟨_, _, rfl, (congrArg (Value.int .i32) (by first | (with_reducible exact hone1) | (rw [← hone2]; rfl) | (exfalso; omega))), (congrArg (Value.int .i64) (by first | (with_reducible exact hone1) | (rw [← hone2]; rfl) | (exfalso; omega))), hE3⟩
                | false =>
                  replace hb2 := hb2.symm
                  refine OL.sk rfl rfl ?_
                  refine OL.q (Q1.pick_f rfl rfl) rfl rfl ?_
                  refine OL.q (Q1.assign rfl) rfl rfl ?_
                  refine OL.nil ?_
                  refine r_cond_f rfl ?_
                  refine r_skip ?_
                  refine r_inBlock ?_
                  refine r_seq ?_
                  refine r_region ?_
                  refine OL.q (Q1.assign rfl) rfl rfl ?_
                  refine OL.q (Q1.assign rfl) rfl rfl ?_
                  obtain ⟨hone1, hone2⟩ := Ml.one_0 (by omega) (by intro hh; first | omega | (simp_all; done)) (by intro hh; first | omega | (simp_all; done)) (by intro hh; first | omega | (simp_all; done))
                  refine OL.nil ?_
                  refine r_ret2 Tryz.func89 rfl rfl rfl ?_
                  exact Ret.mk ⟨_, _, rfl, (congrArg (Value.int .i32) (by first | (with_reducible exact hone1) | (rw [← hone2]; rfl) | (exfalso; omega))), (congrArg (Value.int .i64) (by first | (with_reducible exact hone1) | (rw [← hone2]; rfl) | (exfalso; omega))), hE3⟩
              | false =>
                replace hb1 := hb1.symm
                refine OL.sk rfl rfl ?_
                refine OL.q (Q1.pick_f rfl rfl) rfl rfl ?_
                refine OL.q (Q1.move rfl) rfl rfl ?_
                refine OL.sk rfl rfl ?_
                refine OL.q (Q1.pick_f rfl rfl) rfl rfl ?_
                refine OL.q (Q1.assign rfl) rfl rfl ?_
                refine OL.nil ?_
                refine r_cond_f rfl ?_
                refine r_skip ?_
                refine r_inBlock ?_
                refine r_seq ?_
                refine r_region ?_
                refine OL.q (Q1.assign rfl) rfl rfl ?_
                refine OL.q (Q1.assign rfl) rfl rfl ?_
                obtain ⟨hone1, hone2⟩ := Ml.one_0 (by omega) (by intro hh; first | omega | (simp_all; done)) (by intro hh; first | omega | (simp_all; done)) (by intro hh; first | omega | (simp_all; done))
                refine OL.nil ?_
                refine r_ret2 Tryz.func89 rfl rfl rfl ?_
                exact Ret.mk ⟨_, _, rfl, (congrArg (Value.int .i32) (by first | (with_reducible exact hone1) | (rw [← hone2]; rfl) | (exfalso; omega))), (congrArg (Value.int .i64) (by first | (with_reducible exact hone1) | (rw [← hone2]; rfl) | (exfalso; omega))), hE3⟩
            | false =>
              replace hb9 := of_decide_eq_false hb9.symm
              refine OL.sk rfl rfl ?_
              refine OL.q (Q1.pick_f rfl rfl) rfl rfl ?_
              refine OL.q (Q1.move rfl) rfl rfl ?_
              refine OL.sk rfl rfl ?_
              refine OL.q (Q1.pick_f rfl rfl) rfl rfl ?_
              refine OL.q (Q1.move rfl) rfl rfl ?_
              refine OL.sk rfl rfl ?_
              refine OL.q (Q1.pick_f rfl rfl) rfl rfl ?_
              refine OL.q (Q1.assign rfl) rfl rfl ?_
              refine OL.nil ?_
              refine r_cond_f rfl ?_
              refine r_skip ?_
              refine r_inBlock ?_
              refine r_seq ?_
              refine r_region ?_
              refine OL.q (Q1.assign rfl) rfl rfl ?_
              refine OL.q (Q1.assign rfl) rfl rfl ?_
              obtain ⟨hone1, hone2⟩ := Ml.one_0 (by omega) (by intro hh; first | omega | (simp_all; done)) (by intro hh; first | omega | (simp_all; done)) (by intro hh; first | omega | (simp_all; done))
              refine OL.nil ?_
              refine r_ret2 Tryz.func89 rfl rfl rfl ?_
              exact Ret.mk ⟨_, _, rfl, (congrArg (Value.int .i32) (by first | (with_reducible exact hone1) | (rw [← hone2]; rfl) | (exfalso; omega))), (congrArg (Value.int .i64) (by first | (with_reducible exact hone1) | (rw [← hone2]; rfl) | (exfalso; omega))), hE3⟩
          | false =>
            replace hb8 := of_decide_eq_false hb8.symm
            refine OL.sk rfl rfl ?_
            refine OL.sk rfl rfl ?_
            refine OL.q (Q1.pick_f rfl rfl) rfl rfl ?_
            refine OL.q (Q1.move rfl) rfl rfl ?_
            refine OL.sk rfl rfl ?_
            refine OL.q (Q1.pick_f rfl rfl) rfl rfl ?_
            refine OL.q (Q1.move rfl) rfl rfl ?_
            refine OL.sk rfl rfl ?_
            refine OL.q (Q1.pick_f rfl rfl) rfl rfl ?_
            refine OL.q (Q1.move rfl) rfl rfl ?_
            refine OL.sk rfl rfl ?_
            refine OL.q (Q1.pick_f rfl rfl) rfl rfl ?_
            refine OL.q (Q1.assign rfl) rfl rfl ?_
            refine OL.nil ?_
            refine r_cond_f rfl ?_
            refine r_skip ?_
            refine r_inBlock ?_
            refine r_seq ?_
            refine r_region ?_
            refine OL.q (Q1.assign rfl) rfl rfl ?_
            refine OL.q (Q1.assign rfl) rfl rfl ?_
            obtain ⟨hone1, hone2⟩ := Ml.one_0 (by omega) (by intro hh; first | omega | (simp_all; done)) (by intro hh; first | omega | (simp_all; done)) (by intro hh; first | omega | (simp_all; done))
            refine OL.nil ?_
            refine r_ret2 Tryz.func89 rfl rfl rfl ?_
            exact Ret.mk ⟨_, _, rfl, (congrArg (Value.int .i32) (by first | (with_reducible exact hone1) | (rw [← hone2]; rfl) | (exfalso; omega))), (congrArg (Value.int .i64) (by first | (with_reducible exact hone1) | (rw [← hone2]; rfl) | (exfalso; omega))), hE3⟩
    | false =>
      replace hb5 := of_decide_eq_false hb5.symm
      refine OL.sk rfl rfl ?_
      refine OL.sk rfl rfl ?_
      refine OL.q (Q1.pick_f rfl rfl) rfl rfl ?_
      refine OL.q (Q1.move rfl) rfl rfl ?_
      refine OL.sk rfl rfl ?_
      refine OL.q (Q1.pick_f rfl rfl) rfl rfl ?_
      refine OL.q (Q1.assign rfl) rfl rfl ?_
      refine OL.nil ?_
      refine r_cond_f rfl ?_
      refine r_seq ?_
      refine r_region ?_
      refine OL.q (Q1.move rfl) rfl rfl ?_
      refine OL.qb (Q1.ge rfl rfl) rfl rfl ?_
      intro b6 hb6
      refine OL.q (Q1.move rfl) rfl rfl ?_
      cases b6 with
      | true =>
        replace hb6 := of_decide_eq_true hb6.symm
        refine OL.q (Q1.move rfl) rfl rfl ?_
        refine OL.qb (Q1.le rfl rfl) rfl rfl ?_
        intro b7 hb7
        refine OL.q (Q1.pick_t rfl rfl) rfl rfl ?_
        refine OL.q (Q1.move rfl) rfl rfl ?_
        cases b7 with
        | true =>
          replace hb7 := of_decide_eq_true hb7.symm
          refine OL.q (Q1.move rfl) rfl rfl ?_
          refine OL.q (Q1.pick_t rfl rfl) rfl rfl ?_
          refine OL.q (Q1.move rfl) rfl rfl ?_
          cases b1 with
          | true =>
            replace hb1 := hb1.symm
            refine OL.q (Q1.move rfl) rfl rfl ?_
            refine OL.q (Q1.pick_t rfl rfl) rfl rfl ?_
            refine OL.q (Q1.assign rfl) rfl rfl ?_
            refine OL.nil ?_
            cases b2 with
            | true =>
              replace hb2 := hb2.symm
              refine r_cond_t rfl ?_
              refine r_seq ?_
              refine r_region ?_
              refine OL.q (Q1.move rfl) rfl rfl ?_
              refine OL.q (Q1.sub32 ((((byteAt s i : Nat) : Int) - 224)) rfl rfl (by omega)) rfl rfl ?_
              refine OL.q (Q1.mul32 (((((byteAt s i : Nat) : Int) - 224) * 4096)) rfl rfl (by omega)) rfl rfl ?_
              refine OL.q (Q1.move rfl) rfl rfl ?_
              refine OL.q (Q1.mul32 (((Ml.moreV s (i + 1)) * 64)) rfl rfl (by omega)) rfl rfl ?_
              refine OL.q (Q1.add32 ((((((byteAt s i : Nat) : Int) - 224) * 4096) + (((Ml.moreV s (i + 1)) * 64)))) rfl rfl (by omega)) rfl rfl ?_
              refine OL.q (Q1.move rfl) rfl rfl ?_
              refine OL.q (Q1.add32 (((((((byteAt s i : Nat) : Int) - 224) * 4096) + (((Ml.moreV s (i + 1)) * 64))) + ((Ml.moreV s (i + 2))))) rfl rfl (by omega)) rfl rfl ?_
              refine OL.q (Q1.assign rfl) rfl rfl ?_
              refine OL.q (Q1.assign rfl) rfl rfl ?_
              obtain ⟨hone1, hone2⟩ := Ml.one_3 (by omega) (by intro hh; first | omega | (simp_all; done)) ⟨by omega, by omega, by assumption, by assumption⟩
              refine OL.nil ?_
              refine r_ret2 Tryz.func89 rfl rfl rfl ?_
              exact Ret.mk ⟨_, _, rfl, (congrArg (Value.int .i32) (by first | (with_reducible exact hone1) | (rw [← hone2]; rfl) | (exfalso; omega))), (congrArg (Value.int .i64) (by first | (with_reducible exact hone1) | (rw [← hone2]; rfl) | (exfalso; omega))), hE3⟩
            | false =>
              replace hb2 := hb2.symm
              refine r_cond_f rfl ?_
              refine r_seq ?_
              refine r_region ?_
              refine OL.q (Q1.move rfl) rfl rfl ?_
              refine OL.qb (Q1.ge rfl rfl) rfl rfl ?_
              intro b8 hb8
              refine OL.q (Q1.move rfl) rfl rfl ?_
              cases b8 with
              | true =>
                replace hb8 := of_decide_eq_true hb8.symm
                refine OL.q (Q1.move rfl) rfl rfl ?_
                refine OL.qb (Q1.le rfl rfl) rfl rfl ?_
                intro b9 hb9
                refine OL.q (Q1.pick_t rfl rfl) rfl rfl ?_
                refine OL.q (Q1.move rfl) rfl rfl ?_
                cases b9 with
                | true =>
                  replace hb9 := of_decide_eq_true hb9.symm
                  refine OL.q (Q1.move rfl) rfl rfl ?_
                  refine OL.q (Q1.pick_t rfl rfl) rfl rfl ?_
                  refine OL.q (Q1.move rfl) rfl rfl ?_
                  refine OL.q (Q1.move rfl) rfl rfl ?_
                  refine OL.q (Q1.pick_t rfl rfl) rfl rfl ?_
                  refine OL.q (Q1.move rfl) rfl rfl ?_
                  refine OL.sk rfl rfl ?_
                  refine OL.q (Q1.pick_f rfl rfl) rfl rfl ?_
                  refine OL.q (Q1.assign rfl) rfl rfl ?_
                  refine OL.nil ?_
                  refine r_cond_f rfl ?_
                  refine r_skip ?_
                  refine r_inBlock ?_
                  refine r_seq ?_
                  refine r_region ?_
                  refine OL.q (Q1.assign rfl) rfl rfl ?_
                  refine OL.q (Q1.assign rfl) rfl rfl ?_
                  obtain ⟨hone1, hone2⟩ := Ml.one_0 (by omega) (by intro hh; first | omega | (simp_all; done)) (by intro hh; first | omega | (simp_all; done)) (by intro hh; first | omega | (simp_all; done))
                  refine OL.nil ?_
                  refine r_ret2 Tryz.func89 rfl rfl rfl ?_
                  exact Ret.mk ⟨_, _, rfl, (congrArg (Value.int .i32) (by first | (with_reducible exact hone1) | (rw [← hone2]; rfl) | (exfalso; omega))), (congrArg (Value.int .i64) (by first | (with_reducible exact hone1) | (rw [← hone2]; rfl) | (exfalso; omega))), hE3⟩
                | false =>
                  replace hb9 := of_decide_eq_false hb9.symm
                  refine OL.sk rfl rfl ?_
                  refine OL.q (Q1.pick_f rfl rfl) rfl rfl ?_
                  refine OL.q (Q1.move rfl) rfl rfl ?_
                  refine OL.sk rfl rfl ?_
                  refine OL.q (Q1.pick_f rfl rfl) rfl rfl ?_
                  refine OL.q (Q1.move rfl) rfl rfl ?_
                  refine OL.sk rfl rfl ?_
                  refine OL.q (Q1.pick_f rfl rfl) rfl rfl ?_
                  refine OL.q (Q1.assign rfl) rfl rfl ?_
                  refine OL.nil ?_
                  refine r_cond_f rfl ?_
                  refine r_skip ?_
                  refine r_inBlock ?_
                  refine r_seq ?_
                  refine r_region ?_
                  refine OL.q (Q1.assign rfl) rfl rfl ?_
                  refine OL.q (Q1.assign rfl) rfl rfl ?_
                  obtain ⟨hone1, hone2⟩ := Ml.one_0 (by omega) (by intro hh; first | omega | (simp_all; done)) (by intro hh; first | omega | (simp_all; done)) (by intro hh; first | omega | (simp_all; done))
                  refine OL.nil ?_
                  refine r_ret2 Tryz.func89 rfl rfl rfl ?_
                  exact Ret.mk ⟨_, _, rfl, (congrArg (Value.int .i32) (by first | (with_reducible exact hone1) | (rw [← hone2]; rfl) | (exfalso; omega))), (congrArg (Value.int .i64) (by first | (with_reducible exact hone1) | (rw [← hone2]; rfl) | (exfalso; omega))), hE3⟩
              | false =>
                replace hb8 := of_decide_eq_false hb8.symm
                refine OL.sk rfl rfl ?_
                refine OL.sk rfl rfl ?_
                refine OL.q (Q1.pick_f rfl rfl) rfl rfl ?_
                refine OL.q (Q1.move rfl) rfl rfl ?_
                refine OL.sk rfl rfl ?_
                refine OL.q (Q1.pick_f rfl rfl) rfl rfl ?_
                refine OL.q (Q1.move rfl) rfl rfl ?_
                refine OL.sk rfl rfl ?_
                refine OL.q (Q1.pick_f rfl rfl) rfl rfl ?_
                refine OL.q (Q1.move rfl) rfl rfl ?_
                refine OL.sk rfl rfl ?_
                refine OL.q (Q1.pick_f rfl rfl) rfl rfl ?_
                refine OL.q (Q1.assign rfl) rfl rfl ?_
                refine OL.nil ?_
                refine r_cond_f rfl ?_
                refine r_skip ?_
                refine r_inBlock ?_
                refine r_seq ?_
                refine r_region ?_
                refine OL.q (Q1.assign rfl) rfl rfl ?_
                refine OL.q (Q1.assign rfl) rfl rfl ?_
                obtain ⟨hone1, hone2⟩ := Ml.one_0 (by omega) (by intro hh; first | omega | (simp_all; done)) (by intro hh; first | omega | (simp_all; done)) (by intro hh; first | omega | (simp_all; done))
                refine OL.nil ?_
                refine r_ret2 Tryz.func89 rfl rfl rfl ?_
                exact Ret.mk ⟨_, _, rfl, (congrArg (Value.int .i32) (by first | (with_reducible exact hone1) | (rw [← hone2]; rfl) | (exfalso; omega))), (congrArg (Value.int .i64) (by first | (with_reducible exact hone1) | (rw [← hone2]; rfl) | (exfalso; omega))), hE3⟩
          | false =>
            replace hb1 := hb1.symm
            refine OL.sk rfl rfl ?_
            refine OL.q (Q1.pick_f rfl rfl) rfl rfl ?_
            refine OL.q (Q1.assign rfl) rfl rfl ?_
            refine OL.nil ?_
            refine r_cond_f rfl ?_
            refine r_seq ?_
            refine r_region ?_
            refine OL.q (Q1.move rfl) rfl rfl ?_
            refine OL.qb (Q1.ge rfl rfl) rfl rfl ?_
            intro b8 hb8
            refine OL.q (Q1.move rfl) rfl rfl ?_
            cases b8 with
            | true =>
              replace hb8 := of_decide_eq_true hb8.symm
              refine OL.q (Q1.move rfl) rfl rfl ?_
              refine OL.qb (Q1.le rfl rfl) rfl rfl ?_
              intro b9 hb9
              refine OL.q (Q1.pick_t rfl rfl) rfl rfl ?_
              refine OL.q (Q1.move rfl) rfl rfl ?_
              cases b9 with
              | true =>
                replace hb9 := of_decide_eq_true hb9.symm
                refine OL.q (Q1.move rfl) rfl rfl ?_
                refine OL.q (Q1.pick_t rfl rfl) rfl rfl ?_
                refine OL.q (Q1.move rfl) rfl rfl ?_
                refine OL.sk rfl rfl ?_
                refine OL.q (Q1.pick_f rfl rfl) rfl rfl ?_
                refine OL.q (Q1.move rfl) rfl rfl ?_
                refine OL.sk rfl rfl ?_
                refine OL.q (Q1.pick_f rfl rfl) rfl rfl ?_
                refine OL.q (Q1.assign rfl) rfl rfl ?_
                refine OL.nil ?_
                refine r_cond_f rfl ?_
                refine r_skip ?_
                refine r_inBlock ?_
                refine r_seq ?_
                refine r_region ?_
                refine OL.q (Q1.assign rfl) rfl rfl ?_
                refine OL.q (Q1.assign rfl) rfl rfl ?_
                obtain ⟨hone1, hone2⟩ := Ml.one_0 (by omega) (by intro hh; first | omega | (simp_all; done)) (by intro hh; first | omega | (simp_all; done)) (by intro hh; first | omega | (simp_all; done))
                refine OL.nil ?_
                refine r_ret2 Tryz.func89 rfl rfl rfl ?_
                exact Ret.mk ⟨_, _, rfl, (congrArg (Value.int .i32) (by first | (with_reducible exact hone1) | (rw [← hone2]; rfl) | (exfalso; omega))), (congrArg (Value.int .i64) (by first | (with_reducible exact hone1) | (rw [← hone2]; rfl) | (exfalso; omega))), hE3⟩
              | false =>
                replace hb9 := of_decide_eq_false hb9.symm
                refine OL.sk rfl rfl ?_
                refine OL.q (Q1.pick_f rfl rfl) rfl rfl ?_
                refine OL.q (Q1.move rfl) rfl rfl ?_
                refine OL.sk rfl rfl ?_
                refine OL.q (Q1.pick_f rfl rfl) rfl rfl ?_
                refine OL.q (Q1.move rfl) rfl rfl ?_
                refine OL.sk rfl rfl ?_
                refine OL.q (Q1.pick_f rfl rfl) rfl rfl ?_
                refine OL.q (Q1.assign rfl) rfl rfl ?_
                refine OL.nil ?_
                refine r_cond_f rfl ?_
                refine r_skip ?_
                refine r_inBlock ?_
                refine r_seq ?_
                refine r_region ?_
                refine OL.q (Q1.assign rfl) rfl rfl ?_
                refine OL.q (Q1.assign rfl) rfl rfl ?_
                obtain ⟨hone1, hone2⟩ := Ml.one_0 (by omega) (by intro hh; first | omega | (simp_all; done)) (by intro hh; first | omega | (simp_all; done)) (by intro hh; first | omega | (simp_all; done))
                refine OL.nil ?_
                refine r_ret2 Tryz.func89 rfl rfl rfl ?_
                exact Ret.mk ⟨_, _, rfl, (congrArg (Value.int .i32) (by first | (with_reducible exact hone1) | (rw [← hone2]; rfl) | (exfalso; omega))), (congrArg (Value.int .i64) (by first | (with_reducible exact hone1) | (rw [← hone2]; rfl) | (exfalso; omega))), hE3⟩
            | false =>
              replace hb8 := of_decide_eq_false hb8.symm
              refine OL.sk rfl rfl ?_
              refine OL.sk rfl rfl ?_
              refine OL.q (Q1.pick_f rfl rfl) rfl rfl ?_
              refine OL.q (Q1.move rfl) rfl rfl ?_
              refine OL.sk rfl rfl ?_
              refine OL.q (Q1.pick_f rfl rfl) rfl rfl ?_
              refine OL.q (Q1.move rfl) rfl rfl ?_
              refine OL.sk rfl rfl ?_
              refine OL.q (Q1.pick_f rfl rfl) rfl rfl ?_
              refine OL.q (Q1.move rfl) rfl rfl ?_
              refine OL.sk rfl rfl ?_
              refine OL.q (Q1.pick_f rfl rfl) rfl rfl ?_
              refine OL.q (Q1.assign rfl) rfl rfl ?_
              refine OL.nil ?_
              refine r_cond_f rfl ?_
              refine r_skip ?_
              refine r_inBlock ?_
              refine r_seq ?_
              refine r_region ?_
              refine OL.q (Q1.assign rfl) rfl rfl ?_
              refine OL.q (Q1.assign rfl) rfl rfl ?_
              obtain ⟨hone1, hone2⟩ := Ml.one_0 (by omega) (by intro hh; first | omega | (simp_all; done)) (by intro hh; first | omega | (simp_all; done)) (by intro hh; first | omega | (simp_all; done))
              refine OL.nil ?_
              refine r_ret2 Tryz.func89 rfl rfl rfl ?_
              exact Ret.mk ⟨_, _, rfl, (congrArg (Value.int .i32) (by first | (with_reducible exact hone1) | (rw [← hone2]; rfl) | (exfalso; omega))), (congrArg (Value.int .i64) (by first | (with_reducible exact hone1) | (rw [← hone2]; rfl) | (exfalso; omega))), hE3⟩
        | false =>
          replace hb7 := of_decide_eq_false hb7.symm
          refine OL.sk rfl rfl ?_
          refine OL.q (Q1.pick_f rfl rfl) rfl rfl ?_
          refine OL.q (Q1.move rfl) rfl rfl ?_
          refine OL.sk rfl rfl ?_
          refine OL.q (Q1.pick_f rfl rfl) rfl rfl ?_
          refine OL.q (Q1.assign rfl) rfl rfl ?_
          refine OL.nil ?_
          refine r_cond_f rfl ?_
          refine r_seq ?_
          refine r_region ?_
          refine OL.q (Q1.move rfl) rfl rfl ?_
          refine OL.qb (Q1.ge rfl rfl) rfl rfl ?_
          intro b8 hb8
          refine OL.q (Q1.move rfl) rfl rfl ?_
          cases b8 with
          | true =>
            replace hb8 := of_decide_eq_true hb8.symm
            refine OL.q (Q1.move rfl) rfl rfl ?_
            refine OL.qb (Q1.le rfl rfl) rfl rfl ?_
            intro b9 hb9
            refine OL.q (Q1.pick_t rfl rfl) rfl rfl ?_
            refine OL.q (Q1.move rfl) rfl rfl ?_
            cases b9 with
            | true =>
              replace hb9 := of_decide_eq_true hb9.symm
              refine OL.q (Q1.move rfl) rfl rfl ?_
              refine OL.q (Q1.pick_t rfl rfl) rfl rfl ?_
              refine OL.q (Q1.move rfl) rfl rfl ?_
              cases b1 with
              | true =>
                replace hb1 := hb1.symm
                refine OL.q (Q1.move rfl) rfl rfl ?_
                refine OL.q (Q1.pick_t rfl rfl) rfl rfl ?_
                refine OL.q (Q1.move rfl) rfl rfl ?_
                cases b2 with
                | true =>
                  replace hb2 := hb2.symm
                  refine OL.q (Q1.move rfl) rfl rfl ?_
                  refine OL.q (Q1.pick_t rfl rfl) rfl rfl ?_
                  refine OL.q (Q1.assign rfl) rfl rfl ?_
                  refine OL.nil ?_
                  cases b3 with
                  | true =>
                    replace hb3 := hb3.symm
                    refine r_cond_t rfl ?_
                    refine r_seq ?_
                    refine r_region ?_
                    refine OL.q (Q1.move rfl) rfl rfl ?_
                    refine OL.q (Q1.sub32 ((((byteAt s i : Nat) : Int) - 240)) rfl rfl (by omega)) rfl rfl ?_
                    refine OL.q (Q1.mul32 (((((byteAt s i : Nat) : Int) - 240) * 262144)) rfl rfl (by omega)) rfl rfl ?_
                    refine OL.q (Q1.move rfl) rfl rfl ?_
                    refine OL.q (Q1.mul32 (((Ml.moreV s (i + 1)) * 4096)) rfl rfl (by omega)) rfl rfl ?_
                    refine OL.q (Q1.add32 ((((((byteAt s i : Nat) : Int) - 240) * 262144) + (((Ml.moreV s (i + 1)) * 4096)))) rfl rfl (by omega)) rfl rfl ?_
                    refine OL.q (Q1.move rfl) rfl rfl ?_
                    refine OL.q (Q1.mul32 (((Ml.moreV s (i + 2)) * 64)) rfl rfl (by omega)) rfl rfl ?_
                    refine OL.q (Q1.add32 (((((((byteAt s i : Nat) : Int) - 240) * 262144) + (((Ml.moreV s (i + 1)) * 4096))) + (((Ml.moreV s (i + 2)) * 64)))) rfl rfl (by omega)) rfl rfl ?_
                    refine OL.q (Q1.move rfl) rfl rfl ?_
                    refine OL.q (Q1.add32 ((((((((byteAt s i : Nat) : Int) - 240) * 262144) + (((Ml.moreV s (i + 1)) * 4096))) + (((Ml.moreV s (i + 2)) * 64))) + ((Ml.moreV s (i + 3))))) rfl rfl (by omega)) rfl rfl ?_
                    refine OL.q (Q1.assign rfl) rfl rfl ?_
                    refine OL.q (Q1.assign rfl) rfl rfl ?_
                    obtain ⟨hone1, hone2⟩ := Ml.one_4 (by omega) (by intro hh; first | omega | (simp_all; done)) (by intro hh; first | omega | (simp_all; done)) ⟨by omega, by omega, by assumption, by assumption, by assumption⟩
                    refine OL.nil ?_
                    refine r_ret2 Tryz.func89 rfl rfl rfl ?_
                    exact Ret.mk ⟨_, _, rfl, (congrArg (Value.int .i32) (by first | (with_reducible exact hone1) | (rw [← hone2]; rfl) | (exfalso; omega))), (congrArg (Value.int .i64) (by first | (with_reducible exact hone1) | (rw [← hone2]; rfl) | (exfalso; omega))), hE3⟩
                  | false =>
                    replace hb3 := hb3.symm
                    refine r_cond_f rfl ?_
                    refine r_skip ?_
                    refine r_inBlock ?_
                    refine r_seq ?_
                    refine r_region ?_
                    refine OL.q (Q1.assign rfl) rfl rfl ?_
                    refine OL.q (Q1.assign rfl) rfl rfl ?_
                    obtain ⟨hone1, hone2⟩ := Ml.one_0 (by omega) (by intro hh; first | omega | (simp_all; done)) (by intro hh; first | omega | (simp_all; done)) (by intro hh; first | omega | (simp_all; done))
                    refine OL.nil ?_
                    refine r_ret2 Tryz.func89 rfl rfl rfl ?_
                    exact Ret.mk ⟨_, _, rfl, (congrArg (Value.int .i32) (by first | (with_reducible exact hone1) | (rw [← hone2]; rfl) | (exfalso; omega))), (congrArg (Value.int .i64) (by first | (with_reducible exact hone1) | (rw [← hone2]; rfl) | (exfalso; omega))), hE3⟩
                | false =>
                  replace hb2 := hb2.symm
                  refine OL.sk rfl rfl ?_
                  refine OL.q (Q1.pick_f rfl rfl) rfl rfl ?_
                  refine OL.q (Q1.assign rfl) rfl rfl ?_
                  refine OL.nil ?_
                  refine r_cond_f rfl ?_
                  refine r_skip ?_
                  refine r_inBlock ?_
                  refine r_seq ?_
                  refine r_region ?_
                  refine OL.q (Q1.assign rfl) rfl rfl ?_
                  refine OL.q (Q1.assign rfl) rfl rfl ?_
                  obtain ⟨hone1, hone2⟩ := Ml.one_0 (by omega) (by intro hh; first | omega | (simp_all; done)) (by intro hh; first | omega | (simp_all; done)) (by intro hh; first | omega | (simp_all; done))
                  refine OL.nil ?_
                  refine r_ret2 Tryz.func89 rfl rfl rfl ?_
                  exact Ret.mk ⟨_, _, rfl, (congrArg (Value.int .i32) (by first | (with_reducible exact hone1) | (rw [← hone2]; rfl) | (exfalso; omega))), (congrArg (Value.int .i64) (by first | (with_reducible exact hone1) | (rw [← hone2]; rfl) | (exfalso; omega))), hE3⟩
              | false =>
                replace hb1 := hb1.symm
                refine OL.sk rfl rfl ?_
                refine OL.q (Q1.pick_f rfl rfl) rfl rfl ?_
                refine OL.q (Q1.move rfl) rfl rfl ?_
                refine OL.sk rfl rfl ?_
                refine OL.q (Q1.pick_f rfl rfl) rfl rfl ?_
                refine OL.q (Q1.assign rfl) rfl rfl ?_
                refine OL.nil ?_
                refine r_cond_f rfl ?_
                refine r_skip ?_
                refine r_inBlock ?_
                refine r_seq ?_
                refine r_region ?_
                refine OL.q (Q1.assign rfl) rfl rfl ?_
                refine OL.q (Q1.assign rfl) rfl rfl ?_
                obtain ⟨hone1, hone2⟩ := Ml.one_0 (by omega) (by intro hh; first | omega | (simp_all; done)) (by intro hh; first | omega | (simp_all; done)) (by intro hh; first | omega | (simp_all; done))
                refine OL.nil ?_
                refine r_ret2 Tryz.func89 rfl rfl rfl ?_
                exact Ret.mk ⟨_, _, rfl, (congrArg (Value.int .i32) (by first | (with_reducible exact hone1) | (rw [← hone2]; rfl) | (exfalso; omega))), (congrArg (Value.int .i64) (by first | (with_reducible exact hone1) | (rw [← hone2]; rfl) | (exfalso; omega))), hE3⟩
            | false =>
              replace hb9 := of_decide_eq_false hb9.symm
              refine OL.sk rfl rfl ?_
              refine OL.q (Q1.pick_f rfl rfl) rfl rfl ?_
              refine OL.q (Q1.move rfl) rfl rfl ?_
              refine OL.sk rfl rfl ?_
              refine OL.q (Q1.pick_f rfl rfl) rfl rfl ?_
              refine OL.q (Q1.move rfl) rfl rfl ?_
              refine OL.sk rfl rfl ?_
              refine OL.q (Q1.pick_f rfl rfl) rfl rfl ?_
              refine OL.q (Q1.assign rfl) rfl rfl ?_
              refine OL.nil ?_
              refine r_cond_f rfl ?_
              refine r_skip ?_
              refine r_inBlock ?_
              refine r_seq ?_
              refine r_region ?_
              refine OL.q (Q1.assign rfl) rfl rfl ?_
              refine OL.q (Q1.assign rfl) rfl rfl ?_
              obtain ⟨hone1, hone2⟩ := Ml.one_0 (by omega) (by intro hh; first | omega | (simp_all; done)) (by intro hh; first | omega | (simp_all; done)) (by intro hh; first | omega | (simp_all; done))
              refine OL.nil ?_
              refine r_ret2 Tryz.func89 rfl rfl rfl ?_
              exact Ret.mk ⟨_, _, rfl, (congrArg (Value.int .i32) (by first | (with_reducible exact hone1) | (rw [← hone2]; rfl) | (exfalso; omega))), (congrArg (Value.int .i64) (by first | (with_reducible exact hone1) | (rw [← hone2]; rfl) | (exfalso; omega))), hE3⟩
          | false =>
            replace hb8 := of_decide_eq_false hb8.symm
            refine OL.sk rfl rfl ?_
            refine OL.sk rfl rfl ?_
            refine OL.q (Q1.pick_f rfl rfl) rfl rfl ?_
            refine OL.q (Q1.move rfl) rfl rfl ?_
            refine OL.sk rfl rfl ?_
            refine OL.q (Q1.pick_f rfl rfl) rfl rfl ?_
            refine OL.q (Q1.move rfl) rfl rfl ?_
            refine OL.sk rfl rfl ?_
            refine OL.q (Q1.pick_f rfl rfl) rfl rfl ?_
            refine OL.q (Q1.move rfl) rfl rfl ?_
            refine OL.sk rfl rfl ?_
            refine OL.q (Q1.pick_f rfl rfl) rfl rfl ?_
            refine OL.q (Q1.assign rfl) rfl rfl ?_
            refine OL.nil ?_
            refine r_cond_f rfl ?_
            refine r_skip ?_
            refine r_inBlock ?_
            refine r_seq ?_
            refine r_region ?_
            refine OL.q (Q1.assign rfl) rfl rfl ?_
            refine OL.q (Q1.assign rfl) rfl rfl ?_
            obtain ⟨hone1, hone2⟩ := Ml.one_0 (by omega) (by intro hh; first | omega | (simp_all; done)) (by intro hh; first | omega | (simp_all; done)) (by intro hh; first | omega | (simp_all; done))
            refine OL.nil ?_
            refine r_ret2 Tryz.func89 rfl rfl rfl ?_
            exact Ret.mk ⟨_, _, rfl, (congrArg (Value.int .i32) (by first | (with_reducible exact hone1) | (rw [← hone2]; rfl) | (exfalso; omega))), (congrArg (Value.int .i64) (by first | (with_reducible exact hone1) | (rw [← hone2]; rfl) | (exfalso; omega))), hE3⟩
      | false =>
        replace hb6 := of_decide_eq_false hb6.symm
        refine OL.sk rfl rfl ?_
        refine OL.sk rfl rfl ?_
        refine OL.q (Q1.pick_f rfl rfl) rfl rfl ?_
        refine OL.q (Q1.move rfl) rfl rfl ?_
        refine OL.sk rfl rfl ?_
        refine OL.q (Q1.pick_f rfl rfl) rfl rfl ?_
        refine OL.q (Q1.move rfl) rfl rfl ?_
        refine OL.sk rfl rfl ?_
        refine OL.q (Q1.pick_f rfl rfl) rfl rfl ?_
        refine OL.q (Q1.assign rfl) rfl rfl ?_
        refine OL.nil ?_
        refine r_cond_f rfl ?_
        refine r_seq ?_
        refine r_region ?_
        refine OL.q (Q1.move rfl) rfl rfl ?_
        refine OL.qb (Q1.ge rfl rfl) rfl rfl ?_
        intro b7 hb7
        refine OL.q (Q1.move rfl) rfl rfl ?_
        cases b7 with
        | true =>
          replace hb7 := of_decide_eq_true hb7.symm
          refine OL.q (Q1.move rfl) rfl rfl ?_
          refine OL.qb (Q1.le rfl rfl) rfl rfl ?_
          intro b8 hb8
          refine OL.q (Q1.pick_t rfl rfl) rfl rfl ?_
          refine OL.q (Q1.move rfl) rfl rfl ?_
          cases b8 with
          | true =>
            replace hb8 := of_decide_eq_true hb8.symm
            refine OL.q (Q1.move rfl) rfl rfl ?_
            refine OL.q (Q1.pick_t rfl rfl) rfl rfl ?_
            refine OL.q (Q1.move rfl) rfl rfl ?_
            cases b1 with
            | true =>
              replace hb1 := hb1.symm
              refine OL.q (Q1.move rfl) rfl rfl ?_
              refine OL.q (Q1.pick_t rfl rfl) rfl rfl ?_
              refine OL.q (Q1.move rfl) rfl rfl ?_
              cases b2 with
              | true =>
                replace hb2 := hb2.symm
                refine OL.q (Q1.move rfl) rfl rfl ?_
                refine OL.q (Q1.pick_t rfl rfl) rfl rfl ?_
                refine OL.q (Q1.assign rfl) rfl rfl ?_
                refine OL.nil ?_
                cases b3 with
                | true =>
                  replace hb3 := hb3.symm
                  refine r_cond_t rfl ?_
                  refine r_seq ?_
                  refine r_region ?_
                  refine OL.q (Q1.move rfl) rfl rfl ?_
                  refine OL.q (Q1.sub32 ((((byteAt s i : Nat) : Int) - 240)) rfl rfl (by omega)) rfl rfl ?_
                  refine OL.q (Q1.mul32 (((((byteAt s i : Nat) : Int) - 240) * 262144)) rfl rfl (by omega)) rfl rfl ?_
                  refine OL.q (Q1.move rfl) rfl rfl ?_
                  refine OL.q (Q1.mul32 (((Ml.moreV s (i + 1)) * 4096)) rfl rfl (by omega)) rfl rfl ?_
                  refine OL.q (Q1.add32 ((((((byteAt s i : Nat) : Int) - 240) * 262144) + (((Ml.moreV s (i + 1)) * 4096)))) rfl rfl (by omega)) rfl rfl ?_
                  refine OL.q (Q1.move rfl) rfl rfl ?_
                  refine OL.q (Q1.mul32 (((Ml.moreV s (i + 2)) * 64)) rfl rfl (by omega)) rfl rfl ?_
                  refine OL.q (Q1.add32 (((((((byteAt s i : Nat) : Int) - 240) * 262144) + (((Ml.moreV s (i + 1)) * 4096))) + (((Ml.moreV s (i + 2)) * 64)))) rfl rfl (by omega)) rfl rfl ?_
                  refine OL.q (Q1.move rfl) rfl rfl ?_
                  refine OL.q (Q1.add32 ((((((((byteAt s i : Nat) : Int) - 240) * 262144) + (((Ml.moreV s (i + 1)) * 4096))) + (((Ml.moreV s (i + 2)) * 64))) + ((Ml.moreV s (i + 3))))) rfl rfl (by omega)) rfl rfl ?_
                  refine OL.q (Q1.assign rfl) rfl rfl ?_
                  refine OL.q (Q1.assign rfl) rfl rfl ?_
                  obtain ⟨hone1, hone2⟩ := Ml.one_4 (by omega) (by intro hh; first | omega | (simp_all; done)) (by intro hh; first | omega | (simp_all; done)) ⟨by omega, by omega, by assumption, by assumption, by assumption⟩
                  refine OL.nil ?_
                  refine r_ret2 Tryz.func89 rfl rfl rfl ?_
                  exact Ret.mk ⟨_, _, rfl, (congrArg (Value.int .i32) (by first | (with_reducible exact hone1) | (rw [← hone2]; rfl) | (exfalso; omega))), (congrArg (Value.int .i64) (by first | (with_reducible exact hone1) | (rw [← hone2]; rfl) | (exfalso; omega))), hE3⟩
                | false =>
                  replace hb3 := hb3.symm
                  refine r_cond_f rfl ?_
                  refine r_skip ?_
                  refine r_inBlock ?_
                  refine r_seq ?_
                  refine r_region ?_
                  refine OL.q (Q1.assign rfl) rfl rfl ?_
                  refine OL.q (Q1.assign rfl) rfl rfl ?_
                  obtain ⟨hone1, hone2⟩ := Ml.one_0 (by omega) (by intro hh; first | omega | (simp_all; done)) (by intro hh; first | omega | (simp_all; done)) (by intro hh; first | omega | (simp_all; done))
                  refine OL.nil ?_
                  refine r_ret2 Tryz.func89 rfl rfl rfl ?_
                  exact Ret.mk ⟨_, _, rfl, (congrArg (Value.int .i32) (by first | (with_reducible exact hone1) | (rw [← hone2]; rfl) | (exfalso; omega))), (congrArg (Value.int .i64) (by first | (with_reducible exact hone1) | (rw [← hone2]; rfl) | (exfalso; omega))), hE3⟩
              | false =>
                replace hb2 := hb2.symm
                refine OL.sk rfl rfl ?_
                refine OL.q (Q1.pick_f rfl rfl) rfl rfl ?_
                refine OL.q (Q1.assign rfl) rfl rfl ?_
                refine OL.nil ?_
                refine r_cond_f rfl ?_
                refine r_skip ?_
                refine r_inBlock ?_
                refine r_seq ?_
                refine r_region ?_
                refine OL.q (Q1.assign rfl) rfl rfl ?_
                refine OL.q (Q1.assign rfl) rfl rfl ?_
                obtain ⟨hone1, hone2⟩ := Ml.one_0 (by omega) (by intro hh; first | omega | (simp_all; done)) (by intro hh; first | omega | (simp_all; done)) (by intro hh; first | omega | (simp_all; done))
                refine OL.nil ?_
                refine r_ret2 Tryz.func89 rfl rfl rfl ?_
                exact Ret.mk ⟨_, _, rfl, (congrArg (Value.int .i32) (by first | (with_reducible exact hone1) | (rw [← hone2]; rfl) | (exfalso; omega))), (congrArg (Value.int .i64) (by first | (with_reducible exact hone1) | (rw [← hone2]; rfl) | (exfalso; omega))), hE3⟩
            | false =>
              replace hb1 := hb1.symm
              refine OL.sk rfl rfl ?_
              refine OL.q (Q1.pick_f rfl rfl) rfl rfl ?_
              refine OL.q (Q1.move rfl) rfl rfl ?_
              refine OL.sk rfl rfl ?_
              refine OL.q (Q1.pick_f rfl rfl) rfl rfl ?_
              refine OL.q (Q1.assign rfl) rfl rfl ?_
              refine OL.nil ?_
              refine r_cond_f rfl ?_
              refine r_skip ?_
              refine r_inBlock ?_
              refine r_seq ?_
              refine r_region ?_
              refine OL.q (Q1.assign rfl) rfl rfl ?_
              refine OL.q (Q1.assign rfl) rfl rfl ?_
              obtain ⟨hone1, hone2⟩ := Ml.one_0 (by omega) (by intro hh; first | omega | (simp_all; done)) (by intro hh; first | omega | (simp_all; done)) (by intro hh; first | omega | (simp_all; done))
              refine OL.nil ?_
              refine r_ret2 Tryz.func89 rfl rfl rfl ?_
              exact Ret.mk ⟨_, _, rfl, (congrArg (Value.int .i32) (by first | (with_reducible exact hone1) | (rw [← hone2]; rfl) | (exfalso; omega))), (congrArg (Value.int .i64) (by first | (with_reducible exact hone1) | (rw [← hone2]; rfl) | (exfalso; omega))), hE3⟩
          | false =>
            replace hb8 := of_decide_eq_false hb8.symm
            refine OL.sk rfl rfl ?_
            refine OL.q (Q1.pick_f rfl rfl) rfl rfl ?_
            refine OL.q (Q1.move rfl) rfl rfl ?_
            refine OL.sk rfl rfl ?_
            refine OL.q (Q1.pick_f rfl rfl) rfl rfl ?_
            refine OL.q (Q1.move rfl) rfl rfl ?_
            refine OL.sk rfl rfl ?_
            refine OL.q (Q1.pick_f rfl rfl) rfl rfl ?_
            refine OL.q (Q1.assign rfl) rfl rfl ?_
            refine OL.nil ?_
            refine r_cond_f rfl ?_
            refine r_skip ?_
            refine r_inBlock ?_
            refine r_seq ?_
            refine r_region ?_
            refine OL.q (Q1.assign rfl) rfl rfl ?_
            refine OL.q (Q1.assign rfl) rfl rfl ?_
            obtain ⟨hone1, hone2⟩ := Ml.one_0 (by omega) (by intro hh; first | omega | (simp_all; done)) (by intro hh; first | omega | (simp_all; done)) (by intro hh; first | omega | (simp_all; done))
            refine OL.nil ?_
            refine r_ret2 Tryz.func89 rfl rfl rfl ?_
            exact Ret.mk ⟨_, _, rfl, (congrArg (Value.int .i32) (by first | (with_reducible exact hone1) | (rw [← hone2]; rfl) | (exfalso; omega))), (congrArg (Value.int .i64) (by first | (with_reducible exact hone1) | (rw [← hone2]; rfl) | (exfalso; omega))), hE3⟩
        | false =>
          replace hb7 := of_decide_eq_false hb7.symm
          refine OL.sk rfl rfl ?_
          refine OL.sk rfl rfl ?_
          refine OL.q (Q1.pick_f rfl rfl) rfl rfl ?_
          refine OL.q (Q1.move rfl) rfl rfl ?_
          refine OL.sk rfl rfl ?_
          refine OL.q (Q1.pick_f rfl rfl) rfl rfl ?_
          refine OL.q (Q1.move rfl) rfl rfl ?_
          refine OL.sk rfl rfl ?_
          refine OL.q (Q1.pick_f rfl rfl) rfl rfl ?_
          refine OL.q (Q1.move rfl) rfl rfl ?_
          refine OL.sk rfl rfl ?_
          refine OL.q (Q1.pick_f rfl rfl) rfl rfl ?_
          refine OL.q (Q1.assign rfl) rfl rfl ?_
          refine OL.nil ?_
          refine r_cond_f rfl ?_
          refine r_skip ?_
          refine r_inBlock ?_
          refine r_seq ?_
          refine r_region ?_
          refine OL.q (Q1.assign rfl) rfl rfl ?_
          refine OL.q (Q1.assign rfl) rfl rfl ?_
          obtain ⟨hone1, hone2⟩ := Ml.one_0 (by omega) (by intro hh; first | omega | (simp_all; done)) (by intro hh; first | omega | (simp_all; done)) (by intro hh; first | omega | (simp_all; done))
          refine OL.nil ?_
          refine r_ret2 Tryz.func89 rfl rfl rfl ?_
          exact Ret.mk ⟨_, _, rfl, (congrArg (Value.int .i32) (by first | (with_reducible exact hone1) | (rw [← hone2]; rfl) | (exfalso; omega))), (congrArg (Value.int .i64) (by first | (with_reducible exact hone1) | (rw [← hone2]; rfl) | (exfalso; omega))), hE3⟩
set_option maxRecDepth 20000 in
set_option maxHeartbeats 4000000 in
theorem rgood_c {w0 : World}  (r : Int) (h_r : -2147483648 ≤ r ∧ r ≤ 2147483647) :
    Calls Tryz.prog 90 #[.int .i32 r] w0 (Ret fun rv w1 => (∃ rb : Bool, rb = (Ml.goodR r) ∧ rv = .bool rb) ∧ Ext w0 w1) := by
  have hE0 : Ext w0 w0 := Mod.refl _ _
  refine calls_enter Tryz.func90 rfl Tryz.ntmps90 rfl ?_
  refine r_seq ?_
  refine r_region ?_
  refine OL.q (Q1.assign rfl) rfl rfl ?_
  refine OL.nil ?_
  refine r_seq ?_
  refine r_region ?_
  refine OL.q (Q1.move rfl) rfl rfl ?_
  refine OL.qb (Q1.ge rfl rfl) rfl rfl ?_
  intro b1 hb1
  refine OL.q (Q1.move rfl) rfl rfl ?_
  cases b1 with
  | true =>
    replace hb1 := of_decide_eq_true hb1.symm
    refine OL.q (Q1.move rfl) rfl rfl ?_
    refine OL.qb (Q1.le rfl rfl) rfl rfl ?_
    intro b2 hb2
    refine OL.q (Q1.pick_t rfl rfl) rfl rfl ?_
    refine OL.q (Q1.move rfl) rfl rfl ?_
    cases b2 with
    | true =>
      replace hb2 := of_decide_eq_true hb2.symm
      refine OL.q (Q1.move rfl) rfl rfl ?_
      refine OL.qb (Q1.lt rfl rfl) rfl rfl ?_
      intro b3 hb3
      refine OL.q (Q1.move rfl) rfl rfl ?_
      cases b3 with
      | true =>
        replace hb3 := of_decide_eq_true hb3.symm
        refine OL.sk rfl rfl ?_
        refine OL.sk rfl rfl ?_
        refine OL.q (Q1.pick_t rfl rfl) rfl rfl ?_
        refine OL.q (Q1.pick_t rfl rfl) rfl rfl ?_
        refine OL.q (Q1.move rfl) rfl rfl ?_
        refine OL.q (Q1.move rfl) rfl rfl ?_
        refine OL.qb (Q1.ne rfl rfl) rfl rfl ?_
        intro b4 hb4
        refine OL.q (Q1.pick_t rfl rfl) rfl rfl ?_
        refine OL.q (Q1.assign rfl) rfl rfl ?_
        refine OL.nil ?_
        refine r_ret1 Tryz.func90 rfl rfl ?_
        exact Ret.mk ⟨⟨_, (by first | exact Ml.good_no (by omega) | exact Ml.good_ne (by omega) (by assumption) | (exfalso; omega)), rfl⟩, hE0⟩
      | false =>
        replace hb3 := of_decide_eq_false hb3.symm
        refine OL.q (Q1.move rfl) rfl rfl ?_
        refine OL.qb (Q1.gt rfl rfl) rfl rfl ?_
        intro b4 hb4
        refine OL.q (Q1.pick_f rfl rfl) rfl rfl ?_
        refine OL.q (Q1.pick_t rfl rfl) rfl rfl ?_
        refine OL.q (Q1.move rfl) rfl rfl ?_
        cases b4 with
        | true =>
          replace hb4 := of_decide_eq_true hb4.symm
          refine OL.q (Q1.move rfl) rfl rfl ?_
          refine OL.qb (Q1.ne rfl rfl) rfl rfl ?_
          intro b5 hb5
          refine OL.q (Q1.pick_t rfl rfl) rfl rfl ?_
          refine OL.q (Q1.assign rfl) rfl rfl ?_
          refine OL.nil ?_
          refine r_ret1 Tryz.func90 rfl rfl ?_
          exact Ret.mk ⟨⟨_, (by first | exact Ml.good_no (by omega) | exact Ml.good_ne (by omega) (by assumption) | (exfalso; omega)), rfl⟩, hE0⟩
        | false =>
          replace hb4 := of_decide_eq_false hb4.symm
          refine OL.sk rfl rfl ?_
          refine OL.sk rfl rfl ?_
          refine OL.q (Q1.pick_f rfl rfl) rfl rfl ?_
          refine OL.q (Q1.assign rfl) rfl rfl ?_
          refine OL.nil ?_
          refine r_ret1 Tryz.func90 rfl rfl ?_
          exact Ret.mk ⟨⟨_, (by first | exact Ml.good_no (by omega) | exact Ml.good_ne (by omega) (by assumption) | (exfalso; omega)), rfl⟩, hE0⟩
    | false =>
      replace hb2 := of_decide_eq_false hb2.symm
      refine OL.sk rfl rfl ?_
      refine OL.sk rfl rfl ?_
      refine OL.sk rfl rfl ?_
      refine OL.sk rfl rfl ?_
      refine OL.sk rfl rfl ?_
      refine OL.sk rfl rfl ?_
      refine OL.q (Q1.pick_f rfl rfl) rfl rfl ?_
      refine OL.q (Q1.move rfl) rfl rfl ?_
      refine OL.sk rfl rfl ?_
      refine OL.sk rfl rfl ?_
      refine OL.q (Q1.pick_f rfl rfl) rfl rfl ?_
      refine OL.q (Q1.assign rfl) rfl rfl ?_
      refine OL.nil ?_
      refine r_ret1 Tryz.func90 rfl rfl ?_
      exact Ret.mk ⟨⟨_, (by first | exact Ml.good_no (by omega) | exact Ml.good_ne (by omega) (by assumption) | (exfalso; omega)), rfl⟩, hE0⟩
  | false =>
    replace hb1 := of_decide_eq_false hb1.symm
    refine OL.sk rfl rfl ?_
    refine OL.sk rfl rfl ?_
    refine OL.q (Q1.pick_f rfl rfl) rfl rfl ?_
    refine OL.q (Q1.move rfl) rfl rfl ?_
    refine OL.sk rfl rfl ?_
    refine OL.sk rfl rfl ?_
    refine OL.sk rfl rfl ?_
    refine OL.sk rfl rfl ?_
    refine OL.sk rfl rfl ?_
    refine OL.sk rfl rfl ?_
    refine OL.q (Q1.pick_f rfl rfl) rfl rfl ?_
    refine OL.q (Q1.move rfl) rfl rfl ?_
    refine OL.sk rfl rfl ?_
    refine OL.sk rfl rfl ?_
    refine OL.q (Q1.pick_f rfl rfl) rfl rfl ?_
    refine OL.q (Q1.assign rfl) rfl rfl ?_
    refine OL.nil ?_
    refine r_ret1 Tryz.func90 rfl rfl ?_
    exact Ret.mk ⟨⟨_, (by first | exact Ml.good_no (by omega) | exact Ml.good_ne (by omega) (by assumption) | (exfalso; omega)), rfl⟩, hE0⟩
set_option maxRecDepth 20000 in
set_option maxHeartbeats 4000000 in
theorem rrunes_c {w0 : World}  (s : Str) (hs : s.length ≤ 1000000000) :
    Calls Tryz.prog 73 #[strV s] w0 (Ret fun rv w1 => ∃ u0 u1, rv = .tuple #[u0, u1] ∧ Sl encRn w1 (Iv w0.heap.size w1.heap.size) u0 (Ml.runesM s) ∧ (∃ rb : Bool, rb = (Ml.fineT s) ∧ u1 = .bool rb) ∧ Ext w0 w1) := by
  have hE0 : Ext w0 w0 := Mod.refl _ _
  refine calls_enter Tryz.func73 rfl Tryz.ntmps73 rfl ?_
  refine r_seq ?_
  refine r_region ?_
  refine OL.q (Q1.assign rfl) rfl rfl ?_
  refine OL.q (Q1.assign rfl) rfl rfl ?_
  refine OL.nil ?_
  refine r_seq ?_
  refine r_region ?_
  refine OL.q (Q1.assign rfl) rfl rfl ?_
  refine OL.nil ?_
  refine r_seq ?_
  refine r_seq ?_
  refine r_region ?_
  refine OL.q (Q1.assign rfl) rfl rfl ?_
  refine OL.nil ?_
  refine r_block ?_
  refine r_loop (I := fun m E W => ∃ (v_l : Value) (g_l : Nat) (l : List Int) (i : Nat), E = [(0, strV s), (4, v_l), (5, .int .i64 (((i : Nat) : Int)))] ∧ m = s.length - i ∧ Ext w0 W ∧ w0.heap.size ≤ W.heap.size ∧ Acc encRn 21 1 W g_l v_l l ∧ (g_l = 0 ∨ w0.heap.size < g_l) ∧ (Ml.RunInv s i l) ∧ (i ≤ s.length)) ?_ ?_
  · refine ⟨_, _, ⟨(.slice none 0 0 : Value), (0 : Nat), ([] : List Int), (0 : Nat), rfl, rfl, hE0, Nat.le_refl _, Acc.nil, (by omega), (by exact Ml.RunInv.start s), (by omega)⟩, ⟨rfl, rfl, rfl, trivial⟩⟩
  · rintro _ _ w1 ⟨v_l, g_l, l, i, rfl, rfl, hE1, hs1, ha1, hg1, hr, hil⟩ ih1
    have hll := hr.len
    refine r_seq ?_
    refine r_seq ?_
    refine r_region ?_
    refine OL.q (Q1.move rfl) rfl rfl ?_
    refine OL.q (Q1.move rfl) rfl rfl ?_
    refine OL.q (Q1.lenS Tryz.underlying9 rfl) rfl rfl ?_
    refine OL.qb (Q1.lt rfl rfl) rfl rfl ?_
    intro b1 hb1
    refine OL.nil ?_
    cases b1 with
    | true =>
      replace hb1 := of_decide_eq_true hb1.symm
      refine r_cond_t rfl ?_
      refine r_skip ?_
      refine r_block ?_
      refine r_seq ?_
      refine r_region ?_
      refine OL.q (Q1.move rfl) rfl rfl ?_
      refine OL.q (Q1.move rfl) rfl rfl ?_
      refine OL.act rfl rfl (AW.callF cl89 rfl (rone_c (w0 := w1)  s (i) (by first | assumption | omega) (by first | assumption | omega)) ?_)
      rintro _ w2 ⟨_, _, rfl, rfl, rfl, hm1⟩
      have hl1 := ha1.lt
      have f1 := ha1.ext hm1
      have hE2 := hE1.ext hm1
      have hs2 := hm1.size
      have := Ml.one_range s i
      have := Ml.one_fits s i (by omega)
      refine OL.q (Q1.move rfl) rfl rfl ?_
      refine OL.q (Q1.extract rfl rfl) rfl rfl ?_
      refine OL.q (Q1.extract rfl rfl) rfl rfl ?_
      refine OL.q (Q1.assign rfl) rfl rfl ?_
      refine OL.q (Q1.assign rfl) rfl rfl ?_
      refine OL.nil ?_
      refine r_seq ?_
      refine r_seq ?_
      refine r_region ?_
      refine OL.q (Q1.move rfl) rfl rfl ?_
      refine OL.qb (Q1.eq rfl rfl) rfl rfl ?_
      intro b2 hb2
      refine OL.q (Q1.move rfl) rfl rfl ?_
      cases b2 with
      | true =>
        replace hb2 := eq_of_beq hb2.symm
        refine OL.sk rfl rfl ?_
        refine OL.sk rfl rfl ?_
        refine OL.sk rfl rfl ?_
        refine OL.q (Q1.pick_t rfl rfl) rfl rfl ?_
        refine OL.q (Q1.move rfl) rfl rfl ?_
        refine OL.sk rfl rfl ?_
        refine OL.sk rfl rfl ?_
        refine OL.sk rfl rfl ?_
        refine OL.sk rfl rfl ?_
        refine OL.sk rfl rfl ?_
        refine OL.sk rfl rfl ?_
        refine OL.q (Q1.pick_t rfl rfl) rfl rfl ?_
        refine OL.q (Q1.move rfl) rfl rfl ?_
        refine OL.sk rfl rfl ?_
        refine OL.sk rfl rfl ?_
        refine OL.sk rfl rfl ?_
        refine OL.sk rfl rfl ?_
        refine OL.sk rfl rfl ?_
        refine OL.sk rfl rfl ?_
        refine OL.q (Q1.pick_t rfl rfl) rfl rfl ?_
        refine OL.nil ?_
        refine r_cond_t rfl ?_
        refine r_seq ?_
        refine r_region ?_
        refine OL.q (Q1.assign rfl) rfl rfl ?_
        refine OL.q (Q1.assign rfl) rfl rfl ?_
        refine OL.nil ?_
        refine r_ret2 Tryz.func73 rfl rfl rfl ?_
        exact Ret.mk ⟨_, _, rfl, (Sl.cast Sl.nil (by first | (with_reducible exact Ml.runesM_no (by exact (hr.bad (by omega) (by first | exact Ml.bad_yes (by omega) | (with_reducible exact Ml.bad_good (by assumption)))))) | (with_reducible exact (hr.bad (by omega) (by first | exact Ml.bad_yes (by omega) | (with_reducible exact Ml.bad_good (by assumption))))) | (with_reducible exact (hr.fin (by omega)).1.trans (Ml.runesM_yes (hr.fin (by omega)).2)) | (with_reducible exact (hr.fin (by omega)).2) | (exfalso; omega))), ⟨_, (by first | (with_reducible exact Ml.runesM_no (by exact (hr.bad (by omega) (by first | exact Ml.bad_yes (by omega) | (with_reducible exact Ml.bad_good (by assumption)))))) | (with_reducible exact (hr.bad (by omega) (by first | exact Ml.bad_yes (by omega) | (with_reducible exact Ml.bad_good (by assumption))))) | (with_reducible exact (hr.fin (by omega)).1.trans (Ml.runesM_yes (hr.fin (by omega)).2)) | (with_reducible exact (hr.fin (by omega)).2) | (exfalso; omega)), rfl⟩, hE2⟩
      | false =>
        replace hb2 := ne_of_beq_false hb2.symm
        refine OL.q (Q1.move rfl) rfl rfl ?_
        refine OL.act rfl rfl (AW.callF cl90 rfl (rgood_c (w0 := w2)  (((Ml.oneM s i).1)) (by first | omega | assumption)) ?_)
        rintro _ w3 ⟨⟨b3, hb3, rfl⟩, hm2⟩
        have hl2 := f1.lt
        have f2 := f1.ext hm2
        have hE3 := hE2.ext hm2
        have hs3 := hm2.size
        cases b3 with
        | true =>
          replace hb3 := hb3.symm
          refine OL.q (Q1.not rfl) rfl rfl ?_
          refine OL.q (Q1.pick_f rfl rfl) rfl rfl ?_
          refine OL.q (Q1.move rfl) rfl rfl ?_
          refine OL.q (Q1.move rfl) rfl rfl ?_
          refine OL.qb (Q1.eq rfl rfl) rfl rfl ?_
          intro b4 hb4
          refine OL.q (Q1.move rfl) rfl rfl ?_
          cases b4 with
          | true =>
            replace hb4 := eq_of_beq hb4.symm
            refine OL.q (Q1.move rfl) rfl rfl ?_
            refine OL.qb (Q1.lt rfl rfl) rfl rfl ?_
            intro b5 hb5
            refine OL.q (Q1.pick_t rfl rfl) rfl rfl ?_
            refine OL.q (Q1.pick_f rfl rfl) rfl rfl ?_
            refine OL.q (Q1.move rfl) rfl rfl ?_
            cases b5 with
            | true =>
              replace hb5 := of_decide_eq_true hb5.symm
              refine OL.sk rfl rfl ?_
              refine OL.sk rfl rfl ?_
              refine OL.sk rfl rfl ?_
              refine OL.sk rfl rfl ?_
              refine OL.sk rfl rfl ?_
              refine OL.sk rfl rfl ?_
              refine OL.q (Q1.pick_t rfl rfl) rfl rfl ?_
              refine OL.nil ?_
              refine r_cond_t rfl ?_
              refine r_seq ?_
              refine r_region ?_
              refine OL.q (Q1.assign rfl) rfl rfl ?_
              refine OL.q (Q1.assign rfl) rfl rfl ?_
              refine OL.nil ?_
              refine r_ret2 Tryz.func73 rfl rfl rfl ?_
              exact Ret.mk ⟨_, _, rfl, (Sl.cast Sl.nil (by first | (with_reducible exact Ml.runesM_no (by exact (hr.bad (by omega) (by first | exact Ml.bad_yes (by omega) | (with_reducible exact Ml.bad_good (by assumption)))))) | (with_reducible exact (hr.bad (by omega) (by first | exact Ml.bad_yes (by omega) | (with_reducible exact Ml.bad_good (by assumption))))) | (with_reducible exact (hr.fin (by omega)).1.trans (Ml.runesM_yes (hr.fin (by omega)).2)) | (with_reducible exact (hr.fin (by omega)).2) | (exfalso; omega))), ⟨_, (by first | (with_reducible exact Ml.runesM_no (by exact (hr.bad (by omega) (by first | exact Ml.bad_yes (by omega) | (with_reducible exact Ml.bad_good (by assumption)))))) | (with_reducible exact (hr.bad (by omega) (by first | exact Ml.bad_yes (by omega) | (with_reducible exact Ml.bad_good (by assumption))))) | (with_reducible exact (hr.fin (by omega)).1.trans (Ml.runesM_yes (hr.fin (by omega)).2)) | (with_reducible exact (hr.fin (by omega)).2) | (exfalso; omega)), rfl⟩, hE3⟩
            | false =>
              replace hb5 := of_decide_eq_false hb5.symm
              refine OL.q (Q1.move rfl) rfl rfl ?_
              refine OL.qb (Q1.eq rfl rfl) rfl rfl ?_
              intro b6 hb6
              refine OL.q (Q1.move rfl) rfl rfl ?_
              cases b6 with
              | true =>
                replace hb6 := eq_of_beq hb6.symm
                refine OL.q (Q1.move rfl) rfl rfl ?_
                refine OL.qb (Q1.lt rfl rfl) rfl rfl ?_
                intro b7 hb7
                refine OL.q (Q1.pick_t rfl rfl) rfl rfl ?_
                refine OL.q (Q1.pick_f rfl rfl) rfl rfl ?_
                refine OL.nil ?_
                cases b7 with
                | true =>
                  replace hb7 := of_decide_eq_true hb7.symm
                  refine r_cond_t rfl ?_
                  refine r_seq ?_
                  refine r_region ?_
                  refine OL.q (Q1.assign rfl) rfl rfl ?_
                  refine OL.q (Q1.assign rfl) rfl rfl ?_
                  refine OL.nil ?_
                  refine r_ret2 Tryz.func73 rfl rfl rfl ?_
                  exact Ret.mk ⟨_, _, rfl, (Sl.cast Sl.nil (by first | (with_reducible exact Ml.runesM_no (by exact (hr.bad (by omega) (by first | exact Ml.bad_yes (by omega) | (with_reducible exact Ml.bad_good (by assumption)))))) | (with_reducible exact (hr.bad (by omega) (by first | exact Ml.bad_yes (by omega) | (with_reducible exact Ml.bad_good (by assumption))))) | (with_reducible exact (hr.fin (by omega)).1.trans (Ml.runesM_yes (hr.fin (by omega)).2)) | (with_reducible exact (hr.fin (by omega)).2) | (exfalso; omega))), ⟨_, (by first | (with_reducible exact Ml.runesM_no (by exact (hr.bad (by omega) (by first | exact Ml.bad_yes (by omega) | (with_reducible exact Ml.bad_good (by assumption)))))) | (with_reducible exact (hr.bad (by omega) (by first | exact Ml.bad_yes (by omega) | (with_reducible exact Ml.bad_good (by assumption))))) | (with_reducible exact (hr.fin (by omega)).1.trans (Ml.runesM_yes (hr.fin (by omega)).2)) | (with_reducible exact (hr.fin (by omega)).2) | (exfalso; omega)), rfl⟩, hE3⟩
                | false =>
                  replace hb7 := of_decide_eq_false hb7.symm
                  refine r_cond_f rfl ?_
                  refine r_skip ?_
                  refine r_seq ?_
                  refine r_region ?_
                  refine OL.q (Q1.move rfl) rfl rfl ?_
                  refine OL.q (Q1.move rfl) rfl rfl ?_
                  refine OL.act rfl rfl (AW.buildSlice [(.int .i32 (((Ml.oneM s i).1)) : Value)] Tryz.underlying118 ti21 rfl rfl rfl (by decide) ?_)
                  intro w4 b8 hm3 hb8 hz1 hk1
                  have hl3 := f2.lt
                  have f3 := f2.ext hm3
                  have hE4 := hE3.ext hm3
                  have hs4 := hm3.size
                  have hl4 := Sl.of_blk (enc := encRn) hk1 ([((Ml.oneM s i).1)] : List Int) 1 rfl rfl (by unfold maxLen; omega)
                  have hl5 := f3.lt
                  refine OL.act rfl rfl (AW.append f3 Tryz.underlying118 ti21 rfl encRn_len encRn_one rfl rfl (hl4) (by first | omega | (simp only [List.length_append, List.length_cons, List.length_nil]; omega) | (simp; omega)) (by unfold maxLen; first | omega | (simp only [List.length_append, List.length_cons, List.length_nil]; omega) | (simp; omega)) ?_)
                  intro v1 g1 w5 ha2 hm4 hg2 hz2
                  have hl6 := f3.lt
                  have f4 := hl4.keepG hm4 (by omega)
                  have hE5 := Ext.thenG hE4 hm4 (by omega)
                  have hs5 := hm4.size
                  refine OL.q (Q1.assign rfl) rfl rfl ?_
                  refine OL.nil ?_
                  refine r_region ?_
                  refine OL.q (Q1.move rfl) rfl rfl ?_
                  refine OL.q (Q1.move rfl) rfl rfl ?_
                  refine OL.q (Q1.addI (((i + ((Ml.oneM s i).2.toNat) : Nat) : Int)) rfl rfl (by omega)) rfl rfl ?_
                  refine OL.q (Q1.assign rfl) rfl rfl ?_
                  refine OL.nil ?_
                  refine r_inBlock ?_
                  exact (ih1 _ _ _ ⟨(v1 : Value), (g1 : Nat), ((l ++ [((Ml.oneM s i).1)]) : List Int), (i + ((Ml.oneM s i).2.toNat) : Nat), rfl, rfl, hE5, (by omega), ha2, (by omega), (by first | exact hr.next (by omega) (Ml.bad_no (by omega) (by with_reducible assumption) (by omega) (by omega)) (by omega) | (exfalso; omega)), (by first | omega | (exfalso; omega))⟩ (by omega)).sub ⟨rfl, rfl, rfl, trivial⟩
              | false =>
                replace hb6 := ne_of_beq_false hb6.symm
                refine OL.sk rfl rfl ?_
                refine OL.sk rfl rfl ?_
                refine OL.q (Q1.pick_f rfl rfl) rfl rfl ?_
                refine OL.q (Q1.pick_f rfl rfl) rfl rfl ?_
                refine OL.nil ?_
                refine r_cond_f rfl ?_
                refine r_skip ?_
                refine r_seq ?_
                refine r_region ?_
                refine OL.q (Q1.move rfl) rfl rfl ?_
                refine OL.q (Q1.move rfl) rfl rfl ?_
                refine OL.act rfl rfl (AW.buildSlice [(.int .i32 (((Ml.oneM s i).1)) : Value)] Tryz.underlying118 ti21 rfl rfl rfl (by decide) ?_)
                intro w4 b7 hm3 hb7 hz1 hk1
                have hl3 := f2.lt
                have f3 := f2.ext hm3
                have hE4 := hE3.ext hm3
                have hs4 := hm3.size
                have hl4 := Sl.of_blk (enc := encRn) hk1 ([((Ml.oneM s i).1)] : List Int) 1 rfl rfl (by unfold maxLen; omega)
                have hl5 := f3.lt
                refine OL.act rfl rfl (AW.append f3 Tryz.underlying118 ti21 rfl encRn_len encRn_one rfl rfl (hl4) (by first | omega | (simp only [List.length_append, List.length_cons, List.length_nil]; omega) | (simp; omega)) (by unfold maxLen; first | omega | (simp only [List.length_append, List.length_cons, List.length_nil]; omega) | (simp; omega)) ?_)
                intro v1 g1 w5 ha2 hm4 hg2 hz2
                have hl6 := f3.lt
                have f4 := hl4.keepG hm4 (by omega)
                have hE5 := Ext.thenG hE4 hm4 (by omega)
                have hs5 := hm4.size
                refine OL.q (Q1.assign rfl) rfl rfl ?_
                refine OL.nil ?_
                refine r_region ?_
                refine OL.q (Q1.move rfl) rfl rfl ?_
                refine OL.q (Q1.move rfl) rfl rfl ?_
                refine OL.q (Q1.addI (((i + ((Ml.oneM s i).2.toNat) : Nat) : Int)) rfl rfl (by omega)) rfl rfl ?_
                refine OL.q (Q1.assign rfl) rfl rfl ?_
                refine OL.nil ?_
                refine r_inBlock ?_
                exact (ih1 _ _ _ ⟨(v1 : Value), (g1 : Nat), ((l ++ [((Ml.oneM s i).1)]) : List Int), (i + ((Ml.oneM s i).2.toNat) : Nat), rfl, rfl, hE5, (by omega), ha2, (by omega), (by first | exact hr.next (by omega) (Ml.bad_no (by omega) (by with_reducible assumption) (by omega) (by omega)) (by omega) | (exfalso; omega)), (by first | omega | (exfalso; omega))⟩ (by omega)).sub ⟨rfl, rfl, rfl, trivial⟩
          | false =>
            replace hb4 := ne_of_beq_false hb4.symm
            refine OL.sk rfl rfl ?_
            refine OL.sk rfl rfl ?_
            refine OL.q (Q1.pick_f rfl rfl) rfl rfl ?_
            refine OL.q (Q1.pick_f rfl rfl) rfl rfl ?_
            refine OL.q (Q1.move rfl) rfl rfl ?_
            refine OL.q (Q1.move rfl) rfl rfl ?_
            refine OL.qb (Q1.eq rfl rfl) rfl rfl ?_
            intro b5 hb5
            refine OL.q (Q1.move rfl) rfl rfl ?_
            cases b5 with
            | true =>
              replace hb5 := eq_of_beq hb5.symm
              refine OL.q (Q1.move rfl) rfl rfl ?_
              refine OL.qb (Q1.lt rfl rfl) rfl rfl ?_
              intro b6 hb6
              refine OL.q (Q1.pick_t rfl rfl) rfl rfl ?_
              refine OL.q (Q1.pick_f rfl rfl) rfl rfl ?_
              refine OL.nil ?_
              cases b6 with
              | true =>
                replace hb6 := of_decide_eq_true hb6.symm
                refine r_cond_t rfl ?_
                refine r_seq ?_
                refine r_region ?_
                refine OL.q (Q1.assign rfl) rfl rfl ?_
                refine OL.q (Q1.assign rfl) rfl rfl ?_
                refine OL.nil ?_
                refine r_ret2 Tryz.func73 rfl rfl rfl ?_
                exact Ret.mk ⟨_, _, rfl, (Sl.cast Sl.nil (by first | (with_reducible exact Ml.runesM_no (by exact (hr.bad (by omega) (by first | exact Ml.bad_yes (by omega) | (with_reducible exact Ml.bad_good (by assumption)))))) | (with_reducible exact (hr.bad (by omega) (by first | exact Ml.bad_yes (by omega) | (with_reducible exact Ml.bad_good (by assumption))))) | (with_reducible exact (hr.fin (by omega)).1.trans (Ml.runesM_yes (hr.fin (by omega)).2)) | (with_reducible exact (hr.fin (by omega)).2) | (exfalso; omega))), ⟨_, (by first | (with_reducible exact Ml.runesM_no (by exact (hr.bad (by omega) (by first | exact Ml.bad_yes (by omega) | (with_reducible exact Ml.bad_good (by assumption)))))) | (with_reducible exact (hr.bad (by omega) (by first | exact Ml.bad_yes (by omega) | (with_reducible exact Ml.bad_good (by assumption))))) | (with_reducible exact (hr.fin (by omega)).1.trans (Ml.runesM_yes (hr.fin (by omega)).2)) | (with_reducible exact (hr.fin (by omega)).2) | (exfalso; omega)), rfl⟩, hE3⟩
              | false =>
                replace hb6 := of_decide_eq_false hb6.symm
                refine r_cond_f rfl ?_
                refine r_skip ?_
                refine r_seq ?_
                refine r_region ?_
                refine OL.q (Q1.move rfl) rfl rfl ?_
                refine OL.q (Q1.move rfl) rfl rfl ?_
                refine OL.act rfl rfl (AW.buildSlice [(.int .i32 (((Ml.oneM s i).1)) : Value)] Tryz.underlying118 ti21 rfl rfl rfl (by decide) ?_)
                intro w4 b7 hm3 hb7 hz1 hk1
                have hl3 := f2.lt
                have f3 := f2.ext hm3
                have hE4 := hE3.ext hm3
                have hs4 := hm3.size
                have hl4 := Sl.of_blk (enc := encRn) hk1 ([((Ml.oneM s i).1)] : List Int) 1 rfl rfl (by unfold maxLen; omega)
                have hl5 := f3.lt
                refine OL.act rfl rfl (AW.append f3 Tryz.underlying118 ti21 rfl encRn_len encRn_one rfl rfl (hl4) (by first | omega | (simp only [List.length_append, List.length_cons, List.length_nil]; omega) | (simp; omega)) (by unfold maxLen; first | omega | (simp only [List.length_append, List.length_cons, List.length_nil]; omega) | (simp; omega)) ?_)
                intro v1 g1 w5 ha2 hm4 hg2 hz2
                have hl6 := f3.lt
                have f4 := hl4.keepG hm4 (by omega)
                have hE5 := Ext.thenG hE4 hm4 (by omega)
                have hs5 := hm4.size
                refine OL.q (Q1.assign rfl) rfl rfl ?_
                refine OL.nil ?_
                refine r_region ?_
                refine OL.q (Q1.move rfl) rfl rfl ?_
                refine OL.q (Q1.move rfl) rfl rfl ?_
                refine OL.q (Q1.addI (((i + ((Ml.oneM s i).2.toNat) : Nat) : Int)) rfl rfl (by omega)) rfl rfl ?_
                refine OL.q (Q1.assign rfl) rfl rfl ?_
                refine OL.nil ?_
                refine r_inBlock ?_
                exact (ih1 _ _ _ ⟨(v1 : Value), (g1 : Nat), ((l ++ [((Ml.oneM s i).1)]) : List Int), (i + ((Ml.oneM s i).2.toNat) : Nat), rfl, rfl, hE5, (by omega), ha2, (by omega), (by first | exact hr.next (by omega) (Ml.bad_no (by omega) (by with_reducible assumption) (by omega) (by omega)) (by omega) | (exfalso; omega)), (by first | omega | (exfalso; omega))⟩ (by omega)).sub ⟨rfl, rfl, rfl, trivial⟩
            | false =>
              replace hb5 := ne_of_beq_false hb5.symm
              refine OL.sk rfl rfl ?_
              refine OL.sk rfl rfl ?_
              refine OL.q (Q1.pick_f rfl rfl) rfl rfl ?_
              refine OL.q (Q1.pick_f rfl rfl) rfl rfl ?_
              refine OL.nil ?_
              refine r_cond_f rfl ?_
              refine r_skip ?_
              refine r_seq ?_
              refine r_region ?_
              refine OL.q (Q1.move rfl) rfl rfl ?_
              refine OL.q (Q1.move rfl) rfl rfl ?_
              refine OL.act rfl rfl (AW.buildSlice [(.int .i32 (((Ml.oneM s i).1)) : Value)] Tryz.underlying118 ti21 rfl rfl rfl (by decide) ?_)
              intro w4 b6 hm3 hb6 hz1 hk1
              have hl3 := f2.lt
              have f3 := f2.ext hm3
              have hE4 := hE3.ext hm3
              have hs4 := hm3.size
              have hl4 := Sl.of_blk (enc := encRn) hk1 ([((Ml.oneM s i).1)] : List Int) 1 rfl rfl (by unfold maxLen; omega)
              have hl5 := f3.lt
              refine OL.act rfl rfl (AW.append f3 Tryz.underlying118 ti21 rfl encRn_len encRn_one rfl rfl (hl4) (by first | omega | (simp only [List.length_append, List.length_cons, List.length_nil]; omega) | (simp; omega)) (by unfold maxLen; first | omega | (simp only [List.length_append, List.length_cons, List.length_nil]; omega) | (simp; omega)) ?_)
              intro v1 g1 w5 ha2 hm4 hg2 hz2
              have hl6 := f3.lt
              have f4 := hl4.keepG hm4 (by omega)
              have hE5 := Ext.thenG hE4 hm4 (by omega)
              have hs5 := hm4.size
              refine OL.q (Q1.assign rfl) rfl rfl ?_
              refine OL.nil ?_
              refine r_region ?_
              refine OL.q (Q1.move rfl) rfl rfl ?_
              refine OL.q (Q1.move rfl) rfl rfl ?_
              refine OL.q (Q1.addI (((i + ((Ml.oneM s i).2.toNat) : Nat) : Int)) rfl rfl (by omega)) rfl rfl ?_
              refine OL.q (Q1.assign rfl) rfl rfl ?_
              refine OL.nil ?_
              refine r_inBlock ?_
              exact (ih1 _ _ _ ⟨(v1 : Value), (g1 : Nat), ((l ++ [((Ml.oneM s i).1)]) : List Int), (i + ((Ml.oneM s i).2.toNat) : Nat), rfl, rfl, hE5, (by omega), ha2, (by omega), (by first | exact hr.next (by omega) (Ml.bad_no (by omega) (by with_reducible assumption) (by omega) (by omega)) (by omega) | (exfalso; omega)), (by first | omega | (exfalso; omega))⟩ (by omega)).sub ⟨rfl, rfl, rfl, trivial⟩
        | false =>
          replace hb3 := hb3.symm
          refine OL.q (Q1.not rfl) rfl rfl ?_
          refine OL.q (Q1.pick_f rfl rfl) rfl rfl ?_
          refine OL.q (Q1.move rfl) rfl rfl ?_
          refine OL.sk rfl rfl ?_
          refine OL.sk rfl rfl ?_
          refine OL.sk rfl rfl ?_
          refine OL.sk rfl rfl ?_
          refine OL.sk rfl rfl ?_
          refine OL.sk rfl rfl ?_
          refine OL.q (Q1.pick_t rfl rfl) rfl rfl ?_
          refine OL.q (Q1.move rfl) rfl rfl ?_
          refine OL.sk rfl rfl ?_
          refine OL.sk rfl rfl ?_
          refine OL.sk rfl rfl ?_
          refine OL.sk rfl rfl ?_
          refine OL.sk rfl rfl ?_
          refine OL.sk rfl rfl ?_
          refine OL.q (Q1.pick_t rfl rfl) rfl rfl ?_
          refine OL.nil ?_
          refine r_cond_t rfl ?_
          refine r_seq ?_
          refine r_region ?_
          refine OL.q (Q1.assign rfl) rfl rfl ?_
          refine OL.q (Q1.assign rfl) rfl rfl ?_
          refine OL.nil ?_
          refine r_ret2 Tryz.func73 rfl rfl rfl ?_
          exact Ret.mk ⟨_, _, rfl, (Sl.cast Sl.nil (by first | (with_reducible exact Ml.runesM_no (by exact (hr.bad (by omega) (by first | exact Ml.bad_yes (by omega) | (with_reducible exact Ml.bad_good (by assumption)))))) | (with_reducible exact (hr.bad (by omega) (by first | exact Ml.bad_yes (by omega) | (with_reducible exact Ml.bad_good (by assumption))))) | (with_reducible exact (hr.fin (by omega)).1.trans (Ml.runesM_yes (hr.fin (by omega)).2)) | (with_reducible exact (hr.fin (by omega)).2) | (exfalso; omega))), ⟨_, (by first | (with_reducible exact Ml.runesM_no (by exact (hr.bad (by omega) (by first | exact Ml.bad_yes (by omega) | (with_reducible exact Ml.bad_good (by assumption)))))) | (with_reducible exact (hr.bad (by omega) (by first | exact Ml.bad_yes (by omega) | (with_reducible exact Ml.bad_good (by assumption))))) | (with_reducible exact (hr.fin (by omega)).1.trans (Ml.runesM_yes (hr.fin (by omega)).2)) | (with_reducible exact (hr.fin (by omega)).2) | (exfalso; omega)), rfl⟩, hE3⟩
    | false =>
      replace hb1 := of_decide_eq_false hb1.symm
      refine r_cond_f rfl ?_
      refine r_exit rfl ?_
      refine r_seq ?_
      refine r_region ?_
      refine OL.q (Q1.move rfl) rfl rfl ?_
      refine OL.q (Q1.assign rfl) rfl rfl ?_
      refine OL.q (Q1.assign rfl) rfl rfl ?_
      refine OL.nil ?_
      refine r_ret2 Tryz.func73 rfl rfl rfl ?_
      exact Ret.mk ⟨_, _, rfl, (Sl.cast (ha1.fresh (by omega)) (by first | (with_reducible exact Ml.runesM_no (by exact (hr.bad (by omega) (by first | exact Ml.bad_yes (by omega) | (with_reducible exact Ml.bad_good (by assumption)))))) | (with_reducible exact (hr.bad (by omega) (by first | exact Ml.bad_yes (by omega) | (with_reducible exact Ml.bad_good (by assumption))))) | (with_reducible exact (hr.fin (by omega)).1.trans (Ml.runesM_yes (hr.fin (by omega)).2)) | (with_reducible exact (hr.fin (by omega)).2) | (exfalso; omega))), ⟨_, (by first | (with_reducible exact Ml.runesM_no (by exact (hr.bad (by omega) (by first | exact Ml.bad_yes (by omega) | (with_reducible exact Ml.bad_good (by assumption)))))) | (with_reducible exact (hr.bad (by omega) (by first | exact Ml.bad_yes (by omega) | (with_reducible exact Ml.bad_good (by assumption))))) | (with_reducible exact (hr.fin (by omega)).1.trans (Ml.runesM_yes (hr.fin (by omega)).2)) | (with_reducible exact (hr.fin (by omega)).2) | (exfalso; omega)), rfl⟩, hE1⟩
set_option maxRecDepth 20000 in
set_option maxHeartbeats 4000000 in
theorem rlen_c {w0 : World}  (s : Str) (hs : s.length ≤ 1000000000) :
    Calls Tryz.prog 59 #[strV s] w0 (Ret fun rv w1 => rv = .int .i64 (Ml.lenT s) ∧ Ext w0 w1 ∧ I64 (Ml.lenT s)) := by
  have hE0 : Ext w0 w0 := Mod.refl _ _
  refine calls_enter Tryz.func59 rfl Tryz.ntmps59 rfl ?_
  refine r_seq ?_
  refine r_region ?_
  refine OL.q (Q1.assign rfl) rfl rfl ?_
  refine OL.nil ?_
  refine r_seq ?_
  refine r_region ?_
  refine OL.q (Q1.move rfl) rfl rfl ?_
  refine OL.act rfl rfl (AW.callF cl73 rfl (rrunes_c (w0 := w0)  s (by first | assumption | omega)) ?_)
  rintro _ w1 ⟨v1, _, rfl, h1, ⟨b1, hb1, rfl⟩, hm1⟩
  have hE1 := hE0.ext hm1
  have hs1 := hm1.size
  have hle_1 := h1.le
  refine OL.q (Q1.move rfl) rfl rfl ?_
  refine OL.q (Q1.extract rfl rfl) rfl rfl ?_
  refine OL.q (Q1.extract rfl rfl) rfl rfl ?_
  refine OL.q (Q1.assign rfl) rfl rfl ?_
  refine OL.q (Q1.assign rfl) rfl rfl ?_
  refine OL.nil ?_
  refine r_seq ?_
  refine r_seq ?_
  refine r_region ?_
  refine OL.q (Q1.move rfl) rfl rfl ?_
  cases b1 with
  | true =>
    replace hb1 := hb1.symm
    refine OL.q (Q1.not rfl) rfl rfl ?_
    refine OL.nil ?_
    refine r_cond_f rfl ?_
    refine r_skip ?_
    refine r_seq ?_
    refine r_region ?_
    refine OL.q (Q1.move rfl) rfl rfl ?_
    refine OL.q (Q1.lenSl Tryz.underlying118 (h1) rfl) rfl rfl ?_
    refine OL.q (Q1.assign rfl) rfl rfl ?_
    refine OL.nil ?_
    refine r_ret1 Tryz.func59 rfl rfl ?_
    exact Ret.mk ⟨(congrArg (Value.int .i64) (by first | (with_reducible exact Ml.rlen_no (by assumption)) | (with_reducible exact Ml.rlen_yes (by assumption)) | (exfalso; omega))), hE1, by exact Ml.lenT_I64 (by omega)⟩
  | false =>
    replace hb1 := hb1.symm
    refine OL.q (Q1.not rfl) rfl rfl ?_
    refine OL.nil ?_
    refine r_cond_t rfl ?_
    refine r_seq ?_
    refine r_region ?_
    refine OL.q (Q1.assign rfl) rfl rfl ?_
    refine OL.nil ?_
    refine r_ret1 Tryz.func59 rfl rfl ?_
    exact Ret.mk ⟨(congrArg (Value.int .i64) (by first | (with_reducible exact Ml.rlen_no (by assumption)) | (with_reducible exact Ml.rlen_yes (by assumption)) | (exfalso; omega))), hE1, by exact Ml.lenT_I64 (by omega)⟩
set_option maxRecDepth 20000 in
set_option maxHeartbeats 4000000 in
theorem rword_c {w0 : World}  (s : Str) (hs : s.length ≤ 1000000000) :
    Calls Tryz.prog 57 #[strV s] w0 (Ret fun rv w1 => (∃ rb : Bool, rb = (Ml.word s) ∧ rv = .bool rb) ∧ Ext w0 w1) := by
  have hE0 : Ext w0 w0 := Mod.refl _ _
  refine calls_enter Tryz.func57 rfl Tryz.ntmps57 rfl ?_
  refine r_seq ?_
  refine r_region ?_
  refine OL.q (Q1.assign rfl) rfl rfl ?_
  refine OL.nil ?_
  refine r_seq ?_
  refine r_region ?_
  refine OL.q (Q1.move rfl) rfl rfl ?_
  refine OL.act rfl rfl (AW.callF cl59 rfl (rlen_c (w0 := w0)  s (by first | assumption | omega)) ?_)
  rintro _ w1 ⟨rfl, hm1, hp1⟩
  have hE1 := hE0.ext hm1
  have hs1 := hm1.size
  refine OL.qb (Q1.ge rfl rfl) rfl rfl ?_
  intro b1 hb1
  refine OL.q (Q1.move rfl) rfl rfl ?_
  cases b1 with
  | true =>
    replace hb1 := of_decide_eq_true hb1.symm
    refine OL.q (Q1.move rfl) rfl rfl ?_
    refine OL.act rfl rfl (AW.callF cl59 rfl (rlen_c (w0 := w1)  s (by first | assumption | omega)) ?_)
    rintro _ w2 ⟨rfl, hm2, hp2⟩
    have hE2 := hE1.ext hm2
    have hs2 := hm2.size
    refine OL.qb (Q1.le rfl rfl) rfl rfl ?_
    intro b2 hb2
    refine OL.q (Q1.pick_t rfl rfl) rfl rfl ?_
    refine OL.q (Q1.assign rfl) rfl rfl ?_
    refine OL.nil ?_
    refine r_ret1 Tryz.func57 rfl rfl ?_
    exact Ret.mk ⟨⟨_, (by first | simp only [Ml.word, *]; simp | (exfalso; omega)), rfl⟩, hE2⟩
  | false =>
    replace hb1 := of_decide_eq_false hb1.symm
    refine OL.sk rfl rfl ?_
    refine OL.sk rfl rfl ?_
    refine OL.sk rfl rfl ?_
    refine OL.q (Q1.pick_f rfl rfl) rfl rfl ?_
    refine OL.q (Q1.assign rfl) rfl rfl ?_
    refine OL.nil ?_
    refine r_ret1 Tryz.func57 rfl rfl ?_
    exact Ret.mk ⟨⟨_, (by first | simp only [Ml.word, *]; simp | (exfalso; omega)), rfl⟩, hE1⟩
set_option maxRecDepth 20000 in
set_option maxHeartbeats 4000000 in
theorem rcmp_c {w0 : World}  (a : Str) (b : Str) (hs_a : a.length ≤ 1000000000) (hs_b : b.length ≤ 1000000000) :
    Calls Tryz.prog 58 #[strV a, strV b] w0 (Ret fun rv w1 => rv = .int .i64 (Lib.compareBytes a b) ∧ Ext w0 w1 ∧ I64 (Lib.compareBytes a b)) := by
  have hE0 : Ext w0 w0 := Mod.refl _ _
  refine calls_enter Tryz.func58 rfl Tryz.ntmps58 rfl ?_
  refine r_seq ?_
  refine r_region ?_
  refine OL.q (Q1.assign rfl) rfl rfl ?_
  refine OL.nil ?_
  refine r_seq ?_
  refine r_seq ?_
  refine r_region ?_
  refine OL.q (Q1.assign rfl) rfl rfl ?_
  refine OL.nil ?_
  refine r_block ?_
  refine r_loop (I := fun m E W => ∃ (i : Nat), E = [(0, strV a), (1, strV b), (5, .int .i64 (((i : Nat) : Int)))] ∧ m = a.length - i ∧ Ext w0 W ∧ w0.heap.size ≤ W.heap.size ∧ (Ml.CmpInv a b i) ∧ (i ≤ a.length) ∧ (i ≤ b.length)) ?_ ?_
  · refine ⟨_, _, ⟨(0 : Nat), rfl, rfl, hE0, Nat.le_refl _, (by exact Ml.CmpInv.start a b), (by omega), (by omega)⟩, ⟨rfl, rfl, rfl, trivial⟩⟩
  · rintro _ _ w1 ⟨i, rfl, rfl, hE1, hs1, hc, hia, hib⟩ ih1
    refine r_seq ?_
    refine r_seq ?_
    refine r_region ?_
    refine OL.q (Q1.move rfl) rfl rfl ?_
    refine OL.q (Q1.move rfl) rfl rfl ?_
    refine OL.q (Q1.lenS Tryz.underlying9 rfl) rfl rfl ?_
    refine OL.qb (Q1.lt rfl rfl) rfl rfl ?_
    intro b1 hb1
    refine OL.q (Q1.move rfl) rfl rfl ?_
    cases b1 with
    | true =>
      replace hb1 := of_decide_eq_true hb1.symm
      refine OL.q (Q1.move rfl) rfl rfl ?_
      refine OL.q (Q1.move rfl) rfl rfl ?_
      refine OL.q (Q1.lenS Tryz.underlying9 rfl) rfl rfl ?_
      refine OL.qb (Q1.lt rfl rfl) rfl rfl ?_
      intro b2 hb2
      refine OL.q (Q1.pick_t rfl rfl) rfl rfl ?_
      refine OL.nil ?_
      cases b2 with
      | true =>
        replace hb2 := of_decide_eq_true hb2.symm
        refine r_cond_t rfl ?_
        refine r_skip ?_
        refine r_seq ?_
        refine r_block ?_
        refine r_seq ?_
        refine r_seq ?_
        refine r_draw1 (fun i => false) 7 (fun w' => Mod (Mg 0) w1 w') mixed (by kernel_rfl) ?_
        intro w2 hm1
        have hE2 := hE1.ext hm1
        have hs2 := hm1.size
        have hCw2 : Mod (Mg 0) w1 w2 := Mod.ofExt hm1
        refine ⟨hCw2, ?_⟩
        rw [show List.range' 0 (Array.size _) = [0, 1, 2, 3, 4, 5, 6] from rfl]
        refine OD.q rfl rfl (Q1.move rfl) rfl rfl ?_
        refine OD.q rfl rfl (Q1.move rfl) rfl rfl ?_
        have hy1 := byteAt_lt a (i)
        refine OD.q rfl rfl (Q1.indexB (i) Tryz.underlying9 rfl rfl (by omega) (by first | assumption | omega)) rfl rfl ?_
        refine OD.q rfl rfl (Q1.move rfl) rfl rfl ?_
        refine OD.q rfl rfl (Q1.move rfl) rfl rfl ?_
        have hy2 := byteAt_lt b (i)
        refine OD.q rfl rfl (Q1.indexB (i) Tryz.underlying9 rfl rfl (by omega) (by first | assumption | omega)) rfl rfl ?_
        refine OD.qb rfl rfl (Q1.lt rfl rfl) rfl rfl ?_
        intro b3 hb3
        refine OD.nil ?_
        cases b3 with
        | true =>
          replace hb3 := of_decide_eq_true hb3.symm
          refine r_cond_t rfl ?_
          refine r_seq ?_
          refine r_region ?_
          refine OL.q (Q1.assign rfl) rfl rfl ?_
          refine OL.nil ?_
          refine r_ret1 Tryz.func58 rfl rfl ?_
          exact Ret.mk ⟨(congrArg (Value.int .i64) (by first | exact hc.lt (by omega) (by omega) (by omega) | exact hc.gt (by omega) (by omega) (by omega) | exact hc.fin (by omega) hia hib (by omega) | (exfalso; omega))), hE2, by exact Ml.cmp_I64 _ _⟩
        | false =>
          replace hb3 := of_decide_eq_false hb3.symm
          refine r_cond_f rfl ?_
          refine r_skip ?_
          refine r_seq ?_
          refine r_draw1 (fun i => false) 7 (fun w' => Mod (Mg 0) w2 w') mixed (by kernel_rfl) ?_
          intro w3 hm2
          have hE3 := hE2.ext hm2
          have hs3 := hm2.size
          have hCw3 : Mod (Mg 0) w2 w3 := Mod.ofExt hm2
          refine ⟨hCw3, ?_⟩
          rw [show List.range' 0 (Array.size _) = [0, 1, 2, 3, 4, 5, 6] from rfl]
          refine OD.q rfl rfl (Q1.move rfl) rfl rfl ?_
          refine OD.q rfl rfl (Q1.move rfl) rfl rfl ?_
          have hy3 := byteAt_lt a (i)
          refine OD.q rfl rfl (Q1.indexB (i) Tryz.underlying9 rfl rfl (by omega) (by first | assumption | omega)) rfl rfl ?_
          refine OD.q rfl rfl (Q1.move rfl) rfl rfl ?_
          refine OD.q rfl rfl (Q1.move rfl) rfl rfl ?_
          have hy4 := byteAt_lt b (i)
          refine OD.q rfl rfl (Q1.indexB (i) Tryz.underlying9 rfl rfl (by omega) (by first | assumption | omega)) rfl rfl ?_
          refine OD.qb rfl rfl (Q1.gt rfl rfl) rfl rfl ?_
          intro b4 hb4
          refine OD.nil ?_
          cases b4 with
          | true =>
            replace hb4 := of_decide_eq_true hb4.symm
            refine r_cond_t rfl ?_
            refine r_seq ?_
            refine r_region ?_
            refine OL.q (Q1.assign rfl) rfl rfl ?_
            refine OL.nil ?_
            refine r_ret1 Tryz.func58 rfl rfl ?_
            exact Ret.mk ⟨(congrArg (Value.int .i64) (by first | exact hc.lt (by omega) (by omega) (by omega) | exact hc.gt (by omega) (by omega) (by omega) | exact hc.fin (by omega) hia hib (by omega) | (exfalso; omega))), hE3, by exact Ml.cmp_I64 _ _⟩
          | false =>
            replace hb4 := of_decide_eq_false hb4.symm
            refine r_cond_f rfl ?_
            refine r_skip ?_
            refine r_inBlock ?_
            refine r_region ?_
            refine OL.q (Q1.move rfl) rfl rfl ?_
            refine OL.q (Q1.addI (((i + 1 : Nat) : Int)) rfl rfl (by omega)) rfl rfl ?_
            refine OL.q (Q1.assign rfl) rfl rfl ?_
            refine OL.nil ?_
            exact (ih1 _ _ _ ⟨(i + 1 : Nat), rfl, rfl, hE3, (by omega), (by first | exact hc.next (by omega) (by omega) (by omega) | (exfalso; omega)), (by first | omega | (exfalso; omega)), (by first | omega | (exfalso; omega))⟩ (by omega)).sub ⟨rfl, rfl, rfl, trivial⟩
      | false =>
        replace hb2 := of_decide_eq_false hb2.symm
        refine r_cond_f rfl ?_
        refine r_exit rfl ?_
        refine r_seq ?_
        refine r_seq ?_
        refine r_region ?_
        refine OL.q (Q1.move rfl) rfl rfl ?_
        refine OL.q (Q1.lenS Tryz.underlying9 rfl) rfl rfl ?_
        refine OL.q (Q1.move rfl) rfl rfl ?_
        refine OL.q (Q1.lenS Tryz.underlying9 rfl) rfl rfl ?_
        refine OL.qb (Q1.lt rfl rfl) rfl rfl ?_
        intro b3 hb3
        refine OL.nil ?_
        cases b3 with
        | true =>
          replace hb3 := of_decide_eq_true hb3.symm
          refine r_cond_t rfl ?_
          refine r_seq ?_
          refine r_region ?_
          refine OL.q (Q1.assign rfl) rfl rfl ?_
          refine OL.nil ?_
          refine r_ret1 Tryz.func58 rfl rfl ?_
          exact Ret.mk ⟨(congrArg (Value.int .i64) (by first | exact hc.lt (by omega) (by omega) (by omega) | exact hc.gt (by omega) (by omega) (by omega) | exact hc.fin (by omega) hia hib (by omega) | (exfalso; omega))), hE1, by exact Ml.cmp_I64 _ _⟩
        | false =>
          replace hb3 := of_decide_eq_false hb3.symm
          refine r_cond_f rfl ?_
          refine r_skip ?_
          refine r_seq ?_
          refine r_seq ?_
          refine r_region ?_
          refine OL.q (Q1.move rfl) rfl rfl ?_
          refine OL.q (Q1.lenS Tryz.underlying9 rfl) rfl rfl ?_
          refine OL.q (Q1.move rfl) rfl rfl ?_
          refine OL.q (Q1.lenS Tryz.underlying9 rfl) rfl rfl ?_
          refine OL.qb (Q1.gt rfl rfl) rfl rfl ?_
          intro b4 hb4
          refine OL.nil ?_
          cases b4 with
          | true =>
            replace hb4 := of_decide_eq_true hb4.symm
            refine r_cond_t rfl ?_
            refine r_seq ?_
            refine r_region ?_
            refine OL.q (Q1.assign rfl) rfl rfl ?_
            refine OL.nil ?_
            refine r_ret1 Tryz.func58 rfl rfl ?_
            exact Ret.mk ⟨(congrArg (Value.int .i64) (by first | exact hc.lt (by omega) (by omega) (by omega) | exact hc.gt (by omega) (by omega) (by omega) | exact hc.fin (by omega) hia hib (by omega) | (exfalso; omega))), hE1, by exact Ml.cmp_I64 _ _⟩
          | false =>
            replace hb4 := of_decide_eq_false hb4.symm
            refine r_cond_f rfl ?_
            refine r_skip ?_
            refine r_seq ?_
            refine r_region ?_
            refine OL.q (Q1.assign rfl) rfl rfl ?_
            refine OL.nil ?_
            refine r_ret1 Tryz.func58 rfl rfl ?_
            exact Ret.mk ⟨(congrArg (Value.int .i64) (by first | exact hc.lt (by omega) (by omega) (by omega) | exact hc.gt (by omega) (by omega) (by omega) | exact hc.fin (by omega) hia hib (by omega) | (exfalso; omega))), hE1, by exact Ml.cmp_I64 _ _⟩
    | false =>
      replace hb1 := of_decide_eq_false hb1.symm
      refine OL.sk rfl rfl ?_
      refine OL.sk rfl rfl ?_
      refine OL.sk rfl rfl ?_
      refine OL.sk rfl rfl ?_
      refine OL.q (Q1.pick_f rfl rfl) rfl rfl ?_
      refine OL.nil ?_
      refine r_cond_f rfl ?_
      refine r_exit rfl ?_
      refine r_seq ?_
      refine r_seq ?_
      refine r_region ?_
      refine OL.q (Q1.move rfl) rfl rfl ?_
      refine OL.q (Q1.lenS Tryz.underlying9 rfl) rfl rfl ?_
      refine OL.q (Q1.move rfl) rfl rfl ?_
      refine OL.q (Q1.lenS Tryz.underlying9 rfl) rfl rfl ?_
      refine OL.qb (Q1.lt rfl rfl) rfl rfl ?_
      intro b2 hb2
      refine OL.nil ?_
      cases b2 with
      | true =>
        replace hb2 := of_decide_eq_true hb2.symm
        refine r_cond_t rfl ?_
        refine r_seq ?_
        refine r_region ?_
        refine OL.q (Q1.assign rfl) rfl rfl ?_
        refine OL.nil ?_
        refine r_ret1 Tryz.func58 rfl rfl ?_
        exact Ret.mk ⟨(congrArg (Value.int .i64) (by first | exact hc.lt (by omega) (by omega) (by omega) | exact hc.gt (by omega) (by omega) (by omega) | exact hc.fin (by omega) hia hib (by omega) | (exfalso; omega))), hE1, by exact Ml.cmp_I64 _ _⟩
      | false =>
        replace hb2 := of_decide_eq_false hb2.symm
        refine r_cond_f rfl ?_
        refine r_skip ?_
        refine r_seq ?_
        refine r_seq ?_
        refine r_region ?_
        refine OL.q (Q1.move rfl) rfl rfl ?_
        refine OL.q (Q1.lenS Tryz.underlying9 rfl) rfl rfl ?_
        refine OL.q (Q1.move rfl) rfl rfl ?_
        refine OL.q (Q1.lenS Tryz.underlying9 rfl) rfl rfl ?_
        refine OL.qb (Q1.gt rfl rfl) rfl rfl ?_
        intro b3 hb3
        refine OL.nil ?_
        cases b3 with
        | true =>
          replace hb3 := of_decide_eq_true hb3.symm
          refine r_cond_t rfl ?_
          refine r_seq ?_
          refine r_region ?_
          refine OL.q (Q1.assign rfl) rfl rfl ?_
          refine OL.nil ?_
          refine r_ret1 Tryz.func58 rfl rfl ?_
          exact Ret.mk ⟨(congrArg (Value.int .i64) (by first | exact hc.lt (by omega) (by omega) (by omega) | exact hc.gt (by omega) (by omega) (by omega) | exact hc.fin (by omega) hia hib (by omega) | (exfalso; omega))), hE1, by exact Ml.cmp_I64 _ _⟩
        | false =>
          replace hb3 := of_decide_eq_false hb3.symm
          refine r_cond_f rfl ?_
          refine r_skip ?_
          refine r_seq ?_
          refine r_region ?_
          refine OL.q (Q1.assign rfl) rfl rfl ?_
          refine OL.nil ?_
          refine r_ret1 Tryz.func58 rfl rfl ?_
          exact Ret.mk ⟨(congrArg (Value.int .i64) (by first | exact hc.lt (by omega) (by omega) (by omega) | exact hc.gt (by omega) (by omega) (by omega) | exact hc.fin (by omega) hia hib (by omega) | (exfalso; omega))), hE1, by exact Ml.cmp_I64 _ _⟩
set_option maxRecDepth 20000 in
set_option maxHeartbeats 4000000 in
theorem rbytes_c {w0 : World}  (r : Int) (h_r : -2147483648 ≤ r ∧ r ≤ 2147483647) (h0 : 0 ≤ r) (h1 : r ≤ 1114111) :
    Calls Tryz.prog 105 #[.int .i32 r] w0 (Ret fun rv w1 => rv = strV (Ml.encL r.toNat) ∧ Ext w0 w1) := by
  have hE0 : Ext w0 w0 := Mod.refl _ _
  refine calls_enter Tryz.func105 rfl Tryz.ntmps105 rfl ?_
  refine r_seq ?_
  refine r_region ?_
  refine OL.q (Q1.assign rfl) rfl rfl ?_
  refine OL.nil ?_
  refine r_seq ?_
  refine r_block ?_
  refine r_seq ?_
  refine r_region ?_
  refine OL.q (Q1.move rfl) rfl rfl ?_
  refine OL.qb (Q1.lt rfl rfl) rfl rfl ?_
  intro b1 hb1
  refine OL.q (Q1.assign rfl) rfl rfl ?_
  refine OL.nil ?_
  cases b1 with
  | true =>
    replace hb1 := of_decide_eq_true hb1.symm
    refine r_cond_t rfl ?_
    refine r_seq ?_
    refine r_region ?_
    refine OL.q (Q1.move rfl) rfl rfl ?_
    refine OL.q (Q1.convB (by kernel_rfl) Tryz.underlying5 rfl) rfl rfl ?_
    refine OL.act rfl rfl (AW.buildSlice [(.int .u8 (((byN r).toNat : Int)) : Value)] Tryz.underlying47 ti5 rfl rfl rfl (by decide) ?_)
    intro w1 b2 hm1 hb2 hz1 hk1
    have hE1 := hE0.ext hm1
    have hs1 := hm1.size
    have hl1 := Sl.of_blk (enc := encB) hk1 ([(byN r)] : List UInt8) 1 rfl rfl (by unfold maxLen; omega)
    refine OL.act rfl rfl (AW.bytesStr Tryz.underlying47 Tryz.underlying5 Tryz.underlying9 rfl (hl1) ?_)
    refine OL.q (Q1.assign rfl) rfl rfl ?_
    refine OL.nil ?_
    refine r_ret1 Tryz.func105 rfl rfl ?_
    exact Ret.mk ⟨(congrArg strV (by first | exact Ml.enc_b1 h0 (by omega) | exact Ml.enc_b2 h0 (by omega) (by omega) | exact Ml.enc_b3 h0 (by omega) (by omega) (by omega) | exact Ml.enc_b4 h0 (by omega) (by omega) (by omega) | (exfalso; omega))), hE1⟩
  | false =>
    replace hb1 := of_decide_eq_false hb1.symm
    refine r_cond_f rfl ?_
    refine r_seq ?_
    refine r_region ?_
    refine OL.q (Q1.move rfl) rfl rfl ?_
    refine OL.qb (Q1.lt rfl rfl) rfl rfl ?_
    intro b2 hb2
    refine OL.q (Q1.assign rfl) rfl rfl ?_
    refine OL.nil ?_
    cases b2 with
    | true =>
      replace hb2 := of_decide_eq_true hb2.symm
      refine r_cond_t rfl ?_
      refine r_seq ?_
      refine r_region ?_
      refine OL.q (Q1.move rfl) rfl rfl ?_
      refine OL.q (Q1.quo32 ((r / 64)) rfl rfl (by omega)) rfl rfl ?_
      refine OL.q (Q1.add32 ((192 + ((r / 64)))) rfl rfl (by omega)) rfl rfl ?_
      refine OL.q (Q1.convB (by kernel_rfl) Tryz.underlying5 rfl) rfl rfl ?_
      refine OL.q (Q1.move rfl) rfl rfl ?_
      have := Int.emod_nonneg (r : Int) (by omega : (64 : Int) ≠ 0)
      have := Int.emod_lt_of_pos (r : Int) (by omega : (0 : Int) < 64)
      refine OL.q (Q1.remI ((r % 64)) rfl rfl ⟨by omega, by omega, rfl⟩) rfl rfl ?_
      refine OL.q (Q1.add32 ((128 + ((r % 64)))) rfl rfl (by omega)) rfl rfl ?_
      refine OL.q (Q1.convB (by kernel_rfl) Tryz.underlying5 rfl) rfl rfl ?_
      refine OL.act rfl rfl (AW.buildSlice [(.int .u8 (((byN ((192 + ((r / 64))))).toNat : Int)) : Value), (.int .u8 (((byN ((128 + ((r % 64))))).toNat : Int)) : Value)] Tryz.underlying47 ti5 rfl rfl rfl (by decide) ?_)
      intro w1 b3 hm1 hb3 hz1 hk1
      have hE1 := hE0.ext hm1
      have hs1 := hm1.size
      have hl1 := Sl.of_blk (enc := encB) hk1 ([(byN ((192 + ((r / 64))))), (byN ((128 + ((r % 64)))))] : List UInt8) 2 rfl rfl (by unfold maxLen; omega)
      refine OL.act rfl rfl (AW.bytesStr Tryz.underlying47 Tryz.underlying5 Tryz.underlying9 rfl (hl1) ?_)
      refine OL.q (Q1.assign rfl) rfl rfl ?_
      refine OL.nil ?_
      refine r_ret1 Tryz.func105 rfl rfl ?_
      exact Ret.mk ⟨(congrArg strV (by first | exact Ml.enc_b1 h0 (by omega) | exact Ml.enc_b2 h0 (by omega) (by omega) | exact Ml.enc_b3 h0 (by omega) (by omega) (by omega) | exact Ml.enc_b4 h0 (by omega) (by omega) (by omega) | (exfalso; omega))), hE1⟩
    | false =>
      replace hb2 := of_decide_eq_false hb2.symm
      refine r_cond_f rfl ?_
      refine r_seq ?_
      refine r_region ?_
      refine OL.q (Q1.move rfl) rfl rfl ?_
      refine OL.qb (Q1.lt rfl rfl) rfl rfl ?_
      intro b3 hb3
      refine OL.q (Q1.assign rfl) rfl rfl ?_
      refine OL.nil ?_
      cases b3 with
      | true =>
        replace hb3 := of_decide_eq_true hb3.symm
        refine r_cond_t rfl ?_
        refine r_seq ?_
        refine r_region ?_
        refine OL.q (Q1.move rfl) rfl rfl ?_
        refine OL.q (Q1.quo32 ((r / 4096)) rfl rfl (by omega)) rfl rfl ?_
        refine OL.q (Q1.add32 ((224 + ((r / 4096)))) rfl rfl (by omega)) rfl rfl ?_
        refine OL.q (Q1.convB (by kernel_rfl) Tryz.underlying5 rfl) rfl rfl ?_
        refine OL.q (Q1.move rfl) rfl rfl ?_
        refine OL.q (Q1.quo32 ((r / 64)) rfl rfl (by omega)) rfl rfl ?_
        have := Int.emod_nonneg ((r / 64) : Int) (by omega : (64 : Int) ≠ 0)
        have := Int.emod_lt_of_pos ((r / 64) : Int) (by omega : (0 : Int) < 64)
        refine OL.q (Q1.remI (((r / 64) % 64)) rfl rfl ⟨by omega, by omega, rfl⟩) rfl rfl ?_
        refine OL.q (Q1.add32 ((128 + (((r / 64) % 64)))) rfl rfl (by omega)) rfl rfl ?_
        refine OL.q (Q1.convB (by kernel_rfl) Tryz.underlying5 rfl) rfl rfl ?_
        refine OL.q (Q1.move rfl) rfl rfl ?_
        have := Int.emod_nonneg (r : Int) (by omega : (64 : Int) ≠ 0)
        have := Int.emod_lt_of_pos (r : Int) (by omega : (0 : Int) < 64)
        refine OL.q (Q1.remI ((r % 64)) rfl rfl ⟨by omega, by omega, rfl⟩) rfl rfl ?_
        refine OL.q (Q1.add32 ((128 + ((r % 64)))) rfl rfl (by omega)) rfl rfl ?_
        refine OL.q (Q1.convB (by kernel_rfl) Tryz.underlying5 rfl) rfl rfl ?_
        refine OL.act rfl rfl (AW.buildSlice [(.int .u8 (((byN ((224 + ((r / 4096))))).toNat : Int)) : Value), (.int .u8 (((byN ((128 + (((r / 64) % 64))))).toNat : Int)) : Value), (.int .u8 (((byN ((128 + ((r % 64))))).toNat : Int)) : Value)] Tryz.underlying47 ti5 rfl rfl rfl (by decide) ?_)
        intro w1 b4 hm1 hb4 hz1 hk1
        have hE1 := hE0.ext hm1
        have hs1 := hm1.size
        have hl1 := Sl.of_blk (enc := encB) hk1 ([(byN ((224 + ((r / 4096))))), (byN ((128 + (((r / 64) % 64))))), (byN ((128 + ((r % 64)))))] : List UInt8) 3 rfl rfl (by unfold maxLen; omega)
        refine OL.act rfl rfl (AW.bytesStr Tryz.underlying47 Tryz.underlying5 Tryz.underlying9 rfl (hl1) ?_)
        refine OL.q (Q1.assign rfl) rfl rfl ?_
        refine OL.nil ?_
        refine r_ret1 Tryz.func105 rfl rfl ?_
        exact Ret.mk ⟨(congrArg strV (by first | exact Ml.enc_b1 h0 (by omega) | exact Ml.enc_b2 h0 (by omega) (by omega) | exact Ml.enc_b3 h0 (by omega) (by omega) (by omega) | exact Ml.enc_b4 h0 (by omega) (by omega) (by omega) | (exfalso; omega))), hE1⟩
      | false =>
        replace hb3 := of_decide_eq_false hb3.symm
        refine r_cond_f rfl ?_
        refine r_skip ?_
        refine r_inBlock ?_
        refine r_seq ?_
        refine r_region ?_
        refine OL.q (Q1.move rfl) rfl rfl ?_
        refine OL.q (Q1.quo32 ((r / 262144)) rfl rfl (by omega)) rfl rfl ?_
        refine OL.q (Q1.add32 ((240 + ((r / 262144)))) rfl rfl (by omega)) rfl rfl ?_
        refine OL.q (Q1.convB (by kernel_rfl) Tryz.underlying5 rfl) rfl rfl ?_
        refine OL.q (Q1.move rfl) rfl rfl ?_
        refine OL.q (Q1.quo32 ((r / 4096)) rfl rfl (by omega)) rfl rfl ?_
        have := Int.emod_nonneg ((r / 4096) : Int) (by omega : (64 : Int) ≠ 0)
        have := Int.emod_lt_of_pos ((r / 4096) : Int) (by omega : (0 : Int) < 64)
        refine OL.q (Q1.remI (((r / 4096) % 64)) rfl rfl ⟨by omega, by omega, rfl⟩) rfl rfl ?_
        refine OL.q (Q1.add32 ((128 + (((r / 4096) % 64)))) rfl rfl (by omega)) rfl rfl ?_
        refine OL.q (Q1.convB (by kernel_rfl) Tryz.underlying5 rfl) rfl rfl ?_
        refine OL.q (Q1.move rfl) rfl rfl ?_
        refine OL.q (Q1.quo32 ((r / 64)) rfl rfl (by omega)) rfl rfl ?_
        have := Int.emod_nonneg ((r / 64) : Int) (by omega : (64 : Int) ≠ 0)
        have := Int.emod_lt_of_pos ((r / 64) : Int) (by omega : (0 : Int) < 64)
        refine OL.q (Q1.remI (((r / 64) % 64)) rfl rfl ⟨by omega, by omega, rfl⟩) rfl rfl ?_
        refine OL.q (Q1.add32 ((128 + (((r / 64) % 64)))) rfl rfl (by omega)) rfl rfl ?_
        refine OL.q (Q1.convB (by kernel_rfl) Tryz.underlying5 rfl) rfl rfl ?_
        refine OL.q (Q1.move rfl) rfl rfl ?_
        have := Int.emod_nonneg (r : Int) (by omega : (64 : Int) ≠ 0)
        have := Int.emod_lt_of_pos (r : Int) (by omega : (0 : Int) < 64)
        refine OL.q (Q1.remI ((r % 64)) rfl rfl ⟨by omega, by omega, rfl⟩) rfl rfl ?_
        refine OL.q (Q1.add32 ((128 + ((r % 64)))) rfl rfl (by omega)) rfl rfl ?_
        refine OL.q (Q1.convB (by kernel_rfl) Tryz.underlying5 rfl) rfl rfl ?_
        refine OL.act rfl rfl (AW.buildSlice [(.int .u8 (((byN ((240 + ((r / 262144))))).toNat : Int)) : Value), (.int .u8 (((byN ((128 + (((r / 4096) % 64))))).toNat : Int)) : Value), (.int .u8 (((byN ((128 + (((r / 64) % 64))))).toNat : Int)) : Value), (.int .u8 (((byN ((128 + ((r % 64))))).toNat : Int)) : Value)] Tryz.underlying47 ti5 rfl rfl rfl (by decide) ?_)
        intro w1 b4 hm1 hb4 hz1 hk1
        have hE1 := hE0.ext hm1
        have hs1 := hm1.size
        have hl1 := Sl.of_blk (enc := encB) hk1 ([(byN ((240 + ((r / 262144))))), (byN ((128 + (((r / 4096) % 64))))), (byN ((128 + (((r / 64) % 64))))), (byN ((128 + ((r % 64)))))] : List UInt8) 4 rfl rfl (by unfold maxLen; omega)
        refine OL.act rfl rfl (AW.bytesStr Tryz.underlying47 Tryz.underlying5 Tryz.underlying9 rfl (hl1) ?_)
        refine OL.q (Q1.assign rfl) rfl rfl ?_
        refine OL.nil ?_
        refine r_ret1 Tryz.func105 rfl rfl ?_
        exact Ret.mk ⟨(congrArg strV (by first | exact Ml.enc_b1 h0 (by omega) | exact Ml.enc_b2 h0 (by omega) (by omega) | exact Ml.enc_b3 h0 (by omega) (by omega) (by omega) | exact Ml.enc_b4 h0 (by omega) (by omega) (by omega) | (exfalso; omega))), hE1⟩
set_option maxRecDepth 20000 in
set_option maxHeartbeats 4000000 in
theorem rtext_c {w0 : World}  {v_rs : Value} {rs : List Int} (h_rs : Sl encRn w0 (Iv 0 w0.heap.size) v_rs rs) (hI : ∀ x ∈ rs, -2147483648 ≤ x ∧ x ≤ 2147483647) (hn : rs.length ≤ 1000000) :
    Calls Tryz.prog 102 #[v_rs] w0 (Ret fun rv w1 => ∃ u0 u1, rv = .tuple #[u0, u1] ∧ u0 = strV (Ml.rtext rs) ∧ (∃ rb : Bool, rb = (rs.all Ml.goodR) ∧ u1 = .bool rb) ∧ Ext w0 w1) := by
  have hE0 : Ext w0 w0 := Mod.refl _ _
  have hle1 := h_rs.le
  refine calls_enter Tryz.func102 rfl Tryz.ntmps102 rfl ?_
  refine r_seq ?_
  refine r_region ?_
  refine OL.q (Q1.assign rfl) rfl rfl ?_
  refine OL.q (Q1.assign rfl) rfl rfl ?_
  refine OL.nil ?_
  refine r_seq ?_
  refine r_region ?_
  refine OL.q (Q1.assign rfl) rfl rfl ?_
  refine OL.nil ?_
  refine r_seq ?_
  refine r_seq ?_
  refine r_region ?_
  refine OL.q (Q1.assign rfl) rfl rfl ?_
  refine OL.nil ?_
  refine r_block ?_
  refine r_loop (I := fun m E W => ∃ (s : Str) (k : Nat), E = [(0, v_rs), (4, strV s), (5, .int .i64 (((k : Nat) : Int)))] ∧ m = rs.length - k ∧ Ext w0 W ∧ w0.heap.size ≤ W.heap.size ∧ Sl encRn W (Iv 0 w0.heap.size) v_rs rs ∧ ((rs.take k).all Ml.goodR = true) ∧ (s = Ml.encI_ (rs.take k)) ∧ (s.length ≤ 4 * k)) ?_ ?_
  · refine ⟨_, _, ⟨(([] : Str) : Str), (0 : Nat), rfl, rfl, hE0, Nat.le_refl _, h_rs, (by rfl), (by rfl), (by exact Nat.zero_le _)⟩, ⟨rfl, rfl, rfl, trivial⟩⟩
  · rintro _ _ w1 ⟨s, k, rfl, rfl, hE1, hs1, f1, ha, hs, hsl⟩ ih1
    refine r_seq ?_
    refine r_seq ?_
    refine r_region ?_
    refine OL.q (Q1.move rfl) rfl rfl ?_
    refine OL.q (Q1.move rfl) rfl rfl ?_
    refine OL.q (Q1.lenSl Tryz.underlying118 (f1) rfl) rfl rfl ?_
    refine OL.qb (Q1.lt rfl rfl) rfl rfl ?_
    intro b1 hb1
    refine OL.nil ?_
    cases b1 with
    | true =>
      replace hb1 := of_decide_eq_true hb1.symm
      refine r_cond_t rfl ?_
      refine r_skip ?_
      refine r_seq ?_
      refine r_block ?_
      refine r_seq ?_
      refine r_seq ?_
      refine r_region ?_
      refine OL.q (Q1.move rfl) rfl rfl ?_
      refine OL.q (Q1.move rfl) rfl rfl ?_
      obtain ⟨x1, b2, o1, hx1, hr1, hl1, hu1, hw1⟩ := Sl.at' (P := Tryz.prog) f1 Tryz.underlying118 ti21 encRn_len (k := .i64) (n := ((k : Nat) : Int)) (k) (by omega) (by first | assumption | omega)
      refine OL.q (Q1.indexAddr rfl rfl hr1) rfl rfl ?_
      refine OL.q (Q1.load1 ti21 rfl (fun _ e => e ▸ hw1)) rfl rfl ?_
      have hxr := hI _ (List.mem_of_getElem? hx1)
      refine OL.act rfl rfl (AW.callF cl90 rfl (rgood_c (w0 := w1)  (x1) (by first | omega | assumption)) ?_)
      rintro _ w2 ⟨⟨b3, hb2, rfl⟩, hm1⟩
      have f2 := f1.ext hm1
      have hE2 := hE1.ext hm1
      have hs2 := hm1.size
      cases b3 with
      | true =>
        replace hb2 := hb2.symm
        refine OL.q (Q1.not rfl) rfl rfl ?_
        refine OL.nil ?_
        refine r_cond_f rfl ?_
        refine r_skip ?_
        refine r_region ?_
        refine OL.q (Q1.move rfl) rfl rfl ?_
        have hgr := Ml.goodR_rng (by assumption)
        have hel := Ml.encL_len4' x1.toNat
        refine OL.q (Q1.move rfl) rfl rfl ?_
        refine OL.q (Q1.move rfl) rfl rfl ?_
        obtain ⟨x2, b4, o2, hx2, hr2, hl2, hu2, hw2⟩ := Sl.at' (P := Tryz.prog) f2 Tryz.underlying118 ti21 encRn_len (k := .i64) (n := ((k : Nat) : Int)) (k) (by omega) (by first | assumption | omega)
        obtain rfl : x1 = x2 := Option.some.inj (hx1.symm.trans hx2)
        refine OL.q (Q1.indexAddr rfl rfl hr2) rfl rfl ?_
        refine OL.q (Q1.load1 ti21 rfl (fun _ e => e ▸ hw2)) rfl rfl ?_
        refine OL.act rfl rfl (AW.callF cl105 rfl (rbytes_c (w0 := w2)  (x1) (by first | omega | assumption) (by first | assumption | omega) (by first | assumption | omega)) ?_)
        rintro _ w3 ⟨rfl, hm2⟩
        have f3 := f2.ext hm2
        have hE3 := hE2.ext hm2
        have hs3 := hm2.size
        refine OL.q (Q1.catS rfl rfl (by first | omega | (simp only [List.length_append]; omega))) rfl rfl ?_
        refine OL.q (Q1.assign rfl) rfl rfl ?_
        refine OL.nil ?_
        refine r_inBlock ?_
        refine r_region ?_
        refine OL.q (Q1.move rfl) rfl rfl ?_
        refine OL.q (Q1.addI (((k + 1 : Nat) : Int)) rfl rfl (by omega)) rfl rfl ?_
        refine OL.q (Q1.assign rfl) rfl rfl ?_
        refine OL.nil ?_
        exact (ih1 _ _ _ ⟨((s ++ (Ml.encL x1.toNat)) : Str), (k + 1 : Nat), rfl, rfl, hE3, (by omega), f3, (by first | exact Ml.all_take_succ ha hx1 (by assumption) | (exfalso; omega)), (by first | rw [Ml.encI_take hx1, ← hs] | (exfalso; omega)), (by first | (simp only [List.length_append]; omega) | (exfalso; omega))⟩ (by omega)).sub ⟨rfl, rfl, rfl, trivial⟩
      | false =>
        replace hb2 := hb2.symm
        refine OL.q (Q1.not rfl) rfl rfl ?_
        refine OL.nil ?_
        refine r_cond_t rfl ?_
        refine r_seq ?_
        refine r_region ?_
        refine OL.q (Q1.assign rfl) rfl rfl ?_
        refine OL.q (Q1.assign rfl) rfl rfl ?_
        refine OL.nil ?_
        refine r_ret2 Tryz.func102 rfl rfl rfl ?_
        exact Ret.mk ⟨_, _, rfl, (congrArg strV (by first | (with_reducible exact (Ml.rtext_no hx1 (by assumption)).1) | (with_reducible exact (Ml.rtext_no hx1 (by assumption)).2) | (with_reducible exact (Ml.rtext_yes ha hs (by omega)).1) | (with_reducible exact (Ml.rtext_yes ha hs (by omega)).2) | (exfalso; omega))), ⟨_, (by first | (with_reducible exact (Ml.rtext_no hx1 (by assumption)).1) | (with_reducible exact (Ml.rtext_no hx1 (by assumption)).2) | (with_reducible exact (Ml.rtext_yes ha hs (by omega)).1) | (with_reducible exact (Ml.rtext_yes ha hs (by omega)).2) | (exfalso; omega)), rfl⟩, hE2⟩
    | false =>
      replace hb1 := of_decide_eq_false hb1.symm
      refine r_cond_f rfl ?_
      refine r_exit rfl ?_
      refine r_seq ?_
      refine r_region ?_
      refine OL.q (Q1.move rfl) rfl rfl ?_
      refine OL.q (Q1.assign rfl) rfl rfl ?_
      refine OL.q (Q1.assign rfl) rfl rfl ?_
      refine OL.nil ?_
      refine r_ret2 Tryz.func102 rfl rfl rfl ?_
      exact Ret.mk ⟨_, _, rfl, (congrArg strV (by first | (with_reducible exact (Ml.rtext_no hx1 (by assumption)).1) | (with_reducible exact (Ml.rtext_no hx1 (by assumption)).2) | (with_reducible exact (Ml.rtext_yes ha hs (by omega)).1) | (with_reducible exact (Ml.rtext_yes ha hs (by omega)).2) | (exfalso; omega))), ⟨_, (by first | (with_reducible exact (Ml.rtext_no hx1 (by assumption)).1) | (with_reducible exact (Ml.rtext_no hx1 (by assumption)).2) | (with_reducible exact (Ml.rtext_yes ha hs (by omega)).1) | (with_reducible exact (Ml.rtext_yes ha hs (by omega)).2) | (exfalso; omega)), rfl⟩, hE1⟩
set_option maxRecDepth 20000 in
set_option maxHeartbeats 4000000 in
theorem rpfx_c {w0 : World}  (s : Str) (n : Int) (h_n : I64 n) (hs : s.length ≤ 1000000) (hn : n = 1) (hf : Fine s) (hne : s ≠ []) :
    Calls Tryz.prog 92 #[strV s, .int .i64 n] w0 (Ret fun rv w1 => rv = strV (Ml.pfx s) ∧ Ext w0 w1) := by
  have hE0 : Ext w0 w0 := Mod.refl _ _
  have hr32 := runesM_r32 s
  refine calls_enter Tryz.func92 rfl Tryz.ntmps92 rfl ?_
  refine r_seq ?_
  refine r_region ?_
  refine OL.q (Q1.assign rfl) rfl rfl ?_
  refine OL.nil ?_
  refine r_seq ?_
  refine r_region ?_
  refine OL.q (Q1.move rfl) rfl rfl ?_
  refine OL.act rfl rfl (AW.callF cl73 rfl (rrunes_c (w0 := w0)  s (by first | assumption | omega)) ?_)
  rintro _ w1 ⟨v1, _, rfl, h1, ⟨b1, hb1, rfl⟩, hm1⟩
  have hE1 := hE0.ext hm1
  have hs1 := hm1.size
  have hle_1 := h1.le
  have hrl := Ml.runesM_len s
  refine OL.q (Q1.move rfl) rfl rfl ?_
  refine OL.q (Q1.extract rfl rfl) rfl rfl ?_
  refine OL.q (Q1.extract rfl rfl) rfl rfl ?_
  refine OL.q (Q1.assign rfl) rfl rfl ?_
  refine OL.q (Q1.assign rfl) rfl rfl ?_
  refine OL.nil ?_
  refine r_seq ?_
  refine r_seq ?_
  refine r_region ?_
  refine OL.q (Q1.move rfl) rfl rfl ?_
  refine OL.qb (Q1.lt rfl rfl) rfl rfl ?_
  intro b2 hb2
  refine OL.nil ?_
  cases b2 with
  | true =>
    replace hb2 := of_decide_eq_true hb2.symm
    refine r_cond_t rfl ?_
    refine r_seq ?_
    refine r_region ?_
    refine OL.q (Q1.assign rfl) rfl rfl ?_
    refine OL.nil ?_
    refine r_ret1 Tryz.func92 rfl rfl ?_
    exact Ret.mk ⟨(congrArg strV (by first | (rw [show n.toNat = 1 from by omega]; exact Ml.rpfx hf hne) | exact Ml.rpfx1 hf hne (by omega) | (exfalso; omega))), hE1⟩
  | false =>
    replace hb2 := of_decide_eq_false hb2.symm
    refine r_cond_f rfl ?_
    refine r_skip ?_
    refine r_seq ?_
    refine r_seq ?_
    refine r_region ?_
    refine OL.q (Q1.move rfl) rfl rfl ?_
    refine OL.q (Q1.move rfl) rfl rfl ?_
    refine OL.q (Q1.lenSl Tryz.underlying118 (h1) rfl) rfl rfl ?_
    refine OL.qb (Q1.lt rfl rfl) rfl rfl ?_
    intro b3 hb3
    refine OL.nil ?_
    cases b3 with
    | true =>
      replace hb3 := of_decide_eq_true hb3.symm
      refine r_cond_t rfl ?_
      refine r_region ?_
      refine OL.q (Q1.move rfl) rfl rfl ?_
      refine OL.q (Q1.move rfl) rfl rfl ?_
      obtain ⟨v2, hr1, hl1⟩ := Sl.part (P := Tryz.prog) h1 Tryz.underlying118 ti21 encRn_len (0) ((n).toNat) (.inl ⟨rfl, rfl⟩) (.inr ⟨.i64, n, rfl, by omega⟩) (by omega) (by first | assumption | omega)
      refine OL.q (Q1.sliceV rfl rfl rfl rfl hr1) rfl rfl ?_
      replace hl1 : Sl encRn w1 (Iv w0.heap.size w1.heap.size) v2 (((Ml.runesM s)).take ((n).toNat)) := by simpa using hl1
      refine OL.q (Q1.assign rfl) rfl rfl ?_
      refine OL.nil ?_
      refine r_seq ?_
      refine r_region ?_
      refine OL.q (Q1.move rfl) rfl rfl ?_
      refine OL.act rfl rfl (AW.callF cl102 rfl (rtext_c (w0 := w1) (rs := (((Ml.runesM s)).take ((n).toNat)))  ((hl1).iv (Nat.zero_le _) (by omega)) (by first | exact hr32 | exact fun x hx => hr32 x (List.mem_of_mem_take hx)) (by first | omega | (simp only [List.length_take]; omega))) ?_)
      rintro _ w2 ⟨_, _, rfl, rfl, ⟨b4, hb4, rfl⟩, hm2⟩
      have f1 := h1.ext hm2
      have f2 := hl1.ext hm2
      have hE2 := hE1.ext hm2
      have hs2 := hm2.size
      refine OL.q (Q1.move rfl) rfl rfl ?_
      refine OL.q (Q1.extract rfl rfl) rfl rfl ?_
      refine OL.q (Q1.extract rfl rfl) rfl rfl ?_
      refine OL.q (Q1.assign rfl) rfl rfl ?_
      refine OL.q (Q1.assign rfl) rfl rfl ?_
      refine OL.nil ?_
      refine r_seq ?_
      refine r_region ?_
      refine OL.q (Q1.move rfl) rfl rfl ?_
      refine OL.q (Q1.assign rfl) rfl rfl ?_
      refine OL.nil ?_
      refine r_ret1 Tryz.func92 rfl rfl ?_
      exact Ret.mk ⟨(congrArg strV (by first | (rw [show n.toNat = 1 from by omega]; exact Ml.rpfx hf hne) | exact Ml.rpfx1 hf hne (by omega) | (exfalso; omega))), hE2⟩
    | false =>
      replace hb3 := of_decide_eq_false hb3.symm
      refine r_cond_f rfl ?_
      refine r_skip ?_
      refine r_seq ?_
      refine r_region ?_
      refine OL.q (Q1.move rfl) rfl rfl ?_
      refine OL.act rfl rfl (AW.callF cl102 rfl (rtext_c (w0 := w1) (rs := (Ml.runesM s))  ((h1).iv (Nat.zero_le _) (by omega)) (by first | exact hr32 | exact fun x hx => hr32 x (List.mem_of_mem_take hx)) (by first | omega | (simp only [List.length_take]; omega))) ?_)
      rintro _ w2 ⟨_, _, rfl, rfl, ⟨b4, hb4, rfl⟩, hm2⟩
      have f1 := h1.ext hm2
      have hE2 := hE1.ext hm2
      have hs2 := hm2.size
      refine OL.q (Q1.move rfl) rfl rfl ?_
      refine OL.q (Q1.extract rfl rfl) rfl rfl ?_
      refine OL.q (Q1.extract rfl rfl) rfl rfl ?_
      refine OL.q (Q1.assign rfl) rfl rfl ?_
      refine OL.q (Q1.assign rfl) rfl rfl ?_
      refine OL.nil ?_
      refine r_seq ?_
      refine r_region ?_
      refine OL.q (Q1.move rfl) rfl rfl ?_
      refine OL.q (Q1.assign rfl) rfl rfl ?_
      refine OL.nil ?_
      refine r_ret1 Tryz.func92 rfl rfl ?_
      exact Ret.mk ⟨(congrArg strV (by first | (rw [show n.toNat = 1 from by omega]; exact Ml.rpfx hf hne) | exact Ml.rpfx1 hf hne (by omega) | (exfalso; omega))), hE2⟩
end Go.Proofs
