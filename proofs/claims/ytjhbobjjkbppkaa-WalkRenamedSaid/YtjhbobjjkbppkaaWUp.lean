/-
  The walk through the text of other runes.
-/
import Derived.Test.YtjhbobjjkbppkaaFacts
set_option linter.unusedVariables false
set_option linter.unusedSimpArgs false
namespace Go.Proofs
open Go.Ik Go.Ml
set_option maxRecDepth 20000 in
set_option maxHeartbeats 4000000 in
theorem up_c {w0 : World}  (s : Str) (hsl : s.length ≤ 1000000) :
    Calls Try.prog 32 #[strV s] w0 (Ret fun rv w1 => rv = strV (upM s) ∧ Ext w0 w1) := by
  have hE0 : Ext w0 w0 := Mod.refl _ _
  refine calls_enter Try.func32 rfl Try.ntmps32 rfl ?_
  refine r_seq ?_
  refine r_region ?_
  refine OL.q (Q1.assign rfl) rfl rfl ?_
  refine OL.nil ?_
  refine r_seq ?_
  refine r_region ?_
  refine OL.q (Q1.assign rfl) rfl rfl ?_
  refine OL.nil ?_
  refine r_seq ?_
  refine r_seq ?_
  refine r_region ?_
  refine OL.q (Q1.assign rfl) rfl rfl ?_
  refine OL.nil ?_
  refine r_block ?_
  refine r_loop (I := fun m E W => ∃ (v_rs : Value) (g_rs : Nat) (rs : List Int) (i : Nat), E = [(0, strV s), (3, v_rs), (4, .int .i64 (((i : Nat) : Int)))] ∧ m = s.length - i ∧ Ext w0 W ∧ w0.heap.size ≤ W.heap.size ∧ Acc encRn 21 1 W g_rs v_rs rs ∧ (g_rs = 0 ∨ w0.heap.size < g_rs) ∧ (rs = (s.take i).map fun a => (128512 + (a.toNat : Int))) ∧ (rs.length = i) ∧ (i ≤ s.length)) ?_ ?_
  · refine ⟨_, _, ⟨(.slice none 0 0 : Value), (0 : Nat), ([] : List Int), (0 : Nat), rfl, rfl, hE0, Nat.le_refl _, Acc.nil, (by omega), (by rfl), (by rfl), (by omega)⟩, ⟨rfl, rfl, rfl, trivial⟩⟩
  · rintro _ _ w1 ⟨v_rs, g_rs, rs, i, rfl, rfl, hE1, hs1, ha1, hg1, hrs, hrl, hil⟩ ih1
    refine r_seq ?_
    refine r_seq ?_
    refine r_region ?_
    refine OL.q (Q1.move rfl) rfl rfl ?_
    refine OL.q (Q1.move rfl) rfl rfl ?_
    refine OL.q (Q1.lenS Try.underlying9 rfl) rfl rfl ?_
    refine OL.qb (Q1.lt rfl rfl) rfl rfl ?_
    intro b1 hb1
    refine OL.nil ?_
    cases b1 with
    | true =>
      replace hb1 := of_decide_eq_true hb1.symm
      refine r_cond_t rfl ?_
      refine r_skip ?_
      refine r_seq ?_
      refine r_block ?_
      refine r_region ?_
      refine OL.q (Q1.move rfl) rfl rfl ?_
      refine OL.q (Q1.move rfl) rfl rfl ?_
      refine OL.q (Q1.move rfl) rfl rfl ?_
      have hy1 := byteAt_lt s (i)
      refine OL.q (Q1.indexB (i) Try.underlying9 rfl rfl (by omega) (by first | assumption | omega)) rfl rfl ?_
      refine OL.q (Q1.convN (by kernel_rfl) Try.underlying21 rfl (IntWalk.i32_in _ (by omega))) rfl rfl ?_
      refine OL.q (Q1.add32 ((128512 + (((byteAt s i : Nat) : Int)))) rfl rfl (by omega)) rfl rfl ?_
      refine OL.act rfl rfl (AW.buildSlice [(.int .i32 ((128512 + (((byteAt s i : Nat) : Int)))) : Value)] Try.underlying74 ti21 rfl rfl rfl (by decide) ?_)
      intro w2 b2 hm1 hb2 hz1 hk1
      have hl1 := ha1.lt
      have f1 := ha1.ext hm1
      have hE2 := hE1.ext hm1
      have hs2 := hm1.size
      have hl2 := Sl.of_blk (enc := encRn) hk1 ([(128512 + (((byteAt s i : Nat) : Int)))] : List Int) 1 rfl rfl (by unfold maxLen; omega)
      have hl3 := f1.lt
      refine OL.act rfl rfl (AW.append f1 Try.underlying74 ti21 rfl encRn_len encRn_one rfl rfl (hl2) (by first | omega | (simp only [List.length_append, List.length_cons, List.length_nil]; omega) | (simp; omega)) (by unfold maxLen; first | omega | (simp only [List.length_append, List.length_cons, List.length_nil]; omega) | (simp; omega)) ?_)
      intro v1 g1 w3 ha2 hm2 hg2 hz2
      have hl4 := f1.lt
      have f2 := hl2.keepG hm2 (by omega)
      have hE3 := Ext.thenG hE2 hm2 (by omega)
      have hs3 := hm2.size
      refine OL.q (Q1.assign rfl) rfl rfl ?_
      refine OL.nil ?_
      refine r_inBlock ?_
      refine r_region ?_
      refine OL.q (Q1.move rfl) rfl rfl ?_
      refine OL.q (Q1.addI (((i + 1 : Nat) : Int)) rfl rfl (by omega)) rfl rfl ?_
      refine OL.q (Q1.assign rfl) rfl rfl ?_
      refine OL.nil ?_
      exact (ih1 _ _ _ ⟨(v1 : Value), (g1 : Nat), ((rs ++ [(128512 + (((byteAt s i : Nat) : Int)))]) : List Int), (i + 1 : Nat), rfl, rfl, hE3, (by omega), ha2, (by omega), (by first | exact up_runB hrs (by omega) rfl | (exfalso; omega)), (by first | (simp only [List.length_append, List.length_cons, List.length_nil]; omega) | (exfalso; omega)), (by first | omega | (exfalso; omega))⟩ (by omega)).sub ⟨rfl, rfl, rfl, trivial⟩
    | false =>
      replace hb1 := of_decide_eq_false hb1.symm
      refine r_cond_f rfl ?_
      refine r_exit rfl ?_
      refine r_seq ?_
      refine r_region ?_
      refine OL.q (Q1.move rfl) rfl rfl ?_
      refine OL.act rfl rfl (AW.runesStr Try.underlying74 Try.underlying21 Try.underlying9 rfl (ha1.sl) ?_)
      refine OL.q (Q1.assign rfl) rfl rfl ?_
      refine OL.nil ?_
      refine r_ret1 Try.func32 rfl rfl ?_
      exact Ret.mk ⟨(congrArg strV (by first | exact up_end hrs (by omega) | (exfalso; omega))), hE1⟩
end Go.Proofs
