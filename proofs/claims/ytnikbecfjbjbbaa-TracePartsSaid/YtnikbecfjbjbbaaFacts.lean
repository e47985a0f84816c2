/-
  Facts on the types and functions of the translation.
-/
import Derived.Test.YtnikbecfjbjbbaaProg
import Derived.Test.YtnikbecfjbjbbaaLibB
import Derived.Test.YtnikbecfjbjbbaaLibC
set_option linter.unusedVariables false
set_option linter.unusedSimpArgs false
namespace Go.Proofs
open Go.Ik Go.Ml
theorem mixed : Try.prog.follows .mixedOrders = true := by kernel_rfl
theorem ti3 : tyI Try.prog 3 = some (false, 1, 8, [.int .i64 0]) := by kernel_rfl
theorem ti26 : tyI Try.prog 26 = some (true, 6, 48, [.int .i64 0, .int .i64 0, .int .i64 0, .int .i64 0, .int .i64 0, .int .i64 0]) := by kernel_rfl
theorem ti28 : tyI Try.prog 28 = some (false, 1, 24, [.slice none 0 0]) := by kernel_rfl
theorem ti36 : tyI Try.prog 36 = some (false, 1, 24, [.slice none 0 0]) := by kernel_rfl
theorem ti38 : tyI Try.prog 38 = some (true, 12, 136, [.int .i64 0, .int .i64 0, .int .i64 0, .int .i64 0, strV [], .int .i64 0, .int .i64 0, .int .i64 0, .int .i64 0, .slice none 0 0, .int .i64 0, .slice none 0 0]) := by kernel_rfl
theorem ti40 : tyI Try.prog 40 = some (true, 3, 24, [.int .i64 0, .int .i64 0, .int .i64 0]) := by kernel_rfl
theorem fl26_0 : fldI Try.prog 26 0 = some 0 := by kernel_rfl
theorem fl26_1 : fldI Try.prog 26 1 = some 1 := by kernel_rfl
theorem fl26_2 : fldI Try.prog 26 2 = some 2 := by kernel_rfl
theorem fl26_3 : fldI Try.prog 26 3 = some 3 := by kernel_rfl
theorem fl26_4 : fldI Try.prog 26 4 = some 4 := by kernel_rfl
theorem fl26_5 : fldI Try.prog 26 5 = some 5 := by kernel_rfl
theorem fl38_1 : fldI Try.prog 38 1 = some 7 := by kernel_rfl
theorem fl38_2 : fldI Try.prog 38 2 = some 8 := by kernel_rfl
theorem fl38_3 : fldI Try.prog 38 3 = some 9 := by kernel_rfl
theorem fl38_4 : fldI Try.prog 38 4 = some 10 := by kernel_rfl
theorem fl38_5 : fldI Try.prog 38 5 = some 11 := by kernel_rfl
theorem fl40_0 : fldI Try.prog 40 0 = some 0 := by kernel_rfl
theorem eqS26 (a b : RSum) (w : World) : (Op.equalIn 10000 26 (.agg #[.int .i64 a.sent, .int .i64 a.got, .int .i64 a.lost, .int .i64 a.accepted, .int .i64 a.busy, .int .i64 a.invalid]) (.agg #[.int .i64 b.sent, .int .i64 b.got, .int .i64 b.lost, .int .i64 b.accepted, .int .i64 b.busy, .int .i64 b.invalid])).run Try.prog w = .ok (decide (a = b)) w :=
  run_eq_flat (ks := [(0, .int .i64), (1, .int .i64), (2, .int .i64), (3, .int .i64), (4, .int .i64), (5, .int .i64)]) (by kernel_rfl) (by kernel_rfl) (by kernel_rfl) (by
    obtain ⟨a0, a1, a2, a3, a4, a5⟩ := a
    obtain ⟨b0, b1, b2, b3, b4, b5⟩ := b
    (by_cases h0 : a0 = b0) <;> (first | (have g0 := beq_eq_false_iff_ne.2 h0) | (have g0 := beq_iff_eq.2 h0)) <;> (by_cases h1 : a1 = b1) <;> (first | (have g1 := beq_eq_false_iff_ne.2 h1) | (have g1 := beq_iff_eq.2 h1)) <;> (by_cases h2 : a2 = b2) <;> (first | (have g2 := beq_eq_false_iff_ne.2 h2) | (have g2 := beq_iff_eq.2 h2)) <;> (by_cases h3 : a3 = b3) <;> (first | (have g3 := beq_eq_false_iff_ne.2 h3) | (have g3 := beq_iff_eq.2 h3)) <;> (by_cases h4 : a4 = b4) <;> (first | (have g4 := beq_eq_false_iff_ne.2 h4) | (have g4 := beq_iff_eq.2 h4)) <;> (by_cases h5 : a5 = b5) <;> (first | (have g5 := beq_eq_false_iff_ne.2 h5) | (have g5 := beq_iff_eq.2 h5)) <;> simp [eqCells, cellEq, strV, toList_mk, h0, h1, h2, h3, h4, h5, g0, g1, g2, g3, g4, g5]) w
theorem cl4 : clB Try.prog 4 = true := by kernel_rfl
theorem cl5 : clB Try.prog 5 = true := by kernel_rfl
theorem cl6 : clB Try.prog 6 = true := by kernel_rfl
theorem cl7 : clB Try.prog 7 = true := by kernel_rfl
theorem cl8 : clB Try.prog 8 = true := by kernel_rfl
theorem cl9 : clB Try.prog 9 = true := by kernel_rfl
theorem cl10 : clB Try.prog 10 = true := by kernel_rfl
theorem cl11 : clB Try.prog 11 = true := by kernel_rfl
end Go.Proofs
