/-
  Facts on the types and functions of the translation.
-/
import Derived.Test.YtpdmkdhnppbllaaProg
import Derived.Test.YtpdmkdhnppbllaaIk6
import Derived.Test.YtpdmkdhnppbllaaMGraph
set_option linter.unusedVariables false
set_option linter.unusedSimpArgs false
namespace Go.Proofs
open Go.Ik Go.Ml
theorem mixed : Try.prog.follows .mixedOrders = true := by kernel_rfl
theorem ti3 : tyI Try.prog 3 = some (false, 1, 8, [.int .i64 0]) := by kernel_rfl
theorem ti4 : tyI Try.prog 4 = some (false, 1, 1, [.bool false]) := by kernel_rfl
theorem ti5 : tyI Try.prog 5 = some (false, 1, 1, [.int .u8 0]) := by kernel_rfl
theorem ti9 : tyI Try.prog 9 = some (false, 1, 16, [strV []]) := by kernel_rfl
theorem ti21 : tyI Try.prog 21 = some (false, 1, 4, [.int .i32 0]) := by kernel_rfl
theorem ti22 : tyI Try.prog 22 = some (false, 1, 24, [.slice none 0 0]) := by kernel_rfl
theorem ti26 : tyI Try.prog 26 = some (false, 1, 8, [.pointer none]) := by kernel_rfl
theorem ti36 : tyI Try.prog 36 = some (false, 1, 24, [.slice none 0 0]) := by kernel_rfl
theorem ti39 : tyI Try.prog 39 = some (false, 1, 24, [.slice none 0 0]) := by kernel_rfl
theorem ti49 : tyI Try.prog 49 = some (true, 2, 16, [.int .i32 0, .int .i64 0]) := by kernel_rfl
theorem ti65 : tyI Try.prog 65 = some (false, 1, 24, [.slice none 0 0]) := by kernel_rfl
theorem ti68 : tyI Try.prog 68 = some (false, 1, 8, [.map none]) := by kernel_rfl
theorem ti72 : tyI Try.prog 72 = some (true, 2, 32, [.bool false, .slice none 0 0]) := by kernel_rfl
theorem ti77 : tyI Try.prog 77 = some (true, 2, 48, [.slice none 0 0, .slice none 0 0]) := by kernel_rfl
theorem fl38_0 : fldI Try.prog 38 0 = some 0 := by kernel_rfl
theorem fl49_0 : fldI Try.prog 49 0 = some 0 := by kernel_rfl
theorem fl49_1 : fldI Try.prog 49 1 = some 1 := by kernel_rfl
theorem fl67_0 : fldI Try.prog 67 0 = some 0 := by kernel_rfl
theorem fl70_0 : fldI Try.prog 70 0 = some 0 := by kernel_rfl
theorem fl70_1 : fldI Try.prog 70 1 = some 1 := by kernel_rfl
theorem fl72_0 : fldI Try.prog 72 0 = some 0 := by kernel_rfl
theorem fl72_1 : fldI Try.prog 72 1 = some 1 := by kernel_rfl
theorem fl77_0 : fldI Try.prog 77 0 = some 0 := by kernel_rfl
theorem fl77_1 : fldI Try.prog 77 1 = some 1 := by kernel_rfl
theorem eqS49 (a b : Ed) (w : World) : (Op.equalIn 10000 49 (.agg #[.int .i32 a.rune, .int .i64 a.to]) (.agg #[.int .i32 b.rune, .int .i64 b.to])).run Try.prog w = .ok (decide (a = b)) w :=
  run_eq_flat (ks := [(0, .int .i32), (1, .int .i64)]) (by kernel_rfl) (by kernel_rfl) (by kernel_rfl) (by
    obtain ⟨a0, a1⟩ := a
    obtain ⟨b0, b1⟩ := b
    (by_cases h0 : a0 = b0) <;> (first | (have g0 := beq_eq_false_iff_ne.2 h0) | (have g0 := beq_iff_eq.2 h0)) <;> (by_cases h1 : a1 = b1) <;> (first | (have g1 := beq_eq_false_iff_ne.2 h1) | (have g1 := beq_iff_eq.2 h1)) <;> simp [eqCells, cellEq, strV, toList_mk, h0, h1, g0, g1]) w
theorem cl11 : clB Try.prog 11 = true := by kernel_rfl
theorem cl12 : clB Try.prog 12 = true := by kernel_rfl
theorem cl13 : clB Try.prog 13 = true := by kernel_rfl
theorem cl14 : clB Try.prog 14 = true := by kernel_rfl
theorem cl15 : clB Try.prog 15 = true := by kernel_rfl
theorem cl16 : clB Try.prog 16 = true := by kernel_rfl
theorem cl17 : clB Try.prog 17 = true := by kernel_rfl
theorem cl18 : clB Try.prog 18 = true := by kernel_rfl
theorem cl19 : clB Try.prog 19 = true := by kernel_rfl
theorem cl20 : clB Try.prog 20 = true := by kernel_rfl
theorem cl21 : clB Try.prog 21 = true := by kernel_rfl
theorem cl22 : clB Try.prog 22 = true := by kernel_rfl
theorem cl23 : clB Try.prog 23 = true := by kernel_rfl
theorem cl24 : clB Try.prog 24 = true := by kernel_rfl
theorem cl25 : clB Try.prog 25 = true := by kernel_rfl
theorem cl26 : clB Try.prog 26 = true := by kernel_rfl
theorem cl27 : clB Try.prog 27 = true := by kernel_rfl
theorem cl28 : clB Try.prog 28 = true := by kernel_rfl
theorem cl29 : clB Try.prog 29 = true := by kernel_rfl
theorem cl30 : clB Try.prog 30 = true := by kernel_rfl
theorem cl31 : clB Try.prog 31 = true := by kernel_rfl
theorem cl32 : clB Try.prog 32 = true := by kernel_rfl
theorem cl33 : clB Try.prog 33 = true := by kernel_rfl
theorem cl34 : clB Try.prog 34 = true := by kernel_rfl
theorem cl35 : clB Try.prog 35 = true := by kernel_rfl
theorem cl36 : clB Try.prog 36 = true := by kernel_rfl
theorem cl37 : clB Try.prog 37 = true := by kernel_rfl
theorem cl38 : clB Try.prog 38 = true := by kernel_rfl
theorem cl39 : clB Try.prog 39 = true := by kernel_rfl
theorem cl40 : clB Try.prog 40 = true := by kernel_rfl
theorem cl41 : clB Try.prog 41 = true := by kernel_rfl
theorem cl42 : clB Try.prog 42 = true := by kernel_rfl
theorem cl43 : clB Try.prog 43 = true := by kernel_rfl
theorem cl44 : clB Try.prog 44 = true := by kernel_rfl
theorem cl45 : clB Try.prog 45 = true := by kernel_rfl
theorem cl46 : clB Try.prog 46 = true := by kernel_rfl
theorem cl47 : clB Try.prog 47 = true := by kernel_rfl
theorem cl48 : clB Try.prog 48 = true := by kernel_rfl
theorem cl51 : clB Try.prog 51 = true := by kernel_rfl
theorem cl52 : clB Try.prog 52 = true := by kernel_rfl
theorem cl53 : clB Try.prog 53 = true := by kernel_rfl
theorem cl54 : clB Try.prog 54 = true := by kernel_rfl
theorem cl55 : clB Try.prog 55 = true := by kernel_rfl
theorem cl56 : clB Try.prog 56 = true := by kernel_rfl
theorem cl57 : clB Try.prog 57 = true := by kernel_rfl
theorem cl58 : clB Try.prog 58 = true := by kernel_rfl
theorem cl59 : clB Try.prog 59 = true := by kernel_rfl
theorem cl60 : clB Try.prog 60 = true := by kernel_rfl
theorem cl61 : clB Try.prog 61 = true := by kernel_rfl
theorem cl67 : clB Try.prog 67 = true := by kernel_rfl
theorem cl68 : clB Try.prog 68 = true := by kernel_rfl
theorem cl69 : clB Try.prog 69 = true := by kernel_rfl
theorem cl70 : clB Try.prog 70 = true := by kernel_rfl
theorem cl71 : clB Try.prog 71 = true := by kernel_rfl
theorem cl72 : clB Try.prog 72 = true := by kernel_rfl
theorem cl85 : clB Try.prog 85 = true := by kernel_rfl
theorem cl86 : clB Try.prog 86 = true := by kernel_rfl
end Go.Proofs
