/-
  Facts on the types and functions of the translation.
-/
import Derived.Test.YtjhbobjjkbppkaaProg
import Derived.Test.YtjhbobjjkbppkaaLibE
set_option linter.unusedVariables false
set_option linter.unusedSimpArgs false
namespace Go.Proofs
open Go.Ik Go.Ml
theorem mixed : Try.prog.follows .mixedOrders = true := by kernel_rfl
theorem ti3 : tyI Try.prog 3 = some (false, 1, 8, [.int .i64 0]) := by kernel_rfl
theorem ti4 : tyI Try.prog 4 = some (false, 1, 1, [.bool false]) := by kernel_rfl
theorem ti9 : tyI Try.prog 9 = some (false, 1, 16, [strV []]) := by kernel_rfl
theorem ti21 : tyI Try.prog 21 = some (false, 1, 4, [.int .i32 0]) := by kernel_rfl
theorem ti22 : tyI Try.prog 22 = some (false, 1, 24, [.slice none 0 0]) := by kernel_rfl
theorem ti24 : tyI Try.prog 24 = some (true, 2, 24, [.int .i64 0, strV []]) := by kernel_rfl
theorem ti27 : tyI Try.prog 27 = some (false, 1, 8, [.pointer none]) := by kernel_rfl
theorem ti31 : tyI Try.prog 31 = some (false, 1, 24, [.slice none 0 0]) := by kernel_rfl
theorem ti64 : tyI Try.prog 64 = some (false, 1, 24, [.slice none 0 0]) := by kernel_rfl
theorem ti67 : tyI Try.prog 67 = some (false, 1, 8, [.map none]) := by kernel_rfl
theorem ti72 : tyI Try.prog 72 = some (true, 2, 32, [.bool false, .slice none 0 0]) := by kernel_rfl
theorem ti91 : tyI Try.prog 91 = some (true, 2, 16, [.int .i32 0, .int .i64 0]) := by kernel_rfl
theorem ti93 : tyI Try.prog 93 = some (false, 1, 24, [.slice none 0 0]) := by kernel_rfl
theorem ti96 : tyI Try.prog 96 = some (true, 3, 48, [.int .i64 0, .slice none 0 0, strV []]) := by kernel_rfl
theorem ti121 : tyI Try.prog 121 = some (true, 2, 16, [.int .i64 0, .int .i64 0]) := by kernel_rfl
theorem fl24_0 : fldI Try.prog 24 0 = some 0 := by kernel_rfl
theorem fl24_1 : fldI Try.prog 24 1 = some 1 := by kernel_rfl
theorem fl39_0 : fldI Try.prog 39 0 = some 0 := by kernel_rfl
theorem fl39_1 : fldI Try.prog 39 1 = some 1 := by kernel_rfl
theorem fl39_2 : fldI Try.prog 39 2 = some 2 := by kernel_rfl
theorem fl66_0 : fldI Try.prog 66 0 = some 0 := by kernel_rfl
theorem fl69_0 : fldI Try.prog 69 0 = some 0 := by kernel_rfl
theorem fl69_1 : fldI Try.prog 69 1 = some 1 := by kernel_rfl
theorem fl91_0 : fldI Try.prog 91 0 = some 0 := by kernel_rfl
theorem fl91_1 : fldI Try.prog 91 1 = some 1 := by kernel_rfl
theorem fl96_0 : fldI Try.prog 96 0 = some 0 := by kernel_rfl
theorem fl96_1 : fldI Try.prog 96 1 = some 1 := by kernel_rfl
theorem fl96_2 : fldI Try.prog 96 2 = some 2 := by kernel_rfl
theorem fl121_0 : fldI Try.prog 121 0 = some 0 := by kernel_rfl
theorem fl121_1 : fldI Try.prog 121 1 = some 1 := by kernel_rfl
theorem eqS24 (a b : Itm) (w : World) : (Op.equalIn 10000 24 (.agg #[.int .i64 a.dist, strV a.word]) (.agg #[.int .i64 b.dist, strV b.word])).run Try.prog w = .ok (decide (a = b)) w :=
  run_eq_flat (ks := [(0, .int .i64), (1, .str)]) (by kernel_rfl) (by kernel_rfl) (by kernel_rfl) (by
    obtain ⟨a0, a1⟩ := a
    obtain ⟨b0, b1⟩ := b
    (by_cases h0 : a0 = b0) <;> (first | (have g0 := beq_eq_false_iff_ne.2 h0) | (have g0 := beq_iff_eq.2 h0)) <;> (by_cases h1 : a1 = b1) <;> (first | (have g1 := beq_eq_false_iff_ne.2 h1) | (have g1 := beq_iff_eq.2 h1)) <;> simp [eqCells, cellEq, strV, toList_mk, h0, h1, g0, g1]) w
theorem cl13 : clB Try.prog 13 = true := by kernel_rfl
theorem cl14 : clB Try.prog 14 = true := by kernel_rfl
theorem cl15 : clB Try.prog 15 = true := by kernel_rfl
theorem cl17 : clB Try.prog 17 = true := by kernel_rfl
theorem cl20 : clB Try.prog 20 = true := by kernel_rfl
theorem cl25 : clB Try.prog 25 = true := by kernel_rfl
theorem cl26 : clB Try.prog 26 = true := by kernel_rfl
theorem cl27 : clB Try.prog 27 = true := by kernel_rfl
theorem cl28 : clB Try.prog 28 = true := by kernel_rfl
theorem cl31 : clB Try.prog 31 = true := by kernel_rfl
theorem cl32 : clB Try.prog 32 = true := by kernel_rfl
theorem cl33 : clB Try.prog 33 = true := by kernel_rfl
theorem cl34 : clB Try.prog 34 = true := by kernel_rfl
theorem cl35 : clB Try.prog 35 = true := by kernel_rfl
theorem cl36 : clB Try.prog 36 = true := by kernel_rfl
theorem cl38 : clB Try.prog 38 = true := by kernel_rfl
theorem cl43 : clB Try.prog 43 = true := by kernel_rfl
theorem cl44 : clB Try.prog 44 = true := by kernel_rfl
theorem cl48 : clB Try.prog 48 = true := by kernel_rfl
theorem cl49 : clB Try.prog 49 = true := by kernel_rfl
theorem cl50 : clB Try.prog 50 = true := by kernel_rfl
theorem cl51 : clB Try.prog 51 = true := by kernel_rfl
theorem cl52 : clB Try.prog 52 = true := by kernel_rfl
theorem cl53 : clB Try.prog 53 = true := by kernel_rfl
theorem cl54 : clB Try.prog 54 = true := by kernel_rfl
theorem cl55 : clB Try.prog 55 = true := by kernel_rfl
theorem cl56 : clB Try.prog 56 = true := by kernel_rfl
theorem cl57 : clB Try.prog 57 = true := by kernel_rfl
theorem cl58 : clB Try.prog 58 = true := by kernel_rfl
theorem cl59 : clB Try.prog 59 = true := by kernel_rfl
theorem cl60 : clB Try.prog 60 = true := by kernel_rfl
theorem cl65 : clB Try.prog 65 = true := by kernel_rfl
theorem cl75 : clB Try.prog 75 = true := by kernel_rfl
theorem cl76 : clB Try.prog 76 = true := by kernel_rfl
theorem cl77 : clB Try.prog 77 = true := by kernel_rfl
theorem cl78 : clB Try.prog 78 = true := by kernel_rfl
theorem cl79 : clB Try.prog 79 = true := by kernel_rfl
theorem cl80 : clB Try.prog 80 = true := by kernel_rfl
theorem cl81 : clB Try.prog 81 = true := by kernel_rfl
theorem cl82 : clB Try.prog 82 = true := by kernel_rfl
theorem cl83 : clB Try.prog 83 = true := by kernel_rfl
theorem cl86 : clB Try.prog 86 = true := by kernel_rfl
theorem cl100 : clB Try.prog 100 = true := by kernel_rfl
end Go.Proofs
