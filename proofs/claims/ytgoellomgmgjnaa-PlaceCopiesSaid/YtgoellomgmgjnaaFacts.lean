/-
  Facts on the types and functions of the translation.
-/
import Derived.Test.YtgoellomgmgjnaaProg
import Derived.Test.YtgoellomgmgjnaaIk6
set_option linter.unusedVariables false
set_option linter.unusedSimpArgs false
namespace Go.Proofs
open Go.Ik
theorem mixed : Try.prog.follows .mixedOrders = true := by kernel_rfl
theorem ti3 : tyI Try.prog 3 = some (false, 1, 8, [.int .i64 0]) := by kernel_rfl
theorem ti9 : tyI Try.prog 9 = some (false, 1, 16, [strV []]) := by kernel_rfl
theorem ti22 : tyI Try.prog 22 = some (false, 1, 24, [.slice none 0 0]) := by kernel_rfl
theorem ti23 : tyI Try.prog 23 = some (false, 1, 24, [.slice none 0 0]) := by kernel_rfl
theorem ti25 : tyI Try.prog 25 = some (true, 12, 128, [.slice none 0 0, .slice none 0 0, .int .i64 0, .int .i64 0, .int .i64 0, .int .i64 0, .int .i64 0, .int .i64 0, .int .i64 0, .int .i64 0, .int .i64 0, .int .i64 0]) := by kernel_rfl
theorem ti37 : tyI Try.prog 37 = some (true, 2, 24, [.int .i64 0, strV []]) := by kernel_rfl
theorem fl25_0 : fldI Try.prog 25 0 = some 0 := by kernel_rfl
theorem fl25_1 : fldI Try.prog 25 1 = some 1 := by kernel_rfl
theorem fl25_2 : fldI Try.prog 25 2 = some 2 := by kernel_rfl
theorem fl25_3 : fldI Try.prog 25 3 = some 3 := by kernel_rfl
theorem fl25_4 : fldI Try.prog 25 4 = some 4 := by kernel_rfl
theorem fl25_5 : fldI Try.prog 25 5 = some 5 := by kernel_rfl
theorem fl25_6 : fldI Try.prog 25 6 = some 6 := by kernel_rfl
theorem fl25_7 : fldI Try.prog 25 7 = some 7 := by kernel_rfl
theorem fl25_8 : fldI Try.prog 25 8 = some 8 := by kernel_rfl
theorem fl25_9 : fldI Try.prog 25 9 = some 9 := by kernel_rfl
theorem fl25_10 : fldI Try.prog 25 10 = some 10 := by kernel_rfl
theorem fl25_11 : fldI Try.prog 25 11 = some 11 := by kernel_rfl
theorem fl37_0 : fldI Try.prog 37 0 = some 0 := by kernel_rfl
theorem fl37_1 : fldI Try.prog 37 1 = some 1 := by kernel_rfl
theorem cl5 : clB Try.prog 5 = true := by kernel_rfl
theorem cl6 : clB Try.prog 6 = true := by kernel_rfl
theorem cl7 : clB Try.prog 7 = true := by kernel_rfl
theorem cl8 : clB Try.prog 8 = true := by kernel_rfl
theorem cl9 : clB Try.prog 9 = true := by kernel_rfl
theorem cl10 : clB Try.prog 10 = true := by kernel_rfl
theorem cl11 : clB Try.prog 11 = true := by kernel_rfl
theorem cl15 : clB Try.prog 15 = true := by kernel_rfl
theorem cl16 : clB Try.prog 16 = true := by kernel_rfl
theorem cl17 : clB Try.prog 17 = true := by kernel_rfl
theorem cl18 : clB Try.prog 18 = true := by kernel_rfl
theorem cl19 : clB Try.prog 19 = true := by kernel_rfl
theorem cl20 : clB Try.prog 20 = true := by kernel_rfl
theorem cl21 : clB Try.prog 21 = true := by kernel_rfl
theorem cl22 : clB Try.prog 22 = true := by kernel_rfl
theorem cl23 : clB Try.prog 23 = true := by kernel_rfl
theorem cl24 : clB Try.prog 24 = true := by kernel_rfl
theorem cl25 : clB Try.prog 25 = true := by kernel_rfl
theorem cl26 : clB Try.prog 26 = true := by kernel_rfl
theorem cl27 : clB Try.prog 27 = true := by kernel_rfl
theorem cl28 : clB Try.prog 28 = true := by kernel_rfl
theorem cl29 : clB Try.prog 29 = true := by kernel_rfl
theorem cl30 : clB Try.prog 30 = true := by kernel_rfl
theorem cl31 : clB Try.prog 31 = true := by kernel_rfl
theorem cl32 : clB Try.prog 32 = true := by kernel_rfl
theorem cl33 : clB Try.prog 33 = true := by kernel_rfl
theorem cl35 : clB Try.prog 35 = true := by kernel_rfl
end Go.Proofs
