/-
  Facts on the types and functions of the translation.
-/
import Derived.Test.YtjfjanaddcddlaaProg
import Derived.Test.YtjfjanaddcddlaaIk6
set_option linter.unusedVariables false
set_option linter.unusedSimpArgs false
namespace Go.Proofs
open Go.Ik
theorem mixed : Try.prog.follows .mixedOrders = true := by kernel_rfl
theorem ti9 : tyI Try.prog 9 = some (false, 1, 16, [strV []]) := by kernel_rfl
theorem ti21 : tyI Try.prog 21 = some (false, 1, 4, [.int .i32 0]) := by kernel_rfl
theorem cl9 : clB Try.prog 9 = true := by kernel_rfl
theorem cl10 : clB Try.prog 10 = true := by kernel_rfl
theorem cl11 : clB Try.prog 11 = true := by kernel_rfl
theorem cl12 : clB Try.prog 12 = true := by kernel_rfl
theorem cl13 : clB Try.prog 13 = true := by kernel_rfl
theorem cl14 : clB Try.prog 14 = true := by kernel_rfl
theorem cl15 : clB Try.prog 15 = true := by kernel_rfl
theorem cl16 : clB Try.prog 16 = true := by kernel_rfl
theorem cl17 : clB Try.prog 17 = true := by kernel_rfl
theorem cl18 : clB Try.prog 18 = true := by kernel_rfl
theorem cl19 : clB Try.prog 19 = true := by kernel_rfl
theorem cl20 : clB Try.prog 20 = true := by kernel_rfl
theorem cl21 : clB Try.prog 21 = true := by kernel_rfl
theorem cl22 : clB Try.prog 22 = true := by kernel_rfl
theorem cl23 : clB Try.prog 23 = true := by kernel_rfl
theorem cl24 : clB Try.prog 24 = true := by kernel_rfl
theorem cl25 : clB Try.prog 25 = true := by kernel_rfl
theorem cl26 : clB Try.prog 26 = true := by kernel_rfl
theorem cl27 : clB Try.prog 27 = true := by kernel_rfl
theorem cl28 : clB Try.prog 28 = true := by kernel_rfl
theorem cl29 : clB Try.prog 29 = true := by kernel_rfl
theorem cl30 : clB Try.prog 30 = true := by kernel_rfl
theorem cl31 : clB Try.prog 31 = true := by kernel_rfl
theorem cl32 : clB Try.prog 32 = true := by kernel_rfl
theorem cl33 : clB Try.prog 33 = true := by kernel_rfl
theorem cl34 : clB Try.prog 34 = true := by kernel_rfl
theorem cl35 : clB Try.prog 35 = true := by kernel_rfl
theorem cl38 : clB Try.prog 38 = true := by kernel_rfl
theorem cl39 : clB Try.prog 39 = true := by kernel_rfl
theorem cl50 : clB Try.prog 50 = true := by kernel_rfl
theorem cl57 : clB Try.prog 57 = true := by kernel_rfl
theorem cl58 : clB Try.prog 58 = true := by kernel_rfl
theorem cl60 : clB Try.prog 60 = true := by kernel_rfl
end Go.Proofs
