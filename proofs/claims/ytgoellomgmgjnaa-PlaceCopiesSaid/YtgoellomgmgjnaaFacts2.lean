/-
  More facts on the types and functions of the translation.
-/
import Derived.Test.YtgoellomgmgjnaaFacts
set_option linter.unusedVariables false
set_option linter.unusedSimpArgs false
namespace Go.Proofs
open Go.Ik
theorem cl12 : clB Try.prog 12 = true := by kernel_rfl
theorem cl13 : clB Try.prog 13 = true := by kernel_rfl
theorem cl14 : clB Try.prog 14 = true := by kernel_rfl
end Go.Proofs
