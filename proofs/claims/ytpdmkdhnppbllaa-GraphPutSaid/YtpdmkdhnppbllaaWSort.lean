/-
  slices.SortFunc and slices.Compact at this program, out of the kit.
-/
import Derived.Test.YtpdmkdhnppbllaaWSame
import Derived.Test.YtpdmkdhnppbllaaPlList
set_option linter.unusedVariables false
set_option linter.unusedSimpArgs false
namespace Go.Proofs
open Go.Ik Go.Ml
def Try.sortS_ren : Go.Shelf.Ren := ⟨fun | 6 => 52 | 15 => 63 | 14 => 62 | 28 => 81 | 29 => 82 | 20 => 73 | 21 => 74 | 22 => 75 | 23 => 76 | 24 => 77 | 25 => 78 | 26 => 79 | 27 => 80 | 46 => 88 | 47 => 89 | 48 => 90 | 49 => 91 | 50 => 92 | 57 => 95 | n => n, fun | 22 => 22 | 24 => 9 | 25 => 81 | 3 => 3 | 39 => 82 | 0 => 0 | 53 => 112 | 55 => 114 | 4 => 4 | 46 => 106 | 45 => 105 | 50 => 52 | 5 => 5 | 9 => 9 | 66 => 119 | 70 => 123 | 76 => 128 | 77 => 129 | n => n, fun | n => n⟩
theorem Try.sortS : Go.Proofs.SlLaysF.n6 Try.prog Try.sortS_ren := {
  mixed := by kernel_rfl,
  f6 := ⟨Try.f52.name, by decide, Try.func52.trans (congrArg some (by kernel_rfl))⟩,
  f14 := ⟨Try.f62.name, by decide, Try.func62.trans (congrArg some (by kernel_rfl))⟩,
  f15 := Try.func63.trans (congrArg some (by kernel_rfl)),
  f20 := ⟨Try.f73.name, by decide, Try.func73.trans (congrArg some (by kernel_rfl))⟩,
  f21 := ⟨Try.f74.name, by decide, Try.func74.trans (congrArg some (by kernel_rfl))⟩,
  f22 := ⟨Try.f75.name, by decide, Try.func75.trans (congrArg some (by kernel_rfl))⟩,
  f23 := ⟨Try.f76.name, by decide, Try.func76.trans (congrArg some (by kernel_rfl))⟩,
  f24 := ⟨Try.f77.name, by decide, Try.func77.trans (congrArg some (by kernel_rfl))⟩,
  f25 := ⟨Try.f78.name, by decide, Try.func78.trans (congrArg some (by kernel_rfl))⟩,
  f26 := ⟨Try.f79.name, by decide, Try.func79.trans (congrArg some (by kernel_rfl))⟩,
  f27 := ⟨Try.f80.name, by decide, Try.func80.trans (congrArg some (by kernel_rfl))⟩,
  f28 := Try.func81.trans (congrArg some (by kernel_rfl)),
  f29 := Try.func82.trans (congrArg some (by kernel_rfl)),
  f46 := ⟨Try.f88.name, by decide, Try.func88.trans (congrArg some (by kernel_rfl))⟩,
  f47 := Try.func89.trans (congrArg some (by kernel_rfl)),
  f48 := Try.func90.trans (congrArg some (by kernel_rfl)),
  f49 := ⟨Try.f91.name, by decide, Try.func91.trans (congrArg some (by kernel_rfl))⟩,
  f50 := ⟨Try.f92.name, by decide, Try.func92.trans (congrArg some (by kernel_rfl))⟩,
  f57 := ⟨Try.f95.name, by decide, Try.func95.trans (congrArg some (by kernel_rfl))⟩,
  t0 := Try.underlying0,
  a0 := Try.isAgg0,
  z0 := Try.sizeOf0,
  v0 := Try.zeroValue0,
  t3 := Try.underlying3,
  a3 := Try.isAgg3,
  z3 := Try.sizeOf3,
  v3 := Try.zeroValue3,
  t4 := Try.underlying4,
  a4 := Try.isAgg4,
  z4 := Try.sizeOf4,
  v4 := Try.zeroValue4,
  t5 := Try.underlying5,
  a5 := Try.isAgg5,
  z5 := Try.sizeOf5,
  v5 := Try.zeroValue5,
  t9 := Try.underlying9,
  a9 := Try.isAgg9,
  z9 := Try.sizeOf9,
  v9 := Try.zeroValue9,
  t22 := Try.underlying22,
  a22 := Try.isAgg22,
  z22 := Try.sizeOf22,
  v22 := Try.zeroValue22,
  a24 := Try.isAgg9,
  z24 := Try.sizeOf9,
  t25 := Try.underlying81,
  a25 := Try.isAgg81,
  z25 := Try.sizeOf81,
  v25 := Try.zeroValue81,
  t39 := Try.underlying82,
  a39 := Try.isAgg82,
  z39 := Try.sizeOf82,
  v39 := Try.zeroValue82,
  t45 := Try.underlying105,
  a45 := Try.isAgg105,
  z45 := Try.sizeOf105,
  v45 := Try.zeroValue105,
  t46 := Try.underlying106,
  a46 := Try.isAgg106,
  z46 := Try.sizeOf106,
  v46 := Try.zeroValue106,
  t50 := Try.underlying52,
  a50 := Try.isAgg52,
  z50 := Try.sizeOf52,
  v50 := Try.zeroValue52,
  t53 := Try.underlying112,
  a53 := Try.isAgg112,
  z53 := Try.sizeOf112,
  v53 := Try.zeroValue112,
  t55 := Try.underlying114,
  a55 := Try.isAgg114,
  z55 := Try.sizeOf114,
  v55 := Try.zeroValue114,
  t66 := Try.underlying119,
  a66 := Try.isAgg119,
  z66 := Try.sizeOf119,
  v66 := Try.zeroValue119,
  t70 := Try.underlying123,
  a70 := Try.isAgg123,
  z70 := Try.sizeOf123,
  v70 := Try.zeroValue123,
  t76 := Try.underlying128,
  a76 := Try.isAgg128,
  z76 := Try.sizeOf128,
  v76 := Try.zeroValue128,
  t77 := Try.underlying129,
  a77 := Try.isAgg129,
  z77 := Try.sizeOf129,
  v77 := Try.zeroValue129 }
def Try.compactS_ren : Go.Shelf.Ren := ⟨fun | 43 => 53 | n => n, fun | 22 => 22 | 23 => 9 | 3 => 3 | 4 => 4 | 0 => 0 | n => n, fun | n => n⟩
theorem Try.compactS : Go.Proofs.SlLaysE.n43 Try.prog Try.compactS_ren := {
  mixed := by kernel_rfl,
  f43 := ⟨Try.f53.name, by decide, Try.func53.trans (congrArg some (by kernel_rfl))⟩,
  t0 := Try.underlying0,
  a0 := Try.isAgg0,
  z0 := Try.sizeOf0,
  v0 := Try.zeroValue0,
  t3 := Try.underlying3,
  a3 := Try.isAgg3,
  z3 := Try.sizeOf3,
  v3 := Try.zeroValue3,
  t4 := Try.underlying4,
  a4 := Try.isAgg4,
  z4 := Try.sizeOf4,
  v4 := Try.zeroValue4,
  t22 := Try.underlying22,
  a22 := Try.isAgg22,
  z22 := Try.sizeOf22,
  v22 := Try.zeroValue22,
  a23 := Try.isAgg9,
  z23 := Try.sizeOf9 }
theorem sort_c {w0 : World} {gb : Nat} {v : Value} {l : List Str} (h : Acc encS 9 1 w0 gb v l) (hlen : l.length ≤ 1000000) :
    Calls Try.prog 52 #[v, .func (.func 47) #[] #[]] w0 (Ret fun rv w1 => rv = .tuple #[] ∧ Acc encS 9 1 w1 gb v (sortL l) ∧ Mod (Mg gb) w0 w1) :=
  sort_own Try.sortS 47 (enters_of Try.func47 (by kernel_rfl) rfl) (fun w0 a b => tcmp_s a b) h hlen
theorem compact_c {w0 : World} {gb : Nat} {v : Value} {l : List Str} (h : Acc encS 9 1 w0 gb v l) (hlen : l.length ≤ 1000000) :
    Calls Try.prog 53 #[v] w0 (Ret fun rv w1 => Acc encS 9 1 w1 gb rv (Lib.compactUpTo l.toArray l.length) ∧ Mod (Mg gb) w0 w1) := by
  by_cases hv : v = .slice none 0 0
  · subst hv
    have hl : l = [] ∧ gb = 0 := by
      rcases h with ⟨_, h, h2⟩ | ⟨b, cap, cur, _, h, _⟩
      · exact ⟨h, h2⟩
      · simp at h
    obtain ⟨rfl, rfl⟩ := hl
    refine compact_nil.mono ?_
    rintro e w1 ⟨rv, rfl, rfl, rfl⟩
    exact ⟨_, rfl, Acc.nil, Mod.refl _ _⟩
  · exact compact_own Try.compactS (fun w => by kernel_rfl) h hv hlen
end Go.Proofs
