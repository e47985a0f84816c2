/-
  slices.SortFunc and slices.Compact at this program, out of the kit.
-/
import Derived.Test.YtjhbobjjkbppkaaWSame
import Derived.Test.YtjhbobjjkbppkaaLibC
set_option linter.unusedVariables false
set_option linter.unusedSimpArgs false
namespace Go.Proofs
open Go.Ik Go.Ml
def Try.sortS_ren : Go.Shelf.Ren := ⟨fun | 6 => 48 | 15 => 71 | 14 => 70 | 28 => 96 | 29 => 97 | 20 => 88 | 21 => 89 | 22 => 90 | 23 => 91 | 24 => 92 | 25 => 93 | 26 => 94 | 27 => 95 | 46 => 107 | 47 => 108 | 48 => 109 | 49 => 110 | 50 => 111 | 57 => 116 | n => n, fun | 22 => 22 | 24 => 9 | 25 => 80 | 3 => 3 | 39 => 79 | 0 => 0 | 53 => 138 | 55 => 140 | 4 => 4 | 46 => 132 | 45 => 131 | 50 => 81 | 5 => 5 | 9 => 9 | 66 => 148 | 70 => 152 | 76 => 159 | 77 => 160 | n => n, fun | n => n⟩
theorem Try.sortS : Go.Proofs.SlLaysF.n6 Try.prog Try.sortS_ren := {
  mixed := by kernel_rfl,
  f6 := ⟨Try.f48.name, by decide, Try.func48.trans (congrArg some (by kernel_rfl))⟩,
  f14 := ⟨Try.f70.name, by decide, Try.func70.trans (congrArg some (by kernel_rfl))⟩,
  f15 := Try.func71.trans (congrArg some (by kernel_rfl)),
  f20 := ⟨Try.f88.name, by decide, Try.func88.trans (congrArg some (by kernel_rfl))⟩,
  f21 := ⟨Try.f89.name, by decide, Try.func89.trans (congrArg some (by kernel_rfl))⟩,
  f22 := ⟨Try.f90.name, by decide, Try.func90.trans (congrArg some (by kernel_rfl))⟩,
  f23 := ⟨Try.f91.name, by decide, Try.func91.trans (congrArg some (by kernel_rfl))⟩,
  f24 := ⟨Try.f92.name, by decide, Try.func92.trans (congrArg some (by kernel_rfl))⟩,
  f25 := ⟨Try.f93.name, by decide, Try.func93.trans (congrArg some (by kernel_rfl))⟩,
  f26 := ⟨Try.f94.name, by decide, Try.func94.trans (congrArg some (by kernel_rfl))⟩,
  f27 := ⟨Try.f95.name, by decide, Try.func95.trans (congrArg some (by kernel_rfl))⟩,
  f28 := Try.func96.trans (congrArg some (by kernel_rfl)),
  f29 := Try.func97.trans (congrArg some (by kernel_rfl)),
  f46 := ⟨Try.f107.name, by decide, Try.func107.trans (congrArg some (by kernel_rfl))⟩,
  f47 := Try.func108.trans (congrArg some (by kernel_rfl)),
  f48 := Try.func109.trans (congrArg some (by kernel_rfl)),
  f49 := ⟨Try.f110.name, by decide, Try.func110.trans (congrArg some (by kernel_rfl))⟩,
  f50 := ⟨Try.f111.name, by decide, Try.func111.trans (congrArg some (by kernel_rfl))⟩,
  f57 := ⟨Try.f116.name, by decide, Try.func116.trans (congrArg some (by kernel_rfl))⟩,
  t0 := Try.underlying0,
  a0 := Try.isAgg0,
  z0 := Try.sizeOf0,
  v0 := Try.zeroValue0,
  t3 := Try.underlying3,
  a3 := Try.isAgg3,
  z3 := Try.sizeOf3,
  v3 := Try.zeroValue3,
  t4 := Try.underlying4,
  a4 := Try.isAgg4,
  z4 := Try.sizeOf4,
  v4 := Try.zeroValue4,
  t5 := Try.underlying5,
  a5 := Try.isAgg5,
  z5 := Try.sizeOf5,
  v5 := Try.zeroValue5,
  t9 := Try.underlying9,
  a9 := Try.isAgg9,
  z9 := Try.sizeOf9,
  v9 := Try.zeroValue9,
  t22 := Try.underlying22,
  a22 := Try.isAgg22,
  z22 := Try.sizeOf22,
  v22 := Try.zeroValue22,
  a24 := Try.isAgg9,
  z24 := Try.sizeOf9,
  t25 := Try.underlying80,
  a25 := Try.isAgg80,
  z25 := Try.sizeOf80,
  v25 := Try.zeroValue80,
  t39 := Try.underlying79,
  a39 := Try.isAgg79,
  z39 := Try.sizeOf79,
  v39 := Try.zeroValue79,
  t45 := Try.underlying131,
  a45 := Try.isAgg131,
  z45 := Try.sizeOf131,
  v45 := Try.zeroValue131,
  t46 := Try.underlying132,
  a46 := Try.isAgg132,
  z46 := Try.sizeOf132,
  v46 := Try.zeroValue132,
  t50 := Try.underlying81,
  a50 := Try.isAgg81,
  z50 := Try.sizeOf81,
  v50 := Try.zeroValue81,
  t53 := Try.underlying138,
  a53 := Try.isAgg138,
  z53 := Try.sizeOf138,
  v53 := Try.zeroValue138,
  t55 := Try.underlying140,
  a55 := Try.isAgg140,
  z55 := Try.sizeOf140,
  v55 := Try.zeroValue140,
  t66 := Try.underlying148,
  a66 := Try.isAgg148,
  z66 := Try.sizeOf148,
  v66 := Try.zeroValue148,
  t70 := Try.underlying152,
  a70 := Try.isAgg152,
  z70 := Try.sizeOf152,
  v70 := Try.zeroValue152,
  t76 := Try.underlying159,
  a76 := Try.isAgg159,
  z76 := Try.sizeOf159,
  v76 := Try.zeroValue159,
  t77 := Try.underlying160,
  a77 := Try.isAgg160,
  z77 := Try.sizeOf160,
  v77 := Try.zeroValue160 }
def Try.compactS_ren : Go.Shelf.Ren := ⟨fun | 43 => 49 | n => n, fun | 22 => 22 | 23 => 9 | 3 => 3 | 4 => 4 | 0 => 0 | n => n, fun | n => n⟩
theorem Try.compactS : Go.Proofs.SlLaysE.n43 Try.prog Try.compactS_ren := {
  mixed := by kernel_rfl,
  f43 := ⟨Try.f49.name, by decide, Try.func49.trans (congrArg some (by kernel_rfl))⟩,
  t0 := Try.underlying0,
  a0 := Try.isAgg0,
  z0 := Try.sizeOf0,
  v0 := Try.zeroValue0,
  t3 := Try.underlying3,
  a3 := Try.isAgg3,
  z3 := Try.sizeOf3,
  v3 := Try.zeroValue3,
  t4 := Try.underlying4,
  a4 := Try.isAgg4,
  z4 := Try.sizeOf4,
  v4 := Try.zeroValue4,
  t22 := Try.underlying22,
  a22 := Try.isAgg22,
  z22 := Try.sizeOf22,
  v22 := Try.zeroValue22,
  a23 := Try.isAgg9,
  z23 := Try.sizeOf9 }
theorem sort_c {w0 : World} {gb : Nat} {v : Value} {l : List Str} (h : Acc encS 9 1 w0 gb v l) (hlen : l.length ≤ 1000000) :
    Calls Try.prog 48 #[v, .func (.func 44) #[] #[]] w0 (Ret fun rv w1 => rv = .tuple #[] ∧ Acc encS 9 1 w1 gb v (sortL l) ∧ Mod (Mg gb) w0 w1) :=
  sort_own Try.sortS 44 (enters_of Try.func44 (by kernel_rfl) rfl) (fun w0 a b => tcmp_s a b) h hlen
theorem compact_c {w0 : World} {gb : Nat} {v : Value} {l : List Str} (h : Acc encS 9 1 w0 gb v l) (hlen : l.length ≤ 1000000) :
    Calls Try.prog 49 #[v] w0 (Ret fun rv w1 => Acc encS 9 1 w1 gb rv (Lib.compactUpTo l.toArray l.length) ∧ Mod (Mg gb) w0 w1) := by
  by_cases hv : v = .slice none 0 0
  · subst hv
    have hl : l = [] ∧ gb = 0 := by
      rcases h with ⟨_, h, h2⟩ | ⟨b, cap, cur, _, h, _⟩
      · exact ⟨h, h2⟩
      · simp at h
    obtain ⟨rfl, rfl⟩ := hl
    refine compact_nil.mono ?_
    rintro e w1 ⟨rv, rfl, rfl, rfl⟩
    exact ⟨_, rfl, Acc.nil, Mod.refl _ _⟩
  · exact compact_own Try.compactS (fun w => by kernel_rfl) h hv hlen
end Go.Proofs
