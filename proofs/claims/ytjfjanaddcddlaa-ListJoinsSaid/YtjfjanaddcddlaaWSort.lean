/-
  slices.SortFunc and slices.Compact at this program, out of the kit.
-/
import Derived.Test.YtjfjanaddcddlaaWSame
set_option linter.unusedVariables false
set_option linter.unusedSimpArgs false
namespace Go.Proofs
open Go.Ik Go.Ml
def Try.sortS_ren : Go.Shelf.Ren := ⟨fun | 6 => 28 | 15 => 37 | 14 => 36 | 28 => 48 | 29 => 49 | 20 => 40 | 21 => 41 | 22 => 42 | 23 => 43 | 24 => 44 | 25 => 45 | 26 => 46 | 27 => 47 | 46 => 52 | 47 => 53 | 48 => 54 | 49 => 55 | 50 => 56 | 57 => 59 | n => n, fun | 22 => 22 | 24 => 9 | 25 => 33 | 3 => 3 | 39 => 46 | 0 => 0 | 53 => 55 | 55 => 57 | 4 => 4 | 46 => 49 | 45 => 48 | 50 => 34 | 5 => 5 | 9 => 9 | 66 => 61 | 70 => 65 | 76 => 70 | 77 => 71 | n => n, fun | n => n⟩
theorem Try.sortS : Go.Proofs.SlLaysF.n6 Try.prog Try.sortS_ren := {
  mixed := by kernel_rfl,
  f6 := ⟨Try.f28.name, by decide, Try.func28.trans (congrArg some (by kernel_rfl))⟩,
  f14 := ⟨Try.f36.name, by decide, Try.func36.trans (congrArg some (by kernel_rfl))⟩,
  f15 := Try.func37.trans (congrArg some (by kernel_rfl)),
  f20 := ⟨Try.f40.name, by decide, Try.func40.trans (congrArg some (by kernel_rfl))⟩,
  f21 := ⟨Try.f41.name, by decide, Try.func41.trans (congrArg some (by kernel_rfl))⟩,
  f22 := ⟨Try.f42.name, by decide, Try.func42.trans (congrArg some (by kernel_rfl))⟩,
  f23 := ⟨Try.f43.name, by decide, Try.func43.trans (congrArg some (by kernel_rfl))⟩,
  f24 := ⟨Try.f44.name, by decide, Try.func44.trans (congrArg some (by kernel_rfl))⟩,
  f25 := ⟨Try.f45.name, by decide, Try.func45.trans (congrArg some (by kernel_rfl))⟩,
  f26 := ⟨Try.f46.name, by decide, Try.func46.trans (congrArg some (by kernel_rfl))⟩,
  f27 := ⟨Try.f47.name, by decide, Try.func47.trans (congrArg some (by kernel_rfl))⟩,
  f28 := Try.func48.trans (congrArg some (by kernel_rfl)),
  f29 := Try.func49.trans (congrArg some (by kernel_rfl)),
  f46 := ⟨Try.f52.name, by decide, Try.func52.trans (congrArg some (by kernel_rfl))⟩,
  f47 := Try.func53.trans (congrArg some (by kernel_rfl)),
  f48 := Try.func54.trans (congrArg some (by kernel_rfl)),
  f49 := ⟨Try.f55.name, by decide, Try.func55.trans (congrArg some (by kernel_rfl))⟩,
  f50 := ⟨Try.f56.name, by decide, Try.func56.trans (congrArg some (by kernel_rfl))⟩,
  f57 := ⟨Try.f59.name, by decide, Try.func59.trans (congrArg some (by kernel_rfl))⟩,
  t0 := Try.underlying0,
  a0 := Try.isAgg0,
  z0 := Try.sizeOf0,
  v0 := Try.zeroValue0,
  t3 := Try.underlying3,
  a3 := Try.isAgg3,
  z3 := Try.sizeOf3,
  v3 := Try.zeroValue3,
  t4 := Try.underlying4,
  a4 := Try.isAgg4,
  z4 := Try.sizeOf4,
  v4 := Try.zeroValue4,
  t5 := Try.underlying5,
  a5 := Try.isAgg5,
  z5 := Try.sizeOf5,
  v5 := Try.zeroValue5,
  t9 := Try.underlying9,
  a9 := Try.isAgg9,
  z9 := Try.sizeOf9,
  v9 := Try.zeroValue9,
  t22 := Try.underlying22,
  a22 := Try.isAgg22,
  z22 := Try.sizeOf22,
  v22 := Try.zeroValue22,
  a24 := Try.isAgg9,
  z24 := Try.sizeOf9,
  t25 := Try.underlying33,
  a25 := Try.isAgg33,
  z25 := Try.sizeOf33,
  v25 := Try.zeroValue33,
  t39 := Try.underlying46,
  a39 := Try.isAgg46,
  z39 := Try.sizeOf46,
  v39 := Try.zeroValue46,
  t45 := Try.underlying48,
  a45 := Try.isAgg48,
  z45 := Try.sizeOf48,
  v45 := Try.zeroValue48,
  t46 := Try.underlying49,
  a46 := Try.isAgg49,
  z46 := Try.sizeOf49,
  v46 := Try.zeroValue49,
  t50 := Try.underlying34,
  a50 := Try.isAgg34,
  z50 := Try.sizeOf34,
  v50 := Try.zeroValue34,
  t53 := Try.underlying55,
  a53 := Try.isAgg55,
  z53 := Try.sizeOf55,
  v53 := Try.zeroValue55,
  t55 := Try.underlying57,
  a55 := Try.isAgg57,
  z55 := Try.sizeOf57,
  v55 := Try.zeroValue57,
  t66 := Try.underlying61,
  a66 := Try.isAgg61,
  z66 := Try.sizeOf61,
  v66 := Try.zeroValue61,
  t70 := Try.underlying65,
  a70 := Try.isAgg65,
  z70 := Try.sizeOf65,
  v70 := Try.zeroValue65,
  t76 := Try.underlying70,
  a76 := Try.isAgg70,
  z76 := Try.sizeOf70,
  v76 := Try.zeroValue70,
  t77 := Try.underlying71,
  a77 := Try.isAgg71,
  z77 := Try.sizeOf71,
  v77 := Try.zeroValue71 }
def Try.compactS_ren : Go.Shelf.Ren := ⟨fun | 43 => 29 | n => n, fun | 22 => 22 | 23 => 9 | 3 => 3 | 4 => 4 | 0 => 0 | n => n, fun | n => n⟩
theorem Try.compactS : Go.Proofs.SlLaysE.n43 Try.prog Try.compactS_ren := {
  mixed := by kernel_rfl,
  f43 := ⟨Try.f29.name, by decide, Try.func29.trans (congrArg some (by kernel_rfl))⟩,
  t0 := Try.underlying0,
  a0 := Try.isAgg0,
  z0 := Try.sizeOf0,
  v0 := Try.zeroValue0,
  t3 := Try.underlying3,
  a3 := Try.isAgg3,
  z3 := Try.sizeOf3,
  v3 := Try.zeroValue3,
  t4 := Try.underlying4,
  a4 := Try.isAgg4,
  z4 := Try.sizeOf4,
  v4 := Try.zeroValue4,
  t22 := Try.underlying22,
  a22 := Try.isAgg22,
  z22 := Try.sizeOf22,
  v22 := Try.zeroValue22,
  a23 := Try.isAgg9,
  z23 := Try.sizeOf9 }
theorem sort_c {w0 : World} {gb : Nat} {v : Value} {l : List Str} (h : Acc encS 9 1 w0 gb v l) (hlen : l.length ≤ 1000000) :
    Calls Try.prog 28 #[v, .func (.func 21) #[] #[]] w0 (Ret fun rv w1 => rv = .tuple #[] ∧ Acc encS 9 1 w1 gb v (sortL l) ∧ Mod (Mg gb) w0 w1) :=
  sort_own Try.sortS 21 (enters_of Try.func21 (by kernel_rfl) rfl) (fun w0 a b => tcmp_s a b) h hlen
theorem compact_c {w0 : World} {gb : Nat} {v : Value} {l : List Str} (h : Acc encS 9 1 w0 gb v l) (hlen : l.length ≤ 1000000) :
    Calls Try.prog 29 #[v] w0 (Ret fun rv w1 => Acc encS 9 1 w1 gb rv (Lib.compactUpTo l.toArray l.length) ∧ Mod (Mg gb) w0 w1) := by
  by_cases hv : v = .slice none 0 0
  · subst hv
    have hl : l = [] ∧ gb = 0 := by
      rcases h with ⟨_, h, h2⟩ | ⟨b, cap, cur, _, h, _⟩
      · exact ⟨h, h2⟩
      · simp at h
    obtain ⟨rfl, rfl⟩ := hl
    refine compact_nil.mono ?_
    rintro e w1 ⟨rv, rfl, rfl, rfl⟩
    exact ⟨_, rfl, Acc.nil, Mod.refl _ _⟩
  · exact compact_own Try.compactS (fun w => by kernel_rfl) h hv hlen
end Go.Proofs
