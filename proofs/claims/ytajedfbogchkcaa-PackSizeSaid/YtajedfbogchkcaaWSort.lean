/-
  slices.SortFunc and slices.Compact at this program, out of the kit.
-/
import Derived.Test.YtajedfbogchkcaaWSame
import Derived.Test.YtajedfbogchkcaaLibD
import Derived.Shelf.Lay
import Derived.Shelf.SlGeneric
import Derived.Ground.SlsfProg
import Derived.Ground.SlgnProg
set_option linter.unusedVariables false
set_option linter.unusedSimpArgs false
namespace Go.Proofs
open Go.Ik Go.Ml
def Try.sortS_ren : Go.Shelf.Ren := ⟨fun | 6 => 77 | 15 => 108 | 14 => 107 | 28 => 136 | 29 => 137 | 20 => 128 | 21 => 129 | 22 => 130 | 23 => 131 | 24 => 132 | 25 => 133 | 26 => 134 | 27 => 135 | 46 => 146 | 47 => 147 | 48 => 148 | 49 => 149 | 50 => 150 | 57 => 157 | n => n, fun | 22 => 22 | 24 => 9 | 25 => 121 | 3 => 3 | 39 => 108 | 0 => 0 | 53 => 95 | 55 => 149 | 4 => 4 | 46 => 177 | 45 => 176 | 50 => 97 | 5 => 5 | 9 => 9 | 66 => 191 | 70 => 195 | 76 => 204 | 77 => 205 | n => n, fun | n => n⟩
theorem Try.sortS : Go.Proofs.SlLaysF.n6 Try.prog Try.sortS_ren := {
  mixed := by kernel_rfl,
  f6 := ⟨Try.f77.name, by decide, Try.func77.trans (congrArg some (by kernel_rfl))⟩,
  f14 := ⟨Try.f107.name, by decide, Try.func107.trans (congrArg some (by kernel_rfl))⟩,
  f15 := Try.func108.trans (congrArg some (by kernel_rfl)),
  f20 := ⟨Try.f128.name, by decide, Try.func128.trans (congrArg some (by kernel_rfl))⟩,
  f21 := ⟨Try.f129.name, by decide, Try.func129.trans (congrArg some (by kernel_rfl))⟩,
  f22 := ⟨Try.f130.name, by decide, Try.func130.trans (congrArg some (by kernel_rfl))⟩,
  f23 := ⟨Try.f131.name, by decide, Try.func131.trans (congrArg some (by kernel_rfl))⟩,
  f24 := ⟨Try.f132.name, by decide, Try.func132.trans (congrArg some (by kernel_rfl))⟩,
  f25 := ⟨Try.f133.name, by decide, Try.func133.trans (congrArg some (by kernel_rfl))⟩,
  f26 := ⟨Try.f134.name, by decide, Try.func134.trans (congrArg some (by kernel_rfl))⟩,
  f27 := ⟨Try.f135.name, by decide, Try.func135.trans (congrArg some (by kernel_rfl))⟩,
  f28 := Try.func136.trans (congrArg some (by kernel_rfl)),
  f29 := Try.func137.trans (congrArg some (by kernel_rfl)),
  f46 := ⟨Try.f146.name, by decide, Try.func146.trans (congrArg some (by kernel_rfl))⟩,
  f47 := Try.func147.trans (congrArg some (by kernel_rfl)),
  f48 := Try.func148.trans (congrArg some (by kernel_rfl)),
  f49 := ⟨Try.f149.name, by decide, Try.func149.trans (congrArg some (by kernel_rfl))⟩,
  f50 := ⟨Try.f150.name, by decide, Try.func150.trans (congrArg some (by kernel_rfl))⟩,
  f57 := ⟨Try.f157.name, by decide, Try.func157.trans (congrArg some (by kernel_rfl))⟩,
  t0 := Try.underlying0,
  a0 := Try.isAgg0,
  z0 := Try.sizeOf0,
  v0 := Try.zeroValue0,
  t3 := Try.underlying3,
  a3 := Try.isAgg3,
  z3 := Try.sizeOf3,
  v3 := Try.zeroValue3,
  t4 := Try.underlying4,
  a4 := Try.isAgg4,
  z4 := Try.sizeOf4,
  v4 := Try.zeroValue4,
  t5 := Try.underlying5,
  a5 := Try.isAgg5,
  z5 := Try.sizeOf5,
  v5 := Try.zeroValue5,
  t9 := Try.underlying9,
  a9 := Try.isAgg9,
  z9 := Try.sizeOf9,
  v9 := Try.zeroValue9,
  t22 := Try.underlying22,
  a22 := Try.isAgg22,
  z22 := Try.sizeOf22,
  v22 := Try.zeroValue22,
  a24 := Try.isAgg9,
  z24 := Try.sizeOf9,
  t25 := Try.underlying121,
  a25 := Try.isAgg121,
  z25 := Try.sizeOf121,
  v25 := Try.zeroValue121,
  t39 := Try.underlying108,
  a39 := Try.isAgg108,
  z39 := Try.sizeOf108,
  v39 := Try.zeroValue108,
  t45 := Try.underlying176,
  a45 := Try.isAgg176,
  z45 := Try.sizeOf176,
  v45 := Try.zeroValue176,
  t46 := Try.underlying177,
  a46 := Try.isAgg177,
  z46 := Try.sizeOf177,
  v46 := Try.zeroValue177,
  t50 := Try.underlying97,
  a50 := Try.isAgg97,
  z50 := Try.sizeOf97,
  v50 := Try.zeroValue97,
  t53 := Try.underlying95,
  a53 := Try.isAgg95,
  z53 := Try.sizeOf95,
  v53 := Try.zeroValue95,
  t55 := Try.underlying149,
  a55 := Try.isAgg149,
  z55 := Try.sizeOf149,
  v55 := Try.zeroValue149,
  t66 := Try.underlying191,
  a66 := Try.isAgg191,
  z66 := Try.sizeOf191,
  v66 := Try.zeroValue191,
  t70 := Try.underlying195,
  a70 := Try.isAgg195,
  z70 := Try.sizeOf195,
  v70 := Try.zeroValue195,
  t76 := Try.underlying204,
  a76 := Try.isAgg204,
  z76 := Try.sizeOf204,
  v76 := Try.zeroValue204,
  t77 := Try.underlying205,
  a77 := Try.isAgg205,
  z77 := Try.sizeOf205,
  v77 := Try.zeroValue205 }
def Try.compactS_ren : Go.Shelf.Ren := ⟨fun | 43 => 78 | n => n, fun | 22 => 22 | 23 => 9 | 3 => 3 | 4 => 4 | 0 => 0 | n => n, fun | n => n⟩
theorem Try.compactS : Go.Proofs.SlLaysE.n43 Try.prog Try.compactS_ren := {
  mixed := by kernel_rfl,
  f43 := ⟨Try.f78.name, by decide, Try.func78.trans (congrArg some (by kernel_rfl))⟩,
  t0 := Try.underlying0,
  a0 := Try.isAgg0,
  z0 := Try.sizeOf0,
  v0 := Try.zeroValue0,
  t3 := Try.underlying3,
  a3 := Try.isAgg3,
  z3 := Try.sizeOf3,
  v3 := Try.zeroValue3,
  t4 := Try.underlying4,
  a4 := Try.isAgg4,
  z4 := Try.sizeOf4,
  v4 := Try.zeroValue4,
  t22 := Try.underlying22,
  a22 := Try.isAgg22,
  z22 := Try.sizeOf22,
  v22 := Try.zeroValue22,
  a23 := Try.isAgg9,
  z23 := Try.sizeOf9 }
theorem sort_c {w0 : World} {gb : Nat} {v : Value} {l : List Str} (h : Acc encS 9 1 w0 gb v l) (hlen : l.length ≤ 1000000) :
    Calls Try.prog 77 #[v, .func (.func 76) #[] #[]] w0 (Ret fun rv w1 => rv = .tuple #[] ∧ Acc encS 9 1 w1 gb v (sortL l) ∧ Mod (Mg gb) w0 w1) :=
  sort_own Try.sortS 76 (enters_of Try.func76 (by kernel_rfl) rfl) (fun w0 a b => tcmp_s a b) h hlen
theorem compact_c {w0 : World} {gb : Nat} {v : Value} {l : List Str} (h : Acc encS 9 1 w0 gb v l) (hlen : l.length ≤ 1000000) :
    Calls Try.prog 78 #[v] w0 (Ret fun rv w1 => Acc encS 9 1 w1 gb rv (Lib.compactUpTo l.toArray l.length) ∧ Mod (Mg gb) w0 w1) := by
  by_cases hv : v = .slice none 0 0
  · subst hv
    have hl : l = [] ∧ gb = 0 := by
      rcases h with ⟨_, h, h2⟩ | ⟨b, cap, cur, _, h, _⟩
      · exact ⟨h, h2⟩
      · simp at h
    obtain ⟨rfl, rfl⟩ := hl
    refine compact_nil.mono ?_
    rintro e w1 ⟨rv, rfl, rfl, rfl⟩
    exact ⟨_, rfl, Acc.nil, Mod.refl _ _⟩
  · exact compact_own Try.compactS (fun w => by kernel_rfl) h hv hlen
end Go.Proofs
