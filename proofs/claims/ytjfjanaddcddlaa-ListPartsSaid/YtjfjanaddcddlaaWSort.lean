/-
  slices.SortFunc and slices.Compact at this program, out of the kit.
-/
import Derived.Test.YtjfjanaddcddlaaWSame
import Derived.Shelf.Lay
import Derived.Shelf.SlGeneric
import Derived.Ground.SlsfProg
import Derived.Ground.SlgnProg
set_option linter.unusedVariables false
set_option linter.unusedSimpArgs false
namespace Go.Proofs
open Go.Ik Go.Ml
open Go.Shelf Go.RowKit Go.Lib Go.Sort in
shelf_lay_g SlLaysF.n6 Slsf 6 at Try 28 as Try.sortS
open Go.Shelf Go.RowKit Go.Lib Go.Sort in
shelf_lay_g SlLaysE.n43 Slgn 43 at Try 29 as Try.compactS
theorem sort_c {w0 : World} {gb : Nat} {v : Value} {l : List Str} (h : Acc encS 9 1 w0 gb v l) (hlen : l.length ≤ 1000000) :
    Calls Try.prog 28 #[v, .func (.func 21) #[] #[]] w0 (Ret fun rv w1 => rv = .tuple #[] ∧ Acc encS 9 1 w1 gb v (sortL l) ∧ Mod (Mg gb) w0 w1) :=
  sort_own Try.sortS 21 (enters_of Try.func21 (by kernel_rfl) rfl) (fun w0 a b => tcmp_s a b) h hlen
theorem compact_c {w0 : World} {gb : Nat} {v : Value} {l : List Str} (h : Acc encS 9 1 w0 gb v l) (hlen : l.length ≤ 1000000) :
    Calls Try.prog 29 #[v] w0 (Ret fun rv w1 => Acc encS 9 1 w1 gb rv (Lib.compactUpTo l.toArray l.length) ∧ Mod (Mg gb) w0 w1) := by
  by_cases hv : v = .slice none 0 0
  · subst hv
    have hl : l = [] ∧ gb = 0 := by
      rcases h with ⟨_, h, h2⟩ | ⟨b, cap, cur, _, h, _⟩
      · exact ⟨h, h2⟩
      · simp at h
    obtain ⟨rfl, rfl⟩ := hl
    refine compact_nil.mono ?_
    rintro e w1 ⟨rv, rfl, rfl, rfl⟩
    exact ⟨_, rfl, Acc.nil, Mod.refl _ _⟩
  · exact compact_own Try.compactS (fun w => by kernel_rfl) h hv hlen
end Go.Proofs
