/-
  maps.Keys and slices.Sorted at this program, out of the kit.
-/
import Derived.Test.YtnikbecfjbjbbaaProg
import Derived.Test.YtnikbecfjbjbbaaLibB
import Derived.Test.YtnikbecfjbjbbaaLibC
import Derived.Shelf.SlIterI.Sorted
import Derived.Shelf.SortM.Plain
import Derived.Shelf.SortM.SortNone
import Derived.Ground.GgzProg
import Derived.Ground.SlgmProg
set_option linter.unusedVariables false
set_option linter.unusedSimpArgs false
namespace Go.Proofs
open Go.Ik Go.Ml Go.Shelf Go.RowKit Go.Lib Go.Sort Go.Maps
def Try.keysK_ren : Go.Shelf.Ren := ⟨fun | 7 => 11 | 10 => 14 | n => n, fun | 23 => 41 | 26 => 3 | 3 => 4 | 28 => 44 | 0 => 0 | 27 => 43 | 33 => 47 | 4 => 4 | n => n, fun | n => n⟩
theorem Try.keysK : Go.Proofs.SlLaysZI.n7 Try.prog Try.keysK_ren := {
  mixed := by kernel_rfl,
  f7 := ⟨Try.f11.name, by decide, Try.func11.trans (congrArg some (by kernel_rfl))⟩,
  f10 := ⟨Try.f14.name, by decide, Try.func14.trans (congrArg some (by kernel_rfl))⟩,
  t0 := Try.underlying0,
  a0 := Try.isAgg0,
  z0 := Try.sizeOf0,
  v0 := Try.zeroValue0,
  t4 := Try.underlying4,
  a4 := Try.isAgg4,
  z4 := Try.sizeOf4,
  v4 := Try.zeroValue4,
  t23 := Try.underlying41,
  a23 := Try.isAgg41,
  z23 := Try.sizeOf41,
  v23 := Try.zeroValue41,
  t26 := Try.underlying3,
  a26 := Try.isAgg3,
  z26 := Try.sizeOf3,
  v26 := Try.zeroValue3,
  t27 := Try.underlying43,
  a27 := Try.isAgg43,
  z27 := Try.sizeOf43,
  v27 := Try.zeroValue43,
  t28 := Try.underlying44,
  a28 := Try.isAgg44,
  z28 := Try.sizeOf44,
  v28 := Try.zeroValue44,
  t33 := Try.underlying47,
  a33 := Try.isAgg47,
  z33 := Try.sizeOf47,
  v33 := Try.zeroValue47 }
def Try.sortedK_ren : Go.Shelf.Ren := ⟨fun | 6 => 10 | 8 => 12 | 9 => 13 | 11 => 15 | 13 => 17 | 12 => 16 | 23 => 27 | 24 => 28 | 14 => 18 | 15 => 19 | 16 => 20 | 17 => 21 | 18 => 22 | 19 => 23 | 20 => 24 | 21 => 25 | 22 => 26 | 25 => 29 | 26 => 30 | 27 => 31 | 28 => 32 | 29 => 33 | 30 => 34 | 31 => 35 | n => n, fun | 26 => 3 | 28 => 44 | 24 => 28 | 0 => 0 | 3 => 3 | 37 => 51 | 48 => 62 | 50 => 64 | 4 => 4 | 40 => 54 | 39 => 53 | 45 => 59 | 5 => 5 | 9 => 9 | 51 => 65 | 55 => 69 | 57 => 71 | 58 => 72 | 33 => 47 | n => n, fun | n => n⟩
theorem Try.sortedK : Go.Proofs.SlLaysZI.n6 Try.prog Try.sortedK_ren := {
  mixed := by kernel_rfl,
  f6 := ⟨Try.f10.name, by decide, Try.func10.trans (congrArg some (by kernel_rfl))⟩,
  f8 := ⟨Try.f12.name, by decide, Try.func12.trans (congrArg some (by kernel_rfl))⟩,
  f11 := ⟨Try.f15.name, by decide, Try.func15.trans (congrArg some (by kernel_rfl))⟩,
  t0 := Try.underlying0,
  a0 := Try.isAgg0,
  z0 := Try.sizeOf0,
  v0 := Try.zeroValue0,
  t24 := Try.underlying28,
  a24 := Try.isAgg28,
  z24 := Try.sizeOf28,
  v24 := Try.zeroValue28,
  t26 := Try.underlying3,
  a26 := Try.isAgg3,
  z26 := Try.sizeOf3,
  v26 := Try.zeroValue3,
  t28 := Try.underlying44,
  a28 := Try.isAgg44,
  z28 := Try.sizeOf44,
  v28 := Try.zeroValue44,
  i26 := by kernel_rfl }
def Try.sortK_ren : Go.Shelf.Ren := ⟨fun | 5 => 13 | 8 => 17 | 7 => 16 | 19 => 27 | 20 => 28 | 10 => 18 | 11 => 19 | 12 => 20 | 13 => 21 | 14 => 22 | 15 => 23 | 16 => 24 | 17 => 25 | 18 => 26 | 30 => 29 | 31 => 30 | 32 => 31 | 33 => 32 | 34 => 33 | 35 => 34 | 40 => 35 | n => n, fun | 23 => 28 | 25 => 3 | 3 => 3 | 32 => 51 | 22 => 28 | 0 => 0 | 44 => 62 | 46 => 64 | 4 => 4 | 36 => 54 | 35 => 53 | 41 => 59 | 5 => 5 | 9 => 9 | 53 => 65 | 57 => 69 | 63 => 71 | 64 => 72 | n => n, fun | n => n⟩
theorem Try.sortK : Go.Proofs.SlLaysM.n5 Try.prog Try.sortK_ren := {
  mixed := by kernel_rfl,
  f5 := ⟨Try.f13.name, by decide, Try.func13.trans (congrArg some (by kernel_rfl))⟩,
  f7 := ⟨Try.f16.name, by decide, Try.func16.trans (congrArg some (by kernel_rfl))⟩,
  f8 := Try.func17.trans (congrArg some (by kernel_rfl)),
  f10 := ⟨Try.f18.name, by decide, Try.func18.trans (congrArg some (by kernel_rfl))⟩,
  f11 := ⟨Try.f19.name, by decide, Try.func19.trans (congrArg some (by kernel_rfl))⟩,
  f12 := ⟨Try.f20.name, by decide, Try.func20.trans (congrArg some (by kernel_rfl))⟩,
  f13 := ⟨Try.f21.name, by decide, Try.func21.trans (congrArg some (by kernel_rfl))⟩,
  f14 := ⟨Try.f22.name, by decide, Try.func22.trans (congrArg some (by kernel_rfl))⟩,
  f15 := ⟨Try.f23.name, by decide, Try.func23.trans (congrArg some (by kernel_rfl))⟩,
  f16 := ⟨Try.f24.name, by decide, Try.func24.trans (congrArg some (by kernel_rfl))⟩,
  f17 := ⟨Try.f25.name, by decide, Try.func25.trans (congrArg some (by kernel_rfl))⟩,
  f18 := ⟨Try.f26.name, by decide, Try.func26.trans (congrArg some (by kernel_rfl))⟩,
  f19 := Try.func27.trans (congrArg some (by kernel_rfl)),
  f20 := Try.func28.trans (congrArg some (by kernel_rfl)),
  f30 := ⟨Try.f29.name, by decide, Try.func29.trans (congrArg some (by kernel_rfl))⟩,
  f31 := Try.func30.trans (congrArg some (by kernel_rfl)),
  f32 := Try.func31.trans (congrArg some (by kernel_rfl)),
  f33 := ⟨Try.f32.name, by decide, Try.func32.trans (congrArg some (by kernel_rfl))⟩,
  f34 := ⟨Try.f33.name, by decide, Try.func33.trans (congrArg some (by kernel_rfl))⟩,
  f35 := ⟨Try.f34.name, by decide, Try.func34.trans (congrArg some (by kernel_rfl))⟩,
  f40 := ⟨Try.f35.name, by decide, Try.func35.trans (congrArg some (by kernel_rfl))⟩,
  t0 := Try.underlying0,
  a0 := Try.isAgg0,
  z0 := Try.sizeOf0,
  v0 := Try.zeroValue0,
  t3 := Try.underlying3,
  a3 := Try.isAgg3,
  z3 := Try.sizeOf3,
  v3 := Try.zeroValue3,
  t4 := Try.underlying4,
  a4 := Try.isAgg4,
  z4 := Try.sizeOf4,
  v4 := Try.zeroValue4,
  t5 := Try.underlying5,
  a5 := Try.isAgg5,
  z5 := Try.sizeOf5,
  v5 := Try.zeroValue5,
  t9 := Try.underlying9,
  a9 := Try.isAgg9,
  z9 := Try.sizeOf9,
  v9 := Try.zeroValue9,
  t22 := Try.underlying28,
  a22 := Try.isAgg28,
  z22 := Try.sizeOf28,
  v22 := Try.zeroValue28,
  t23 := Try.underlying28,
  a23 := Try.isAgg28,
  z23 := Try.sizeOf28,
  v23 := Try.zeroValue28,
  t25 := Try.underlying3,
  a25 := Try.isAgg3,
  z25 := Try.sizeOf3,
  v25 := Try.zeroValue3,
  t32 := Try.underlying51,
  a32 := Try.isAgg51,
  z32 := Try.sizeOf51,
  v32 := Try.zeroValue51,
  t35 := Try.underlying53,
  a35 := Try.isAgg53,
  z35 := Try.sizeOf53,
  v35 := Try.zeroValue53,
  t36 := Try.underlying54,
  a36 := Try.isAgg54,
  z36 := Try.sizeOf54,
  v36 := Try.zeroValue54,
  t41 := Try.underlying59,
  a41 := Try.isAgg59,
  z41 := Try.sizeOf59,
  v41 := Try.zeroValue59,
  t44 := Try.underlying62,
  a44 := Try.isAgg62,
  z44 := Try.sizeOf62,
  v44 := Try.zeroValue62,
  t46 := Try.underlying64,
  a46 := Try.isAgg64,
  z46 := Try.sizeOf64,
  v46 := Try.zeroValue64,
  t53 := Try.underlying65,
  a53 := Try.isAgg65,
  z53 := Try.sizeOf65,
  v53 := Try.zeroValue65,
  t57 := Try.underlying69,
  a57 := Try.isAgg69,
  z57 := Try.sizeOf69,
  v57 := Try.zeroValue69,
  t63 := Try.underlying71,
  a63 := Try.isAgg71,
  z63 := Try.sizeOf71,
  v63 := Try.zeroValue71,
  t64 := Try.underlying72,
  a64 := Try.isAgg72,
  z64 := Try.sizeOf72,
  v64 := Try.zeroValue72 }
theorem keys_c {w0 : World} {mb : Option Nat} : Calls Try.prog 11 #[.map mb] w0 (Ret fun rv w1 => ∃ b, rv = .func (.func 14) #[] #[ptr b 0] ∧ Ext w0 w1 ∧ b = w0.heap.size ∧ Bk w1 b [.map mb] 41) := by
  refine ((callsIn_wide (n := 6)).1 (AnyZI.keys_in Try.keysK Fence.wide 6 trivial rfl mb w0)).mono ?_
  rintro e w1 ⟨rfl, rfl⟩
  refine Ret.mk ⟨w0.heap.size, rfl, Mod.alloc _ _ _, rfl, ?_⟩
  show (w0.heap.push _)[w0.heap.size]? = _
  simp; rfl
theorem sorts_c (m : Nat) : AnyZI.SortsIn Try.prog Try.sortedK_ren Fence.wide m :=
  ⟨fun blk off cap ss W hH hblk hsz => callsIn_wide.2 (AnyM.slices_Sort_int Try.sortK blk off cap ss W hH hblk hsz),
   fun p cap W => callsIn_wide.2 (AnyM.slices_Sort_int_none Try.sortK p cap W)⟩
theorem sorted_c {w0 : World} {b bm : Nat} {val : Bool → Value} {m : List (Int × Bool)} (hb : Bk w0 bm [.map (some b)] 41) (hm : MapS intV val w0 b m) (hI : ∀ p ∈ m, I64 p.1) (hlen : m.length ≤ 1000000) :
    Calls Try.prog 10 #[.func (.func 14) #[] #[ptr bm 0]] w0 (Ret fun rv w1 => ∃ gr, Acc Ik.encI 3 1 w1 gr rv (sortI (m.map (·.1))) ∧ (gr = 0 ∨ w0.heap.size < gr) ∧ Ext w0 w1) := by
  obtain ⟨D, hown, hsz, hperm⟩ := mapS_owns (H := Unit) (k := 3) hm Try.underlying3 hI hlen
  have hcell : w0.cell? ⟨bm, 0, none⟩ = some (.map (some b)) := by
    have := hb.row.cell 0 _ rfl
    simpa using this
  have hseq := AnyZI.keys_gives (P := Try.prog) (ρ := Try.keysK_ren) { Try.keysK with } Fence.wide 2 trivial rfl (by omega) bm b m.length D w0 hb.lt hcell hown
  have cS := AnyZI.sorted_in (P := Try.prog) Try.sortedK Fence.wide 5 trivial trivial trivial trivial rfl (by omega) (sorts_c _) (enters_of Try.func13 (by kernel_rfl) rfl) 14 #[.pointer (some ⟨bm, 0, none⟩)] trivial (enters_of Try.func14 (by kernel_rfl) rfl) _ _ (by have := hsz; unfold maxLen; omega) (by omega) w0 hseq
  refine (callsIn_wide.1 cS).mono ?_
  rintro e w1 ⟨v, ss, rfl, hS, hrow, hnil, hbel⟩
  have hp : ss.mergeSort (fun x y => decide (x ≤ y)) = sortI (m.map (·.1)) := mergeSort_of_perm_i (hS.trans hperm)
  rw [hp, show ss.length = (sortI (m.map (·.1))).length from by rw [← hp]; exact (List.length_mergeSort _).symm] at hrow
  obtain ⟨gr, h1, h2⟩ := ownsRow_acc hrow hbel.size
  exact Ret.mk ⟨gr, h1, h2, Mod.of_below hbel⟩
end Go.Proofs
