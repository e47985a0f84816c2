/-
  The walk through Turned of the reference of chapter 14.
-/
import Derived.Test.YtajedfbogchkcaaWSum
set_option linter.unusedVariables false
set_option linter.unusedSimpArgs false
namespace Go.Proofs
open Go.Ik Go.Ml
set_option maxRecDepth 20000 in
set_option maxHeartbeats 4000000 in
theorem turned_c {w0 : World}  {v_b : Value} {b : List UInt8} (at_ : Int) (x : Int) (h_b : Sl encB w0 (Iv 0 w0.heap.size) v_b b) (h_at_ : I64 at_) (h_x : I64 x) (hb1 : 1 ≤ b.length) (hbl : b.length ≤ 4000000) :
    Calls Try.prog 23 #[v_b, .int .i64 at_, .int .i64 x] w0 (Ret fun rv w1 => (∃ gr, Acc encB 5 1 w1 gr rv (turnB b at_ x) ∧ (gr = 0 ∨ w0.heap.size < gr)) ∧ Ext w0 w1) := by
  have hE0 : Ext w0 w0 := Mod.refl _ _
  have hle1 := h_b.le
  refine calls_enter Try.func23 rfl Try.ntmps23 rfl ?_
  refine r_seq ?_
  refine r_region ?_
  refine OL.q (Q1.assign rfl) rfl rfl ?_
  refine OL.nil ?_
  refine r_seq ?_
  refine r_region ?_
  refine OL.q (Q1.move rfl) rfl rfl ?_
  refine OL.act rfl rfl (AW.append (Acc.nil (enc := encB) (e := 5) (sz := 1) (w := w0)) Try.underlying25 ti5 rfl encB_len encB_one rfl rfl (h_b) (by first | omega | (simp only [List.length_append, List.length_cons, List.length_nil]; omega) | (simp; omega)) (by unfold maxLen; first | omega | (simp only [List.length_append, List.length_cons, List.length_nil]; omega) | (simp; omega)) ?_)
  intro v1 g1 w1 ha1 hm1 hg1 hz1
  replace hm1 := hm1.toExt
  have f1 := h_b.ext hm1
  have hE1 := hE0.ext hm1
  have hs1 := hm1.size
  refine OL.q (Q1.assign rfl) rfl rfl ?_
  refine OL.nil ?_
  refine r_seq ?_
  refine r_region ?_
  refine OL.q (Q1.move rfl) rfl rfl ?_
  refine OL.q (Q1.convI (by kernel_rfl) Try.underlying108 rfl) rfl rfl ?_
  have hx64 := Ml.u64_range at_
  refine OL.q (Q1.move rfl) rfl rfl ?_
  refine OL.q (Q1.lenSl Try.underlying25 (f1) rfl) rfl rfl ?_
  refine OL.q (Q1.convN (by kernel_rfl) Try.underlying108 rfl (IntWalk.u64_in _ (by omega))) rfl rfl ?_
  have := Int.emod_nonneg ((IntKind.u64.wrap at_) : Int) (by omega : (((b.length : Nat) : Int) : Int) ≠ 0)
  have := Int.emod_lt_of_pos ((IntKind.u64.wrap at_) : Int) (by omega : (0 : Int) < ((b.length : Nat) : Int))
  refine OL.q (Q1.remI (((IntKind.u64.wrap at_) % (((b.length : Nat) : Int)))) rfl rfl ⟨by omega, by omega, rfl⟩) rfl rfl ?_
  have hlow := Ml.low_range at_ (b.length : Int) (by omega)
  unfold Ml.lowM at hlow
  have hlt0 : ((IntKind.u64.wrap at_) % (((b.length : Nat) : Int))).toNat < b.length := turnAt_lt (by omega) at_
  refine OL.q (Q1.convN (by kernel_rfl) Try.underlying3 rfl (IntWalk.i64_in _ (by omega))) rfl rfl ?_
  refine OL.q (Q1.assign rfl) rfl rfl ?_
  refine OL.nil ?_
  refine r_seq ?_
  refine r_region ?_
  refine OL.q (Q1.move rfl) rfl rfl ?_
  refine OL.q (Q1.move rfl) rfl rfl ?_
  refine OL.q (Q1.move rfl) rfl rfl ?_
  refine OL.q (Q1.move rfl) rfl rfl ?_
  obtain ⟨x1, b1, o1, hx1, hr1, hl1, hu1, hw1⟩ := Sl.at' (P := Try.prog) ha1.sl Try.underlying25 ti5 encB_len (k := .i64) (n := ((IntKind.u64.wrap at_) % (((b.length : Nat) : Int)))) ((((IntKind.u64.wrap at_) % (((b.length : Nat) : Int)))).toNat) (by omega) (by first | assumption | omega)
  refine OL.q (Q1.indexAddr rfl rfl hr1) rfl rfl ?_
  refine OL.q (Q1.load1 ti5 rfl (fun _ e => e ▸ hw1)) rfl rfl ?_
  refine OL.q (Q1.move rfl) rfl rfl ?_
  refine OL.q (Q1.convI (by kernel_rfl) Try.underlying108 rfl) rfl rfl ?_
  have hy64 := Ml.u64_range x
  have := Int.emod_nonneg ((IntKind.u64.wrap x) : Int) (by omega : (255 : Int) ≠ 0)
  have := Int.emod_lt_of_pos ((IntKind.u64.wrap x) : Int) (by omega : (0 : Int) < 255)
  refine OL.q (Q1.remI (((IntKind.u64.wrap x) % 255)) rfl rfl ⟨by omega, by omega, rfl⟩) rfl rfl ?_
  refine OL.q (Q1.addU ((1 + (((IntKind.u64.wrap x) % 255)))) rfl rfl (by omega)) rfl rfl ?_
  refine OL.q (Q1.convB (by kernel_rfl) Try.underlying5 rfl) rfl rfl ?_
  refine OL.q (Q1.xor8 (a := x1) (b := (byN ((1 + (((IntKind.u64.wrap x) % 255)))))) rfl rfl) rfl rfl ?_
  obtain ⟨hr2, x2, hx2⟩ := Acc.at (P := Try.prog) ha1 Try.underlying25 ti5 (k := .i64) (n := ((IntKind.u64.wrap at_) % (((b.length : Nat) : Int)))) ((((IntKind.u64.wrap at_) % (((b.length : Nat) : Int)))).toNat) (by omega) (by first | assumption | omega | (simp; done))
  refine OL.q (Q1.indexAddr rfl rfl hr2) rfl rfl ?_
  have hl3 := ha1.lt
  refine OL.act rfl rfl (AW.storeA ha1 encB_len (i := ((((IntKind.u64.wrap at_) % (((b.length : Nat) : Int)))).toNat)) (o := 0) hx2 ((x1 ^^^ (byN ((1 + (((IntKind.u64.wrap x) % 255))))))) ti5 rfl (by omega) rfl rfl rfl rfl (by decide) (by first | rfl | simp [encB]) ?_)
  intro w2 hm2 hz2 ha2
  have hl4 := ha1.lt
  have f2 := f1.keepG hm2 (by omega)
  have hE2 := Ext.thenG hE1 hm2 (by omega)
  have hs2 := hm2.size
  have hl2 : ((([] ++ b)).set ((((IntKind.u64.wrap at_) % (((b.length : Nat) : Int)))).toNat) ((x1 ^^^ (byN ((1 + (((IntKind.u64.wrap x) % 255)))))))).length = (([] ++ b)).length := List.length_set
  refine OL.nil ?_
  refine r_seq ?_
  refine r_region ?_
  refine OL.q (Q1.move rfl) rfl rfl ?_
  refine OL.q (Q1.assign rfl) rfl rfl ?_
  refine OL.nil ?_
  refine r_ret1 Try.func23 rfl rfl ?_
  exact Ret.mk ⟨⟨_, Acc.cast ha2 (by first | exact (turnB_yes hx1).symm | (exfalso; omega)), by omega⟩, hE2⟩
end Go.Proofs
