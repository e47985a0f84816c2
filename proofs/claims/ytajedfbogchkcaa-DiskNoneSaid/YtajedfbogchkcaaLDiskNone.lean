/-
  DiskNone: the law returns true for everything that is done, and its arguments read as before. No condition.
-/
import Derived.Test.YtajedfbogchkcaaRows
import Derived.Test.YtajedfbogchkcaaWDiskNone
set_option linter.unusedVariables false
set_option linter.unusedSimpArgs false
namespace Go.Proofs.Ytajedfbogchkcaa
open Go.Ik Go.Ml Go.ChangeShapes Go.WideShapes Go.ChangeAt Go.RowKit
open Go.ChangeMaps (open_string shut_string)
namespace diskNone

theorem own : ownKnob Try.prog.godebug = none := by kernel_rfl
set_option maxRecDepth 100000 in
theorem contract (H : Type) (enc : TypeId × Value → H) (W : World) (base : Nat) (args : Array Value) (ds gs : List (DataW H)) (before : List MemPlace)
    (hval : ∀ (j : Nat) t v, Try.f10.params[j]? = some t → args[j]? = some v → Value.okWide Try.prog W .any base t v)
    (hW : DataW.Whole enc Try.prog Try.f10.params.toList Rows.diskNoneSpec.vars false W args.toList ds gs before) :
    Calls Try.prog 10 args W fun e W' => ∃ v, e = .returned v ∧ Rows.diskNoneSpec.post enc Try.prog Try.f10 false true false false W args v W' := by
  have hW' := hW
  obtain ⟨p, q, hA0, hV, hbef, hfz, hnd⟩ := hW
  have hA : DataW.TrodAll enc Try.prog W 0 (fun _ => true) true [66] args.toList ds p := hA0
  obtain ⟨v0, vs0, d0, ds0, p0, q0, hargs, rfl, rfl, h0, r0⟩ := trodAll_cons hA
  obtain ⟨rfl, rfl, rfl⟩ := trodAll_nil r0
  obtain rfl : args = #[v0] := by apply Array.ext'; exact hargs
  obtain ⟨rfl, rfl⟩ := trodVars_none hV
  obtain ⟨cs0, rfl, hsz0⟩ := okWide_struct Try.underlying66 (hval 0 66 v0 rfl rfl)
  obtain ⟨l0⟩ := cs0
  rw [show Try.prog.cellsOf 66 = 4 from by kernel_rfl] at hsz0
  obtain ⟨fu0, hf0⟩ := h0
  obtain ⟨n0, -, hfi0⟩ := field_at Try.underlying66 hf0
  obtain ⟨c0_0, c0_1, c0_2, c0_3, rfl⟩ : ∃ c0_0 c0_1 c0_2 c0_3, l0 = [c0_0, c0_1, c0_2, c0_3] := by
    match l0, hsz0 with
    | [c0_0, c0_1, c0_2, c0_3], _ => exact ⟨_, _, _, _, rfl⟩
  obtain ⟨y0_0, hy0_0⟩ := hfi0 0 _ 3 0 1 rfl rfl rfl (by kernel_rfl)
  obtain ⟨f0_0, e0_0, k0_0⟩ := flat_int Try.underlying3 _ _ _ hy0_0
  obtain ⟨y0_1, hy0_1⟩ := hfi0 1 _ 3 1 1 rfl rfl rfl (by kernel_rfl)
  obtain ⟨f0_1, e0_1, k0_1⟩ := flat_int Try.underlying3 _ _ _ hy0_1
  obtain ⟨y0_2, hy0_2⟩ := hfi0 2 _ 3 2 1 rfl rfl rfl (by kernel_rfl)
  obtain ⟨f0_2, e0_2, k0_2⟩ := flat_int Try.underlying3 _ _ _ hy0_2
  obtain ⟨y0_3, hy0_3⟩ := hfi0 3 _ 3 3 1 rfl rfl rfl (by kernel_rfl)
  obtain ⟨f0_3, e0_3, k0_3⟩ := flat_int Try.underlying3 _ _ _ hy0_3
  simp [Value.cells, Ik.encI, encS, encBo, encRn, encB] at e0_0 e0_1 e0_2 e0_3
  subst e0_0 e0_1 e0_2 e0_3
  refine (DiskNone_c (x := (⟨f0_0, f0_1, f0_2, f0_3⟩ : ActD))  ⟨k0_0, k0_1, k0_2, k0_3⟩).mono ?_
  rintro e W1 ⟨v, rfl, ⟨rb, rfl, rfl⟩, hext⟩
  exact ⟨_, rfl, law_post (tb := 4) (by kernel_rfl) (by kernel_rfl) rfl Try.underlying4 rfl hW' hext rfl⟩
set_option maxRecDepth 100000 in
theorem lifted (os : Os) (started : os.Started) (H : Type) (enc : TypeId × Value → H) :
    ReturnsInHanded {} Try.checked os 10 .any (Rows.diskNoneSpec.pre6 enc Try.prog Try.f10 Rows.diskNoneRow.domain false) (Rows.diskNoneSpec.post enc Try.prog Try.f10 false true false false) := by
  refine returnsInHanded_of_change (C := Try.checked) (s := Rows.diskNoneSpec) own started (by kernel_rfl) Try.func10
    (ChangeSpec.witness6 false ⟨#[], #[.agg #[.int .i64 0, .int .i64 0, .int .i64 0, .int .i64 0]], []⟩ 8 (by kernel_rfl) (by kernel_rfl) (by kernel_rfl) (by kernel_rfl)) ?_
  intro W base args ds gs before hval hW _ _
  exact contract H enc W base args ds gs before hval hW
theorem proved : Rows.DiskNoneSaid :=
  OpenClaim.holds_of_wide 10 Try.f10 rfl rfl rfl rfl rfl rfl rfl ⟨rfl, rfl, rfl, rfl, rfl⟩ rfl rfl rfl rfl rfl (by kernel_rfl) Try.func10 (by kernel_rfl)
    (of_decide_eq_true (by kernel_rfl)) (by unfold Func.isWrapper; first | (rw [if_pos (by decide +kernel)]; kernel_rfl) | (rw [if_neg (by decide +kernel)]; exact ⟨rfl, rfl⟩))
    (fun os started H enc _ => lifted os started H enc)
end diskNone
end Go.Proofs.Ytajedfbogchkcaa
