/-
  WalkLevels: the law returns true for every two lists of texts and every query, and its arguments read as before. No condition.
-/
import Derived.Test.YtjhbobjjkbppkaaRows
import Derived.Test.YtjhbobjjkbppkaaWWalkLevels
set_option linter.unusedVariables false
set_option linter.unusedSimpArgs false
namespace Go.Proofs.Ytjhbobjjkbppkaa
open Go.Ik Go.Ml Go.ChangeShapes Go.WideShapes Go.ChangeAt Go.RowKit
open Go.ChangeMaps (open_string shut_string)
namespace walkLevels

theorem own : ownKnob Try.prog.godebug = none := by kernel_rfl
set_option maxRecDepth 100000 in
theorem contract (H : Type) (enc : TypeId × Value → H) (W : World) (base : Nat) (args : Array Value) (ds gs : List (DataW H)) (before : List MemPlace)
    (hval : ∀ (j : Nat) t v, Try.f7.params[j]? = some t → args[j]? = some v → Value.okWide Try.prog W .any base t v)
    (hW : DataW.Whole enc Try.prog Try.f7.params.toList Rows.walkLevelsSpec.vars false W args.toList ds gs before) :
    Calls Try.prog 7 args W fun e W' => ∃ v, e = .returned v ∧ Rows.walkLevelsSpec.post enc Try.prog Try.f7 false true false false W args v W' := by
  have hW' := hW
  obtain ⟨p, q, hA0, hV, hbef, hfz, hnd⟩ := hW
  have hA : DataW.TrodAll enc Try.prog W 0 (fun _ => true) true [22, 22, 39] args.toList ds p := hA0
  obtain ⟨v0, vs0, d0, ds0, p0, q0, hargs, rfl, rfl, h0, r0⟩ := trodAll_cons hA
  obtain ⟨v1, vs1, d1, ds1, p1, q1, rfl, rfl, rfl, h1, r1⟩ := trodAll_cons r0
  obtain ⟨v2, vs2, d2, ds2, p2, q2, rfl, rfl, rfl, h2, r2⟩ := trodAll_cons r1
  obtain ⟨rfl, rfl, rfl⟩ := trodAll_nil r2
  obtain rfl : args = #[v0, v1, v2] := by apply Array.ext'; exact hargs
  obtain ⟨rfl, rfl⟩ := trodVars_none hV
  obtain ⟨fu0, hf0⟩ := h0
  obtain ⟨sv0, x_words, hsv0, hsl0, hok0⟩ := open_slice_flat (flat_str Try.underlying9) Try.underlying22 (by kernel_rfl) (by decide) encS_len hf0
  obtain ⟨a_0, len_0, cap_0, rfl⟩ := okWide_slice Try.underlying22 (hval 0 22 v0 rfl rfl)
  obtain rfl : Value.slice a_0 len_0 cap_0 = sv0 := by simpa [Value.cells] using hsv0
  obtain ⟨fu1, hf1⟩ := h1
  obtain ⟨sv1, x_part, hsv1, hsl1, hok1⟩ := open_slice_flat (flat_str Try.underlying9) Try.underlying22 (by kernel_rfl) (by decide) encS_len hf1
  obtain ⟨a_1, len_1, cap_1, rfl⟩ := okWide_slice Try.underlying22 (hval 1 22 v1 rfl rfl)
  obtain rfl : Value.slice a_1 len_1 cap_1 = sv1 := by simpa [Value.cells] using hsv1
  obtain ⟨cs2, rfl, hsz2⟩ := okWide_struct Try.underlying39 (hval 2 39 v2 rfl rfl)
  obtain ⟨l2⟩ := cs2
  rw [show Try.prog.cellsOf 39 = 3 from by kernel_rfl] at hsz2
  obtain ⟨fu2, hf2⟩ := h2
  obtain ⟨n2, -, hfi2⟩ := field_at Try.underlying39 hf2
  obtain ⟨c2_0, c2_1, c2_2, rfl⟩ : ∃ c2_0 c2_1 c2_2, l2 = [c2_0, c2_1, c2_2] := by
    match l2, hsz2 with
    | [c2_0, c2_1, c2_2], _ => exact ⟨_, _, _, rfl⟩
  obtain ⟨y2_0, hy2_0⟩ := hfi2 0 _ 9 0 1 rfl rfl rfl (by kernel_rfl)
  obtain ⟨f2_0, e2_0, k2_0⟩ := flat_str Try.underlying9 _ _ _ hy2_0
  obtain ⟨y2_1, hy2_1⟩ := hfi2 1 _ 3 1 1 rfl rfl rfl (by kernel_rfl)
  obtain ⟨f2_1, e2_1, k2_1⟩ := flat_int Try.underlying3 _ _ _ hy2_1
  obtain ⟨y2_2, hy2_2⟩ := hfi2 2 _ 3 2 1 rfl rfl rfl (by kernel_rfl)
  obtain ⟨f2_2, e2_2, k2_2⟩ := flat_int Try.underlying3 _ _ _ hy2_2
  simp [Value.cells, Ik.encI, encS, encBo, encRn, encB] at e2_0 e2_1 e2_2
  subst e2_0 e2_1 e2_2
  refine (WalkLevels_c (q := (⟨f2_0, f2_1, f2_2⟩ : Qry))  hsl0 hsl1 (by exact hok0) (by exact hok1) (by assumption) (by assumption)).mono ?_
  rintro e W1 ⟨v, rfl, ⟨rb, rfl, rfl⟩, hext⟩
  exact ⟨_, rfl, law_post (tb := 4) (by kernel_rfl) (by kernel_rfl) rfl Try.underlying4 rfl hW' hext rfl⟩
set_option maxRecDepth 100000 in
theorem lifted (os : Os) (started : os.Started) (H : Type) (enc : TypeId × Value → H) :
    ReturnsInHanded {} Try.checked os 7 .any (Rows.walkLevelsSpec.pre6 enc Try.prog Try.f7 Rows.walkLevelsRow.domain false) (Rows.walkLevelsSpec.post enc Try.prog Try.f7 false true false false) := by
  refine returnsInHanded_of_change (C := Try.checked) (s := Rows.walkLevelsSpec) own started (by kernel_rfl) Try.func7
    (ChangeSpec.witness6 false ⟨#[], #[.slice none 0 0, .slice none 0 0, .agg #[.string (ByteArray.mk #[]), .int .i64 0, .int .i64 0]], []⟩ 8 (by kernel_rfl) (by kernel_rfl) (by kernel_rfl) (by kernel_rfl)) ?_
  intro W base args ds gs before hval hW _ _
  exact contract H enc W base args ds gs before hval hW
theorem proved : Rows.WalkLevelsSaid :=
  OpenClaim.holds_of_wide 7 Try.f7 rfl rfl rfl rfl rfl rfl rfl ⟨rfl, rfl, rfl, rfl, rfl⟩ rfl rfl rfl rfl rfl (by kernel_rfl) Try.func7 (by kernel_rfl)
    (of_decide_eq_true (by kernel_rfl)) (by unfold Func.isWrapper; first | (rw [if_pos (by decide +kernel)]; kernel_rfl) | (rw [if_neg (by decide +kernel)]; exact ⟨rfl, rfl⟩))
    (fun os started H enc _ => lifted os started H enc)
end walkLevels
end Go.Proofs.Ytjhbobjjkbppkaa
