/-
  WalkBatches: the law returns true for every list of texts, every query and every list of sizes, and its arguments read as before. No condition.
-/
import Derived.Test.YtjhbobjjkbppkaaRows
import Derived.Test.YtjhbobjjkbppkaaWWalkBatches
set_option linter.unusedVariables false
set_option linter.unusedSimpArgs false
namespace Go.Proofs.Ytjhbobjjkbppkaa
open Go.Ik Go.Ml Go.ChangeShapes Go.WideShapes Go.ChangeAt Go.RowKit
open Go.ChangeMaps (open_string shut_string)
namespace walkBatches

theorem own : ownKnob Try.prog.godebug = none := by kernel_rfl
set_option maxRecDepth 100000 in
theorem contract (H : Type) (enc : TypeId × Value → H) (W : World) (base : Nat) (args : Array Value) (ds gs : List (DataW H)) (before : List MemPlace)
    (hval : ∀ (j : Nat) t v, Try.f8.params[j]? = some t → args[j]? = some v → Value.okWide Try.prog W .any base t v)
    (hW : DataW.Whole enc Try.prog Try.f8.params.toList Rows.walkBatchesSpec.vars false W args.toList ds gs before) :
    Calls Try.prog 8 args W fun e W' => ∃ v, e = .returned v ∧ Rows.walkBatchesSpec.post enc Try.prog Try.f8 false true false false W args v W' := by
  have hW' := hW
  obtain ⟨p, q, hA0, hV, hbef, hfz, hnd⟩ := hW
  have hA : DataW.TrodAll enc Try.prog W 0 (fun _ => true) true [22, 39, 55] args.toList ds p := hA0
  obtain ⟨v0, vs0, d0, ds0, p0, q0, hargs, rfl, rfl, h0, r0⟩ := trodAll_cons hA
  obtain ⟨v1, vs1, d1, ds1, p1, q1, rfl, rfl, rfl, h1, r1⟩ := trodAll_cons r0
  obtain ⟨v2, vs2, d2, ds2, p2, q2, rfl, rfl, rfl, h2, r2⟩ := trodAll_cons r1
  obtain ⟨rfl, rfl, rfl⟩ := trodAll_nil r2
  obtain rfl : args = #[v0, v1, v2] := by apply Array.ext'; exact hargs
  obtain ⟨rfl, rfl⟩ := trodVars_none hV
  obtain ⟨fu0, hf0⟩ := h0
  obtain ⟨sv0, x_words, hsv0, hsl0, hok0⟩ := open_slice_flat (flat_str Try.underlying9) Try.underlying22 (by kernel_rfl) (by decide) encS_len hf0
  obtain ⟨a_0, len_0, cap_0, rfl⟩ := okWide_slice Try.underlying22 (hval 0 22 v0 rfl rfl)
  obtain rfl : Value.slice a_0 len_0 cap_0 = sv0 := by simpa [Value.cells] using hsv0
  obtain ⟨cs1, rfl, hsz1⟩ := okWide_struct Try.underlying39 (hval 1 39 v1 rfl rfl)
  obtain ⟨l1⟩ := cs1
  rw [show Try.prog.cellsOf 39 = 3 from by kernel_rfl] at hsz1
  obtain ⟨fu1, hf1⟩ := h1
  obtain ⟨n1, -, hfi1⟩ := field_at Try.underlying39 hf1
  obtain ⟨c1_0, c1_1, c1_2, rfl⟩ : ∃ c1_0 c1_1 c1_2, l1 = [c1_0, c1_1, c1_2] := by
    match l1, hsz1 with
    | [c1_0, c1_1, c1_2], _ => exact ⟨_, _, _, rfl⟩
  obtain ⟨y1_0, hy1_0⟩ := hfi1 0 _ 9 0 1 rfl rfl rfl (by kernel_rfl)
  obtain ⟨f1_0, e1_0, k1_0⟩ := flat_str Try.underlying9 _ _ _ hy1_0
  obtain ⟨y1_1, hy1_1⟩ := hfi1 1 _ 3 1 1 rfl rfl rfl (by kernel_rfl)
  obtain ⟨f1_1, e1_1, k1_1⟩ := flat_int Try.underlying3 _ _ _ hy1_1
  obtain ⟨y1_2, hy1_2⟩ := hfi1 2 _ 3 2 1 rfl rfl rfl (by kernel_rfl)
  obtain ⟨f1_2, e1_2, k1_2⟩ := flat_int Try.underlying3 _ _ _ hy1_2
  simp [Value.cells, Ik.encI, encS, encBo, encRn, encB] at e1_0 e1_1 e1_2
  subst e1_0 e1_1 e1_2
  obtain ⟨fu2, hf2⟩ := h2
  obtain ⟨sv2, x_sizes, hsv2, hsl2, hok2⟩ := open_slice_flat (flat_int Try.underlying3) Try.underlying55 (by kernel_rfl) (by decide) Ik.encI_len hf2
  obtain ⟨a_2, len_2, cap_2, rfl⟩ := okWide_slice Try.underlying55 (hval 2 55 v2 rfl rfl)
  obtain rfl : Value.slice a_2 len_2 cap_2 = sv2 := by simpa [Value.cells] using hsv2
  refine (WalkBatches_c (q := (⟨f1_0, f1_1, f1_2⟩ : Qry))  hsl0 hsl2 (by exact hok0) (by assumption) (by assumption) (by exact hok2)).mono ?_
  rintro e W1 ⟨v, rfl, ⟨rb, rfl, rfl⟩, hext⟩
  exact ⟨_, rfl, law_post (tb := 4) (by kernel_rfl) (by kernel_rfl) rfl Try.underlying4 rfl hW' hext rfl⟩
set_option maxRecDepth 100000 in
theorem lifted (os : Os) (started : os.Started) (H : Type) (enc : TypeId × Value → H) :
    ReturnsInHanded {} Try.checked os 8 .any (Rows.walkBatchesSpec.pre6 enc Try.prog Try.f8 Rows.walkBatchesRow.domain false) (Rows.walkBatchesSpec.post enc Try.prog Try.f8 false true false false) := by
  refine returnsInHanded_of_change (C := Try.checked) (s := Rows.walkBatchesSpec) own started (by kernel_rfl) Try.func8
    (ChangeSpec.witness6 false ⟨#[], #[.slice none 0 0, .agg #[.string (ByteArray.mk #[]), .int .i64 0, .int .i64 0], .slice none 0 0], []⟩ 8 (by kernel_rfl) (by kernel_rfl) (by kernel_rfl) (by kernel_rfl)) ?_
  intro W base args ds gs before hval hW _ _
  exact contract H enc W base args ds gs before hval hW
theorem proved : Rows.WalkBatchesSaid :=
  OpenClaim.holds_of_wide 8 Try.f8 rfl rfl rfl rfl rfl rfl rfl ⟨rfl, rfl, rfl, rfl, rfl⟩ rfl rfl rfl rfl rfl (by kernel_rfl) Try.func8 (by kernel_rfl)
    (of_decide_eq_true (by kernel_rfl)) (by unfold Func.isWrapper; first | (rw [if_pos (by decide +kernel)]; kernel_rfl) | (rw [if_neg (by decide +kernel)]; exact ⟨rfl, rfl⟩))
    (fun os started H enc _ => lifted os started H enc)
end walkBatches
end Go.Proofs.Ytjhbobjjkbppkaa
