/-
  DiskRots: the law returns true for every configuration and every four numbers, and its arguments read as before. No condition.
-/
import Derived.Test.YtajedfbogchkcaaRows
import Derived.Test.YtajedfbogchkcaaWDiskRots
set_option linter.unusedVariables false
set_option linter.unusedSimpArgs false
namespace Go.Proofs.Ytajedfbogchkcaa
open Go.Ik Go.Ml Go.ChangeShapes Go.WideShapes Go.ChangeAt Go.RowKit
open Go.ChangeMaps (open_string shut_string)
namespace diskRots
theorem flat_Key : FlatOk Try.prog 126 encKey Key.Ok := fun fuel cs x h => by
  obtain ⟨n, hl, hf⟩ := field_at Try.underlying126 h
  rw [show Try.prog.cellsOf 126 = 2 from by kernel_rfl] at hl
  match cs, hl with
  | [c0, c1], _ =>
    obtain ⟨y0, h0⟩ := hf 0 _ 3 0 1 rfl rfl rfl (by kernel_rfl)
    obtain ⟨a0, e0, k0⟩ := (flat_int Try.underlying3) _ _ _ h0
    obtain ⟨y1, h1⟩ := hf 1 _ 9 1 1 rfl rfl rfl (by kernel_rfl)
    obtain ⟨a1, e1, k1⟩ := (flat_str Try.underlying9) _ _ _ h1
    refine ⟨⟨a0, a1⟩, ?_, ⟨k0, k1⟩⟩
    simp [Ik.encI, encS] at e0 e1
    simp [encKey, *]
theorem own : ownKnob Try.prog.godebug = none := by kernel_rfl
set_option maxRecDepth 100000 in
theorem contract (H : Type) (enc : TypeId × Value → H) (W : World) (base : Nat) (args : Array Value) (ds gs : List (DataW H)) (before : List MemPlace)
    (hval : ∀ (j : Nat) t v, Try.f12.params[j]? = some t → args[j]? = some v → Value.okWide Try.prog W .any base t v)
    (hW : DataW.Whole enc Try.prog Try.f12.params.toList Rows.diskRotsSpec.vars false W args.toList ds gs before) :
    Calls Try.prog 12 args W fun e W' => ∃ v, e = .returned v ∧ Rows.diskRotsSpec.post enc Try.prog Try.f12 false true false false W args v W' := by
  have hW' := hW
  obtain ⟨p, q, hA0, hV, hbef, hfz, hnd⟩ := hW
  have hA : DataW.TrodAll enc Try.prog W 0 (fun _ => true) true [53, 3, 3, 3, 3] args.toList ds p := hA0
  obtain ⟨v0, vs0, d0, ds0, p0, q0, hargs, rfl, rfl, h0, r0⟩ := trodAll_cons hA
  obtain ⟨v1, vs1, d1, ds1, p1, q1, rfl, rfl, rfl, h1, r1⟩ := trodAll_cons r0
  obtain ⟨v2, vs2, d2, ds2, p2, q2, rfl, rfl, rfl, h2, r2⟩ := trodAll_cons r1
  obtain ⟨v3, vs3, d3, ds3, p3, q3, rfl, rfl, rfl, h3, r3⟩ := trodAll_cons r2
  obtain ⟨v4, vs4, d4, ds4, p4, q4, rfl, rfl, rfl, h4, r4⟩ := trodAll_cons r3
  obtain ⟨rfl, rfl, rfl⟩ := trodAll_nil r4
  obtain rfl : args = #[v0, v1, v2, v3, v4] := by apply Array.ext'; exact hargs
  obtain ⟨rfl, rfl⟩ := trodVars_none hV
  obtain ⟨cs0, rfl, hsz0⟩ := okWide_struct Try.underlying53 (hval 0 53 v0 rfl rfl)
  obtain ⟨l0⟩ := cs0
  rw [show Try.prog.cellsOf 53 = 12 from by kernel_rfl] at hsz0
  obtain ⟨fu0, hf0⟩ := h0
  obtain ⟨n0, -, hfi0⟩ := field_at Try.underlying53 hf0
  obtain ⟨c0_0, c0_1, c0_2, c0_3, c0_4, c0_5, c0_6, c0_7, c0_8, c0_9, c0_10, c0_11, rfl⟩ : ∃ c0_0 c0_1 c0_2 c0_3 c0_4 c0_5 c0_6 c0_7 c0_8 c0_9 c0_10 c0_11, l0 = [c0_0, c0_1, c0_2, c0_3, c0_4, c0_5, c0_6, c0_7, c0_8, c0_9, c0_10, c0_11] := by
    match l0, hsz0 with
    | [c0_0, c0_1, c0_2, c0_3, c0_4, c0_5, c0_6, c0_7, c0_8, c0_9, c0_10, c0_11], _ => exact ⟨_, _, _, _, _, _, _, _, _, _, _, _, rfl⟩
  obtain ⟨y0_0, hy0_0⟩ := hfi0 0 _ 22 0 1 rfl rfl rfl (by kernel_rfl)
  obtain ⟨u0_0, f0_0, e0_0, s0_0, k0_0⟩ := open_slice_flat (flat_str Try.underlying9) Try.underlying22 (by kernel_rfl) (by decide) encS_len hy0_0
  obtain ⟨y0_1, hy0_1⟩ := hfi0 1 _ 51 1 1 rfl rfl rfl (by kernel_rfl)
  obtain ⟨u0_1, f0_1, e0_1, s0_1, k0_1⟩ := open_slice_flat flat_Key Try.underlying51 (by kernel_rfl) (by decide) encKey_len hy0_1
  obtain ⟨y0_2, hy0_2⟩ := hfi0 2 _ 3 2 1 rfl rfl rfl (by kernel_rfl)
  obtain ⟨f0_2, e0_2, k0_2⟩ := flat_int Try.underlying3 _ _ _ hy0_2
  obtain ⟨y0_3, hy0_3⟩ := hfi0 3 _ 3 3 1 rfl rfl rfl (by kernel_rfl)
  obtain ⟨f0_3, e0_3, k0_3⟩ := flat_int Try.underlying3 _ _ _ hy0_3
  obtain ⟨y0_4, hy0_4⟩ := hfi0 4 _ 3 4 1 rfl rfl rfl (by kernel_rfl)
  obtain ⟨f0_4, e0_4, k0_4⟩ := flat_int Try.underlying3 _ _ _ hy0_4
  obtain ⟨y0_5, hy0_5⟩ := hfi0 5 _ 3 5 1 rfl rfl rfl (by kernel_rfl)
  obtain ⟨f0_5, e0_5, k0_5⟩ := flat_int Try.underlying3 _ _ _ hy0_5
  obtain ⟨y0_6, hy0_6⟩ := hfi0 6 _ 3 6 1 rfl rfl rfl (by kernel_rfl)
  obtain ⟨f0_6, e0_6, k0_6⟩ := flat_int Try.underlying3 _ _ _ hy0_6
  obtain ⟨y0_7, hy0_7⟩ := hfi0 7 _ 3 7 1 rfl rfl rfl (by kernel_rfl)
  obtain ⟨f0_7, e0_7, k0_7⟩ := flat_int Try.underlying3 _ _ _ hy0_7
  obtain ⟨y0_8, hy0_8⟩ := hfi0 8 _ 3 8 1 rfl rfl rfl (by kernel_rfl)
  obtain ⟨f0_8, e0_8, k0_8⟩ := flat_int Try.underlying3 _ _ _ hy0_8
  obtain ⟨y0_9, hy0_9⟩ := hfi0 9 _ 3 9 1 rfl rfl rfl (by kernel_rfl)
  obtain ⟨f0_9, e0_9, k0_9⟩ := flat_int Try.underlying3 _ _ _ hy0_9
  obtain ⟨y0_10, hy0_10⟩ := hfi0 10 _ 3 10 1 rfl rfl rfl (by kernel_rfl)
  obtain ⟨f0_10, e0_10, k0_10⟩ := flat_int Try.underlying3 _ _ _ hy0_10
  obtain ⟨y0_11, hy0_11⟩ := hfi0 11 _ 3 11 1 rfl rfl rfl (by kernel_rfl)
  obtain ⟨f0_11, e0_11, k0_11⟩ := flat_int Try.underlying3 _ _ _ hy0_11
  simp [Value.cells, Ik.encI, encS, encBo, encRn, encB] at e0_0 e0_1 e0_2 e0_3 e0_4 e0_5 e0_6 e0_7 e0_8 e0_9 e0_10 e0_11
  subst e0_0 e0_1 e0_2 e0_3 e0_4 e0_5 e0_6 e0_7 e0_8 e0_9 e0_10 e0_11
  obtain ⟨x_worker, rfl, -, -, w1⟩ := open_int Try.underlying3 (hval 1 3 v1 rfl rfl) h1
  obtain ⟨x_shard, rfl, -, -, w2⟩ := open_int Try.underlying3 (hval 2 3 v2 rfl rfl) h2
  obtain ⟨x_at_, rfl, -, -, w3⟩ := open_int Try.underlying3 (hval 3 3 v3 rfl rfl) h3
  obtain ⟨x_x, rfl, -, -, w4⟩ := open_int Try.underlying3 (hval 4 3 v4 rfl rfl) h4
  refine (DiskRots_c (c := (⟨f0_0, f0_1, f0_2, f0_3, f0_4, f0_5, f0_6, f0_7, f0_8, f0_9, f0_10, f0_11⟩ : Cfg)) (x_worker) (x_shard) (x_at_) (x_x) s0_0 s0_1 ⟨k0_2, k0_3, k0_4, k0_5, k0_6, k0_7, k0_8, k0_9, k0_10, k0_11, k0_0, fun k hk => ⟨(k0_1 k hk).len, (k0_1 k hk).text⟩⟩ (wf_i64 w1) (wf_i64 w2) (wf_i64 w3) (wf_i64 w4)).mono ?_
  rintro e W1 ⟨v, rfl, ⟨rb, rfl, rfl⟩, hext⟩
  exact ⟨_, rfl, law_post (tb := 4) (by kernel_rfl) (by kernel_rfl) rfl Try.underlying4 rfl hW' hext rfl⟩
set_option maxRecDepth 100000 in
theorem lifted (os : Os) (started : os.Started) (H : Type) (enc : TypeId × Value → H) :
    ReturnsInHanded {} Try.checked os 12 .any (Rows.diskRotsSpec.pre6 enc Try.prog Try.f12 Rows.diskRotsRow.domain false) (Rows.diskRotsSpec.post enc Try.prog Try.f12 false true false false) := by
  refine returnsInHanded_of_change (C := Try.checked) (s := Rows.diskRotsSpec) own started (by kernel_rfl) Try.func12
    (ChangeSpec.witness6 false ⟨#[], #[.agg #[.slice none 0 0, .slice none 0 0, .int .i64 0, .int .i64 0, .int .i64 0, .int .i64 0, .int .i64 0, .int .i64 0, .int .i64 0, .int .i64 0, .int .i64 0, .int .i64 0], .int .i64 0, .int .i64 0, .int .i64 0, .int .i64 0], []⟩ 8 (by kernel_rfl) (by kernel_rfl) (by kernel_rfl) (by kernel_rfl)) ?_
  intro W base args ds gs before hval hW _ _
  exact contract H enc W base args ds gs before hval hW
theorem proved : Rows.DiskRotsSaid :=
  OpenClaim.holds_of_wide 12 Try.f12 rfl rfl rfl rfl rfl rfl rfl ⟨rfl, rfl, rfl, rfl, rfl⟩ rfl rfl rfl rfl rfl (by kernel_rfl) Try.func12 (by kernel_rfl)
    (of_decide_eq_true (by kernel_rfl)) (by unfold Func.isWrapper; first | (rw [if_pos (by decide +kernel)]; kernel_rfl) | (rw [if_neg (by decide +kernel)]; exact ⟨rfl, rfl⟩))
    (fun os started H enc _ => lifted os started H enc)
end diskRots
end Go.Proofs.Ytajedfbogchkcaa
