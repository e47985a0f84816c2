/-
  DiskScript: the law returns true for every configuration, worker and list of acts, and its arguments read as before. No condition.
-/
import Derived.Test.YtajedfbogchkcaaGreatRows
import Derived.Test.YtajedfbogchkcaaGreatSDiskScriptG
set_option linter.unusedVariables false
set_option linter.unusedSimpArgs false
namespace Go.Proofs.YtajedfbogchkcaaGreat
open Go.Ik Go.Ml Go.ChangeShapes Go.WideShapes Go.ChangeAt Go.RowKit
open Go.ChangeMaps (open_string shut_string)
namespace diskScript
theorem flat_Key : FlatOk Tryz.prog 57 encKey Key.Ok := fun fuel cs x h => by
  obtain ⟨n, hl, hf⟩ := field_at Tryz.underlying57 h
  rw [show Tryz.prog.cellsOf 57 = 2 from by kernel_rfl] at hl
  match cs, hl with
  | [c0, c1], _ =>
    obtain ⟨y0, h0⟩ := hf 0 _ 3 0 1 rfl rfl rfl (by kernel_rfl)
    obtain ⟨a0, e0, k0⟩ := (flat_int Tryz.underlying3) _ _ _ h0
    obtain ⟨y1, h1⟩ := hf 1 _ 9 1 1 rfl rfl rfl (by kernel_rfl)
    obtain ⟨a1, e1, k1⟩ := (flat_str Tryz.underlying9) _ _ _ h1
    refine ⟨⟨a0, a1⟩, ?_, ⟨k0, k1⟩⟩
    simp [Ik.encI, encS] at e0 e1
    simp [encKey, *]
theorem flat_ActD : FlatOk Tryz.prog 38 encAct ActD.Ok := fun fuel cs x h => by
  obtain ⟨n, hl, hf⟩ := field_at Tryz.underlying38 h
  rw [show Tryz.prog.cellsOf 38 = 4 from by kernel_rfl] at hl
  match cs, hl with
  | [c0, c1, c2, c3], _ =>
    obtain ⟨y0, h0⟩ := hf 0 _ 3 0 1 rfl rfl rfl (by kernel_rfl)
    obtain ⟨a0, e0, k0⟩ := (flat_int Tryz.underlying3) _ _ _ h0
    obtain ⟨y1, h1⟩ := hf 1 _ 3 1 1 rfl rfl rfl (by kernel_rfl)
    obtain ⟨a1, e1, k1⟩ := (flat_int Tryz.underlying3) _ _ _ h1
    obtain ⟨y2, h2⟩ := hf 2 _ 3 2 1 rfl rfl rfl (by kernel_rfl)
    obtain ⟨a2, e2, k2⟩ := (flat_int Tryz.underlying3) _ _ _ h2
    obtain ⟨y3, h3⟩ := hf 3 _ 3 3 1 rfl rfl rfl (by kernel_rfl)
    obtain ⟨a3, e3, k3⟩ := (flat_int Tryz.underlying3) _ _ _ h3
    refine ⟨⟨a0, a1, a2, a3⟩, ?_, ⟨k0, k1, k2, k3⟩⟩
    simp [Ik.encI] at e0 e1 e2 e3
    simp [encAct, *]
theorem own : ownKnob Tryz.prog.godebug = none := by kernel_rfl
set_option maxRecDepth 100000 in
theorem contract (H : Type) (enc : TypeId × Value → H) (W : World) (base : Nat) (args : Array Value) (ds gs : List (DataW H)) (before : List MemPlace)
    (hval : ∀ (j : Nat) t v, Tryz.f3.params[j]? = some t → args[j]? = some v → Value.okWide Tryz.prog W .any base t v)
    (hW : DataW.Whole enc Tryz.prog Tryz.f3.params.toList Rows.diskScriptSpec.vars false W args.toList ds gs before) :
    Calls Tryz.prog 3 args W fun e W' => ∃ v, e = .returned v ∧ Rows.diskScriptSpec.post enc Tryz.prog Tryz.f3 false true false false W args v W' := by
  have hW' := hW
  obtain ⟨p, q, hA0, hV, hbef, hfz, hnd⟩ := hW
  have hA : DataW.TrodAll enc Tryz.prog W 0 (fun _ => true) true [25, 3, 26] args.toList ds p := hA0
  obtain ⟨v0, vs0, d0, ds0, p0, q0, hargs, rfl, rfl, h0, r0⟩ := trodAll_cons hA
  obtain ⟨v1, vs1, d1, ds1, p1, q1, rfl, rfl, rfl, h1, r1⟩ := trodAll_cons r0
  obtain ⟨v2, vs2, d2, ds2, p2, q2, rfl, rfl, rfl, h2, r2⟩ := trodAll_cons r1
  obtain ⟨rfl, rfl, rfl⟩ := trodAll_nil r2
  obtain rfl : args = #[v0, v1, v2] := by apply Array.ext'; exact hargs
  obtain ⟨rfl, rfl⟩ := trodVars_none hV
  obtain ⟨cs0, rfl, hsz0⟩ := okWide_struct Tryz.underlying25 (hval 0 25 v0 rfl rfl)
  obtain ⟨l0⟩ := cs0
  rw [show Tryz.prog.cellsOf 25 = 12 from by kernel_rfl] at hsz0
  obtain ⟨fu0, hf0⟩ := h0
  obtain ⟨n0, -, hfi0⟩ := field_at Tryz.underlying25 hf0
  obtain ⟨c0_0, c0_1, c0_2, c0_3, c0_4, c0_5, c0_6, c0_7, c0_8, c0_9, c0_10, c0_11, rfl⟩ : ∃ c0_0 c0_1 c0_2 c0_3 c0_4 c0_5 c0_6 c0_7 c0_8 c0_9 c0_10 c0_11, l0 = [c0_0, c0_1, c0_2, c0_3, c0_4, c0_5, c0_6, c0_7, c0_8, c0_9, c0_10, c0_11] := by
    match l0, hsz0 with
    | [c0_0, c0_1, c0_2, c0_3, c0_4, c0_5, c0_6, c0_7, c0_8, c0_9, c0_10, c0_11], _ => exact ⟨_, _, _, _, _, _, _, _, _, _, _, _, rfl⟩
  obtain ⟨y0_0, hy0_0⟩ := hfi0 0 _ 22 0 1 rfl rfl rfl (by kernel_rfl)
  obtain ⟨u0_0, f0_0, e0_0, s0_0, k0_0⟩ := open_slice_flat (flat_str Tryz.underlying9) Tryz.underlying22 (by kernel_rfl) (by decide) encS_len hy0_0
  obtain ⟨y0_1, hy0_1⟩ := hfi0 1 _ 23 1 1 rfl rfl rfl (by kernel_rfl)
  obtain ⟨u0_1, f0_1, e0_1, s0_1, k0_1⟩ := open_slice_flat flat_Key Tryz.underlying23 (by kernel_rfl) (by decide) encKey_len hy0_1
  obtain ⟨y0_2, hy0_2⟩ := hfi0 2 _ 3 2 1 rfl rfl rfl (by kernel_rfl)
  obtain ⟨f0_2, e0_2, k0_2⟩ := flat_int Tryz.underlying3 _ _ _ hy0_2
  obtain ⟨y0_3, hy0_3⟩ := hfi0 3 _ 3 3 1 rfl rfl rfl (by kernel_rfl)
  obtain ⟨f0_3, e0_3, k0_3⟩ := flat_int Tryz.underlying3 _ _ _ hy0_3
  obtain ⟨y0_4, hy0_4⟩ := hfi0 4 _ 3 4 1 rfl rfl rfl (by kernel_rfl)
  obtain ⟨f0_4, e0_4, k0_4⟩ := flat_int Tryz.underlying3 _ _ _ hy0_4
  obtain ⟨y0_5, hy0_5⟩ := hfi0 5 _ 3 5 1 rfl rfl rfl (by kernel_rfl)
  obtain ⟨f0_5, e0_5, k0_5⟩ := flat_int Tryz.underlying3 _ _ _ hy0_5
  obtain ⟨y0_6, hy0_6⟩ := hfi0 6 _ 3 6 1 rfl rfl rfl (by kernel_rfl)
  obtain ⟨f0_6, e0_6, k0_6⟩ := flat_int Tryz.underlying3 _ _ _ hy0_6
  obtain ⟨y0_7, hy0_7⟩ := hfi0 7 _ 3 7 1 rfl rfl rfl (by kernel_rfl)
  obtain ⟨f0_7, e0_7, k0_7⟩ := flat_int Tryz.underlying3 _ _ _ hy0_7
  obtain ⟨y0_8, hy0_8⟩ := hfi0 8 _ 3 8 1 rfl rfl rfl (by kernel_rfl)
  obtain ⟨f0_8, e0_8, k0_8⟩ := flat_int Tryz.underlying3 _ _ _ hy0_8
  obtain ⟨y0_9, hy0_9⟩ := hfi0 9 _ 3 9 1 rfl rfl rfl (by kernel_rfl)
  obtain ⟨f0_9, e0_9, k0_9⟩ := flat_int Tryz.underlying3 _ _ _ hy0_9
  obtain ⟨y0_10, hy0_10⟩ := hfi0 10 _ 3 10 1 rfl rfl rfl (by kernel_rfl)
  obtain ⟨f0_10, e0_10, k0_10⟩ := flat_int Tryz.underlying3 _ _ _ hy0_10
  obtain ⟨y0_11, hy0_11⟩ := hfi0 11 _ 3 11 1 rfl rfl rfl (by kernel_rfl)
  obtain ⟨f0_11, e0_11, k0_11⟩ := flat_int Tryz.underlying3 _ _ _ hy0_11
  simp [Value.cells, Ik.encI, encS, encBo, encRn, encB] at e0_0 e0_1 e0_2 e0_3 e0_4 e0_5 e0_6 e0_7 e0_8 e0_9 e0_10 e0_11
  subst e0_0 e0_1 e0_2 e0_3 e0_4 e0_5 e0_6 e0_7 e0_8 e0_9 e0_10 e0_11
  obtain ⟨x_worker, rfl, -, -, w1⟩ := open_int Tryz.underlying3 (hval 1 3 v1 rfl rfl) h1
  obtain ⟨fu2, hf2⟩ := h2
  obtain ⟨sv2, x_acts, hsv2, hsl2, hok2⟩ := open_slice_flat flat_ActD Tryz.underlying26 (by kernel_rfl) (by decide) encAct_len hf2
  obtain ⟨a_2, len_2, cap_2, rfl⟩ := okWide_slice Tryz.underlying26 (hval 2 26 v2 rfl rfl)
  obtain rfl : Value.slice a_2 len_2 cap_2 = sv2 := by simpa [Value.cells] using hsv2
  refine (DiskScript_c (c := (⟨f0_0, f0_1, f0_2, f0_3, f0_4, f0_5, f0_6, f0_7, f0_8, f0_9, f0_10, f0_11⟩ : Cfg)) (x_worker) s0_0 s0_1 ⟨k0_2, k0_3, k0_4, k0_5, k0_6, k0_7, k0_8, k0_9, k0_10, k0_11, k0_0, fun k hk => ⟨(k0_1 k hk).len, (k0_1 k hk).text⟩⟩ (wf_i64 w1) hsl2 (by exact fun a ha => ⟨(hok2 a ha).do_, (hok2 a ha).shard, (hok2 a ha).at_, (hok2 a ha).x⟩)).mono ?_
  rintro e W1 ⟨v, rfl, ⟨rb, rfl, rfl⟩, hext⟩
  exact ⟨_, rfl, law_post (tb := 4) (by kernel_rfl) (by kernel_rfl) rfl Tryz.underlying4 rfl hW' hext rfl⟩
set_option maxRecDepth 100000 in
theorem lifted (os : Os) (started : os.Started) (H : Type) (enc : TypeId × Value → H) :
    ReturnsInHanded {} Tryz.checked os 3 .any (Rows.diskScriptSpec.pre6 enc Tryz.prog Tryz.f3 Rows.diskScriptRow.domain false) (Rows.diskScriptSpec.post enc Tryz.prog Tryz.f3 false true false false) := by
  refine returnsInHanded_of_change (C := Tryz.checked) (s := Rows.diskScriptSpec) own started (by kernel_rfl) Tryz.func3
    (ChangeSpec.witness6 false ⟨#[], #[.agg #[.slice none 0 0, .slice none 0 0, .int .i64 0, .int .i64 0, .int .i64 0, .int .i64 0, .int .i64 0, .int .i64 0, .int .i64 0, .int .i64 0, .int .i64 0, .int .i64 0], .int .i64 0, .slice none 0 0], []⟩ 8 (by kernel_rfl) (by kernel_rfl) (by kernel_rfl) (by kernel_rfl)) ?_
  intro W base args ds gs before hval hW _ _
  exact contract H enc W base args ds gs before hval hW
theorem proved : Rows.DiskScriptSaid :=
  OpenClaim.holds_of_wide 3 Tryz.f3 rfl rfl rfl rfl rfl rfl rfl ⟨rfl, rfl, rfl, rfl, rfl⟩ rfl rfl rfl rfl rfl (by kernel_rfl) Tryz.func3 (by kernel_rfl)
    (of_decide_eq_true (by kernel_rfl)) (by unfold Func.isWrapper; first | (rw [if_pos (by decide +kernel)]; kernel_rfl) | (rw [if_neg (by decide +kernel)]; exact ⟨rfl, rfl⟩))
    (fun os started H enc _ => lifted os started H enc)
end diskScript
end Go.Proofs.YtajedfbogchkcaaGreat
