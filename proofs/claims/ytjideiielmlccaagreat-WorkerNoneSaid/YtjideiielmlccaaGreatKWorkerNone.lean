/-
  WorkerNone: the law returns true for every act, and its arguments read as before. No condition.
-/
import Derived.Test.YtjideiielmlccaaGreatRows
import Derived.Test.YtjideiielmlccaaGreatSWorkerNoneG
set_option linter.unusedVariables false
set_option linter.unusedSimpArgs false
namespace Go.Proofs.YtjideiielmlccaaGreat
open Go.Ik Go.Ml Go.ChangeShapes Go.WideShapes Go.ChangeAt Go.RowKit
open Go.ChangeMaps (open_string shut_string)
namespace workerNone
theorem flat_Itm : FlatOk Tryz.prog 33 encItm Itm.Ok := fun fuel cs x h => by
  obtain ⟨n, hl, hf⟩ := field_at Tryz.underlying33 h
  rw [show Tryz.prog.cellsOf 33 = 2 from by kernel_rfl] at hl
  match cs, hl with
  | [c0, c1], _ =>
    obtain ⟨y0, h0⟩ := hf 0 _ 3 0 1 rfl rfl rfl (by kernel_rfl)
    obtain ⟨a0, e0, k0⟩ := (flat_int Tryz.underlying3) _ _ _ h0
    obtain ⟨y1, h1⟩ := hf 1 _ 9 1 1 rfl rfl rfl (by kernel_rfl)
    obtain ⟨a1, e1, k1⟩ := (flat_str Tryz.underlying9) _ _ _ h1
    refine ⟨⟨a0, a1⟩, ?_, ⟨k0, k1⟩⟩
    simp [Ik.encI, Ik.encS] at e0 e1
    simp [encItm, *]
theorem flat_AskM : FlatOk Tryz.prog 35 encAsk AskM.Ok := fun fuel cs x h => by
  obtain ⟨n, hl, hf⟩ := field_at Tryz.underlying35 h
  rw [show Tryz.prog.cellsOf 35 = 11 from by kernel_rfl] at hl
  match cs, hl with
  | [c0, c1, c2, c3, c4, c5, c6, c7, c8, c9, c10], _ =>
    obtain ⟨y0, h0⟩ := hf 0 _ 3 0 1 rfl rfl rfl (by kernel_rfl)
    obtain ⟨a0, e0, k0⟩ := (flat_int Tryz.underlying3) _ _ _ h0
    obtain ⟨y1, h1⟩ := hf 1 _ 3 1 1 rfl rfl rfl (by kernel_rfl)
    obtain ⟨a1, e1, k1⟩ := (flat_int Tryz.underlying3) _ _ _ h1
    obtain ⟨y2, h2⟩ := hf 2 _ 3 2 1 rfl rfl rfl (by kernel_rfl)
    obtain ⟨a2, e2, k2⟩ := (flat_int Tryz.underlying3) _ _ _ h2
    obtain ⟨y3, h3⟩ := hf 3 _ 3 3 1 rfl rfl rfl (by kernel_rfl)
    obtain ⟨a3, e3, k3⟩ := (flat_int Tryz.underlying3) _ _ _ h3
    obtain ⟨y4, h4⟩ := hf 4 _ 3 4 1 rfl rfl rfl (by kernel_rfl)
    obtain ⟨a4, e4, k4⟩ := (flat_int Tryz.underlying3) _ _ _ h4
    obtain ⟨y5, h5⟩ := hf 5 _ 9 5 1 rfl rfl rfl (by kernel_rfl)
    obtain ⟨a5, e5, k5⟩ := (flat_str Tryz.underlying9) _ _ _ h5
    obtain ⟨y6, h6⟩ := hf 6 _ 3 6 1 rfl rfl rfl (by kernel_rfl)
    obtain ⟨a6, e6, k6⟩ := (flat_int Tryz.underlying3) _ _ _ h6
    obtain ⟨y7, h7⟩ := hf 7 _ 3 7 1 rfl rfl rfl (by kernel_rfl)
    obtain ⟨a7, e7, k7⟩ := (flat_int Tryz.underlying3) _ _ _ h7
    obtain ⟨y8, h8⟩ := hf 8 _ 4 8 1 rfl rfl rfl (by kernel_rfl)
    obtain ⟨a8, e8, k8⟩ := (flat_bool Tryz.underlying4) _ _ _ h8
    obtain ⟨y9, h9⟩ := hf 9 _ 33 9 2 rfl rfl rfl (by kernel_rfl)
    obtain ⟨a9, e9, k9⟩ := flat_Itm _ _ _ h9
    refine ⟨⟨a0, a1, a2, a3, a4, a5, a6, a7, a8, a9⟩, ?_, ⟨k0, k1, k2, k3, k4, k6, k7, k9.dist⟩⟩
    simp [Ik.encBo, Ik.encI, Ik.encS, encItm] at e0 e1 e2 e3 e4 e5 e6 e7 e8 e9
    simp [encAsk, *]
theorem flat_ActW : FlatOk Tryz.prog 71 encActW ActW.Ok := fun fuel cs x h => by
  obtain ⟨n, hl, hf⟩ := field_at Tryz.underlying71 h
  rw [show Tryz.prog.cellsOf 71 = 15 from by kernel_rfl] at hl
  match cs, hl with
  | [c0, c1, c2, c3, c4, c5, c6, c7, c8, c9, c10, c11, c12, c13, c14], _ =>
    obtain ⟨y0, h0⟩ := hf 0 _ 3 0 1 rfl rfl rfl (by kernel_rfl)
    obtain ⟨a0, e0, k0⟩ := (flat_int Tryz.underlying3) _ _ _ h0
    obtain ⟨y1, h1⟩ := hf 1 _ 3 1 1 rfl rfl rfl (by kernel_rfl)
    obtain ⟨a1, e1, k1⟩ := (flat_int Tryz.underlying3) _ _ _ h1
    obtain ⟨y2, h2⟩ := hf 2 _ 3 2 1 rfl rfl rfl (by kernel_rfl)
    obtain ⟨a2, e2, k2⟩ := (flat_int Tryz.underlying3) _ _ _ h2
    obtain ⟨y3, h3⟩ := hf 3 _ 3 3 1 rfl rfl rfl (by kernel_rfl)
    obtain ⟨a3, e3, k3⟩ := (flat_int Tryz.underlying3) _ _ _ h3
    obtain ⟨y4, h4⟩ := hf 4 _ 35 4 11 rfl rfl rfl (by kernel_rfl)
    obtain ⟨a4, e4, k4⟩ := flat_AskM _ _ _ h4
    refine ⟨⟨a0, a1, a2, a3, a4⟩, ?_, ⟨k0, k1, k2, k3, k4⟩⟩
    simp [Ik.encI, encAsk] at e0 e1 e2 e3 e4
    simp [encActW, *]
theorem own : ownKnob Tryz.prog.godebug = none := by kernel_rfl
set_option maxRecDepth 100000 in
theorem contract (H : Type) (enc : TypeId × Value → H) (W : World) (base : Nat) (args : Array Value) (ds gs : List (DataW H)) (before : List MemPlace)
    (hval : ∀ (j : Nat) t v, Tryz.f6.params[j]? = some t → args[j]? = some v → Value.okWide Tryz.prog W .any base t v)
    (hW : DataW.Whole enc Tryz.prog Tryz.f6.params.toList Rows.workerNoneSpec.vars false W args.toList ds gs before) :
    Calls Tryz.prog 6 args W fun e W' => ∃ v, e = .returned v ∧ Rows.workerNoneSpec.post enc Tryz.prog Tryz.f6 false true false false W args v W' := by
  have hW' := hW
  obtain ⟨p, q, hA0, hV, hbef, hfz, hnd⟩ := hW
  have hA : DataW.TrodAll enc Tryz.prog W 0 (fun _ => true) true [71] args.toList ds p := hA0
  obtain ⟨v0, vs0, d0, ds0, p0, q0, hargs, rfl, rfl, h0, r0⟩ := trodAll_cons hA
  obtain ⟨rfl, rfl, rfl⟩ := trodAll_nil r0
  obtain rfl : args = #[v0] := by apply Array.ext'; exact hargs
  obtain ⟨rfl, rfl⟩ := trodVars_none hV
  obtain ⟨cs0, rfl, hsz0⟩ := okWide_struct Tryz.underlying71 (hval 0 71 v0 rfl rfl)
  obtain ⟨l0⟩ := cs0
  obtain ⟨fu0, hf0⟩ := h0
  obtain ⟨x_x, hcs0, hok0⟩ := flat_ActW _ _ _ hf0
  obtain rfl : l0 = encActW x_x := hcs0
  refine (WorkerNone_c (x := x_x)  hok0).mono ?_
  rintro e W1 ⟨v, rfl, ⟨rb, rfl, rfl⟩, hext⟩
  exact ⟨_, rfl, law_post (tb := 4) (by kernel_rfl) (by kernel_rfl) rfl Tryz.underlying4 rfl hW' hext rfl⟩
set_option maxRecDepth 100000 in
theorem lifted (os : Os) (started : os.Started) (H : Type) (enc : TypeId × Value → H) :
    ReturnsInHanded {} Tryz.checked os 6 .any (Rows.workerNoneSpec.pre6 enc Tryz.prog Tryz.f6 Rows.workerNoneRow.domain false) (Rows.workerNoneSpec.post enc Tryz.prog Tryz.f6 false true false false) := by
  refine returnsInHanded_of_change (C := Tryz.checked) (s := Rows.workerNoneSpec) own started (by kernel_rfl) Tryz.func6
    (ChangeSpec.witness6 false ⟨#[], #[.agg #[.int .i64 0, .int .i64 0, .int .i64 0, .int .i64 0, .int .i64 0, .int .i64 0, .int .i64 0, .int .i64 0, .int .i64 0, .string (ByteArray.mk #[]), .int .i64 0, .int .i64 0, .bool false, .int .i64 0, .string (ByteArray.mk #[])]], []⟩ 8 (by kernel_rfl) (by kernel_rfl) (by kernel_rfl) (by kernel_rfl)) ?_
  intro W base args ds gs before hval hW _ _
  exact contract H enc W base args ds gs before hval hW
theorem proved : Rows.WorkerNoneSaid :=
  OpenClaim.holds_of_wide 6 Tryz.f6 rfl rfl rfl rfl rfl rfl rfl ⟨rfl, rfl, rfl, rfl, rfl⟩ rfl rfl rfl rfl rfl (by kernel_rfl) Tryz.func6 (by kernel_rfl)
    (of_decide_eq_true (by kernel_rfl)) (by unfold Func.isWrapper; first | (rw [if_pos (by decide +kernel)]; kernel_rfl) | (rw [if_neg (by decide +kernel)]; exact ⟨rfl, rfl⟩))
    (fun os started H enc _ => lifted os started H enc)
end workerNone
end Go.Proofs.YtjideiielmlccaaGreat
