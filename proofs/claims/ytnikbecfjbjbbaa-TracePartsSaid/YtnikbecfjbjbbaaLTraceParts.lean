/-
  TraceParts: the law returns true for every two lists of records, and its arguments read as before. No condition.
-/
import Derived.Test.YtnikbecfjbjbbaaRows
import Derived.Test.YtnikbecfjbjbbaaWTraceParts
set_option linter.unusedVariables false
set_option linter.unusedSimpArgs false
namespace Go.Proofs.Ytnikbecfjbjbbaa
open Go.Ik Go.Ml Go.ChangeShapes Go.WideShapes Go.ChangeAt Go.RowKit
open Go.ChangeMaps (open_string shut_string)
namespace traceParts
theorem flat_Qry : FlatOk Try.prog 33 encQry Qry.Ok := fun fuel cs x h => by
  obtain ⟨n, hl, hf⟩ := field_at Try.underlying33 h
  rw [show Try.prog.cellsOf 33 = 3 from by kernel_rfl] at hl
  match cs, hl with
  | [c0, c1, c2], _ =>
    obtain ⟨y0, h0⟩ := hf 0 _ 9 0 1 rfl rfl rfl (by kernel_rfl)
    obtain ⟨a0, e0, k0⟩ := (flat_str Try.underlying9) _ _ _ h0
    obtain ⟨y1, h1⟩ := hf 1 _ 3 1 1 rfl rfl rfl (by kernel_rfl)
    obtain ⟨a1, e1, k1⟩ := (flat_int Try.underlying3) _ _ _ h1
    obtain ⟨y2, h2⟩ := hf 2 _ 3 2 1 rfl rfl rfl (by kernel_rfl)
    obtain ⟨a2, e2, k2⟩ := (flat_int Try.underlying3) _ _ _ h2
    refine ⟨⟨a0, a1, a2⟩, ?_, ⟨k0, k1, k2⟩⟩
    simp [Ik.encI, Ik.encS] at e0 e1 e2
    simp [encQry, *]
theorem flat_Evt : FlatOk Try.prog 35 encEvt Evt.Ok := fun fuel cs x h => by
  obtain ⟨n, hl, hf⟩ := field_at Try.underlying35 h
  rw [show Try.prog.cellsOf 35 = 7 from by kernel_rfl] at hl
  match cs, hl with
  | [c0, c1, c2, c3, c4, c5, c6], _ =>
    obtain ⟨y0, h0⟩ := hf 0 _ 3 0 1 rfl rfl rfl (by kernel_rfl)
    obtain ⟨a0, e0, k0⟩ := (flat_int Try.underlying3) _ _ _ h0
    obtain ⟨y1, h1⟩ := hf 1 _ 3 1 1 rfl rfl rfl (by kernel_rfl)
    obtain ⟨a1, e1, k1⟩ := (flat_int Try.underlying3) _ _ _ h1
    obtain ⟨y2, h2⟩ := hf 2 _ 3 2 1 rfl rfl rfl (by kernel_rfl)
    obtain ⟨a2, e2, k2⟩ := (flat_int Try.underlying3) _ _ _ h2
    obtain ⟨y3, h3⟩ := hf 3 _ 3 3 1 rfl rfl rfl (by kernel_rfl)
    obtain ⟨a3, e3, k3⟩ := (flat_int Try.underlying3) _ _ _ h3
    obtain ⟨y4, h4⟩ := hf 4 _ 33 4 3 rfl rfl rfl (by kernel_rfl)
    obtain ⟨a4, e4, k4⟩ := flat_Qry _ _ _ h4
    refine ⟨⟨a0, a1, a2, a3, a4⟩, ?_, ⟨k0, k1, k2, k3, k4⟩⟩
    simp [Ik.encI, encQry] at e0 e1 e2 e3 e4
    simp [encEvt, *]
theorem flat_RSent : FlatOk Try.prog 40 encSent RSent.Ok := fun fuel cs x h => by
  obtain ⟨n, hl, hf⟩ := field_at Try.underlying40 h
  rw [show Try.prog.cellsOf 40 = 3 from by kernel_rfl] at hl
  match cs, hl with
  | [c0, c1, c2], _ =>
    obtain ⟨y0, h0⟩ := hf 0 _ 3 0 1 rfl rfl rfl (by kernel_rfl)
    obtain ⟨a0, e0, k0⟩ := (flat_int Try.underlying3) _ _ _ h0
    obtain ⟨y1, h1⟩ := hf 1 _ 3 1 1 rfl rfl rfl (by kernel_rfl)
    obtain ⟨a1, e1, k1⟩ := (flat_int Try.underlying3) _ _ _ h1
    obtain ⟨y2, h2⟩ := hf 2 _ 3 2 1 rfl rfl rfl (by kernel_rfl)
    obtain ⟨a2, e2, k2⟩ := (flat_int Try.underlying3) _ _ _ h2
    refine ⟨⟨a0, a1, a2⟩, ?_, ⟨k0, k1, k2⟩⟩
    simp [Ik.encI] at e0 e1 e2
    simp [encSent, *]
theorem deep_RRec {H : Type} {enc : TypeId × Value → H} {W : World} : DeepOk Try.prog enc W 38 encRec (fun r => RecD W (Iv 0 W.heap.size) r ∧ RecN r) := fun fuel cs x h => by
  obtain ⟨n, hl, hf⟩ := field_at Try.underlying38 h
  rw [show Try.prog.cellsOf 38 = 12 from by kernel_rfl] at hl
  match cs, hl with
  | [c0, c1, c2, c3, c4, c5, c6, c7, c8, c9, c10, c11], _ =>
    obtain ⟨y0, h0⟩ := hf 0 _ 35 0 7 rfl rfl rfl (by kernel_rfl)
    obtain ⟨a0, e0, k0⟩ := flat_Evt _ _ _ h0
    obtain ⟨y1, h1⟩ := hf 1 _ 3 7 1 rfl rfl rfl (by kernel_rfl)
    obtain ⟨a1, e1, k1⟩ := (flat_int Try.underlying3) _ _ _ h1
    obtain ⟨y2, h2⟩ := hf 2 _ 3 8 1 rfl rfl rfl (by kernel_rfl)
    obtain ⟨a2, e2, k2⟩ := (flat_int Try.underlying3) _ _ _ h2
    obtain ⟨y3, h3⟩ := hf 3 _ 36 9 1 rfl rfl rfl (by kernel_rfl)
    obtain ⟨a3, e3, k3⟩ := deep_slice (FlatOk.deep flat_RSent) Try.underlying36 (by kernel_rfl) (by decide) encSent_len _ _ _ h3
    obtain ⟨y4, h4⟩ := hf 4 _ 3 10 1 rfl rfl rfl (by kernel_rfl)
    obtain ⟨a4, e4, k4⟩ := (flat_int Try.underlying3) _ _ _ h4
    obtain ⟨y5, h5⟩ := hf 5 _ 28 11 1 rfl rfl rfl (by kernel_rfl)
    obtain ⟨a5, e5, k5⟩ := deep_slice (FlatOk.deep (flat_int Try.underlying3)) Try.underlying28 (by kernel_rfl) (by decide) encI_len _ _ _ h5
    refine ⟨⟨a0.kind, a0.node, a0.at_, a0.x, a0.q.text, a0.q.k, a0.q.n, a1, a2, a3.h, a4, a5.h, a3.l, a5.l⟩, ?_, ⟨k3.1, k5.1⟩, ⟨k2, k4, k1, k3.2, k5.2⟩⟩
    simp [encEvt, Ik.encI, encSHL] at e0 e1 e2 e3 e4 e5
    simp [encRec, *]
theorem own : ownKnob Try.prog.godebug = none := by kernel_rfl
set_option maxRecDepth 100000 in
theorem contract (H : Type) (enc : TypeId × Value → H) (W : World) (base : Nat) (args : Array Value) (ds gs : List (DataW H)) (before : List MemPlace)
    (hval : ∀ (j : Nat) t v, Try.f3.params[j]? = some t → args[j]? = some v → Value.okWide Try.prog W .any base t v)
    (hW : DataW.Whole enc Try.prog Try.f3.params.toList Rows.tracePartsSpec.vars false W args.toList ds gs before) :
    Calls Try.prog 3 args W fun e W' => ∃ v, e = .returned v ∧ Rows.tracePartsSpec.post enc Try.prog Try.f3 false true false false W args v W' := by
  have hW' := hW
  obtain ⟨p, q, hA0, hV, hbef, hfz, hnd⟩ := hW
  have hA : DataW.TrodAll enc Try.prog W 0 (fun _ => true) true [22, 22] args.toList ds p := hA0
  obtain ⟨v0, vs0, d0, ds0, p0, q0, hargs, rfl, rfl, h0, r0⟩ := trodAll_cons hA
  obtain ⟨v1, vs1, d1, ds1, p1, q1, rfl, rfl, rfl, h1, r1⟩ := trodAll_cons r0
  obtain ⟨rfl, rfl, rfl⟩ := trodAll_nil r1
  obtain rfl : args = #[v0, v1] := by apply Array.ext'; exact hargs
  obtain ⟨rfl, rfl⟩ := trodVars_none hV
  obtain ⟨fu0, hf0⟩ := h0
  obtain ⟨sv0, x_a, hsv0, hsl0, hok0⟩ := open_slice_deep deep_RRec Try.underlying22 (by kernel_rfl) (by decide) encRec_len hf0
  obtain ⟨a_0, len_0, cap_0, rfl⟩ := okWide_slice Try.underlying22 (hval 0 22 v0 rfl rfl)
  obtain rfl : Value.slice a_0 len_0 cap_0 = sv0 := by simpa [Value.cells] using hsv0
  obtain ⟨fu1, hf1⟩ := h1
  obtain ⟨sv1, x_b, hsv1, hsl1, hok1⟩ := open_slice_deep deep_RRec Try.underlying22 (by kernel_rfl) (by decide) encRec_len hf1
  obtain ⟨a_1, len_1, cap_1, rfl⟩ := okWide_slice Try.underlying22 (hval 1 22 v1 rfl rfl)
  obtain rfl : Value.slice a_1 len_1 cap_1 = sv1 := by simpa [Value.cells] using hsv1
  refine (TraceParts_c   hsl0 hsl1 (by exact fun r hr => (hok0 r hr).1) (by exact fun r hr => (hok1 r hr).1) (by exact fun r hr => (hok0 r hr).2) (by exact fun r hr => (hok1 r hr).2)).mono ?_
  rintro e W1 ⟨v, rfl, ⟨rb, rfl, rfl⟩, hext⟩
  exact ⟨_, rfl, law_post (tb := 4) (by kernel_rfl) (by kernel_rfl) rfl Try.underlying4 rfl hW' hext rfl⟩
set_option maxRecDepth 100000 in
theorem lifted (os : Os) (started : os.Started) (H : Type) (enc : TypeId × Value → H) :
    ReturnsInHanded {} Try.checked os 3 .any (Rows.tracePartsSpec.pre6 enc Try.prog Try.f3 Rows.tracePartsRow.domain false) (Rows.tracePartsSpec.post enc Try.prog Try.f3 false true false false) := by
  refine returnsInHanded_of_change (C := Try.checked) (s := Rows.tracePartsSpec) own started (by kernel_rfl) Try.func3
    (ChangeSpec.witness6 false ⟨#[], #[.slice none 0 0, .slice none 0 0], []⟩ 8 (by kernel_rfl) (by kernel_rfl) (by kernel_rfl) (by kernel_rfl)) ?_
  intro W base args ds gs before hval hW _ _
  exact contract H enc W base args ds gs before hval hW
theorem proved : Rows.TracePartsSaid :=
  OpenClaim.holds_of_wide 3 Try.f3 rfl rfl rfl rfl rfl rfl rfl ⟨rfl, rfl, rfl, rfl, rfl⟩ rfl rfl rfl rfl rfl (by kernel_rfl) Try.func3 (by kernel_rfl)
    (of_decide_eq_true (by kernel_rfl)) (by unfold Func.isWrapper; first | (rw [if_pos (by decide +kernel)]; kernel_rfl) | (rw [if_neg (by decide +kernel)]; exact ⟨rfl, rfl⟩))
    (fun os started H enc _ => lifted os started H enc)
end traceParts
end Go.Proofs.Ytnikbecfjbjbbaa
