/-
  ScriptPrints: the law returns true for every input, and its arguments read as before; the listed variables of the library are tied to its text. No condition of ours.
-/
import Derived.Test.YtnikbecfjbjbbaaDoorLaid
import Derived.Test.YtnikbecfjbjbbaaDoorWPrints
set_option linter.unusedVariables false
set_option linter.unusedSimpArgs false
namespace Go.Proofs.YtnikbecfjbjbbaaDoor
open Go Go.Ik Go.Ml Go.ChangeShapes Go.WideShapes Go.ChangeAt Go.RowKit
open Go.ChangeMaps (open_string shut_string)
namespace scriptPrints
theorem flat_Key : FlatOk Tryd.prog 72 encKey Key.Ok := fun fuel cs x h => by
  obtain ⟨n, hl, hf⟩ := field_at Tryd.underlying72 h
  rw [show Tryd.prog.cellsOf 72 = 2 from by kernel_rfl] at hl
  match cs, hl with
  | [c0, c1], _ =>
    obtain ⟨y0, h0⟩ := hf 0 _ 3 0 1 rfl rfl rfl (by kernel_rfl)
    obtain ⟨a0, e0, k0⟩ := (flat_int Tryd.underlying3) _ _ _ h0
    obtain ⟨y1, h1⟩ := hf 1 _ 9 1 1 rfl rfl rfl (by kernel_rfl)
    obtain ⟨a1, e1, k1⟩ := (flat_str Tryd.underlying9) _ _ _ h1
    refine ⟨⟨a0, a1⟩, ?_, ⟨k0, k1⟩⟩
    simp [Ik.encI, Ik.encS] at e0 e1
    simp [encKey, *]
theorem flat_Qry : FlatOk Tryd.prog 48 encQry Qry.Ok := fun fuel cs x h => by
  obtain ⟨n, hl, hf⟩ := field_at Tryd.underlying48 h
  rw [show Tryd.prog.cellsOf 48 = 3 from by kernel_rfl] at hl
  match cs, hl with
  | [c0, c1, c2], _ =>
    obtain ⟨y0, h0⟩ := hf 0 _ 9 0 1 rfl rfl rfl (by kernel_rfl)
    obtain ⟨a0, e0, k0⟩ := (flat_str Tryd.underlying9) _ _ _ h0
    obtain ⟨y1, h1⟩ := hf 1 _ 3 1 1 rfl rfl rfl (by kernel_rfl)
    obtain ⟨a1, e1, k1⟩ := (flat_int Tryd.underlying3) _ _ _ h1
    obtain ⟨y2, h2⟩ := hf 2 _ 3 2 1 rfl rfl rfl (by kernel_rfl)
    obtain ⟨a2, e2, k2⟩ := (flat_int Tryd.underlying3) _ _ _ h2
    refine ⟨⟨a0, a1, a2⟩, ?_, ⟨k0, k1, k2⟩⟩
    simp [Ik.encI, Ik.encS] at e0 e1 e2
    simp [encQry, *]
theorem flat_Evt : FlatOk Tryd.prog 50 encEvt Evt.Ok := fun fuel cs x h => by
  obtain ⟨n, hl, hf⟩ := field_at Tryd.underlying50 h
  rw [show Tryd.prog.cellsOf 50 = 7 from by kernel_rfl] at hl
  match cs, hl with
  | [c0, c1, c2, c3, c4, c5, c6], _ =>
    obtain ⟨y0, h0⟩ := hf 0 _ 3 0 1 rfl rfl rfl (by kernel_rfl)
    obtain ⟨a0, e0, k0⟩ := (flat_int Tryd.underlying3) _ _ _ h0
    obtain ⟨y1, h1⟩ := hf 1 _ 3 1 1 rfl rfl rfl (by kernel_rfl)
    obtain ⟨a1, e1, k1⟩ := (flat_int Tryd.underlying3) _ _ _ h1
    obtain ⟨y2, h2⟩ := hf 2 _ 3 2 1 rfl rfl rfl (by kernel_rfl)
    obtain ⟨a2, e2, k2⟩ := (flat_int Tryd.underlying3) _ _ _ h2
    obtain ⟨y3, h3⟩ := hf 3 _ 3 3 1 rfl rfl rfl (by kernel_rfl)
    obtain ⟨a3, e3, k3⟩ := (flat_int Tryd.underlying3) _ _ _ h3
    obtain ⟨y4, h4⟩ := hf 4 _ 48 4 3 rfl rfl rfl (by kernel_rfl)
    obtain ⟨a4, e4, k4⟩ := flat_Qry _ _ _ h4
    refine ⟨⟨a0, a1, a2, a3, a4⟩, ?_, ⟨k0, k1, k2, k3, k4⟩⟩
    simp [Ik.encI, encQry] at e0 e1 e2 e3 e4
    simp [encEvt, *]
theorem own : ownKnob Tryd.prog.godebug = none := by kernel_rfl
set_option maxRecDepth 100000 in
theorem contract (H : Type) (enc : TypeId × Value → H) (W : World) (base : Nat) (args : Array Value) (ds gs : List (DataW H)) (before : List MemPlace)
    (hval : ∀ (j : Nat) t v, Tryd.f5.params[j]? = some t → args[j]? = some v → Value.okWide Tryd.prog W .any base t v)
    (hW : DataW.Whole enc Tryd.prog Tryd.f5.params.toList Rows.scriptPrintsSpec.vars false W args.toList ds gs before) (hL : laidMetH Tryd.prog Rows.scriptPrintsRow.laid W) :
    Calls Tryd.prog 5 args W fun e W' => ∃ v, e = .returned v ∧ Rows.scriptPrintsSpec.post enc Tryd.prog Tryd.f5 false true false false W args v W' := by
  have hW' := hW
  obtain ⟨p, q, hA0, hV, hbef, hfz, hnd⟩ := hW
  have hA : DataW.TrodAll enc Tryd.prog W 0 (fun _ => true) true [30, 31] args.toList ds p := hA0
  obtain ⟨v0, vs0, d0, ds0, p0, q0, hargs, rfl, rfl, h0, r0⟩ := trodAll_cons hA
  obtain ⟨v1, vs1, d1, ds1, p1, q1, rfl, rfl, rfl, h1, r1⟩ := trodAll_cons r0
  obtain ⟨rfl, rfl, rfl⟩ := trodAll_nil r1
  obtain rfl : args = #[v0, v1] := by apply Array.ext'; exact hargs
  obtain ⟨rfl, rfl⟩ := trodVars_none hV
  obtain ⟨cs0, rfl, hsz0⟩ := okWide_struct Tryd.underlying30 (hval 0 30 v0 rfl rfl)
  obtain ⟨l0⟩ := cs0
  rw [show Tryd.prog.cellsOf 30 = 12 from by kernel_rfl] at hsz0
  obtain ⟨fu0, hf0⟩ := h0
  obtain ⟨n0, -, hfi0⟩ := field_at Tryd.underlying30 hf0
  obtain ⟨c0_0, c0_1, c0_2, c0_3, c0_4, c0_5, c0_6, c0_7, c0_8, c0_9, c0_10, c0_11, rfl⟩ : ∃ c0_0 c0_1 c0_2 c0_3 c0_4 c0_5 c0_6 c0_7 c0_8 c0_9 c0_10 c0_11, l0 = [c0_0, c0_1, c0_2, c0_3, c0_4, c0_5, c0_6, c0_7, c0_8, c0_9, c0_10, c0_11] := by
    match l0, hsz0 with
    | [c0_0, c0_1, c0_2, c0_3, c0_4, c0_5, c0_6, c0_7, c0_8, c0_9, c0_10, c0_11], _ => exact ⟨_, _, _, _, _, _, _, _, _, _, _, _, rfl⟩
  obtain ⟨y0_0, hy0_0⟩ := hfi0 0 _ 27 0 1 rfl rfl rfl (by kernel_rfl)
  obtain ⟨u0_0, f0_0, e0_0, s0_0, k0_0⟩ := open_slice_flat (flat_str Tryd.underlying9) Tryd.underlying27 (by kernel_rfl) (by decide) encS_len hy0_0
  obtain ⟨y0_1, hy0_1⟩ := hfi0 1 _ 28 1 1 rfl rfl rfl (by kernel_rfl)
  obtain ⟨u0_1, f0_1, e0_1, s0_1, k0_1⟩ := open_slice_flat flat_Key Tryd.underlying28 (by kernel_rfl) (by decide) encKey_len hy0_1
  obtain ⟨y0_2, hy0_2⟩ := hfi0 2 _ 3 2 1 rfl rfl rfl (by kernel_rfl)
  obtain ⟨f0_2, e0_2, k0_2⟩ := flat_int Tryd.underlying3 _ _ _ hy0_2
  obtain ⟨y0_3, hy0_3⟩ := hfi0 3 _ 3 3 1 rfl rfl rfl (by kernel_rfl)
  obtain ⟨f0_3, e0_3, k0_3⟩ := flat_int Tryd.underlying3 _ _ _ hy0_3
  obtain ⟨y0_4, hy0_4⟩ := hfi0 4 _ 3 4 1 rfl rfl rfl (by kernel_rfl)
  obtain ⟨f0_4, e0_4, k0_4⟩ := flat_int Tryd.underlying3 _ _ _ hy0_4
  obtain ⟨y0_5, hy0_5⟩ := hfi0 5 _ 3 5 1 rfl rfl rfl (by kernel_rfl)
  obtain ⟨f0_5, e0_5, k0_5⟩ := flat_int Tryd.underlying3 _ _ _ hy0_5
  obtain ⟨y0_6, hy0_6⟩ := hfi0 6 _ 3 6 1 rfl rfl rfl (by kernel_rfl)
  obtain ⟨f0_6, e0_6, k0_6⟩ := flat_int Tryd.underlying3 _ _ _ hy0_6
  obtain ⟨y0_7, hy0_7⟩ := hfi0 7 _ 3 7 1 rfl rfl rfl (by kernel_rfl)
  obtain ⟨f0_7, e0_7, k0_7⟩ := flat_int Tryd.underlying3 _ _ _ hy0_7
  obtain ⟨y0_8, hy0_8⟩ := hfi0 8 _ 3 8 1 rfl rfl rfl (by kernel_rfl)
  obtain ⟨f0_8, e0_8, k0_8⟩ := flat_int Tryd.underlying3 _ _ _ hy0_8
  obtain ⟨y0_9, hy0_9⟩ := hfi0 9 _ 3 9 1 rfl rfl rfl (by kernel_rfl)
  obtain ⟨f0_9, e0_9, k0_9⟩ := flat_int Tryd.underlying3 _ _ _ hy0_9
  obtain ⟨y0_10, hy0_10⟩ := hfi0 10 _ 3 10 1 rfl rfl rfl (by kernel_rfl)
  obtain ⟨f0_10, e0_10, k0_10⟩ := flat_int Tryd.underlying3 _ _ _ hy0_10
  obtain ⟨y0_11, hy0_11⟩ := hfi0 11 _ 3 11 1 rfl rfl rfl (by kernel_rfl)
  obtain ⟨f0_11, e0_11, k0_11⟩ := flat_int Tryd.underlying3 _ _ _ hy0_11
  simp [Value.cells, Ik.encI, encS, encBo, encRn, encB] at e0_0 e0_1 e0_2 e0_3 e0_4 e0_5 e0_6 e0_7 e0_8 e0_9 e0_10 e0_11
  subst e0_0 e0_1 e0_2 e0_3 e0_4 e0_5 e0_6 e0_7 e0_8 e0_9 e0_10 e0_11
  obtain ⟨fu1, hf1⟩ := h1
  obtain ⟨sv1, x_es, hsv1, hsl1, hok1⟩ := open_slice_flat flat_Evt Tryd.underlying31 (by kernel_rfl) (by decide) encEvt_len hf1
  obtain ⟨a_1, len_1, cap_1, rfl⟩ := okWide_slice Tryd.underlying31 (hval 1 31 v1 rfl rfl)
  obtain rfl : Value.slice a_1 len_1 cap_1 = sv1 := by simpa [Value.cells] using hsv1
  refine (ScriptPrints_c (c := (⟨f0_0, f0_1, f0_2, f0_3, f0_4, f0_5, f0_6, f0_7, f0_8, f0_9, f0_10, f0_11⟩ : Cfg))  s0_0 s0_1 hsl1 (by exact globS hL) (by exact ⟨k0_2, k0_3, k0_4, k0_5, k0_6, k0_7, k0_8, k0_9, k0_10, k0_11, k0_0, fun k hk => ⟨(k0_1 k hk).len, (k0_1 k hk).text⟩⟩) (by exact hok1)).mono ?_
  rintro e W1 ⟨v, rfl, ⟨rb, rfl, rfl⟩, hext⟩
  exact ⟨_, rfl, law_post (tb := 4) (by kernel_rfl) (by kernel_rfl) rfl Tryd.underlying4 rfl hW' hext rfl⟩
theorem laid_met (os : Os) : laidMet Tryd.prog Rows.scriptPrintsRow.laid ((laidWorld os).forCall (fun _ _ => 0) ⟨#[], #[.agg #[.slice none 0 0, .slice none 0 0, .int .i64 0, .int .i64 0, .int .i64 0, .int .i64 0, .int .i64 0, .int .i64 0, .int .i64 0, .int .i64 0, .int .i64 0, .int .i64 0], .slice none 0 0], []⟩).memory :=
  laidMet_of_run' 8 (by kernel_rfl) (by kernel_rfl)
theorem reads (os : Os) {H : Type} (enc : TypeId × Value → H) : ∃ places, DataW.whole enc Tryd.prog ((laidWorld os).forCall (fun _ _ => 0) ⟨#[], #[.agg #[.slice none 0 0, .slice none 0 0, .int .i64 0, .int .i64 0, .int .i64 0, .int .i64 0, .int .i64 0, .int .i64 0, .int .i64 0, .int .i64 0, .int .i64 0, .int .i64 0], .slice none 0 0], []⟩).memory Tryd.f5.params.toList Rows.scriptPrintsSpec.vars false (#[.agg #[.slice none 0 0, .slice none 0 0, .int .i64 0, .int .i64 0, .int .i64 0, .int .i64 0, .int .i64 0, .int .i64 0, .int .i64 0, .int .i64 0, .int .i64 0, .int .i64 0], .slice none 0 0] : Array Value).toList 8 = some ([.agg [.nil, .nil, .lit (.int .i64 0), .lit (.int .i64 0), .lit (.int .i64 0), .lit (.int .i64 0), .lit (.int .i64 0), .lit (.int .i64 0), .lit (.int .i64 0), .lit (.int .i64 0), .lit (.int .i64 0), .lit (.int .i64 0)], .nil], [], places) :=
  ⟨[], by kernel_rfl⟩
set_option maxRecDepth 100000 in
theorem lifted (os : Os) (started : os.Started) (H : Type) (enc : TypeId × Value → H) (F : Stop.Interp) :
    ReturnsInHanded {} Tryd.checked os 5 .any ((OpenSpec.ofChange Rows.scriptPrintsSpec).preRow enc Tryd.prog Tryd.f5 Rows.scriptPrintsRow.domain false Rows.scriptPrintsRow.laid) (((OpenSpec.ofChange Rows.scriptPrintsSpec).at F).post enc Tryd.prog Tryd.f5 false true false false) := by
  obtain ⟨places, hx⟩ := reads os enc
  refine returnsInHanded_of_row (C := Tryd.checked) (s := OpenSpec.ofChange Rows.scriptPrintsSpec) own started (by kernel_rfl) Tryd.func5
    (witness_row_at (enc := enc) (C := Tryd.checked) false (laidWorld os) #[.agg #[.slice none 0 0, .slice none 0 0, .int .i64 0, .int .i64 0, .int .i64 0, .int .i64 0, .int .i64 0, .int .i64 0, .int .i64 0, .int .i64 0, .int .i64 0, .int .i64 0], .slice none 0 0] rfl (by kernel_rfl) (by kernel_rfl) (by kernel_rfl)
      (OpenSpec.preRow_of_cond 8 hx (by kernel_rfl) (fun k hk => by cases hk) (by kernel_rfl) (laid_met os))) ?_
  intro W base args ds gs before hval hW _ _ _ hL _ _
  exact contract H enc W base args ds gs before hval hW hL
theorem said : Rows.ScriptPrintsSaid :=
  OpenClaim.holds_of_cond 5 Tryd.f5 rfl rfl rfl rfl rfl rfl rfl ⟨rfl, rfl, rfl, rfl, rfl⟩ rfl rfl rfl rfl rfl (by kernel_rfl) Tryd.func5 (by kernel_rfl)
    (of_decide_eq_true (by kernel_rfl)) (by unfold Func.isWrapper; first | (rw [if_pos (by decide +kernel)]; kernel_rfl) | (rw [if_neg (by decide +kernel)]; exact ⟨rfl, rfl⟩))
    (fun os started H enc _ F => by rw [OpenClaim.pre_eq_preRow]; exact lifted os started H enc F)
theorem plain (f : FuncId) (fn : Func) (hf : Tryd.pinned.checked.prog.funcNamed "inkhorn/inkhornlaw29.ScriptPrints" = some f) (hfn : Tryd.pinned.checked.prog.funcs[f]? = some fn) :
    true = Tryd.pinned.checked.prog.looks [] ∧ ∀ (j : Nat) t, fn.params[j]? = some t → Tryd.pinned.checked.prog.wantsStandIn t = false := by
  obtain rfl : f = 5 := Option.some.inj ((show Tryd.prog.funcNamed "inkhorn/inkhornlaw29.ScriptPrints" = some 5 by kernel_rfl).symm.trans hf) |>.symm
  obtain rfl : fn = Tryd.f5 := (Option.some.inj (Tryd.func5.symm.trans hfn)).symm
  refine ⟨by kernel_rfl, fun j t ht => ?_⟩
  rw [Tryd.params5] at ht
  have hm : t ∈ [30, 31] := by simpa using Array.mem_of_getElem? ht
  have hall : ([30, 31].all fun u => !Tryd.prog.wantsStandIn u) = true := by kernel_rfl
  exact (show Tryd.prog.wantsStandIn t = false by simpa using List.all_eq_true.1 hall t hm)
theorem proved : Rows.ScriptPrintsCardSaid :=
  Claim7.holds_tied_plain_at .later [] _ _ _ _ said (fun _ h => by cases h) (by kernel_rfl) (fun _ h => by cases h) scriptPrints_row_tie rfl ⟨rfl, rfl⟩ (by kernel_rfl) rfl plain (by kernel_rfl)
end scriptPrints
end Go.Proofs.YtnikbecfjbjbbaaDoor
