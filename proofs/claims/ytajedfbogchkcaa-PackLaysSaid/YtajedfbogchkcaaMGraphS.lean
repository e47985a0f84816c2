/-
  A graph's builder as what is held.
-/
import Derived.Test.YtajedfbogchkcaaMGraph3
import Derived.Test.YtajedfbogchkcaaIkS
set_option linter.unusedVariables false
set_option linter.unusedSimpArgs false
namespace Go.Ik
open Go Go.Ml

def nrR {R : Nat → Prop} (t : List RNode) (xs : GS) : Res R := ⟨fun F w => NR w F t xs, fun h hm hF _ => NR.keep h hm hF⟩
abbrev No : Nat → Prop := fun _ => False
/-- the builder in block 'bB': the graph, what is found by name, the nodes -/
def bldR (bT gT nT : TypeId) (bB : Nat) (s : GS) (nds : List RNode) : Res No :=
  exR fun x : Nat × Nat × Value => boxR [bkR bB [ptr x.1 0, .map (some x.2.1)] bT, bkR x.1 [x.2.2] gT, mapR strV intV x.2.1 (mapK s), accR encN nT 2 x.2.2 nds]
theorem sep_pair {R : Nat → Prop} {A B : Res R} {F : Nat → Prop} {w : World} (h : (boxR [A, B]).p F w) : ∃ F1 F2, A.p F1 w ∧ B.p F2 w ∧ (∀ b, F1 b → F b) ∧ (∀ b, F2 b → F b) := by
  obtain ⟨Fs, h1, h2, h3⟩ := h
  exact ⟨Fs 0, Fs 1, h1 0 A rfl, h1 1 B rfl, fun b hb => (h2 0 b hb).1.1, fun b hb => (h2 1 b hb).1.1⟩
theorem nr_app {t t2 : List RNode} {xs xs2 : GS} {F : Nat → Prop} {w : World} {R : Nat → Prop} (h : (boxR (R := R) [nrR t xs, nrR t2 xs2]).p F w) : (nrR (R := R) (t ++ t2) (xs ++ xs2)).p F w := by
  obtain ⟨F1, F2, h1, h2, h3, h4⟩ := sep_pair h
  exact All2.app (NR.mono h1 h3) (NR.mono h2 h4)
theorem acc_sl {α : Type} {enc : α → List Value} {e : TypeId} {sz : Nat} {v : Value} {l : List α} {F : Nat → Prop} {w : World} {R : Nat → Prop} (h : (accR (R := R) enc e sz v l).p F w) : Sl enc w F v l := by
  obtain ⟨g, h1, h2⟩ := h
  refine h1.sl.mono fun b hb => ?_
  rcases h1 with ⟨_, _, h4⟩ | ⟨b', cap, cur, h0, _⟩
  · unfold Iv at hb; omega
  · exact h2 b (by unfold Iv at hb; omega)
theorem slR_one {α : Type} {enc : α → List Value} {v : Value} {l : List α} {F : Nat → Prop} {w : World} {R : Nat → Prop} (h : (slR (R := R) enc [(v, l)]).p F w) : Sl enc w (fun b => F b ∨ R b) v l := h (v, l) (List.mem_singleton_self _)
theorem slR_no {α : Type} {enc : α → List Value} {v : Value} {l : List α} {F : Nat → Prop} {w : World} (h : (slR (R := No) enc [(v, l)]).p F w) : Sl enc w F v l := (slR_one h).mono fun b hb => hb.resolve_right id
theorem nr_len {R : Nat → Prop} {A : Res R} {t : List RNode} {xs : GS} {F : Nat → Prop} {w : World} (h : (boxR [A, nrR t xs]).p F w) : t.length = xs.length := by
  obtain ⟨F1, F2, h1, h2, h3, h4⟩ := sep_pair h
  exact NR.len h2
theorem nr_cons {e : TypeId} {v : Value} {es : List Ed} {t : List RNode} {xs : GS} {x : List Str} {r : RNode} {F : Nat → Prop} {w : World} (hv : v = r.e.val) (hf : r.fin = finB x) {R : Nat → Prop} (h : (boxR (R := R) [accR encE e 2 v es, nrR t xs]).p F w) : (nrR (R := R) (r :: t) ((x, es) :: xs)).p F w := by
  obtain ⟨F1, F2, h1, h2, h3, h4⟩ := sep_pair h
  exact .cons ⟨hf, hv ▸ (acc_sl h1).mono h3⟩ (NR.mono h2 h4)
theorem nr_cons0 {t : List RNode} {xs : GS} {x : List Str} {r : RNode} {F : Nat → Prop} {w : World} (hv : r.e.val = .slice none 0 0) (hf : r.fin = finB x) {R : Nat → Prop} (h : (nrR (R := R) t xs).p F w) : (nrR (R := R) (r :: t) ((x, []) :: xs)).p F w :=
  .cons ⟨hf, hv ▸ Sl.nil⟩ h
end Go.Ik
namespace Go.Ik
open Go Go.Ml
theorem St.gr {w0 w : World} {bG : Nat} {gT nT : TypeId} {vN : Value} {t : List RNode} {xs : GS} (h : St No No w0 w [bkR bG [vN] gT, accR encN nT 2 vN t, nrR t xs]) (hne : xs ≠ []) : Gr 0 w w0.heap.size w.heap.size (ptr bG 0) (gnOf xs) := by
  obtain ⟨F, h1, h2, _⟩ := h.act (i := 0) rfl
  have hs := h.accSl (i := 1) rfl
  obtain ⟨F3, h3, h4, _⟩ := h.act (i := 2) rfl
  have hb := h2 bG h1.2
  exact .inr ⟨bG, vN, t, rfl, by simpa [gnOf] using hne, ⟨hb.1.1.resolve_left id, hb.2, h1.1.row⟩, hs, nr_rel (NR.mono h3 fun b hb => ⟨(h4 b hb).1.1.resolve_left id, (h4 b hb).2⟩)⟩
theorem St.gr1 {w0 w : World} {bG : Nat} {gT : TypeId} {vN : Value} (h : St No No w0 w [bkR bG [vN] gT, slR encN [(vN, [RNode.mk false (SH.mk none 0 0)])]]) : Gr 0 w w0.heap.size w.heap.size (ptr bG 0) [(false, [])] := by
  obtain ⟨F, h1, h2, _⟩ := h.act (i := 0) rfl
  have hs := h.slOut (i := 1) (k := 0) rfl rfl
  have hb := h2 bG h1.2
  exact .inr ⟨bG, vN, _, rfl, by simp, ⟨hb.1.1.resolve_left id, hb.2, h1.1.row⟩, hs, .cons ⟨rfl, Sl.nil⟩ .nil⟩
theorem far_iv {F0 F : Nat → Prop} {w0 : World} (h : ∀ b, F b → ((False ∨ w0.heap.size ≤ b) ∧ ¬ False) ∧ F0 b) : ∀ b, Iv 0 w0.heap.size b → ¬ F b := fun b hb hf => by
  have := (h b hf).1.1.resolve_left id
  unfold Iv at hb; omega
end Go.Ik
