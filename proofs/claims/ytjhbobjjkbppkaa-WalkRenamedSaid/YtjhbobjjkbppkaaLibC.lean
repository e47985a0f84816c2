import Derived.Test.YtjhbobjjkbppkaaLibB
import Derived.Shelf.SlSortCmp.NoneTotal
import Derived.Shelf.SlicesE.Compact
/-
  Graphs in memory; functions handed in; results in a cell.
-/
set_option linter.unusedVariables false
set_option linter.unusedSimpArgs false
set_option linter.unusedSectionVars false
namespace Go.Ik
open Go

/-! blocks from 'B' on -/
def Ge (B : Nat) : Nat → Prop := fun b => B ≤ b
theorem Ext.thenGe {B : Nat} {w0 w w' : World} (h : Ext w0 w) (k : Mod (Ge B) w w') (hB : w0.heap.size ≤ B) : Ext w0 w' := h.then k (fun i hi hl => by unfold Ge at hi; omega)
theorem Mod.thenGe {B : Nat} {w0 w w' : World} (h : Mod (Ge B) w0 w) (k : Mod (Ge B) w w') : Mod (Ge B) w0 w' := h.trans k
theorem Mod.ofG {B g : Nat} {w w' : World} (k : Mod (Mg g) w w') (hg : g = 0 ∨ B < g) : Mod (Ge B) w w' := k.weaken (fun i hi _ => by unfold Mg at hi; unfold Ge; omega)
theorem Sl.keepB {α : Type} {enc : α → List Value} {w w' : World} {lo hi B : Nat} {v : Value} {l : List α} (h : Sl enc w (Iv lo hi) v l) (hm : Mod (Ge B) w w') (hg : hi ≤ B) : Sl enc w' (Iv lo hi) v l :=
  h.keep hm fun b hb hx => by unfold Iv Ge at *; omega
theorem Bk.keepB {w w' : World} {b B : Nat} {cs : List Value} {e : TypeId} (h : Bk w b cs e) (hm : Mod (Ge B) w w') (hg : b < B) : Bk w' b cs e := h.keep hm fun hx => by unfold Ge at hx; omega
theorem Acc.keepB {α : Type} {enc : α → List Value} {e : TypeId} {sz B g : Nat} {w w' : World} {v : Value} {l : List α} (h : Acc enc e sz w g v l) (hm : Mod (Ge B) w w') (hg : g ≤ B) : Acc enc e sz w' g v l := h.keep hm fun b hb hx => by unfold Ge at hx; omega
theorem Rw.keepB {w w' : World} {lo hi b B : Nat} {cs : List Value} (h : Rw w lo hi b cs) (hm : Mod (Ge B) w w') (hg : hi ≤ B) : Rw w' lo hi b cs := ⟨h.1, h.2.1, h.2.2.keep hm fun hx => by have := h.2.1; unfold Ge at hx; omega⟩
theorem It.keepB {w w' : World} {b B : Nat} {s : Str} {pos : Nat} (h : It w b s pos) (hm : Mod (Ge B) w w') (hg : b < B) : It w' b s pos := hm.keep _ _ h fun hx => by unfold Ge at hx; omega

/-! a slice compared with nil -/
theorem Q1.eqNilSl {P : Program} {E : Env} {C : World → Prop} {d : Option Tmp} {ty : TypeId} {pos : String} {af : Array Edge} {gd : Option (Nat × Bool)} {xt yt e : TypeId} {x y : Operand} {a : Option Addr} {n c : Nat} (hu : P.underlying xt = some (.slice e)) (hx : ev E x = some (.slice a n c)) (hy : ev E y = some (.slice none 0 0)) :
    Q1 P ⟨d, .binOp .eql xt x y yt, ty, pos, af, gd⟩ E C (.bool a.isNone) := fun s ha w _ => by
  have h : (Op.equal xt (.slice a n c) (.slice none 0 0)).run P w = .ok a.isNone w := by
    have key : ∀ k, (Op.equalIn (k + 1) xt (.slice a n c) (.slice none 0 0)).run P w = .ok a.isNone w := fun k => by
      cases a <;> simp [Op.equalIn, run_underlying hu]
    exact key 9999
  have hg : (eqGuard .eql xt x y (.slice a n c) (.slice none 0 0)).run P w = .ok () w := by
    unfold eqGuard; split <;> simp
  simp [execOp, ha.ev hx, ha.ev hy, hg, Go.binOp, h]
theorem Sl.isNil {α : Type} {enc : α → List Value} {w : World} {F : Nat → Prop} {v : Value} {l : List α} (h : Sl enc w F v l) : ∃ a c, v = .slice a l.length c ∧ (a.isNone = true → l = []) := by
  obtain ⟨a, c, h1, h2, h3, h4⟩ := h
  refine ⟨a, c, h1, fun hn => ?_⟩
  rcases h4 with h4 | ⟨b, off, h5, _⟩
  · exact h4
  · subst h5; cases hn

/-! graphs -/
structure RNode where
  fin : Bool
  e : SH
def encN (x : RNode) : List Value := [.bool x.fin, x.e.val]
theorem encN_len (x : RNode) : (encN x).length = 2 := rfl
theorem encN_one (x : RNode) : (encN x).all (·.oneCell') = true := rfl
abbrev GN := Bool × List Ml.Ed
def NRel (w : World) (F : Nat → Prop) (nds : List RNode) (N : List GN) : Prop := All2 (fun r n => r.fin = n.1 ∧ Sl Ml.encE w F r.e.val n.2) nds N
theorem NRel.keep {M : Nat → Prop} {w w' : World} {F : Nat → Prop} {nds : List RNode} {N : List GN} (h : NRel w F nds N) (hm : Mod M w w') (hF : ∀ b, F b → ¬ M b) : NRel w' F nds N :=
  All2.imp (fun r n ⟨h1, h2⟩ => ⟨h1, h2.keep hm hF⟩) h
theorem NRel.ext {w w' : World} {F : Nat → Prop} {nds : List RNode} {N : List GN} (h : NRel w F nds N) (hm : Ext w w') : NRel w' F nds N := h.keep hm (fun _ _ x => x)
theorem NRel.mono {w : World} {F F' : Nat → Prop} {nds : List RNode} {N : List GN} (h : NRel w F nds N) (hF : ∀ b, F b → F' b) : NRel w F' nds N :=
  All2.imp (fun r n ⟨h1, h2⟩ => ⟨h1, h2.mono hF⟩) h
theorem NRel.at {w : World} {F : Nat → Prop} {nds : List RNode} {N : List GN} (h : NRel w F nds N) {i : Nat} {r : RNode} (hr : nds[i]? = some r) : ∃ n, N[i]? = some n ∧ r.fin = n.1 ∧ Sl Ml.encE w F r.e.val n.2 := by
  have hg := h.get
  have hlt := (List.getElem?_eq_some_iff.1 hr).1
  have hx : N[i]? = some (N[i]'(by rw [← hg.1]; exact hlt)) := by simp
  exact ⟨_, hx, hg.2 i _ _ hr hx⟩
/-- a graph: nil (then it has no nodes) or one that has some -/
def Gr (gt : TypeId) (w : World) (lo hi : Nat) (v : Value) (N : List GN) : Prop :=
  (v = .pointer none ∧ N = []) ∨ ∃ b vn nds, v = ptr b 0 ∧ N ≠ [] ∧ Rw w lo hi b [vn] ∧ Sl encN w (Iv lo hi) vn nds ∧ NRel w (Iv lo hi) nds N
theorem Gr.ext {gt : TypeId} {w w' : World} {lo hi : Nat} {v : Value} {N : List GN} (h : Gr gt w lo hi v N) (hm : Ext w w') : Gr gt w' lo hi v N := by
  rcases h with h | ⟨b, vn, nds, h1, h2, h3, h4, h5⟩
  · exact .inl h
  · exact .inr ⟨b, vn, nds, h1, h2, h3.ext hm, h4.ext hm, h5.ext hm⟩
theorem Gr.keepG {gt : TypeId} {w w' : World} {lo hi g : Nat} {v : Value} {N : List GN} (h : Gr gt w lo hi v N) (hm : Mod (Mg g) w w') (hg : g ≤ lo ∨ hi < g) : Gr gt w' lo hi v N := by
  rcases h with h | ⟨b, vn, nds, h1, h2, h3, h4, h5⟩
  · exact .inl h
  · exact .inr ⟨b, vn, nds, h1, h2, h3.keepG hm hg, h4.keepG hm hg, h5.keep hm fun b hb hx => by unfold Iv Mg at *; omega⟩
theorem Gr.keepB {gt : TypeId} {w w' : World} {lo hi B : Nat} {v : Value} {N : List GN} (h : Gr gt w lo hi v N) (hm : Mod (Ge B) w w') (hg : hi ≤ B) : Gr gt w' lo hi v N := by
  rcases h with h | ⟨b, vn, nds, h1, h2, h3, h4, h5⟩
  · exact .inl h
  · exact .inr ⟨b, vn, nds, h1, h2, h3.keepB hm hg, h4.keepB hm hg, h5.keep hm fun b hb hx => by unfold Iv Ge at *; omega⟩
theorem Gr.iv {gt : TypeId} {w : World} {lo hi lo' hi' : Nat} {v : Value} {N : List GN} (h : Gr gt w lo hi v N) (h1 : lo' ≤ lo) (h2 : hi ≤ hi') : Gr gt w lo' hi' v N := by
  rcases h with h | ⟨b, vn, nds, k1, k2, ⟨k3, k4, k5⟩, k6, k7⟩
  · exact .inl h
  · exact .inr ⟨b, vn, nds, k1, k2, ⟨by omega, by omega, k5⟩, k6.iv h1 h2, k7.mono fun b hb => by unfold Iv at *; omega⟩
/-- a graph's nodes out of its names -/
def gnOf (s : Ml.GS) : List GN := s.map fun x => (Ml.finB x.1, x.2)
def nodeAt (N : List GN) (n : Int) : GN := if 0 ≤ n then N[n.toNat]?.getD (false, []) else (false, [])
theorem nodeAt_no {N : List GN} {n : Int} (h : n < 0 ∨ (N.length : Int) ≤ n) : nodeAt N n = (false, []) := by
  unfold nodeAt
  split
  · have : N[n.toNat]? = none := List.getElem?_eq_none (by omega)
    rw [this]; rfl
  · rfl
theorem nodeAt_yes {N : List GN} {n : Int} {x : GN} (h : 0 ≤ n) (hx : N[n.toNat]? = some x) : nodeAt N n = x := by
  unfold nodeAt; rw [if_pos h, hx]; rfl

theorem NRel.keepG {w w' : World} {lo hi g : Nat} {nds : List RNode} {N : List GN} (h : NRel w (Iv lo hi) nds N) (hm : Mod (Mg g) w w') (hg : g ≤ lo ∨ hi < g) : NRel w' (Iv lo hi) nds N := h.keep hm fun b hb hx => by unfold Iv Mg at *; omega
theorem NRel.keepB {w w' : World} {lo hi B : Nat} {nds : List RNode} {N : List GN} (h : NRel w (Iv lo hi) nds N) (hm : Mod (Ge B) w w') (hg : hi ≤ B) : NRel w' (Iv lo hi) nds N := h.keep hm fun b hb hx => by unfold Iv Ge at *; omega
theorem Gr.pos {gt : TypeId} {w : World} {lo hi : Nat} {v : Value} {N : List GN} (h : Gr gt w lo hi v N) (hn : 0 < N.length) : ∃ b vn nds, v = ptr b 0 ∧ N ≠ [] ∧ Rw w lo hi b [vn] ∧ Sl encN w (Iv lo hi) vn nds ∧ NRel w (Iv lo hi) nds N := by
  rcases h with ⟨_, h⟩ | h
  · subst h; simp at hn
  · exact h
theorem nodeAt_len {N : List GN} (h : ∀ x ∈ N, x.2.length ≤ 1000000) (n : Int) : (nodeAt N n).2.length ≤ 1000000 := by
  unfold nodeAt
  split
  · cases hx : N[n.toNat]? with
    | none => simp
    | some x => exact h x (List.mem_of_getElem? hx)
  · simp
theorem Ge.ext {B : Nat} {w0 w w' : World} (h : Mod (Ge B) w0 w) (k : Ext w w') : Mod (Ge B) w0 w' := Mod.ext h k
theorem Ge.thenG {B g : Nat} {w0 w w' : World} (h : Mod (Ge B) w0 w) (k : Mod (Mg g) w w') (hg : g = 0 ∨ B < g) : Mod (Ge B) w0 w' := h.trans (k.ofG hg)
theorem Ge.thenB {B B' : Nat} {w0 w w' : World} (h : Mod (Ge B) w0 w) (k : Mod (Ge B') w w') (hg : B ≤ B') : Mod (Ge B) w0 w' := h.trans (k.weaken fun i hi _ => by unfold Ge at *; omega)
/-! a function that is handed in: a text more, until it says no; 'F': the blocks that are its own -/
structure Yield (P : Program) {σ : Type} (ky : FuncId) (first cap : List Value) (B : Nat) (Inv : σ → (Nat → Prop) → World → Prop) (ok : σ → Str → Prop) (f : σ → Str → σ × Bool) : Prop where
  cl : clB P ky = true
  ext : ∀ s F w w', Inv s F w → Ext w w' → Inv s F w'
  foot : ∀ s F w, Inv s F w → ∀ b, F b → B ≤ b ∧ b < w.heap.size
  call : ∀ s F w x, Inv s F w → ok s x → Calls P ky (first ++ [strV x] ++ cap).toArray w (Ret fun rv w' => rv = .bool (f s x).2 ∧ Mod F w w' ∧ ∃ F', Inv (f s x).1 F' w' ∧ ∀ b, F' b → F b ∨ w.heap.size ≤ b)
/-- blocks of 'F' are from 'B' on -/
def Far (F : Nat → Prop) (B : Nat) : Prop := ∀ b, F b → B ≤ b
theorem Far.of {P : Program} {σ : Type} {ky : FuncId} {first cap : List Value} {B : Nat} {Inv : σ → (Nat → Prop) → World → Prop} {ok : σ → Str → Prop} {f : σ → Str → σ × Bool} (hy : Yield P ky first cap B Inv ok f) {s : σ} {F : Nat → Prop} {w : World} (h : Inv s F w) : Far F B := fun b hb => (hy.foot s F w h b hb).1
theorem Sl.keepF {α : Type} {enc : α → List Value} {w w' : World} {lo hi B : Nat} {F : Nat → Prop} {v : Value} {l : List α} (h : Sl enc w (Iv lo hi) v l) (hm : Mod F w w') (hF : Far F B) (hg : hi ≤ B) : Sl enc w' (Iv lo hi) v l :=
  h.keep hm fun b hb hx => by have := hF b hx; unfold Iv at hb; omega
theorem Rw.keepF {w w' : World} {lo hi b B : Nat} {F : Nat → Prop} {cs : List Value} (h : Rw w lo hi b cs) (hm : Mod F w w') (hF : Far F B) (hg : hi ≤ B) : Rw w' lo hi b cs := ⟨h.1, h.2.1, h.2.2.keep hm fun hx => by have := h.2.1; have := hF b hx; omega⟩
theorem NRel.keepF {w w' : World} {lo hi B : Nat} {F : Nat → Prop} {nds : List RNode} {N : List GN} (h : NRel w (Iv lo hi) nds N) (hm : Mod F w w') (hF : Far F B) (hg : hi ≤ B) : NRel w' (Iv lo hi) nds N := h.keep hm fun b hb hx => by have := hF b hx; unfold Iv at hb; omega
theorem Gr.keepF {gt : TypeId} {w w' : World} {lo hi B : Nat} {F : Nat → Prop} {v : Value} {N : List GN} (h : Gr gt w lo hi v N) (hm : Mod F w w') (hF : Far F B) (hg : hi ≤ B) : Gr gt w' lo hi v N := by
  rcases h with h | ⟨b, vn, nds, h1, h2, h3, h4, h5⟩
  · exact .inl h
  · exact .inr ⟨b, vn, nds, h1, h2, h3.keepF hm hF hg, h4.keepF hm hF hg, h5.keepF hm hF hg⟩
theorem ModF.thenG {F : Nat → Prop} {g : Nat} {w0 w w' : World} (h : Mod F w0 w) (k : Mod (Mg g) w w') (hg : g = 0 ∨ w0.heap.size < g) : Mod F w0 w' := h.then k (fun i hi hl => by unfold Mg at hi; omega)
theorem ModF.thenF {F F' : Nat → Prop} {w0 w w' : World} (h : Mod F w0 w) (k : Mod F' w w') (hF : ∀ b, F' b → F b ∨ w0.heap.size ≤ b) : Mod F w0 w' := h.then k (fun i hi hl => (hF i hi).resolve_right (by omega))
/-- all that is handed on may be -/
def OkAll {σ : Type} (ok : σ → Str → Prop) (f : σ → Str → σ × Bool) : σ → List Str → Prop
  | _, [] => True
  | s, x :: r => ok s x ∧ ((f s x).2 = true → OkAll ok f (f s x).1 r)
theorem OkAll.app {σ : Type} {ok : σ → Str → Prop} {f : σ → Str → σ × Bool} : ∀ {a b : List Str} {s : σ}, OkAll ok f s (a ++ b) → OkAll ok f s a ∧ ((Ml.eachF f s a).2 = true → OkAll ok f (Ml.eachF f s a).1 b)
  | [], b, s, h => ⟨trivial, fun _ => h⟩
  | x :: a, b, s, h => by
    have h1 : ok s x ∧ ((f s x).2 = true → OkAll ok f (f s x).1 (a ++ b)) := h
    constructor
    · exact ⟨h1.1, fun hx => (OkAll.app (h1.2 hx)).1⟩
    · intro he
      unfold Ml.eachF at he ⊢
      split at he
      · rename_i hx
        rw [if_pos hx]
        exact (OkAll.app (h1.2 hx)).2 he
      · cases he

/-! going over a graph -/
open Ml in
/-- what stands behind the first 'k' groups -/
def restL (ahead : Str) (r : List Str) (k : Nat) : List Str := ((groups (dropE r)).drop k).flatMap fun g => g.2.map fun t => ahead ++ (encL g.1 ++ t)
open Ml in
theorem map_rests {ahead : Str} {r : List Str} (h : GoodR r) : r.map (ahead ++ ·) = (if finB r = true then [ahead] else []) ++ restL ahead r 0 := by
  have ha := rests_all (x := (r, [])) h
  simp only at ha
  unfold restL
  conv => lhs; rw [ha]
  rw [List.map_append, List.drop_zero, List.map_flatMap]
  congr 1
  · split <;> simp
  · simp [List.map_map, Function.comp_def]
open Ml in
theorem restL_step {ahead : Str} {r : List Str} {k : Nat} {g : Nat × List Str} (hg : (groups (dropE r))[k]? = some g) : restL ahead r k = g.2.map ((ahead ++ encL g.1) ++ ·) ++ restL ahead r (k + 1) := by
  obtain ⟨hk, rfl⟩ := List.getElem?_eq_some_iff.1 hg
  unfold restL
  rw [List.drop_eq_getElem_cons hk, List.flatMap_cons]
  congr 1
  simp
open Ml in
theorem restL_end {ahead : Str} {r : List Str} {k : Nat} (h : (groups (dropE r)).length ≤ k) : restL ahead r k = [] := by
  unfold restL; rw [List.drop_of_length_le h]; rfl
open Ml in
theorem each_stop {σ : Type} {f : σ → Str → σ × Bool} {s0 sk : σ} {all rest a b : List Str} (h : eachF f s0 all = eachF f sk rest) (hr : rest = a ++ b) (hb : (eachF f sk a).2 = false) : eachF f s0 all = eachF f sk a := by
  rw [h, hr, eachF_app, if_neg (by rw [hb]; simp)]
open Ml in
theorem each_go {σ : Type} {f : σ → Str → σ × Bool} {s0 sk : σ} {all rest a b : List Str} (h : eachF f s0 all = eachF f sk rest) (hr : rest = a ++ b) (hb : (eachF f sk a).2 = true) : eachF f s0 all = eachF f (eachF f sk a).1 b := by
  rw [h, hr, eachF_app, if_pos hb]
open Ml in
theorem each_first {σ : Type} {f : σ → Str → σ × Bool} {s : σ} {a : Str} {r : List Str} (h : (f s a).2 = true) : eachF f s ([a] ++ r) = eachF f (f s a).1 r := by
  simp [eachF, h]
open Ml in
theorem each_first_no {σ : Type} {f : σ → Str → σ × Bool} {s : σ} {a : Str} {r : List Str} (h : (f s a).2 = false) : eachF f s ([a] ++ r) = ((f s a).1, false) := by
  simp [eachF, h]
open Ml in
theorem each_one {σ : Type} {f : σ → Str → σ × Bool} {s : σ} {x : Str} : eachF f s [x] = f s x := by
  unfold eachF
  split
  · rename_i h; unfold eachF; rw [← h]
  · rename_i h
    have : (f s x).2 = false := by simpa using h
    rw [← this]
open Ml in
theorem edge_at {s : GS} {x : List Str × List Ed} (hc : Corr s x) (hgd : GoodR x.1) {k : Nat} {e : Ed} (he : x.2[k]? = some e) : ∃ (g : Nat × List Str) (j : Nat) (es : List Ed), (groups (dropE x.1))[k]? = some g ∧ e.rune = (g.1 : Int) ∧ e.to = (j : Int) ∧ s[j]? = some (g.2, es) ∧ goodN g.1 ∧ g.2 ≠ [] := by
  have hg := All2.get hc
  have hlt := (List.getElem?_eq_some_iff.1 he).1
  have hx : (groups (dropE x.1))[k]? = some ((groups (dropE x.1))[k]'(by rw [hg.1]; exact hlt)) := by simp
  obtain ⟨h1, j, es, h2, h3⟩ := hg.2 k _ _ hx he
  have hd := dropE_good hgd
  have ok := groups_ok _ _ (Nat.le_refl _) hd.1 hd.2
  have hok := ok.good _ (List.mem_of_getElem? hx)
  exact ⟨_, j, es, hx, h1, h2, h3, hok.1, hok.2.1⟩
open Ml in
theorem deep_edge {l : List Str} (hg : GoodR l) {d k : Nat} {g : Nat × List Str} (h : Deep d l) (hk : (groups (dropE l))[k]? = some g) : ∃ e, d = e + 1 ∧ Deep e g.2 := by
  have hgm := List.mem_of_getElem? hk
  cases d with
  | zero =>
    exfalso
    have hd := dropE_good hg
    have ok := groups_ok _ _ (Nat.le_refl _) hd.1 hd.2
    obtain ⟨t, ht⟩ : ∃ t, t ∈ g.2 := by
      cases hg2 : g.2 with
      | nil => exact absurd hg2 (ok.good g hgm).2.1
      | cons t _ => exact ⟨t, by simp⟩
    have hm : encL g.1 ++ t ∈ dropE l := by
      rw [← ok.all]
      exact List.mem_flatMap.2 ⟨g, hgm, List.mem_map.2 ⟨t, ht, rfl⟩⟩
    have := h _ (dropE_mem hm)
    rw [runes_app (ok.good g hgm).1] at this
    simp at this
  | succ e => exact ⟨e, rfl, deep_groups hg h g hgm⟩
open Ml in
theorem gnOf_at {s : GS} {n : Nat} {x : List Str × List Ed} (h : s[n]? = some x) : nodeAt (gnOf s) (n : Int) = (finB x.1, x.2) := by
  refine nodeAt_yes (by omega) ?_
  simp [gnOf, h]
theorem gnOf_len (s : Ml.GS) : (gnOf s).length = s.length := by simp [gnOf]
theorem encL_len4 (c : Nat) : (Ml.encL c).length ≤ 4 := by
  unfold Ml.encL; repeat' split
  all_goals simp

/-- a graph and the words it holds: none (of nil), or as they were built -/
structure GOk (N : List GN) (s : Ml.GS) (words : List Str) : Prop where
  nodes : N = gnOf s
  root : ∃ es, nodeAt N 0 = (Ml.finB words, es) ∧ Ml.Corr s (words, es)
  good : Ml.GoodR words
  deep : Ml.Deep 12 words
  node : ∀ y ∈ s, Ml.Corr s y ∧ Ml.GoodR y.1 ∧ Ml.Deep 12 y.1
  size : s.length ≤ 1000000
  elen : ∀ y ∈ s, y.2.length ≤ 1000000
theorem GOk.nil : GOk [] [] [] := ⟨rfl, ⟨[], rfl, .nil⟩, ⟨List.Pairwise.nil, by simp⟩, by simp [Ml.Deep], by simp, by simp, by simp⟩
theorem GOk.of {s : Ml.GS} {words : List Str} (h : Ml.WFG s words) (hs : s.length ≤ 1000000) (he' : ∀ y ∈ s, y.2.length ≤ 1000000) : GOk (gnOf s) s words := by
  obtain ⟨es, he⟩ := h.root
  have hn := h.node _ (List.mem_of_getElem? he)
  exact ⟨rfl, ⟨es, gnOf_at he, hn.corr⟩, hn.good, hn.deep, fun y hy => ⟨(h.node y hy).corr, (h.node y hy).good, (h.node y hy).deep⟩, hs, he'⟩
theorem GOk.empty : GOk [(false, [])] [([], [])] [] := ⟨rfl, ⟨[], rfl, .nil⟩, ⟨List.Pairwise.nil, by simp⟩, by simp [Ml.Deep], by
  intro y hy
  simp only [List.mem_singleton] at hy
  subst hy
  exact ⟨.nil, ⟨List.Pairwise.nil, by simp⟩, by simp [Ml.Deep]⟩, by simp, by simp⟩

/-! a text box that grows -/
def BoxAcc (te e : TypeId) (bl B : Nat) (l : List Str) (F : Nat → Prop) (w : World) : Prop :=
  ∃ v g, Bk w bl [v] te ∧ Acc encS e 1 w g v l ∧ bl + 1 ≠ g ∧ B ≤ bl ∧ (g = 0 ∨ B < g) ∧ ∀ b, F b ↔ b = bl ∨ b + 1 = g
theorem BoxAcc.ext {te e : TypeId} {bl B : Nat} {l : List Str} {F : Nat → Prop} {w w' : World} (h : BoxAcc te e bl B l F w) (hm : Ext w w') : BoxAcc te e bl B l F w' := by
  obtain ⟨v, g, h1, h2, h3⟩ := h
  exact ⟨v, g, h1.ext hm, h2.ext hm, h3⟩
theorem BoxAcc.foot {te e : TypeId} {bl B : Nat} {l : List Str} {F : Nat → Prop} {w : World} (h : BoxAcc te e bl B l F w) : ∀ b, F b → B ≤ b ∧ b < w.heap.size := by
  obtain ⟨v, g, h1, h2, h3, h4, h5, h6⟩ := h
  intro b hb
  have hl := h1.lt
  have hg := h2.lt
  rcases (h6 b).1 hb with e | e
  · omega
  · omega
theorem BoxAcc.go {te e : TypeId} {bl B : Nat} {l' : List Str} {F : Nat → Prop} {w w' : World} {v' : Value} {g g' : Nat} (h6 : ∀ b, F b ↔ b = bl ∨ b + 1 = g) (hB : B ≤ bl) (h5 : g = 0 ∨ B < g) (hne : bl + 1 ≠ g) (hb : bl < w.heap.size) (k1 : Bk w' bl [v'] te) (k2 : Acc encS e 1 w' g' v' l') (k3 : g' = g ∨ w.heap.size < g') :
    ∃ F', BoxAcc te e bl B l' F' w' ∧ ∀ b, F' b → F b ∨ w.heap.size ≤ b :=
  ⟨fun b => b = bl ∨ b + 1 = g', ⟨v', g', k1, k2, by omega, hB, by omega, fun b => Iff.rfl⟩, fun b hb' => by
    rcases hb' with e | e
    · exact .inl ((h6 b).2 (.inl e))
    · rcases k3 with k3 | k3
      · exact .inl ((h6 b).2 (.inr (by omega)))
      · exact .inr (by omega)⟩
theorem eachF_all : ∀ (L l : List Str), Ml.eachF (fun (s : List Str) x => (s ++ [x], true)) l L = (l ++ L, true)
  | [], l => by simp [Ml.eachF]
  | x :: L, l => by
    simp only [Ml.eachF, if_true]
    rw [eachF_all L (l ++ [x])]; simp
theorem okAll_all (m : Nat) : ∀ (L l : List Str), l.length + L.length ≤ m → OkAll (fun (s : List Str) (_ : Str) => s.length ≤ m) (fun s x => (s ++ [x], true)) l L
  | [], l, _ => trivial
  | x :: L, l, h => ⟨by simp only [List.length_cons] at h; omega, fun _ => okAll_all m L (l ++ [x]) (by simp only [List.length_cons, List.length_append, List.length_nil] at h ⊢; omega)⟩
/-- from a word on, as many as are wanted -/
def fromF (w : Str) (most : Int) (s : List Str) (x : Str) : List Str × Bool :=
  let s' := if ((s.length : Nat) : Int) < most ∧ Lib.compareBytes x w ≥ 0 then s ++ [x] else s
  (s', decide (((s'.length : Nat) : Int) < most))
theorem okAll_from (w : Str) (most : Int) (m : Nat) : ∀ (L l : List Str), l.length + L.length ≤ m → OkAll (fun (s : List Str) (_ : Str) => s.length ≤ m) (fromF w most) l L
  | [], l, _ => trivial
  | x :: L, l, h => ⟨by simp only [List.length_cons] at h; omega, fun _ => okAll_from w most m L _ (by
      simp only [List.length_cons] at h
      unfold fromF
      simp only
      split
      · simp only [List.length_append, List.length_cons, List.length_nil]; omega
      · omega)⟩

/-! texts along a graph -/
theorem drop_el' {α : Type} {l : List α} {k : Nat} {x : α} (hx : l[k]? = some x) : l.drop k = x :: l.drop (k + 1) := by
  obtain ⟨h, rfl⟩ := List.getElem?_eq_some_iff.1 hx
  exact List.drop_eq_getElem_cons h
open Ml in
theorem next_c {s : GS} {x : List Str × List Ed} (hc : Corr s x) (hg : GoodR x.1) {c : Nat} (hgc : goodN c) :
    (nextM x.2 (c : Int) = none → ∀ t, encL c ++ t ∉ x.1) ∧ (∀ j, nextM x.2 (c : Int) = some j → ∃ (k : Nat) (b : List Str) (es : List Ed), j = (k : Int) ∧ s[k]? = some (b, es) ∧ ∀ t, encL c ++ t ∈ x.1 ↔ t ∈ b) := by
  have hd := dropE_good hg
  have ok := groups_ok _ _ (Nat.le_refl _) hd.1 hd.2
  have hf := forall2_find (c := c) hc
  unfold nextM
  constructor
  · intro hn t hm
    rw [Option.map_eq_none_iff] at hn
    obtain ⟨b, hb, _⟩ := (step_mem hg hgc t).1 hm
    exact hf.1 hn _ hb rfl
  · intro j hj
    obtain ⟨e, he, rfl⟩ := Option.map_eq_some_iff.1 hj
    obtain ⟨g, hgm, hgc', k, es, h1, h2⟩ := hf.2 e he
    refine ⟨k, g.2, es, h1, h2, fun t => ?_⟩
    rw [step_mem hg hgc]
    constructor
    · rintro ⟨b, hb, ht⟩
      have := group_unique ok.part hgm hb hgc'
      rw [this]; exact ht
    · intro ht
      exact ⟨g.2, by rw [← hgc']; exact hgm, ht⟩
/-- a place along a text -/
structure HasInv (N : List GN) (s : Ml.GS) (words : List Str) (w : Str) (k : Nat) (ok : Bool) (n : Int) : Prop where
  no : ok = false → words.contains w = false
  yes : ok = true → Ml.Fine w ∧ ∃ x, nodeAt N n = (Ml.finB x.1, x.2) ∧ Ml.Corr s x ∧ Ml.GoodR x.1 ∧ (w ∈ words ↔ Ml.encT ((Ml.runes w).drop k) ∈ x.1)
  n0 : 0 ≤ n ∧ n ≤ 1000000
open Ml in
theorem contains_no {l : List Str} {w : Str} (h : w ∉ l) : l.contains w = false := by
  cases hc : l.contains w with
  | false => rfl
  | true => exact absurd (List.contains_iff_mem.1 hc) h
open Ml in
theorem HasInv.start {N : List GN} {s : GS} {words : List Str} {w : Str} (h : GOk N s words) : HasInv N s words w 0 (fineT w) 0 := by
  refine ⟨fun hf => contains_no fun hm => ?_, fun hf => ?_, by omega⟩
  · have := fine_iff.2 (h.good.fine w hm)
    rw [this] at hf; cases hf
  · obtain ⟨es, h1, h2⟩ := h.root
    refine ⟨fine_iff.1 hf, (words, es), h1, h2, h.good, ?_⟩
    rw [List.drop_zero, (encT_runes w (fine_iff.1 hf)).1]
theorem HasInv.skip {N : List GN} {s : Ml.GS} {words : List Str} {w : Str} {k : Nat} {n : Int} (h : HasInv N s words w k false n) : HasInv N s words w (k + 1) false n := ⟨h.no, fun e => (by cases e), h.n0⟩
open Ml in
theorem runesM_at {w : Str} {k : Nat} {r : Int} (h : (runesM w)[k]? = some r) : Fine w ∧ ∃ c : Nat, (runes w)[k]? = some c ∧ r = (c : Int) ∧ goodN c := by
  unfold runesM at h
  split at h
  · rename_i hf
    have hf := fine_iff.1 hf
    unfold runesI at h
    rw [List.getElem?_map] at h
    obtain ⟨c, hc, rfl⟩ := Option.map_eq_some_iff.1 h
    exact ⟨hf, c, hc, rfl, (encT_runes w hf).2 c (List.mem_of_getElem? hc)⟩
  · simp at h
open Ml in
theorem HasInv.step {N : List GN} {s : GS} {words : List Str} {w : Str} {k : Nat} {n r : Int} (hN : GOk N s words) (h : HasInv N s words w k true n) (hr : (runesM w)[k]? = some r) :
    HasInv N s words w (k + 1) (nextM (nodeAt N n).2 r).isSome ((nextM (nodeAt N n).2 r).getD 0) := by
  obtain ⟨hf, x, h1, h2, h3, h4⟩ := h.yes rfl
  obtain ⟨_, c, hc, rfl, hgc⟩ := runesM_at hr
  have hn := next_c h2 h3 hgc
  have hd : (runes w).drop k = c :: (runes w).drop (k + 1) := drop_el' hc
  have he : encT ((runes w).drop k) = encL c ++ encT ((runes w).drop (k + 1)) := by rw [hd]; rfl
  rw [he] at h4
  rw [h1]
  simp only
  cases hx : nextM x.2 (c : Int) with
  | none =>
    exact ⟨fun _ => contains_no fun hm => hn.1 hx _ (h4.1 hm), fun e => (by cases e), by simp⟩
  | some j =>
    obtain ⟨m, b, es, rfl, hs, hb⟩ := hn.2 j hx
    have hy := hN.node _ (List.mem_of_getElem? hs)
    have hlt := (List.getElem?_eq_some_iff.1 hs).1
    have hsz := hN.size
    refine ⟨fun e => (by cases e), fun _ => ⟨hf, (b, es), ?_, hy.1, hy.2.1, ?_⟩, by simp only [Option.getD_some]; omega⟩
    · simp only [Option.getD_some]; rw [hN.nodes]; exact gnOf_at hs
    · rw [h4]; exact hb _
open Ml in
theorem HasInv.fin {N : List GN} {s : GS} {words : List Str} {w : Str} {k : Nat} {n : Int} (h : HasInv N s words w k true n) (hk : (runesM w).length ≤ k) : (nodeAt N n).1 = words.contains w := by
  obtain ⟨hf, x, h1, h2, h3, h4⟩ := h.yes rfl
  have hl : (runes w).length ≤ k := by
    unfold runesM at hk
    rw [if_pos (fine_iff.2 hf)] at hk
    simpa [runesI] using hk
  rw [List.drop_of_length_le hl] at h4
  have h5 : w ∈ words ↔ [] ∈ x.1 := h4
  rw [h1, Bool.eq_iff_iff, fin_mem h3, List.contains_iff_mem]
  exact h5.symm
open Ml in
theorem GOk.edges {N : List GN} {s : GS} {words : List Str} (h : GOk N s words) : (∀ x ∈ N, ∀ e ∈ x.2, I64 e.to ∧ -2147483648 ≤ e.rune ∧ e.rune ≤ 2147483647) ∧ N.length ≤ 1000000 ∧ ∀ x ∈ N, x.2.length ≤ 1000000 := by
  rw [h.nodes]
  refine ⟨fun x hx e he => ?_, by rw [gnOf_len]; exact h.size, fun x hx => ?_⟩
  · obtain ⟨y, hy, rfl⟩ := List.mem_map.1 hx
    obtain ⟨k, hk⟩ := List.mem_iff_getElem?.1 he
    obtain ⟨g, j, es, h1, h2, h3, h4, h5, h6⟩ := edge_at (h.node y hy).1 (h.node y hy).2.1 hk
    have := (List.getElem?_eq_some_iff.1 h4).1
    have := h.size
    obtain ⟨h7, _⟩ := h5
    unfold I64; omega
  · obtain ⟨y, hy, rfl⟩ := List.mem_map.1 hx
    exact h.elen y hy
def fromM (words : List Str) (w : Str) (most : Int) : List Str := (Ml.eachF (fromF w most) [] words).1
theorem fromM_eq (words : List Str) (w : Str) (most : Int) : fromM words w most = (Ml.eachF (fromF w most) [] words).1 := rfl
theorem HasInv.step' {N : List GN} {s : Ml.GS} {words : List Str} {w : Str} {k : Nat} {n r : Int} {b : Bool} (hN : GOk N s words) (h : HasInv N s words w k true n) (hr : (Ml.runesM w)[k]? = some r) (hb : b = (Ml.nextM (nodeAt N n).2 r).isSome) :
    HasInv N s words w (k + 1) b ((Ml.nextM (nodeAt N n).2 r).getD 0) := by rw [hb]; exact h.step hN hr
theorem HasInv.start' {N : List GN} {s : Ml.GS} {words : List Str} {w : Str} {b : Bool} (h : GOk N s words) (hb : b = Ml.fineT w) : HasInv N s words w 0 b 0 := by rw [hb]; exact HasInv.start h
theorem runesM_rng {w : Str} {k : Nat} {r : Int} (h : (Ml.runesM w)[k]? = some r) : 0 ≤ r ∧ r ≤ 1114111 := by
  obtain ⟨_, c, _, rfl, h1, _⟩ := runesM_at h
  omega
end Go.Ik
/-
  Graphs while they are built.
-/
set_option linter.unusedVariables false
set_option linter.unusedSimpArgs false
namespace Go.Ml
open Go.Ik

theorem sumLen_cons (s : Str) (l : List Str) : sumLen (s :: l) = s.length + sumLen l := by simp [sumLen]
theorem sumLen_app (a b : List Str) : sumLen (a ++ b) = sumLen a + sumLen b := by simp [sumLen]
theorem sumLen_map (p : Str) (l : List Str) : sumLen (l.map (p ++ ·)) = l.length * p.length + sumLen l := by
  induction l with
  | nil => simp [sumLen]
  | cons s l ih => simp only [List.map_cons, sumLen_cons, ih, List.length_append, List.length_cons, Nat.add_mul, Nat.one_mul]; omega
/-- a group's rests are shorter by its beginning -/
theorem strip_sum {p : Str} (hp : 1 ≤ p.length) (l : List Str) : sumLen (stripP p l) + (stripP p l).length + sumLen (moreP p l) ≤ sumLen l := by
  have h := congrArg sumLen (strip_app p l)
  rw [sumLen_app, sumLen_map] at h
  have := Nat.mul_le_mul_left (stripP p l).length hp
  omega
theorem strip_len (p : Str) (l : List Str) : (stripP p l).length + (moreP p l).length = l.length := by
  have h := congrArg List.length (strip_app p l)
  rw [List.length_append, List.length_map] at h; exact h
theorem sumLen_dropE (l : List Str) : sumLen (dropE l) = sumLen l := by
  cases l with
  | nil => rfl
  | cons a r => cases a <;> simp [dropE, sumLen]
theorem dropE_len (l : List Str) : (dropE l).length ≤ l.length := by
  cases l with
  | nil => simp [dropE]
  | cons a r => cases a <;> simp [dropE]
def gsum (gs : List (Nat × List Str)) : Nat := (gs.map fun g => sumLen g.2 + 1).sum
theorem gsum_groups : ∀ (n : Nat) (l : List Str), l.length ≤ n → GoodR l → (∀ s ∈ l, s ≠ []) → gsum (groups l) ≤ sumLen l
  | _, [], _, _, _ => by simp [groups_nil, gsum]
  | 0, s :: r, h, _, _ => by simp at h
  | n + 1, s :: r, hn, h, hne => by
    have hl := more_len s r
    simp only [List.length_cons] at hn
    have hs := hne s (by simp)
    have hf := h.fine s (by simp)
    have hp : pfx s = encL (hdN s) := (enc_dec hs ((fine_cons hs).1 hf).1).2.symm
    have ih := gsum_groups n (moreP (pfx s) (s :: r)) (by omega) (h.more _) (fun t ht => hne t ((List.dropWhile_suffix _).subset ht))
    have h1 := strip_sum (p := pfx s) (by rw [hp]; exact encL_pos _) (s :: r)
    have h2 : 1 ≤ (stripP (pfx s) (s :: r)).length := by
      unfold stripP
      rw [List.takeWhile_cons, if_pos (pfx_is s)]; simp
    rw [groups_cons]
    unfold gsum at ih ⊢
    simp only [List.map_cons, List.sum_cons]
    omega
theorem edgesM_len {add : GS → List Str → GS × Nat} : ∀ (gs : List (Nat × List Str)) (s : GS), (∀ g ∈ gs, ∀ s, (add s g.2).1.length ≤ s.length + 1 + sumLen g.2) → (edgesM add s gs).1.length ≤ s.length + gsum gs
  | [], s, _ => by simp [edgesM, gsum]
  | g :: gs, s, h => by
    have h1 := h g (by simp) s
    have h2 := edgesM_len gs (add s g.2).1 (fun g' hg' => h g' (by simp [hg']))
    show (edgesM add (add s g.2).1 gs).1.length ≤ _
    unfold gsum at h2 ⊢
    simp only [List.map_cons, List.sum_cons]
    omega
theorem addM_len : ∀ (f : Nat) (s : GS) (rests : List Str), GoodR rests → (addM f s rests).1.length ≤ s.length + 1 + sumLen rests
  | 0, s, rests, _ => by simp [addM]; omega
  | f + 1, s, rests, hg => by
    unfold addM
    cases hi : s.findIdx? fun x => x.1 == rests with
    | some i => simp; omega
    | none =>
      simp only [List.length_set]
      have hd := dropE_good hg
      have ok := groups_ok _ _ (Nat.le_refl _) hd.1 hd.2
      have h1 := edgesM_len (add := addM f) (groups (dropE rests)) (s ++ [(rests, [])]) (fun g hgm s' => addM_len f s' g.2 (ok.good g hgm).2.2)
      have h2 := gsum_groups _ _ (Nat.le_refl _) hd.1 hd.2
      rw [sumLen_dropE] at h2
      simp only [List.length_append, List.length_cons, List.length_nil] at h1
      omega
theorem addM_names {f : Nat} {s : GS} {rests : List Str} (hd : Deep f rests) (hg : GoodR rests) (hne : rests ≠ []) (hn : (names s).Nodup) (hok : NamesOk s) : NamesOk (addM (f + 1) s rests).1 ∧ (names (addM (f + 1) s rests).1).Nodup := by
  have h := addM_ok f s rests hd hg hne hn
  obtain ⟨t, e, k⟩ := h.tail
  refine ⟨fun x hx => ?_, h.apart⟩
  rw [e] at hx
  rcases List.mem_append.1 hx with hx | hx
  · exact hok x hx
  · exact ⟨(k x hx).ne, (k x hx).good.noff⟩
theorem addM_lt {f : Nat} {s : GS} {rests : List Str} (hd : Deep f rests) (hg : GoodR rests) (hne : rests ≠ []) (hn : (names s).Nodup) : (addM (f + 1) s rests).2 < (addM (f + 1) s rests).1.length := by
  obtain ⟨es, h⟩ := (addM_ok f s rests hd hg hne hn).here
  exact (List.getElem?_eq_some_iff.1 h).1
/-- how far the edges of a node have come -/
def EInv (f : Nat) (S0 : GS) (gs0 : List (Nat × List Str)) (sc : GS) (ES : List Ed) (r1 : List Str) : Prop :=
  edgesM (addM f) S0 gs0 = ((edgesM (addM f) sc (groups r1)).1, ES ++ (edgesM (addM f) sc (groups r1)).2)
theorem EInv.start (f : Nat) (S0 : GS) (r : List Str) : EInv f S0 (groups r) S0 [] r := by unfold EInv; simp
theorem EInv.next {f : Nat} {S0 : GS} {gs0 : List (Nat × List Str)} {sc : GS} {ES : List Ed} {s : Str} {r : List Str} (h : EInv f S0 gs0 sc ES (s :: r)) :
    EInv f S0 gs0 (addM f sc (stripP (pfx s) (s :: r))).1 (ES ++ [⟨(hdN s : Int), ((addM f sc (stripP (pfx s) (s :: r))).2 : Int)⟩]) (moreP (pfx s) (s :: r)) := by
  unfold EInv at h ⊢
  rw [h, groups_cons]
  simp only [edgesM, List.append_assoc, List.cons_append, List.nil_append]
theorem EInv.fin {f : Nat} {S0 : GS} {gs0 : List (Nat × List Str)} {sc : GS} {ES : List Ed} (h : EInv f S0 gs0 sc ES []) : edgesM (addM f) S0 gs0 = (sc, ES) := by
  unfold EInv at h; rw [h, groups_nil]; simp [edgesM]
theorem addM_hit {f : Nat} {s : GS} {rests : List Str} {i : Nat} (h : (s.findIdx? fun x => x.1 == rests) = some i) : addM (f + 1) s rests = (s, i) := by
  unfold addM; rw [h]
theorem addM_miss {f : Nat} {s xs : GS} {rests : List Str} {ES : List Ed} (h : (s.findIdx? fun x => x.1 == rests) = none) (he : edgesM (addM f) (s ++ [(rests, [])]) (groups (dropE rests)) = (s ++ (rests, []) :: xs, ES)) : addM (f + 1) s rests = (s ++ (rests, ES) :: xs, s.length) := by
  unfold addM; rw [h]
  simp only [he]
  rw [List.set_append_right _ _ (Nat.le_refl _)]
  simp
theorem EInv.cast {f : Nat} {S0 sc sc' : GS} {gs0 : List (Nat × List Str)} {ES : List Ed} {r r' : List Str} (h : EInv f S0 gs0 sc ES r) (e1 : sc = sc') (e2 : r = r') : EInv f S0 gs0 sc' ES r' := by subst e1 e2; exact h
theorem EInv.next2 {f : Nat} {S0 : GS} {gs0 : List (Nat × List Str)} {sc : GS} {ES : List Ed} {x : Str} {r1 : List Str} (hx : r1[0]? = some x) (h : EInv f S0 gs0 sc ES r1) :
    EInv f S0 gs0 (addM f sc (stripP (pfx x) r1)).1 (ES ++ [⟨(hdN x : Int), ((addM f sc (stripP (pfx x) r1)).2 : Int)⟩]) (moreP (pfx x) r1) := by
  rw [head_cons hx] at h ⊢
  exact h.next
theorem names_put {s : GS} {rests : List Str} (hf : (s.findIdx? fun x => x.1 == rests) = none) (hnd : (names s).Nodup) (hok : NamesOk s) (hne : rests ≠ []) (hr : ∀ t ∈ rests, NoFF t) : NamesOk (s ++ (rests, []) :: []) ∧ (names (s ++ (rests, []) :: [])).Nodup := by
  have hno := findIdx_none hf
  refine ⟨fun x hx => ?_, ?_⟩
  · rcases List.mem_append.1 hx with hx | hx
    · exact hok x hx
    · simp only [List.mem_singleton] at hx
      subst hx; exact ⟨hne, hr⟩
  · unfold names
    rw [List.map_append, List.nodup_append]
    refine ⟨hnd, by simp, fun a ha b hb => ?_⟩
    simp only [List.map_cons, List.map_nil, List.mem_singleton] at hb
    subst hb
    exact fun e => hno (by rw [← e]; exact ha)
theorem strip_facts {r1 : List Str} {x : Str} {f : Nat} (hx : r1[0]? = some x) (hr : GoodR r1 ∧ (∀ t ∈ r1, t ≠ []) ∧ Deep (f + 1) r1) :
    GoodR (stripP (pfx x) r1) ∧ stripP (pfx x) r1 ≠ [] ∧ Deep f (stripP (pfx x) r1) ∧ sumLen (stripP (pfx x) r1) + (stripP (pfx x) r1).length + sumLen (moreP (pfx x) r1) ≤ sumLen r1 ∧ (stripP (pfx x) r1).length + (moreP (pfx x) r1).length = r1.length ∧ 1 ≤ (stripP (pfx x) r1).length := by
  obtain ⟨hg, hn, hd⟩ := hr
  have hxm := List.mem_of_getElem? hx
  have hxn := hn x hxm
  have hp : pfx x = encL (hdN x) := (enc_dec hxn ((fine_cons hxn).1 (hg.fine x hxm)).1).2.symm
  have hgn := ((hg.fine x hxm).split hxn).1
  have h1 : 1 ≤ (stripP (pfx x) r1).length := by
    rw [head_cons hx]
    unfold stripP
    rw [List.takeWhile_cons, if_pos (pfx_is x)]; simp
  refine ⟨?_, ?_, fun t ht => ?_, strip_sum (by rw [hp]; exact encL_pos _) _, strip_len _ _, h1⟩
  · rw [head_cons hx] at hg ⊢
    exact strip_good hg hxn
  · intro e; rw [e] at h1; simp at h1
  · have hm := hd _ (strip_mem ht)
    rw [hp] at hm
    have h2 := runes_app (c := hdN x) hgn t
    unfold hdN at hm h2
    rw [h2] at hm
    simp only [List.length_cons] at hm
    omega
theorem deep_succ {f : Nat} {r1 : List Str} {x : Str} (hd : Deep f r1) (hx : x ∈ r1) (hn : x ≠ []) : ∃ f2, f = f2 + 1 := by
  have := hd x hx
  rw [runes_cons hn] at this
  simp only [List.length_cons] at this
  exact ⟨f - 1, by omega⟩
theorem sum_mem {l : List Str} {x : Str} (h : x ∈ l) : x.length ≤ sumLen l := by
  induction l with
  | nil => simp at h
  | cons a l ih =>
    rw [sumLen_cons]
    rcases List.mem_cons.1 h with rfl | h
    · omega
    · have := ih h; omega
theorem dropE_nil {l : List Str} {x : Str} (hx : l[0]? = some x) (h : x = []) : dropE l = l.drop 1 ∧ finB l = true := by
  rw [head_cons hx, h]; simp [dropE, finB]
theorem dropE_cons {l : List Str} {x : Str} (hx : l[0]? = some x) (h : x ≠ []) : dropE l = l ∧ finB l = false := by
  have hl := head_cons hx
  cases x with
  | nil => exact absurd rfl h
  | cons a x =>
    constructor
    · rw [hl]; rfl
    · rw [hl]; simp [finB]
theorem mapK_es (s xs : GS) (r : List Str) (es es' : List Ed) : mapK (s ++ (r, es) :: xs) = mapK (s ++ (r, es') :: xs) := mapK_names (by simp [names])
/-- a group, as it is gone through: 'k' of them have the beginning -/
structure SpanInv (p : Str) (l : List Str) (k : Nat) (b : List Str) : Prop where
  is : b = (l.take k).map fun t => t.drop p.length
  all : ∀ t ∈ l.take k, p.isPrefixOf t = true
theorem SpanInv.start (p : Str) (l : List Str) : SpanInv p l 0 [] := ⟨by simp, by simp⟩
theorem SpanInv.next {p : Str} {l : List Str} {k : Nat} {b : List Str} {t : Str} (h : SpanInv p l k b) (ht : l[k]? = some t) (hp : p.isPrefixOf t = true) : SpanInv p l (k + 1) (b ++ [t.drop p.length]) := by
  refine ⟨by rw [h.is, List.take_add_one, ht]; simp, fun u hu => ?_⟩
  rw [List.take_add_one, ht] at hu
  simp only [Option.toList_some, List.mem_append, List.mem_singleton] at hu
  rcases hu with hu | rfl
  · exact h.all u hu
  · exact hp
theorem SpanInv.nxt {p : Str} {l : List Str} {k m : Nat} {b : List Str} {t : Str} (h : SpanInv p l k b) (hm : p.length = m) (ht : l[k]? = some t) (hp : p.isPrefixOf t = true) : SpanInv p l (k + 1) (b ++ [t.drop m]) := by rw [← hm]; exact h.next ht hp
theorem takeWhile_take {α : Type} {p : α → Bool} {l : List α} {k : Nat} (h1 : ∀ t ∈ l.take k, p t = true) (h2 : ∀ t, l[k]? = some t → p t = false) : l.takeWhile p = l.take k ∧ l.dropWhile p = l.drop k := by
  have e : l = l.take k ++ l.drop k := (List.take_append_drop k l).symm
  have h3 : (l.drop k).takeWhile p = [] ∧ (l.drop k).dropWhile p = l.drop k := by
    cases hd : l.drop k with
    | nil => simp
    | cons t r =>
      have : l[k]? = some t := by rw [← List.head?_drop, hd]; rfl
      have := h2 t this
      simp [List.takeWhile_cons, List.dropWhile_cons, this]
  constructor
  · conv => lhs; rw [e]
    rw [List.takeWhile_append_of_pos h1, h3.1, List.append_nil]
  · conv => lhs; rw [e]
    rw [List.dropWhile_append_of_pos h1, h3.2]
theorem SpanInv.fin {p : Str} {l : List Str} {k : Nat} {b : List Str} (h : SpanInv p l k b) (he : l.length ≤ k ∨ ∃ t, l[k]? = some t ∧ p.isPrefixOf t = false) : b = stripP p l ∧ l.drop k = moreP p l := by
  have := takeWhile_take h.all (fun t ht => by
    rcases he with he | ⟨u, hu, hp⟩
    · rw [List.getElem?_eq_none he] at ht; cases ht
    · rw [hu] at ht; cases ht; exact hp)
  unfold stripP moreP
  rw [this.1, this.2]
  exact ⟨h.is, rfl⟩
theorem hp_le {p t : Str} {n : Nat} (h : p.isPrefixOf t = true) (hn : p.length = n) : n ≤ t.length := by
  have := congrArg List.length (prefix_drop h)
  rw [List.length_append] at this; omega
theorem pfx_len {s : Str} (hs : s ≠ []) : (pfx s).length = wdN s := by
  have := dec_le s hs
  unfold pfx wdN
  rw [List.length_take]; omega
end Go.Ml
namespace Go.Ik
open Go

def NR (w : World) (F : Nat → Prop) (t : List RNode) (xs : Ml.GS) : Prop := All2 (fun r x => r.fin = Ml.finB x.1 ∧ Sl Ml.encE w F r.e.val x.2) t xs
/-- blocks of an interval but one, but two -/
def Ivx (lo hi x : Nat) : Nat → Prop := fun b => lo ≤ b ∧ b < hi ∧ b + 1 ≠ x
def Ivy (lo hi x y : Nat) : Nat → Prop := fun b => lo ≤ b ∧ b < hi ∧ b + 1 ≠ x ∧ b + 1 ≠ y
theorem NR.keep {M : Nat → Prop} {w w' : World} {F : Nat → Prop} {t : List RNode} {xs : Ml.GS} (h : NR w F t xs) (hm : Mod M w w') (hF : ∀ b, F b → ¬ M b) : NR w' F t xs := All2.imp (fun r n ⟨h1, h2⟩ => ⟨h1, h2.keep hm hF⟩) h
theorem NR.mono {w : World} {F F' : Nat → Prop} {t : List RNode} {xs : Ml.GS} (h : NR w F t xs) (hF : ∀ b, F b → F' b) : NR w F' t xs := All2.imp (fun r n ⟨h1, h2⟩ => ⟨h1, h2.mono hF⟩) h
theorem NR.len {w : World} {F : Nat → Prop} {t : List RNode} {xs : Ml.GS} (h : NR w F t xs) : t.length = xs.length := (All2.get h).1
theorem NR.ext {w w' : World} {F : Nat → Prop} {t : List RNode} {xs : Ml.GS} (h : NR w F t xs) (hm : Ext w w') : NR w' F t xs := h.keep hm (fun _ _ x => x)
def NRy (w : World) (lo hi x y : Nat) (t : List RNode) (xs : Ml.GS) : Prop := NR w (Ivy lo hi x y) t xs
theorem NRy.ext {w w' : World} {lo hi x y : Nat} {t : List RNode} {xs : Ml.GS} (h : NRy w lo hi x y t xs) (hm : Ext w w') : NRy w' lo hi x y t xs := NR.ext h hm
theorem NRy.keepG {w w' : World} {lo hi x y g : Nat} {t : List RNode} {xs : Ml.GS} (h : NRy w lo hi x y t xs) (hm : Mod (Mg g) w w') (hg : g ≤ lo ∨ hi < g ∨ g = x ∨ g = y) : NRy w' lo hi x y t xs := NR.keep h hm fun b hb hx => by unfold Ivy Mg at *; omega
theorem NRy.keepG3 {w w' : World} {lo hi x y g g2 g3 : Nat} {t : List RNode} {xs : Ml.GS} (h : NRy w lo hi x y t xs) (hm : Mod (Mg3 g g2 g3) w w') (hg : (g ≤ lo ∨ hi < g ∨ g = x ∨ g = y) ∧ (g2 ≤ lo ∨ hi < g2 ∨ g2 = x ∨ g2 = y) ∧ (g3 ≤ lo ∨ hi < g3 ∨ g3 = x ∨ g3 = y)) : NRy w' lo hi x y t xs := NR.keep h hm fun b hb hx => by unfold Ivy Mg3 at *; omega
theorem NRy.re {w : World} {lo hi x x' y : Nat} {t : List RNode} {xs : Ml.GS} (h : NRy w lo hi x y t xs) (hx : x' = x ∨ hi < x') : NRy w lo hi x' y t xs := NR.mono h fun b hb => by unfold Ivy at *; omega
theorem NRy.add {w : World} {lo mid hi' hi x y y2 : Nat} {t t2 : List RNode} {xs xs2 : Ml.GS} (h : NRy w lo mid x y t xs) (h2 : NR w (Ivx hi' hi y2) t2 xs2) (hm : mid ≤ hi') (hx : x ≤ hi') (hl : lo ≤ hi') (hh : hi' ≤ hi) (hy : y2 = y ∨ hi' < y2) : NRy w lo hi x y2 (t ++ t2) (xs ++ xs2) :=
  All2.app (NR.mono h fun b hb => by unfold Ivy at *; omega) (NR.mono h2 fun b hb => by unfold Ivx at hb; unfold Ivy; omega)
theorem NRy.out {w : World} {lo hi hi2 x y : Nat} {t : List RNode} {xs : Ml.GS} (h : NRy w lo hi x y t xs) (hh : hi ≤ hi2) : NR w (Ivx lo hi2 y) t xs := NR.mono h fun b hb => by unfold Ivy at hb; unfold Ivx; omega
/-! three blocks that may be written -/
section
variable {g h k : Nat} {w w' : World}
theorem Bk.keepG3 {b : Nat} {cs : List Value} {e : TypeId} (x : Bk w b cs e) (hm : Mod (Mg3 g h k) w w') (hg : b + 1 ≠ g ∧ b + 1 ≠ h ∧ b + 1 ≠ k) : Bk w' b cs e := x.keep hm (by unfold Mg3; omega)
theorem Acc.keepG3 {α : Type} {enc : α → List Value} {e : TypeId} {sz gg : Nat} {v : Value} {l : List α} (x : Acc enc e sz w gg v l) (hm : Mod (Mg3 g h k) w w') (hg : gg = 0 ∨ (gg ≠ g ∧ gg ≠ h ∧ gg ≠ k)) : Acc enc e sz w' gg v l := x.keep hm fun b hb hx => by unfold Mg3 at hx; omega
theorem Sl.keepG3 {α : Type} {enc : α → List Value} {lo hi : Nat} {v : Value} {l : List α} (x : Sl enc w (Iv lo hi) v l) (hm : Mod (Mg3 g h k) w w') (hg : (g ≤ lo ∨ hi < g) ∧ (h ≤ lo ∨ hi < h) ∧ (k ≤ lo ∨ hi < k)) : Sl enc w' (Iv lo hi) v l := x.keep hm fun b hb hx => by unfold Iv Mg3 at *; omega
theorem Ext.thenG3_0 {w0 : World} (x : Ext w0 w) (hm : Mod (Mg3 g h k) w w') (hg : (g = 0 ∨ w0.heap.size < g) ∧ (h = 0 ∨ w0.heap.size < h) ∧ (k = 0 ∨ w0.heap.size < k)) : Ext w0 w' := x.then hm (fun i hi hl => by unfold Mg3 at hi; omega)
theorem Mod.thenG3_3 {a b c : Nat} {w0 : World} (x : Mod (Mg3 a b c) w0 w) (hm : Mod (Mg3 g h k) w w') (hg : (g = 0 ∨ w0.heap.size < g ∨ g = a ∨ g = b ∨ g = c) ∧ (h = 0 ∨ w0.heap.size < h ∨ h = a ∨ h = b ∨ h = c) ∧ (k = 0 ∨ w0.heap.size < k ∨ k = a ∨ k = b ∨ k = c)) : Mod (Mg3 a b c) w0 w' := x.then hm (fun i hi hl => by unfold Mg3 at *; omega)
end
theorem mapO_cast {w : World} {b : Nat} {m m' : List (Str × Int)} (h : MapO strV intV w b m) (e : m = m') : MapO strV intV w b m' := e ▸ h
theorem Q1.lookupHit {P : Program} {E : Env} {C : World → Prop} {d : Option Tmp} {ty : TypeId} {pos : String} {af : Array Edge} {gd : Option (Nat × Bool)} {α β : Type} [DecidableEq α] {key : α → Value} {val : β → Value} {t kt et : TypeId} {x y : Operand} {b : Nat} {m : List (α × β)} {a : α} {z : Value} {u : β} (hk : KeyOk P kt key) (ht : P.underlying t = some (.map kt et)) (hz : ∀ w, (zeroValue et).run P w = .ok z w) (hx : ev E x = some (.map (some b))) (hy : ev E y = some (key a)) (hm : ∀ w, C w → MapO key val w b m) (hu : asc m a = some u) :
    Q1 P ⟨d, .lookup t x y true, ty, pos, af, gd⟩ E C (.tuple #[val u, .bool true]) := by
  have h := Q1.lookupOk (d := d) (ty := ty) (pos := pos) (af := af) (gd := gd) (g := true) (n := 0) (by_ := 0) hk ht hz hx hy hm
  rw [hu] at h; exact h
theorem Q1.lookupMiss {P : Program} {E : Env} {C : World → Prop} {d : Option Tmp} {ty : TypeId} {pos : String} {af : Array Edge} {gd : Option (Nat × Bool)} {α β : Type} [DecidableEq α] {key : α → Value} {val : β → Value} {t kt et : TypeId} {x y : Operand} {b : Nat} {m : List (α × β)} {a : α} {z : Value} (hk : KeyOk P kt key) (ht : P.underlying t = some (.map kt et)) (hz : ∀ w, (zeroValue et).run P w = .ok z w) (hx : ev E x = some (.map (some b))) (hy : ev E y = some (key a)) (hm : ∀ w, C w → MapO key val w b m) (hu : asc m a = none) :
    Q1 P ⟨d, .lookup t x y true, ty, pos, af, gd⟩ E C (.tuple #[z, .bool false]) := by
  have h := Q1.lookupOk (d := d) (ty := ty) (pos := pos) (af := af) (gd := gd) (g := true) (n := 0) (by_ := 0) hk ht hz hx hy hm
  rw [hu] at h; exact h
/-- kept out of sight -/
structure Hid (p : Prop) : Prop where
  out : p
theorem apart_now {bB bG bM gN gNc n : Nat} (hap : Hid (bB ≠ bG ∧ bB ≠ bM ∧ bB + 1 ≠ gN ∧ bG + 1 ≠ gN ∧ bM ≠ bG ∧ bM + 1 ≠ gN)) (hgn : Hid (gNc = gN ∨ n < gNc)) (h1 : bB < n) (h2 : bG < n) (h4 : bM < n) : bB ≠ bG ∧ bB ≠ bM ∧ bB + 1 ≠ gNc ∧ bG + 1 ≠ gNc ∧ bM ≠ bG ∧ bM + 1 ≠ gNc := by
  have := hap.out; have := hgn.out; omega
theorem apart_b {bB bG bM g : Nat} (h : bB ≠ bG ∧ bB ≠ bM ∧ bB + 1 ≠ g ∧ bG + 1 ≠ g ∧ bM ≠ bG ∧ bM + 1 ≠ g) : bB + 1 ≠ bG + 1 ∧ bB + 1 ≠ bM + 1 ∧ bB + 1 ≠ g := by omega
theorem far_now {bG bM gN gNc n lo hi : Nat} (hra : Hid ((bG + 1 ≤ lo ∨ hi < bG + 1) ∧ (bM + 1 ≤ lo ∨ hi < bM + 1) ∧ (gN ≤ lo ∨ hi < gN))) (hgn : Hid (gNc = gN ∨ n < gNc)) (hhi : hi ≤ n) : (bG + 1 ≤ lo ∨ hi < bG + 1) ∧ (bM + 1 ≤ lo ∨ hi < bM + 1) ∧ (gNc ≤ lo ∨ hi < gNc) := by
  have h := hra.out
  refine ⟨h.1, h.2.1, ?_⟩
  rcases hgn.out with e | e
  · rw [e]; exact h.2.2
  · exact .inr (by omega)
theorem far_new {bG bM gNc g n : Nat} (hg : g = 0 ∨ n < g) (h2 : bG < n) (h4 : bM < n) (hn : g ≠ gNc ∨ gNc = 0) : (bG + 1 ≤ g - 1 ∨ g < bG + 1) ∧ (bM + 1 ≤ g - 1 ∨ g < bM + 1) ∧ (gNc ≤ g - 1 ∨ g < gNc) := by omega
theorem acc_far {bG bM gNc g n : Nat} (hg : g = 0 ∨ n < g) (h2 : bG < n) (h4 : bM < n) (hn : g ≠ gNc ∨ g = 0) : g = 0 ∨ (g ≠ bG + 1 ∧ g ≠ bM + 1 ∧ g ≠ gNc) := by omega
theorem mods_now {bG bM gN gNc n : Nat} (hgn : Hid (gNc = gN ∨ n < gNc)) : (bG + 1 = 0 ∨ n < bG + 1 ∨ bG + 1 = bG + 1 ∨ bG + 1 = bM + 1 ∨ bG + 1 = gN) ∧ (bM + 1 = 0 ∨ n < bM + 1 ∨ bM + 1 = bG + 1 ∨ bM + 1 = bM + 1 ∨ bM + 1 = gN) ∧ (gNc = 0 ∨ n < gNc ∨ gNc = bG + 1 ∨ gNc = bM + 1 ∨ gNc = gN) := by
  refine ⟨.inr (.inr (.inl rfl)), .inr (.inr (.inr (.inl rfl))), ?_⟩
  rcases hgn.out with e | e
  · exact .inr (.inr (.inr (.inr e)))
  · exact .inr (.inl e)
theorem grow_now {gN gNc gN2 n m : Nat} (hgn : Hid (gNc = gN ∨ n < gNc)) (h : gN2 = gNc ∨ m < gN2) (hnm : n ≤ m) : Hid (gN2 = gN ∨ n < gN2) := ⟨by
  rcases h with e | e
  · rw [e]; exact hgn.out
  · exact .inr (by omega)⟩
end Go.Ik
/-
  A graph as Build answers it.
-/
set_option linter.unusedVariables false
set_option linter.unusedSimpArgs false
namespace Go.Ml
open Go.Ik

theorem encT_len : ∀ rs : List Nat, (encT rs).length ≤ 4 * rs.length
  | [] => by simp [encT]
  | c :: rs => by
    have h := encT_len rs
    have h4 := encL_len4 c
    have e : encT (c :: rs) = encL c ++ encT rs := rfl
    rw [e, List.length_append, List.length_cons]; omega
theorem word_short {w : Str} (h : word w = true) : w.length ≤ 48 := by
  unfold word at h
  rw [Bool.and_eq_true, decide_eq_true_eq, decide_eq_true_eq] at h
  have hf : Fine w := by
    intro hm
    unfold lenT at h; rw [if_pos hm] at h; omega
  have hl := lenT_fine hf
  have he := encT_len (runes w)
  rw [(encT_runes w hf).1] at he
  omega
theorem sum_le {l : List Str} {m : Nat} (h : ∀ x ∈ l, x.length ≤ m) : sumLen l ≤ l.length * m := by
  induction l with
  | nil => simp [sumLen]
  | cons a l ih =>
    rw [sumLen_cons, List.length_cons, Nat.add_mul]
    have := h a (by simp)
    have := ih fun x hx => h x (by simp [hx])
    omega
theorem good_sum {l : List Str} (h : goodL l = 0) : l.length ≤ 60 ∧ sumLen l ≤ 2880 := by
  obtain ⟨h1, h2, _⟩ := good_words h
  have := sum_le (l := l) (m := 48) fun x hx => word_short (h2 x hx)
  omega
/-- nodes of words as they are built -/
def graphB (words : List Str) : GS := if words = [] then [([], [])] else graphM words
def gnodes (words : List Str) : List GN := if goodL words = 0 then gnOf (graphB words) else []
theorem gnodes_no {words : List Str} (h : goodL words ≠ 0) : gnodes words = [] := by unfold gnodes; rw [if_neg h]
theorem gnodes_yes {words : List Str} (h : goodL words = 0) : gnodes words = gnOf (graphB words) := by unfold gnodes; rw [if_pos h]
theorem gnodes_nil {words : List Str} (h : words = []) : gnodes words = [(false, [])] := by subst h; decide
theorem graphM_len {words : List Str} (h : goodL words = 0) : (graphM words).length ≤ 2881 := by
  have h1 := addM_len 13 [] words (good_deep h).1
  have h2 := (good_sum h).2
  unfold graphM
  simp only [List.length_nil] at h1
  omega
theorem all2_len {α β : Type} {R : α → β → Prop} {a : List α} {b : List β} (h : All2 R a b) : a.length = b.length := (All2.get h).1
theorem groups_count : ∀ (n : Nat) (l : List Str), l.length ≤ n → (groups l).length ≤ l.length
  | _, [], _ => by simp [groups_nil]
  | 0, _ :: _, h => by simp at h
  | n + 1, s :: r, h => by
    rw [groups_cons]
    have hm := more_len s r
    have := groups_count n (moreP (pfx s) (s :: r)) (by simp only [List.length_cons] at h; omega)
    simp only [List.length_cons]; omega
theorem strip_le (p : Str) (l : List Str) : (stripP p l).length ≤ l.length := by have := strip_len p l; omega
theorem groups_sub : ∀ (n : Nat) (l : List Str), l.length ≤ n → ∀ g ∈ groups l, g.2.length ≤ l.length
  | _, [], _, g, hg => by simp [groups_nil] at hg
  | 0, _ :: _, h, _, _ => by simp at h
  | n + 1, s :: r, h, g, hg => by
    rw [groups_cons] at hg
    have hm := more_len s r
    rcases List.mem_cons.1 hg with rfl | hg
    · exact strip_le _ _
    · have := groups_sub n (moreP (pfx s) (s :: r)) (by simp only [List.length_cons] at h; omega) g hg
      simp only [List.length_cons]; omega
theorem edgesM_names {add : GS → List Str → GS × Nat} {L : Nat} : ∀ (gs : List (Nat × List Str)) (s : GS), (∀ g ∈ gs, ∀ s, (∀ y ∈ s, y.1.length ≤ L) → ∀ y ∈ (add s g.2).1, y.1.length ≤ L) → (∀ y ∈ s, y.1.length ≤ L) → ∀ y ∈ (edgesM add s gs).1, y.1.length ≤ L
  | [], s, _, hs => hs
  | g :: gs, s, h, hs => by
    show ∀ y ∈ (edgesM add (add s g.2).1 gs).1, _
    exact edgesM_names gs _ (fun g' hg' => h g' (by simp [hg'])) (h g (by simp) s hs)
theorem addM_short {L : Nat} : ∀ (f : Nat) (s : GS) (rests : List Str), (∀ y ∈ s, y.1.length ≤ L) → rests.length ≤ L → ∀ y ∈ (addM f s rests).1, y.1.length ≤ L
  | 0, s, rests, hs, _ => hs
  | f + 1, s, rests, hs, hr => by
    unfold addM
    cases hi : s.findIdx? fun x => x.1 == rests with
    | some i => exact hs
    | none =>
      have h1 := edgesM_names (add := addM f) (L := L) (groups (dropE rests)) (s ++ [(rests, [])]) (fun g hgm s' hs' => addM_short f s' g.2 hs' (by
        have := groups_sub _ (dropE rests) (Nat.le_refl _) g hgm
        have := dropE_len rests
        omega)) (fun y hy => by
          rcases List.mem_append.1 hy with hy | hy
          · exact hs y hy
          · simp only [List.mem_singleton] at hy; subst hy; exact hr)
      intro y hy
      rcases List.mem_or_eq_of_mem_set hy with hy | rfl
      · exact h1 y hy
      · exact hr
theorem gok_of {words : List Str} (h : goodL words = 0) : GOk (gnodes words) (graphB words) words := by
  rw [gnodes_yes h]
  unfold graphB
  split
  · rename_i he; subst he; exact GOk.empty
  · rename_i he
    have hw := graphM_ok (good_deep h).2 (good_deep h).1 he
    have hl := graphM_len h
    refine GOk.of hw (by omega) fun y hy => ?_
    have hc := all2_len (hw.node y hy).corr
    have hg := groups_count _ (dropE y.1) (Nat.le_refl _)
    have hd := dropE_len y.1
    have hyl : y.1.length ≤ 60 := addM_short 13 [] words (by simp) (good_sum h).1 y hy
    omega
end Go.Ml
namespace Go.Ik
open Go

theorem nr_rel {w : World} {F : Nat → Prop} : ∀ {t : List RNode} {xs : Ml.GS}, NR w F t xs → NRel w F t (gnOf xs)
  | _, _, .nil => .nil
  | _, _, .cons h r => .cons h (nr_rel r)
theorem gr_built {w : World} {bG gN lo n m : Nat} {vN : Value} {e nt : TypeId} {t : List RNode} {xs : Ml.GS} (hb : Bk w bG [vN] e) (hN : Acc encN nt 2 w gN vN t) (hR : NR w (Ivx n m gN) t xs) (h1 : lo ≤ bG) (h2 : lo ≤ n) (hg : gN = 0 ∨ lo < gN) (hm : m ≤ w.heap.size) (hne : xs ≠ []) :
    Gr 0 w lo w.heap.size (ptr bG 0) (gnOf xs) :=
  .inr ⟨bG, vN, t, rfl, by simpa [gnOf] using hne, ⟨h1, hb.lt, hb.row⟩, hN.fresh hg, nr_rel (NR.mono hR fun b hb => by unfold Ivx at hb; unfold Iv; omega)⟩
theorem gr_one {w : World} {bG lo lo' hi' : Nat} {vN : Value} {e : TypeId} (hb : Bk w bG [vN] e) (hs : Sl encN w (Iv lo' hi') vN [RNode.mk false (SH.mk none 0 0)]) (h1 : lo ≤ bG) (h2 : lo ≤ lo') (h3 : hi' ≤ w.heap.size) : Gr 0 w lo w.heap.size (ptr bG 0) [(false, [])] :=
  .inr ⟨bG, vN, _, rfl, by simp, ⟨h1, hb.lt, hb.row⟩, hs.iv h2 h3, .cons ⟨rfl, Sl.nil⟩ .nil⟩
end Go.Ik
/-
  Resources that lie apart from one another, by their blocks.
-/
set_option linter.unusedVariables false
set_option linter.unusedSimpArgs false
set_option linter.unusedSectionVars false
namespace Go.Ik
open Go

/-- what is said of some blocks, and of blocks 'R' that nobody writes -/
structure Res (R : Nat → Prop) where
  p : (Nat → Prop) → World → Prop
  keep : ∀ {F : Nat → Prop} {w w' : World} {M : Nat → Prop}, p F w → Mod M w w' → (∀ b, F b → ¬ M b) → (∀ b, R b → ¬ M b) → p F w'

/-- resources that lie apart within blocks 'U' -/
def Sep {R : Nat → Prop} (L : List (Res R)) (U : Nat → Prop) (w : World) : Prop :=
  ∃ Fs : Nat → Nat → Prop, (∀ (i : Nat) (A : Res R), L[i]? = some A → A.p (Fs i) w) ∧ (∀ i b, Fs i b → (U b ∧ ¬ R b) ∧ b < w.heap.size) ∧ ∀ i j b, i ≠ j → Fs i b → ¬ Fs j b

section
variable {R : Nat → Prop} {L : List (Res R)} {U : Nat → Prop} {w w' : World}
theorem Sep.keep {M : Nat → Prop} (h : Sep L U w) (hm : Mod M w w') (hU : ∀ b, U b → b < w.heap.size → ¬ M b) (hR : ∀ b, R b → ¬ M b) : Sep L U w' := by
  obtain ⟨Fs, h1, h2, h3⟩ := h
  exact ⟨Fs, fun i A hA => A.keep (h1 i A hA) hm (fun b hb => hU b (h2 i b hb).1.1 (h2 i b hb).2) hR, fun i b hb => ⟨(h2 i b hb).1, Nat.lt_of_lt_of_le (h2 i b hb).2 hm.size⟩, h3⟩
theorem Sep.mono {U' : Nat → Prop} (h : Sep L U w) (hU : ∀ b, U b → U' b) : Sep L U' w := by
  obtain ⟨Fs, h1, h2, h3⟩ := h
  exact ⟨Fs, h1, fun i b hb => ⟨⟨hU b (h2 i b hb).1.1, (h2 i b hb).1.2⟩, (h2 i b hb).2⟩, h3⟩
theorem Sep.act {i : Nat} {A : Res R} (h : Sep L U w) (hR : ∀ b, R b → b < w.heap.size) (hi : L[i]? = some A) : ∃ F, A.p F w ∧ (∀ b, F b → (U b ∧ ¬ R b) ∧ b < w.heap.size) ∧ ∀ (w' : World) (F' : Nat → Prop) (A' : Res R), Mod F w w' → A'.p F' w' → (∀ b, F' b → b < w'.heap.size ∧ (F b ∨ (w.heap.size ≤ b ∧ U b))) → Sep (L.set i A') U w' := by
  obtain ⟨Fs, h1, h2, h3⟩ := h
  refine ⟨Fs i, h1 i A hi, h2 i, fun w' F' A' hm hA' hF' => ⟨fun k => if k = i then F' else Fs k, fun k B hB => ?_, fun k b hb => ?_, fun j k b hjk hj hk => ?_⟩⟩
  · by_cases hk : k = i
    · subst hk
      rw [List.getElem?_set_self (List.getElem?_eq_some_iff.1 hi).1] at hB
      simp only [if_true]
      cases hB; exact hA'
    · rw [List.getElem?_set_ne (fun e => hk e.symm)] at hB
      simp only [if_neg hk]
      exact B.keep (h1 k B hB) hm (fun b hb hx => h3 k i b hk hb hx) fun b hb hx => (h2 i b hx).1.2 hb
  · by_cases hk : k = i
    · subst hk
      simp only [if_true] at hb
      obtain ⟨h4, h5⟩ := hF' b hb
      exact ⟨h5.elim (fun h => (h2 k b h).1) (fun h => ⟨h.2, fun hr => by have := hR b hr; omega⟩), h4⟩
    · simp only [if_neg hk] at hb
      exact ⟨(h2 k b hb).1, Nat.lt_of_lt_of_le (h2 k b hb).2 hm.size⟩
  · by_cases hji : j = i
    · have hki : k ≠ i := fun e => hjk (hji.trans e.symm)
      simp only [if_pos hji] at hj
      simp only [if_neg hki] at hk
      rcases (hF' b hj).2 with h5 | h5
      · exact h3 i k b (fun e => hki e.symm) h5 hk
      · have := (h2 k b hk).2; omega
    · simp only [if_neg hji] at hj
      by_cases hki : k = i
      · simp only [if_pos hki] at hk
        rcases (hF' b hk).2 with h5 | h5
        · exact h3 j i b hji hj h5
        · have := (h2 j b hj).2; omega
      · simp only [if_neg hki] at hk
        exact h3 j k b hjk hj hk
theorem Sep.new {A : Res R} {F : Nat → Prop} (h : Sep L U w) (hR : ∀ b, R b → b < w.heap.size) (hm : Ext w w') (hA : A.p F w') (hF : ∀ b, F b → U b ∧ w.heap.size ≤ b ∧ b < w'.heap.size) : Sep (L ++ [A]) U w' := by
  obtain ⟨Fs, h1, h2, h3⟩ := h
  refine ⟨fun k => if k = L.length then F else Fs k, fun k B hB => ?_, fun k b hb => ?_, fun j k b hjk hj hk => ?_⟩
  · by_cases hk : k = L.length
    · subst hk
      rw [List.getElem?_append_right (Nat.le_refl _)] at hB
      simp only [Nat.sub_self, List.getElem?_cons_zero, Option.some.injEq] at hB
      subst hB
      simp only [if_true]; exact hA
    · simp only [if_neg hk]
      have hlt := (List.getElem?_eq_some_iff.1 hB).1
      simp only [List.length_append, List.length_cons, List.length_nil] at hlt
      rw [List.getElem?_append_left (by omega)] at hB
      exact B.keep (h1 k B hB) hm (fun b hb hx => hx) fun _ _ hx => hx
  · by_cases hk : k = L.length
    · simp only [if_pos hk] at hb
      exact ⟨⟨(hF b hb).1, fun hr => by have := hR b hr; have := (hF b hb).2.1; omega⟩, (hF b hb).2.2⟩
    · simp only [if_neg hk] at hb
      exact ⟨(h2 k b hb).1, Nat.lt_of_lt_of_le (h2 k b hb).2 hm.size⟩
  · by_cases hji : j = L.length
    · have hki : k ≠ L.length := fun e => hjk (hji.trans e.symm)
      simp only [if_pos hji] at hj
      simp only [if_neg hki] at hk
      have := (h2 k b hk).2; have := (hF b hj).2.1; omega
    · simp only [if_neg hji] at hj
      by_cases hki : k = L.length
      · simp only [if_pos hki] at hk
        have := (h2 j b hj).2; have := (hF b hk).2.1; omega
      · simp only [if_neg hki] at hk
        exact h3 j k b hjk hj hk
theorem sel_at {α : Type} {L : List α} : ∀ (is : List Nat) (k : Nat), (∀ i ∈ is, i < L.length) → (is.filterMap fun i => L[i]?)[k]? = (is[k]?).bind fun i => L[i]?
  | [], k, _ => by simp
  | i :: is, 0, h => by
    have := h i (by simp)
    simp [List.getElem?_eq_getElem this]
  | i :: is, k + 1, h => by
    have := h i (by simp)
    rw [List.filterMap_cons, List.getElem?_eq_getElem this]
    simp only [List.getElem?_cons_succ]
    exact sel_at is k fun j hj => h j (by simp [hj])
theorem Sep.sel (is : List Nat) (h : Sep L U w) (hl : (is.all fun i => decide (i < L.length)) = true) (hn : is.Nodup) : Sep (is.filterMap fun i => L[i]?) U w := by
  obtain ⟨Fs, h1, h2, h3⟩ := h
  have hl' : ∀ i ∈ is, i < L.length := fun i hi => of_decide_eq_true (List.all_eq_true.1 hl i hi)
  refine ⟨fun k b => ∃ i, is[k]? = some i ∧ Fs i b, fun k B hB => ?_, fun k b hb => ?_, fun j k b hjk hj hk => ?_⟩
  · rw [sel_at is k hl'] at hB
    obtain ⟨i, hi, hB⟩ := Option.bind_eq_some_iff.1 hB
    have e : (fun b => ∃ i, is[k]? = some i ∧ Fs i b) = Fs i := by
      funext b
      rw [hi]
      exact propext ⟨fun ⟨j, hj, hb⟩ => by cases hj; exact hb, fun hb => ⟨i, rfl, hb⟩⟩
    show B.p (fun b => ∃ i, is[k]? = some i ∧ Fs i b) w
    rw [e]; exact h1 i B hB
  · obtain ⟨i, _, hb⟩ := hb
    exact h2 i b hb
  · obtain ⟨i, hi, hbi⟩ := hj
    obtain ⟨i', hi', hbi'⟩ := hk
    refine h3 i i' b (fun e => ?_) hbi hbi'
    subst e
    obtain ⟨q1, q2⟩ := List.getElem?_eq_some_iff.1 hi
    obtain ⟨q3, q4⟩ := List.getElem?_eq_some_iff.1 hi'
    exact hjk ((List.getElem_inj hn).1 (q2.trans q4.symm))
theorem Sep.imp {i : Nat} {A A' : Res R} (h : Sep L U w) (hR : ∀ b, R b → b < w.heap.size) (hi : L[i]? = some A) (hA : ∀ F, A.p F w → A'.p F w) : Sep (L.set i A') U w := by
  obtain ⟨F, h1, h2, k⟩ := h.act hR hi
  exact k w F A' (Mod.refl _ _) (hA F h1) fun b hb => ⟨(h2 b hb).2, .inl hb⟩
theorem Sep.two {i j : Nat} {A B : Res R} (h : Sep L U w) (hi : L[i]? = some A) (hj : L[j]? = some B) (hn : i ≠ j) : ∃ F G, A.p F w ∧ B.p G w ∧ (∀ b, G b → ¬ F b) := by
  obtain ⟨Fs, h1, h2, h3⟩ := h
  exact ⟨Fs i, Fs j, h1 i A hi, h1 j B hj, fun b hb hx => h3 i j b hn hx hb⟩
end
/-- several as one -/
def boxR {R : Nat → Prop} (L : List (Res R)) : Res R := ⟨fun F w => Sep L F w, fun h hm hF hR => h.keep hm (fun b hb _ => hF b hb) hR⟩
theorem Sep.close {R : Nat → Prop} {L1 L2 : List (Res R)} {U : Nat → Prop} {w : World} (h : Sep (L1 ++ L2) U w) : Sep (L1 ++ [boxR L2]) U w := by
  obtain ⟨Fs, h1, h2, h3⟩ := h
  refine ⟨fun k b => if k < L1.length then Fs k b else k = L1.length ∧ ∃ j, Fs (L1.length + j) b, fun k B hB => ?_, fun k b hb => ?_, fun j k b hjk hj hk => ?_⟩
  · by_cases hk : k < L1.length
    · simp only [if_pos hk]
      rw [List.getElem?_append_left hk] at hB
      exact h1 k B (by rw [List.getElem?_append_left hk]; exact hB)
    · have hlt := (List.getElem?_eq_some_iff.1 hB).1
      simp only [List.length_append, List.length_cons, List.length_nil] at hlt
      have hk' : k = L1.length := by omega
      subst hk'
      rw [List.getElem?_append_right (Nat.le_refl _)] at hB
      simp only [Nat.sub_self, List.getElem?_cons_zero, Option.some.injEq] at hB
      subst hB
      simp only [Nat.lt_irrefl, if_false, true_and]
      exact ⟨fun j => Fs (L1.length + j), fun j A hA => h1 _ A (by rw [List.getElem?_append_right (by omega), Nat.add_sub_cancel_left]; exact hA), fun j b hb => ⟨⟨⟨j, hb⟩, (h2 _ b hb).1.2⟩, (h2 _ b hb).2⟩, fun i j b hij => h3 _ _ b (by omega)⟩
  · by_cases hk : k < L1.length
    · simp only [if_pos hk] at hb; exact h2 k b hb
    · simp only [if_neg hk] at hb
      obtain ⟨_, j, hb⟩ := hb
      exact h2 _ b hb
  · by_cases hj' : j < L1.length
    · simp only [if_pos hj'] at hj
      by_cases hk' : k < L1.length
      · simp only [if_pos hk'] at hk; exact h3 j k b hjk hj hk
      · simp only [if_neg hk'] at hk
        obtain ⟨_, m, hk⟩ := hk
        exact h3 j _ b (by omega) hj hk
    · simp only [if_neg hj'] at hj
      obtain ⟨e, m, hj⟩ := hj
      by_cases hk' : k < L1.length
      · simp only [if_pos hk'] at hk
        exact h3 _ k b (by omega) hj hk
      · simp only [if_neg hk'] at hk
        exact hjk (e.trans hk.1.symm)
theorem Sep.open {R : Nat → Prop} {L1 L2 : List (Res R)} {U : Nat → Prop} {w : World} (h : Sep (L1 ++ [boxR L2]) U w) : Sep (L1 ++ L2) U w := by
  obtain ⟨Fs, h1, h2, h3⟩ := h
  obtain ⟨Gs, g1, g2, g3⟩ := h1 L1.length (boxR L2) (by rw [List.getElem?_append_right (Nat.le_refl _)]; simp)
  refine ⟨fun k => if k < L1.length then Fs k else Gs (k - L1.length), fun k B hB => ?_, fun k b hb => ?_, fun j k b hjk hj hk => ?_⟩
  · by_cases hk : k < L1.length
    · simp only [if_pos hk]
      rw [List.getElem?_append_left hk] at hB
      exact h1 k B (by rw [List.getElem?_append_left hk]; exact hB)
    · simp only [if_neg hk]
      rw [List.getElem?_append_right (by omega)] at hB
      exact g1 _ B hB
  · by_cases hk : k < L1.length
    · simp only [if_pos hk] at hb; exact h2 k b hb
    · simp only [if_neg hk] at hb
      exact ⟨(h2 _ b (g2 _ b hb).1.1).1, (g2 _ b hb).2⟩
  · by_cases hj' : j < L1.length
    · simp only [if_pos hj'] at hj
      by_cases hk' : k < L1.length
      · simp only [if_pos hk'] at hk; exact h3 j k b hjk hj hk
      · simp only [if_neg hk'] at hk
        exact h3 j L1.length b (by omega) hj (g2 _ b hk).1.1
    · simp only [if_neg hj'] at hj
      by_cases hk' : k < L1.length
      · simp only [if_pos hk'] at hk
        exact h3 L1.length k b (by omega) (g2 _ b hj).1.1 hk
      · simp only [if_neg hk'] at hk
        exact g3 _ _ b (by omega) hj hk

/-! kinds of resources -/
section
variable {R : Nat → Prop}
def bkR (b : Nat) (cs : List Value) (e : TypeId) : Res R := ⟨fun F w => Bk w b cs e ∧ F b, fun h hm hF _ => ⟨h.1.keep hm (hF b h.2), h.2⟩⟩
def accR {α : Type} (enc : α → List Value) (e : TypeId) (sz : Nat) (v : Value) (l : List α) : Res R :=
  ⟨fun F w => ∃ g, Acc enc e sz w g v l ∧ ∀ b, b + 1 = g → F b, fun ⟨g, h1, h2⟩ hm hF _ => ⟨g, h1.keep hm fun b hb => hF b (h2 b hb.symm), h2⟩⟩
/-- slices that are read only, in blocks of one's own or in those that nobody writes -/
def slR {α : Type} (enc : α → List Value) (vs : List (Value × List α)) : Res R :=
  ⟨fun F w => ∀ x ∈ vs, Sl enc w (fun b => F b ∨ R b) x.1 x.2, fun h hm hF hR x hx => (h x hx).keep hm fun b hb => hb.elim (hF b) (hR b)⟩
def mapR {α β : Type} [DecidableEq α] (key : α → Value) (val : β → Value) (b : Nat) (m : List (α × β)) : Res R :=
  ⟨fun F w => MapO key val w b m ∧ F b, fun {F w w' M} h hm hF _ => ⟨by
    obtain ⟨⟨es, c, h1, h2⟩, hb⟩ := h
    exact ⟨es, c, hm.keep _ _ h1 (hF b hb), h2⟩, h.2⟩⟩
def itR (b : Nat) (s : Str) (pos : Nat) : Res R := ⟨fun F w => It w b s pos ∧ F b, fun h hm hF _ => ⟨hm.keep _ _ h.1 (hF b h.2), h.2⟩⟩
def lentR {α : Type} (enc : α → List Value) (e : TypeId) (b : Nat) (l r : List α) : Res R := ⟨fun F w => Lent enc e w b l r ∧ F b, fun h hm hF _ => ⟨hm.keep _ _ h.1 (hF b h.2), h.2⟩⟩
def exR {α : Type} (A : α → Res R) : Res R := ⟨fun F w => ∃ a, (A a).p F w, fun ⟨a, h⟩ hm hF hR => ⟨a, (A a).keep h hm hF hR⟩⟩
def andR (P : Prop) (A : Res R) : Res R := ⟨fun F w => P ∧ A.p F w, fun h hm hF hR => ⟨h.1, A.keep h.2 hm hF hR⟩⟩
def noR : Res R := ⟨fun _ _ => True, fun _ _ _ _ => trivial⟩
end
theorem mg_weaken {F : Nat → Prop} {b : Nat} {w w' : World} (hm : Mod (Mg (b + 1)) w w') (hb : F b) : Mod F w w' := hm.weaken fun b' hb' _ => by
  have e : b' = b := by unfold Mg at hb'; omega
  rw [e]; exact hb
/-- where a walk stands: what may have been written since the call began; what is held -/
structure St (R F0 : Nat → Prop) (w0 w : World) (L : List (Res R)) : Prop where
  mod : Mod F0 w0 w
  far : ∀ b, R b → b < w0.heap.size ∧ ¬ F0 b
  sep : Sep L (fun b => F0 b ∨ w0.heap.size ≤ b) w

section
variable {R F0 : Nat → Prop} {w0 w w' : World} {L : List (Res R)} {i j : Nat} {A B : Res R}
theorem St.rlt (h : St R F0 w0 w L) : ∀ b, R b → b < w.heap.size := fun b hb => Nat.lt_of_lt_of_le (h.far b hb).1 h.mod.size
theorem St.start (w0 : World) (hR : ∀ b, R b → b < w0.heap.size) : St R (fun _ => False) w0 w0 [] := ⟨Mod.refl _ _, fun b hb => ⟨hR b hb, id⟩, ⟨fun _ _ => False, fun i A h => by simp at h, fun _ _ h => h.elim, fun _ _ _ _ h => h.elim⟩⟩
theorem St.start0 (w0 : World) : St (fun _ => False) (fun _ => False) w0 w0 [] := St.start w0 fun _ h => h.elim
theorem St.start1 {F : Nat → Prop} (hA : A.p F w0) (hF : ∀ b, F b → b < w0.heap.size ∧ ¬ R b) (hR : ∀ b, R b → b < w0.heap.size) : St R F w0 w0 [A] := ⟨Mod.refl _ _, fun b hb => ⟨hR b hb, fun h => (hF b h).2 hb⟩, ⟨fun i b => i = 0 ∧ F b, fun i B h => by
    cases i with
    | zero =>
      simp only [List.getElem?_cons_zero, Option.some.injEq] at h
      subst h
      simpa using hA
    | succ i => simp at h, fun i b h => ⟨⟨.inl h.2, (hF b h.2).2⟩, (hF b h.2).1⟩, fun i j b hij h1 h2 => hij (h1.1.trans h2.1.symm)⟩⟩
theorem St.ext (h : St R F0 w0 w L) (hm : Ext w w') : St R F0 w0 w' L := ⟨h.mod.ext hm, h.far, h.sep.keep hm (fun _ _ _ x => x) fun _ _ x => x⟩
theorem St.get (h : St R F0 w0 w L) (hi : L[i]? = some A) : ∃ F, A.p F w ∧ ∀ b, F b → b < w.heap.size := by
  obtain ⟨Fs, h1, h2, _⟩ := h.sep
  exact ⟨Fs i, h1 i A hi, fun b hb => (h2 i b hb).2⟩
theorem St.act (h : St R F0 w0 w L) (hi : L[i]? = some A) : ∃ F, A.p F w ∧ (∀ b, F b → ((F0 b ∨ w0.heap.size ≤ b) ∧ ¬ R b) ∧ b < w.heap.size) ∧ ∀ (w' : World) (F' : Nat → Prop) (A' : Res R), Mod F w w' → A'.p F' w' → (∀ b, F' b → b < w'.heap.size ∧ (F b ∨ w.heap.size ≤ b)) → St R F0 w0 w' (L.set i A') := by
  obtain ⟨F, h1, h2, k⟩ := h.sep.act h.rlt hi
  refine ⟨F, h1, h2, fun w' F' A' hm hA' hF' => ⟨h.mod.then hm fun b hb hl => (h2 b hb).1.1.resolve_right (by omega), h.far, k w' F' A' hm hA' fun b hb => ⟨(hF' b hb).1, (hF' b hb).2.imp id fun hb => ⟨hb, .inr (Nat.le_trans h.mod.size hb)⟩⟩⟩⟩
theorem St.act2 (h : St R F0 w0 w L) (hi : L[i]? = some A) (hj : L[j]? = some B) (hn : i ≠ j) : ∃ F G, A.p F w ∧ B.p G w ∧ (∀ b, G b → ¬ F b) ∧ (∀ b, F b → ((F0 b ∨ w0.heap.size ≤ b) ∧ ¬ R b) ∧ b < w.heap.size) ∧ (∀ b, G b → b < w.heap.size) ∧ ∀ (w' : World) (F' : Nat → Prop) (A' : Res R), Mod F w w' → A'.p F' w' → (∀ b, F' b → b < w'.heap.size ∧ (F b ∨ w.heap.size ≤ b)) → St R F0 w0 w' (L.set i A') := by
  obtain ⟨Fs, h1, h2, h3⟩ := h.sep
  let U : Nat → Prop := fun b => F0 b ∨ w0.heap.size ≤ b
  have hS : Sep L U w := ⟨Fs, h1, h2, h3⟩
  refine ⟨Fs i, Fs j, h1 i A hi, h1 j B hj, fun b hb hx => h3 i j b hn hx hb, h2 i, fun b hb => (h2 j b hb).2, fun w' F' A' hm hA' hF' => ⟨h.mod.then hm fun b hb hl => (h2 i b hb).1.1.resolve_right (by omega), h.far, ?_⟩⟩
  refine ⟨fun k => if k = i then F' else Fs k, fun k B hB => ?_, fun k b hb => ?_, fun j k b hjk hj hk => ?_⟩
  · by_cases hk : k = i
    · subst hk
      rw [List.getElem?_set_self (List.getElem?_eq_some_iff.1 hi).1] at hB
      simp only [if_true]
      cases hB; exact hA'
    · rw [List.getElem?_set_ne (fun e => hk e.symm)] at hB
      simp only [if_neg hk]
      exact B.keep (h1 k B hB) hm (fun b hb hx => h3 k i b hk hb hx) fun b hb hx => (h2 i b hx).1.2 hb
  · by_cases hk : k = i
    · subst hk
      simp only [if_true] at hb
      obtain ⟨h4, h5⟩ := hF' b hb
      exact ⟨h5.elim (fun h => (h2 k b h).1) (fun hb => ⟨.inr (Nat.le_trans h.mod.size hb), fun hr => by have := h.rlt b hr; omega⟩), h4⟩
    · simp only [if_neg hk] at hb
      exact ⟨(h2 k b hb).1, Nat.lt_of_lt_of_le (h2 k b hb).2 hm.size⟩
  · by_cases hji : j = i
    · have hki : k ≠ i := fun e => hjk (hji.trans e.symm)
      simp only [if_pos hji] at hj
      simp only [if_neg hki] at hk
      rcases (hF' b hj).2 with h5 | h5
      · exact h3 i k b (fun e => hki e.symm) h5 hk
      · have := (h2 k b hk).2; omega
    · simp only [if_neg hji] at hj
      by_cases hki : k = i
      · simp only [if_pos hki] at hk
        rcases (hF' b hk).2 with h5 | h5
        · exact h3 j i b hji hj h5
        · have := (h2 j b hj).2; omega
      · simp only [if_neg hki] at hk
        exact h3 j k b hjk hj hk
theorem St.new {F : Nat → Prop} (h : St R F0 w0 w L) (hm : Ext w w') (hA : A.p F w') (hF : ∀ b, F b → w.heap.size ≤ b ∧ b < w'.heap.size) : St R F0 w0 w' (L ++ [A]) :=
  ⟨h.mod.ext hm, h.far, h.sep.new h.rlt hm hA fun b hb => ⟨.inr (Nat.le_trans h.mod.size (hF b hb).1), hF b hb⟩⟩
theorem St.sel (is : List Nat) (h : St R F0 w0 w L) (hl : (is.all fun i => decide (i < L.length)) = true) (hn : is.Nodup) : St R F0 w0 w (is.filterMap fun i => L[i]?) := ⟨h.mod, h.far, h.sep.sel is hl hn⟩
theorem St.imp {A' : Res R} (h : St R F0 w0 w L) (hi : L[i]? = some A) (hA : ∀ F, A.p F w → A'.p F w) : St R F0 w0 w (L.set i A') := ⟨h.mod, h.far, h.sep.imp h.rlt hi hA⟩
theorem St.close {L1 L2 : List (Res R)} (h : St R F0 w0 w (L1 ++ L2)) : St R F0 w0 w (L1 ++ [boxR L2]) := ⟨h.mod, h.far, h.sep.close⟩
theorem St.open {L1 L2 : List (Res R)} (h : St R F0 w0 w (L1 ++ [boxR L2])) : St R F0 w0 w (L1 ++ L2) := ⟨h.mod, h.far, h.sep.open⟩
theorem St.fin (h : St R F0 w0 w [A]) : Mod F0 w0 w ∧ ∃ F', A.p F' w ∧ ∀ b, F' b → b < w.heap.size ∧ (F0 b ∨ w0.heap.size ≤ b) := by
  obtain ⟨Fs, h1, h2, _⟩ := h.sep
  exact ⟨h.mod, Fs 0, h1 0 A rfl, fun b hb => ⟨(h2 0 b hb).2, (h2 0 b hb).1.1⟩⟩
theorem St.exo {α : Type} {A : α → Res R} (h : St R F0 w0 w L) (hi : L[i]? = some (exR A)) : ∃ a, St R F0 w0 w (L.set i (A a)) := by
  obtain ⟨F, ⟨a, ha⟩, h2, k⟩ := h.act hi
  exact ⟨a, k w F (A a) (Mod.refl _ _) ha fun b hb => ⟨(h2 b hb).2, .inl hb⟩⟩
theorem St.exi {α : Type} {A : α → Res R} (h : St R F0 w0 w L) (a : α) (hi : L[i]? = some (A a)) : St R F0 w0 w (L.set i (exR A)) := h.imp hi fun F x => ⟨a, x⟩

/-! blocks -/
theorem St.bk {b : Nat} {cs : List Value} {e : TypeId} (h : St R F0 w0 w L) (hi : L[i]? = some (bkR b cs e)) : Bk w b cs e := by
  obtain ⟨F, h1, _⟩ := h.get hi; exact h1.1
theorem St.bkK {b : Nat} {cs cs' : List Value} {e : TypeId} (h : St R F0 w0 w L) (hi : L[i]? = some (bkR b cs e)) (hm : Mod (Mg (b + 1)) w w') (hk : Bk w' b cs' e) : St R F0 w0 w' (L.set i (bkR b cs' e)) := by
  obtain ⟨F, h1, h2, k⟩ := h.act hi
  exact k w' F _ (mg_weaken hm h1.2) ⟨hk, h1.2⟩ fun b hb => ⟨Nat.lt_of_lt_of_le (h2 b hb).2 hm.size, .inl hb⟩
theorem St.newBk {b : Nat} {cs : List Value} {e : TypeId} (h : St R F0 w0 w L) (hm : Ext w w') (hb : b = w.heap.size) (hk : Bk w' b cs e) : St R F0 w0 w' (L ++ [bkR b cs e]) :=
  h.new (F := fun x => x = b) hm ⟨hk, rfl⟩ fun x hx => by have := hk.lt; omega
theorem St.map {α β : Type} [DecidableEq α] {key : α → Value} {val : β → Value} {b : Nat} {m : List (α × β)} (h : St R F0 w0 w L) (hi : L[i]? = some (mapR key val b m)) : MapO key val w b m := by
  obtain ⟨F, h1, _⟩ := h.get hi; exact h1.1
theorem St.mapK {α β : Type} [DecidableEq α] {key : α → Value} {val : β → Value} {b : Nat} {m m' : List (α × β)} (h : St R F0 w0 w L) (hi : L[i]? = some (mapR key val b m)) (hm : Mod (Mg (b + 1)) w w') (hk : MapO key val w' b m') : St R F0 w0 w' (L.set i (mapR key val b m')) := by
  obtain ⟨F, h1, h2, k⟩ := h.act hi
  exact k w' F _ (mg_weaken hm h1.2) ⟨hk, h1.2⟩ fun b hb => ⟨Nat.lt_of_lt_of_le (h2 b hb).2 hm.size, .inl hb⟩
theorem St.newMap {α β : Type} [DecidableEq α] {key : α → Value} {val : β → Value} {b : Nat} {m : List (α × β)} (h : St R F0 w0 w L) (hm : Ext w w') (hb : b = w.heap.size) (hk : MapO key val w' b m) : St R F0 w0 w' (L ++ [mapR key val b m]) :=
  h.new (F := fun x => x = b) hm ⟨hk, rfl⟩ fun x hx => by have := hk.lt; omega
theorem St.it {b : Nat} {s : Str} {pos : Nat} (h : St R F0 w0 w L) (hi : L[i]? = some (itR b s pos)) : It w b s pos := by
  obtain ⟨F, h1, _⟩ := h.get hi; exact h1.1
theorem St.itK {b : Nat} {s : Str} {pos pos' : Nat} (h : St R F0 w0 w L) (hi : L[i]? = some (itR b s pos)) (hm : Mod (Mg (b + 1)) w w') (hk : It w' b s pos') : St R F0 w0 w' (L.set i (itR b s pos')) := by
  obtain ⟨F, h1, h2, k⟩ := h.act hi
  exact k w' F _ (mg_weaken hm h1.2) ⟨hk, h1.2⟩ fun b hb => ⟨Nat.lt_of_lt_of_le (h2 b hb).2 hm.size, .inl hb⟩
theorem St.newIt {b : Nat} {s : Str} {pos : Nat} (h : St R F0 w0 w L) (hm : Ext w w') (hb : b = w.heap.size) (hk : It w' b s pos) : St R F0 w0 w' (L ++ [itR b s pos]) :=
  h.new (F := fun x => x = b) hm ⟨hk, rfl⟩ fun x hx => by have := hk.lt; omega
/-! slices -/
section
variable {α : Type} {enc : α → List Value} {e : TypeId} {sz : Nat} {v : Value} {l : List α}
theorem Acc.uniq {g g' : Nat} {w' : World} (h : Acc enc e sz w g v l) {e' : TypeId} {sz' : Nat} {l' : List α} (h' : Acc enc e' sz' w' g' v l') : g = g' := by
  rcases h with ⟨h1, _, h2⟩ | ⟨b, cap, cur, h0, h1, _⟩ <;> rcases h' with ⟨k1, _, k2⟩ | ⟨b', cap', cur', k0, k1, _⟩
  · omega
  · rw [h1] at k1; simp at k1
  · rw [h1] at k1; simp at k1
  · rw [h1] at k1
    simp only [Value.slice.injEq, Option.some.injEq, Addr.mk.injEq] at k1
    omega
theorem St.accK (h : St R F0 w0 w L) (hi : L[i]? = some (accR enc e sz v l)) : ∃ g, Acc enc e sz w g v l ∧ g ≤ w.heap.size ∧ ∀ (w' : World) (g' : Nat) (v' : Value) (l' : List α), Mod (Mg g) w w' → Acc enc e sz w' g' v' l' → (g' = g ∨ w.heap.size < g') → St R F0 w0 w' (L.set i (accR enc e sz v' l')) := by
  obtain ⟨F, ⟨g, h1, h3⟩, h2, k⟩ := h.act hi
  refine ⟨g, h1, h1.lt, fun w' g' v' l' hm ha hg => k w' (fun b => b + 1 = g') _ (hm.weaken fun b hb _ => h3 b hb) ⟨g', ha, fun b hb => hb⟩ fun b hb => ⟨?_, ?_⟩⟩
  · have := ha.lt; omega
  · rcases hg with hg | hg
    · exact .inl (h3 b (by omega))
    · exact .inr (by omega)
theorem St.acc (h : St R F0 w0 w L) (hi : L[i]? = some (accR enc e sz v l)) : ∃ g, Acc enc e sz w g v l := by
  obtain ⟨g, h1, _⟩ := h.accK hi; exact ⟨g, h1⟩
theorem St.newAcc {g : Nat} (h : St R F0 w0 w L) (hm : Ext w w') (ha : Acc enc e sz w' g v l) (hg : g = 0 ∨ w.heap.size < g) : St R F0 w0 w' (L ++ [accR enc e sz v l]) :=
  h.new (F := fun b => b + 1 = g) hm ⟨g, ha, fun b hb => hb⟩ fun b hb => by have := ha.lt; omega
theorem St.ne {b g : Nat} {cs : List Value} {e' : TypeId} (h : St R F0 w0 w L) (hi : L[i]? = some (accR enc e sz v l)) (hj : L[j]? = some (bkR b cs e')) (hij : i ≠ j) (ha : Acc enc e sz w g v l) : b + 1 ≠ g := by
  obtain ⟨F, G, ⟨g', h1, h2⟩, h3, h4⟩ := h.sep.two hi hj hij
  have := ha.uniq h1
  subst this
  intro e
  exact h4 b h3.2 (h2 b e)
theorem St.sl {vs : List (Value × List α)} {k : Nat} (h : St R F0 w0 w L) (hi : L[i]? = some (slR enc vs)) (hk : vs[k]? = some (v, l)) : Sl enc w (Iv 0 w.heap.size) v l := by
  obtain ⟨F, h1, h2⟩ := h.get hi
  exact (h1 _ (List.mem_of_getElem? hk)).mono fun b hb => ⟨Nat.zero_le _, hb.elim (h2 b) (h.rlt b)⟩
theorem St.slK {vs : List (Value × List α)} {k : Nat} (h : St R F0 w0 w L) (hi : L[i]? = some (slR enc vs)) (hk : vs[k]? = some (v, l)) : ∃ F : Nat → Prop, Sl enc w F v l ∧ ∀ v' l', Sl enc w F v' l' → St R F0 w0 w (L.set i (slR enc (vs ++ [(v', l')]))) := by
  obtain ⟨F, h1, h2, k'⟩ := h.act hi
  refine ⟨fun b => F b ∨ R b, h1 _ (List.mem_of_getElem? hk), fun v' l' hs => k' w F _ (Mod.refl _ _) (fun x hx => ?_) fun b hb => ⟨(h2 b hb).2, .inl hb⟩⟩
  rcases List.mem_append.1 hx with hx | hx
  · exact h1 x hx
  · simp only [List.mem_singleton] at hx
    subst hx; exact hs
theorem St.newSl (h : St R F0 w0 w L) (hm : Ext w w') (hs : Sl enc w' (Iv w.heap.size w'.heap.size) v l) : St R F0 w0 w' (L ++ [slR enc [(v, l)]]) :=
  h.new (F := Iv w.heap.size w'.heap.size) hm (fun x hx => by simp only [List.mem_singleton] at hx; subst hx; exact hs.mono fun b hb => .inl hb) fun b hb => hb
theorem St.newSlB {b : Nat} (h : St R F0 w0 w L) (hm : Ext w w') (hb : b = w.heap.size) (hz : w'.heap.size = w.heap.size + 1) (hs : Sl enc w' (Iv b (b + 1)) v l) : St R F0 w0 w' (L ++ [slR enc [(v, l)]]) :=
  h.newSl hm (hs.mono fun x hx => by unfold Iv at *; omega)
theorem St.view1 {vs : List (Value × List α)} {k : Nat} (h : St R F0 w0 w L) (hi : L[i]? = some (slR enc vs)) (hk : vs[k]? = some (v, l)) : St R F0 w0 w (L.set i (slR enc [(v, l)])) :=
  h.imp hi fun F hx x hx' => by
    simp only [List.mem_singleton] at hx'
    subst hx'
    exact hx _ (List.mem_of_getElem? hk)
theorem Sl.atF {F : Nat → Prop} (h : Sl enc w F v l) {P : Program} {t : TypeId} {by_ : Nat} {g : Bool} {z : List Value} (ht : P.underlying t = some (.slice e)) (he : tyI P e = some (g, sz, by_, z)) (hsz : ∀ x, (enc x).length = sz) {k : IntKind} {n : Int} (i : Nat) (hn : n = (i : Int)) (hi : i < l.length) :
    ∃ x b off, l[i]? = some x ∧ (∀ w, (Instr.indexAt t v (.int k n)).run P w = .ok (ptr b off) w) ∧ F b ∧ Row w b off (enc x) := by
  obtain ⟨b, off, h1, h2, h3⟩ := h.at ht he hsz (k := k) i hn hi
  exact ⟨l[i], b, off, by simp, h1, h2, h3⟩
/-- an element's row, wherever it was found first -/
theorem Sl.rowAt {F : Nat → Prop} (h : Sl enc w F v l) {P : Program} {t : TypeId} {by_ : Nat} {g : Bool} {z : List Value} (ht : P.underlying t = some (.slice e)) (he : tyI P e = some (g, sz, by_, z)) (hsz : ∀ x, (enc x).length = sz) {k : IntKind} {n : Int} (i : Nat) (hn : n = (i : Int)) {x : α} {b off : Nat} (hx : l[i]? = some x)
    (hr : ∀ w, (Instr.indexAt t v (.int k n)).run P w = .ok (ptr b off) w) : Row w b off (enc x) := by
  obtain ⟨x', b', off', hx', hr', _, hrow⟩ := h.atF ht he hsz (k := k) i hn (List.getElem?_eq_some_iff.1 hx).1
  have e1 := (hr w).symm.trans (hr' w)
  simp only [ptr, Result.ok.injEq, Value.pointer.injEq, Option.some.injEq, Addr.mk.injEq, and_true] at e1
  obtain ⟨rfl, rfl⟩ := e1
  rw [hx] at hx'
  cases hx'
  exact hrow
/-- an own slice that is read only from now on -/
theorem St.freeze (h : St R F0 w0 w L) (hi : L[i]? = some (accR enc e sz v l)) : St R F0 w0 w (L.set i (slR enc [(v, l)])) :=
  h.imp hi fun F hx x hx' => by
    obtain ⟨g, h1, h2⟩ := hx
    simp only [List.mem_singleton] at hx'
    subst hx'
    refine h1.sl.mono fun b hb => ?_
    rcases h1 with ⟨_, _, h4⟩ | ⟨b', cap, cur, h0, _⟩
    · unfold Iv at hb; omega
    · exact .inl (h2 b (by unfold Iv at hb; omega))
/-- what lies in blocks that nobody writes -/
theorem St.newFar {G : Nat → Prop} (h : St R F0 w0 w L) (hs : Sl enc w0 G v l) (hG : ∀ b, G b → R b) : St R F0 w0 w (L ++ [slR enc [(v, l)]]) :=
  h.new (F := fun _ => False) (Mod.refl _ _) (fun x hx => by
    simp only [List.mem_singleton] at hx
    subst hx
    exact (hs.keep h.mod fun b hb => (h.far b (hG b hb)).2).mono fun b hb => .inr (hG b hb)) fun _ hb => hb.elim
end
end
/-! what a call that holds nothing of the caller's leaves -/
section
variable {w0 w : World} {R : Nat → Prop} {L0 : List (Res (fun _ => False))} {L : List (Res R)} {i : Nat} {α : Type} {enc : α → List Value} {e : TypeId} {sz : Nat} {v : Value} {l : List α}
theorem St.slOut {vs : List (Value × List α)} {k : Nat} (h : St (fun _ => False) (fun _ => False) w0 w L0) (hi : L0[i]? = some (slR enc vs)) (hk : vs[k]? = some (v, l)) : Sl enc w (Iv w0.heap.size w.heap.size) v l := by
  obtain ⟨F, h1, h2, _⟩ := h.act hi
  exact (h1 _ (List.mem_of_getElem? hk)).mono fun b hb => ⟨(h2 b (hb.resolve_right id)).1.1.resolve_left fun x => x, (h2 b (hb.resolve_right id)).2⟩
theorem St.accOut (h : St R (fun _ => False) w0 w L) (hi : L[i]? = some (accR enc e sz v l)) : ∃ g, Acc enc e sz w g v l ∧ (g = 0 ∨ w0.heap.size < g) := by
  obtain ⟨F, ⟨g, h1, h3⟩, h2, _⟩ := h.act hi
  refine ⟨g, h1, ?_⟩
  rcases (by omega : g = 0 ∨ 0 < g) with hg | hg
  · exact .inl hg
  · have := (h2 (g - 1) (h3 _ (by omega))).1.1.resolve_left fun x => x
    exact .inr (by omega)
theorem St.accSl (h : St R (fun _ => False) w0 w L) (hi : L[i]? = some (accR enc e sz v l)) : Sl enc w (Iv w0.heap.size w.heap.size) v l := by
  obtain ⟨g, h1, h2⟩ := h.accOut hi
  exact h1.fresh h2
end
/-- what lies outside stays -/
theorem St.out {R F0 G : Nat → Prop} {w0 w : World} {L : List (Res R)} {α : Type} {enc : α → List Value} {v : Value} {l : List α} (h : St R F0 w0 w L) (hs : Sl enc w0 G v l) (hG : ∀ b, G b → ¬ F0 b) : Sl enc w G v l := hs.keep h.mod hG
end Go.Ik
namespace Go.Ik
open Go
/-- a list in a cell of its own -/
def tbR {R : Nat → Prop} {α : Type} (te e : TypeId) (sz : Nat) (enc : α → List Value) (bl : Nat) (l : List α) : Res R := exR fun v : Value => boxR [bkR bl [v] te, accR enc e sz v l]
end Go.Ik
/-
  A graph's builder as what is held.
-/
set_option linter.unusedVariables false
set_option linter.unusedSimpArgs false
namespace Go.Ik
open Go Go.Ml

def nrR {R : Nat → Prop} (t : List RNode) (xs : GS) : Res R := ⟨fun F w => NR w F t xs, fun h hm hF _ => NR.keep h hm hF⟩
abbrev No : Nat → Prop := fun _ => False
/-- the builder in block 'bB': the graph, what is found by name, the nodes -/
def bldR (bT gT nT : TypeId) (bB : Nat) (s : GS) (nds : List RNode) : Res No :=
  exR fun x : Nat × Nat × Value => boxR [bkR bB [ptr x.1 0, .map (some x.2.1)] bT, bkR x.1 [x.2.2] gT, mapR strV intV x.2.1 (mapK s), accR encN nT 2 x.2.2 nds]
theorem sep_pair {R : Nat → Prop} {A B : Res R} {F : Nat → Prop} {w : World} (h : (boxR [A, B]).p F w) : ∃ F1 F2, A.p F1 w ∧ B.p F2 w ∧ (∀ b, F1 b → F b) ∧ (∀ b, F2 b → F b) := by
  obtain ⟨Fs, h1, h2, h3⟩ := h
  exact ⟨Fs 0, Fs 1, h1 0 A rfl, h1 1 B rfl, fun b hb => (h2 0 b hb).1.1, fun b hb => (h2 1 b hb).1.1⟩
theorem nr_app {t t2 : List RNode} {xs xs2 : GS} {F : Nat → Prop} {w : World} {R : Nat → Prop} (h : (boxR (R := R) [nrR t xs, nrR t2 xs2]).p F w) : (nrR (R := R) (t ++ t2) (xs ++ xs2)).p F w := by
  obtain ⟨F1, F2, h1, h2, h3, h4⟩ := sep_pair h
  exact All2.app (NR.mono h1 h3) (NR.mono h2 h4)
theorem acc_sl {α : Type} {enc : α → List Value} {e : TypeId} {sz : Nat} {v : Value} {l : List α} {F : Nat → Prop} {w : World} {R : Nat → Prop} (h : (accR (R := R) enc e sz v l).p F w) : Sl enc w F v l := by
  obtain ⟨g, h1, h2⟩ := h
  refine h1.sl.mono fun b hb => ?_
  rcases h1 with ⟨_, _, h4⟩ | ⟨b', cap, cur, h0, _⟩
  · unfold Iv at hb; omega
  · exact h2 b (by unfold Iv at hb; omega)
theorem slR_one {α : Type} {enc : α → List Value} {v : Value} {l : List α} {F : Nat → Prop} {w : World} {R : Nat → Prop} (h : (slR (R := R) enc [(v, l)]).p F w) : Sl enc w (fun b => F b ∨ R b) v l := h (v, l) (List.mem_singleton_self _)
theorem slR_no {α : Type} {enc : α → List Value} {v : Value} {l : List α} {F : Nat → Prop} {w : World} (h : (slR (R := No) enc [(v, l)]).p F w) : Sl enc w F v l := (slR_one h).mono fun b hb => hb.resolve_right id
theorem nr_len {R : Nat → Prop} {A : Res R} {t : List RNode} {xs : GS} {F : Nat → Prop} {w : World} (h : (boxR [A, nrR t xs]).p F w) : t.length = xs.length := by
  obtain ⟨F1, F2, h1, h2, h3, h4⟩ := sep_pair h
  exact NR.len h2
theorem nr_cons {e : TypeId} {v : Value} {es : List Ed} {t : List RNode} {xs : GS} {x : List Str} {r : RNode} {F : Nat → Prop} {w : World} (hv : v = r.e.val) (hf : r.fin = finB x) {R : Nat → Prop} (h : (boxR (R := R) [accR encE e 2 v es, nrR t xs]).p F w) : (nrR (R := R) (r :: t) ((x, es) :: xs)).p F w := by
  obtain ⟨F1, F2, h1, h2, h3, h4⟩ := sep_pair h
  exact .cons ⟨hf, hv ▸ (acc_sl h1).mono h3⟩ (NR.mono h2 h4)
theorem nr_cons0 {t : List RNode} {xs : GS} {x : List Str} {r : RNode} {F : Nat → Prop} {w : World} (hv : r.e.val = .slice none 0 0) (hf : r.fin = finB x) {R : Nat → Prop} (h : (nrR (R := R) t xs).p F w) : (nrR (R := R) (r :: t) ((x, []) :: xs)).p F w :=
  .cons ⟨hf, hv ▸ Sl.nil⟩ h
end Go.Ik
namespace Go.Ik
open Go Go.Ml
theorem St.gr {w0 w : World} {bG : Nat} {gT nT : TypeId} {vN : Value} {t : List RNode} {xs : GS} (h : St No No w0 w [bkR bG [vN] gT, accR encN nT 2 vN t, nrR t xs]) (hne : xs ≠ []) : Gr 0 w w0.heap.size w.heap.size (ptr bG 0) (gnOf xs) := by
  obtain ⟨F, h1, h2, _⟩ := h.act (i := 0) rfl
  have hs := h.accSl (i := 1) rfl
  obtain ⟨F3, h3, h4, _⟩ := h.act (i := 2) rfl
  have hb := h2 bG h1.2
  exact .inr ⟨bG, vN, t, rfl, by simpa [gnOf] using hne, ⟨hb.1.1.resolve_left id, hb.2, h1.1.row⟩, hs, nr_rel (NR.mono h3 fun b hb => ⟨(h4 b hb).1.1.resolve_left id, (h4 b hb).2⟩)⟩
theorem St.gr1 {w0 w : World} {bG : Nat} {gT : TypeId} {vN : Value} (h : St No No w0 w [bkR bG [vN] gT, slR encN [(vN, [RNode.mk false (SH.mk none 0 0)])]]) : Gr 0 w w0.heap.size w.heap.size (ptr bG 0) [(false, [])] := by
  obtain ⟨F, h1, h2, _⟩ := h.act (i := 0) rfl
  have hs := h.slOut (i := 1) (k := 0) rfl rfl
  have hb := h2 bG h1.2
  exact .inr ⟨bG, vN, _, rfl, by simp, ⟨hb.1.1.resolve_left id, hb.2, h1.1.row⟩, hs, .cons ⟨rfl, Sl.nil⟩ .nil⟩
theorem far_iv {F0 F : Nat → Prop} {w0 : World} (h : ∀ b, F b → ((False ∨ w0.heap.size ≤ b) ∧ ¬ False) ∧ F0 b) : ∀ b, Iv 0 w0.heap.size b → ¬ F b := fun b hb hf => by
  have := (h b hf).1.1.resolve_left id
  unfold Iv at hb; omega
end Go.Ik
/-
  Distances, row by row; states of the automaton as rows that are cut off.
-/
set_option linter.unusedVariables false
set_option linter.unusedSimpArgs false
namespace Go.Ml
open Go.Ik

/-- a row behind a rune more -/
def stepF (q : List Int) (f : Nat → Int) (r : Int) : Nat → Int
  | 0 => f 0 + 1
  | i + 1 => min (min (f (i + 1) + 1) (stepF q f r i + 1)) (f i + if q[i]? = some r then 0 else 1)
def rowF (q : List Int) (p : List Int) : Nat → Int := p.foldl (stepF q) fun i => (i : Int)
theorem rowF_snoc (q p : List Int) (r : Int) : rowF q (p ++ [r]) = stepF q (rowF q p) r := by unfold rowF; rw [List.foldl_append]; rfl
/-- the distance -/
def lev (q p : List Int) : Int := rowF q p q.length
/-- neighbours part by one at most; nothing is below 0 -/
structure Lip (f : Nat → Int) : Prop where
  pos : ∀ i, 0 ≤ f i
  one : ∀ i, f (i + 1) ≤ f i + 1 ∧ f i ≤ f (i + 1) + 1
theorem step_le {q : List Int} {f : Nat → Int} {r : Int} (h : Lip f) : ∀ i, stepF q f r i ≤ f i + 1
  | 0 => Int.le_refl _
  | i + 1 => by unfold stepF; omega
theorem step_pos {q : List Int} {f : Nat → Int} {r : Int} (h : Lip f) : ∀ i, 0 ≤ stepF q f r i
  | 0 => by have := h.pos 0; unfold stepF; omega
  | i + 1 => by
    have h1 := h.pos (i + 1); have h2 := h.pos i; have h3 := step_pos (q := q) (r := r) h i
    unfold stepF; split <;> omega
theorem Lip.step {q : List Int} {f : Nat → Int} {r : Int} (h : Lip f) : Lip (stepF q f r) := by
  refine ⟨step_pos h, fun i => ⟨by conv => lhs; unfold stepF
                                   omega, ?_⟩⟩
  have h1 := step_le (q := q) (r := r) h i
  have h2 := h.one i
  show stepF q f r i ≤ (min (min (f (i + 1) + 1) (stepF q f r i + 1)) (f i + if q[i]? = some r then 0 else 1)) + 1
  split <;> omega
theorem Lip.id : Lip fun i => (i : Int) := ⟨fun i => by omega, fun i => by constructor <;> omega⟩
theorem lip_row (q : List Int) : ∀ p : List Int, Lip (rowF q p) := by
  intro p
  unfold rowF
  have : ∀ (p : List Int) (f : Nat → Int), Lip f → Lip (p.foldl (stepF q) f) := by
    intro p
    induction p with
    | nil => intro f h; exact h
    | cons r p ih => intro f h; exact ih _ h.step
  exact this p _ Lip.id
theorem lip_far {f : Nat → Int} (h : Lip f) : ∀ (i d : Nat), f (i + d) ≤ f i + d ∧ f i ≤ f (i + d) + d
  | i, 0 => by simp
  | i, d + 1 => by
    have h1 := lip_far h i d
    have h2 := h.one (i + d)
    rw [show i + (d + 1) = i + d + 1 from by omega]
    omega
theorem lip_any {f : Nat → Int} (h : Lip f) (i j : Nat) : f i ≤ f j + max ((i : Int) - j) ((j : Int) - i) := by
  rcases Nat.le_total i j with hij | hij
  · have := (lip_far h i (j - i)).2
    rw [show i + (j - i) = j from by omega] at this
    omega
  · have := (lip_far h j (i - j)).1
    rw [show j + (i - j) = i from by omega] at this
    omega
/-! cut off above 'k' -/
def capF (k : Int) (f : Nat → Int) (i : Nat) : Int := min (f i) (k + 1)
theorem Lip.cap {f : Nat → Int} {k : Int} (hk : 0 ≤ k) (h : Lip f) : Lip (capF k f) := ⟨fun i => by have := h.pos i; unfold capF; omega, fun i => by have := h.one i; unfold capF; omega⟩
/-- the program's step: each number cut off -/
def cstepF (k : Int) (q : List Int) (f : Nat → Int) (r : Int) : Nat → Int
  | 0 => min (f 0 + 1) (k + 1)
  | i + 1 => min (min (min (f (i + 1) + 1) (cstepF k q f r i + 1)) (f i + if q[i]? = some r then 0 else 1)) (k + 1)
theorem cstep_cap (k : Int) (q : List Int) (f : Nat → Int) (r : Int) : ∀ i, cstepF k q (capF k f) r i = capF k (stepF q f r) i
  | 0 => by unfold cstepF capF stepF; omega
  | i + 1 => by
    have ih := cstep_cap k q f r i
    show min (min (min (capF k f (i + 1) + 1) (cstepF k q (capF k f) r i + 1)) (capF k f i + if q[i]? = some r then 0 else 1)) (k + 1) = min (min (min (f (i + 1) + 1) (stepF q f r i + 1)) (f i + if q[i]? = some r then 0 else 1)) (k + 1)
    rw [ih]
    unfold capF
    split <;> omega
/-! states -/
structure Pos where
  at_ : Int
  dist : Int
deriving DecidableEq
/-- is a place overshadowed by another one (within the window)? -/
def lesserM (n : Nat) (k : Int) (f : Nat → Int) (j : Nat) : Bool := (List.range n).any fun (i : Nat) => decide (f i < f j) && decide (max ((i : Int) - (j : Int)) ((j : Int) - (i : Int)) ≤ f j - f i)
def stateF (n : Nat) (k : Int) (f : Nat → Int) : List Pos := ((List.range n).filter fun (j : Nat) => decide (f j ≤ k) && !lesserM n k f j).map fun (j : Nat) => Pos.mk (j : Int) (f j)
/-- a state's row -/
def spreadF (n : Nat) (k : Int) (s : List Pos) (i : Nat) : Int := s.foldl (fun (a : Int) (p : Pos) => if (0 ≤ p.at_ ∧ p.at_ ≤ (n : Int) ∧ 0 ≤ p.dist ∧ p.dist ≤ k) ∧ max ((i : Int) - p.at_) (p.at_ - (i : Int)) ≤ k then min a (p.dist + max ((i : Int) - p.at_) (p.at_ - (i : Int))) else a) (k + 1)
theorem foldl_min_le {α : Type} (g : α → Option Int) : ∀ (l : List α) (a : Int), l.foldl (fun a p => match g p with | some x => min a x | none => a) a ≤ a
  | [], a => Int.le_refl _
  | p :: l, a => by
    rw [List.foldl_cons]
    have := foldl_min_le g l (match g p with | some x => min a x | none => a)
    cases h : g p with
    | none => rw [h] at this; exact this
    | some x => rw [h] at this; simp only at this ⊢; omega
theorem foldl_min_mem {α : Type} (g : α → Option Int) : ∀ (l : List α) (a x : Int) (p : α), p ∈ l → g p = some x → l.foldl (fun a p => match g p with | some x => min a x | none => a) a ≤ x
  | q :: l, a, x, p, hp, hx => by
    rw [List.foldl_cons]
    rcases List.mem_cons.1 hp with rfl | hp
    · have := foldl_min_le g l (match g p with | some x => min a x | none => a)
      rw [hx] at this ⊢; simp only at this ⊢; omega
    · exact foldl_min_mem g l _ x p hp hx
theorem foldl_min_ge {α : Type} (g : α → Option Int) (m : Int) : ∀ (l : List α) (a : Int), m ≤ a → (∀ p ∈ l, ∀ x, g p = some x → m ≤ x) → m ≤ l.foldl (fun a p => match g p with | some x => min a x | none => a) a
  | [], a, h, _ => h
  | p :: l, a, h, hl => by
    rw [List.foldl_cons]
    refine foldl_min_ge g m l _ ?_ fun q hq => hl q (by simp [hq])
    cases hg : g p with
    | none => exact h
    | some x => have := hl p (by simp) x hg; simp only; omega
def posG (n : Nat) (k : Int) (i : Nat) (p : Pos) : Option Int := if (0 ≤ p.at_ ∧ p.at_ ≤ (n : Int) ∧ 0 ≤ p.dist ∧ p.dist ≤ k) ∧ max ((i : Int) - p.at_) (p.at_ - (i : Int)) ≤ k then some (p.dist + max ((i : Int) - p.at_) (p.at_ - (i : Int))) else none
theorem spread_eq (n : Nat) (k : Int) (s : List Pos) (i : Nat) : spreadF n k s i = s.foldl (fun a p => match posG n k i p with | some x => min a x | none => a) (k + 1) := by
  unfold spreadF
  congr 1
  funext a p
  unfold posG
  split <;> rfl
theorem mem_state {n : Nat} {k : Int} {f : Nat → Int} {p : Pos} : p ∈ stateF n k f ↔ ∃ j, j < n ∧ f j ≤ k ∧ lesserM n k f j = false ∧ p = ⟨(j : Int), f j⟩ := by
  unfold stateF
  simp only [List.mem_map, List.mem_filter, List.mem_range, Bool.and_eq_true, decide_eq_true_eq, Bool.not_eq_true']
  constructor
  · rintro ⟨j, ⟨h1, h2, h3⟩, rfl⟩; exact ⟨j, h1, h2, h3, rfl⟩
  · rintro ⟨j, h1, h2, h3, rfl⟩; exact ⟨j, ⟨h1, h2, h3⟩, rfl⟩
/-- from a place one comes to one that is not overshadowed -/
theorem root_of {n : Nat} {k : Int} {f : Nat → Int} (h : Lip f) : ∀ (m i : Nat), f i ≤ m → i < n → ∃ j, j < n ∧ lesserM n k f j = false ∧ f j + max ((i : Int) - j) ((j : Int) - i) = f i
  | 0, i, hm, hi => by
    refine ⟨i, hi, ?_, by omega⟩
    unfold lesserM
    rw [List.any_eq_false]
    intro j hj
    have := h.pos j
    simp only [Bool.and_eq_true, decide_eq_true_eq, not_and]
    intro hlt; omega
  | m + 1, i, hm, hi => by
    by_cases hl : lesserM n k f i = true
    · unfold lesserM at hl
      rw [List.any_eq_true] at hl
      obtain ⟨j, hj, hc⟩ := hl
      simp only [Bool.and_eq_true, decide_eq_true_eq] at hc
      have hjn := List.mem_range.1 hj
      have h1 := lip_any h i j
      obtain ⟨t, ht, htl, hte⟩ := root_of (k := k) h m j (by omega) hjn
      refine ⟨t, ht, htl, ?_⟩
      have h2 := lip_any h i t
      omega
    · exact ⟨i, hi, by simpa using hl, by omega⟩
/-- a state tells its row, cut off -/
theorem spread_state {n : Nat} {k : Int} {f : Nat → Int} (hk : 0 ≤ k) (h : Lip f) {i : Nat} (hi : i < n + 1) : spreadF n k (stateF (n + 1) k f) i = capF k f i := by
  rw [spread_eq]
  have hge : capF k f i ≤ (stateF (n + 1) k f).foldl (fun a p => match posG n k i p with | some x => min a x | none => a) (k + 1) := by
    refine foldl_min_ge _ _ _ _ (by unfold capF; omega) fun p hp x hx => ?_
    obtain ⟨j, h1, h2, h3, rfl⟩ := mem_state.1 hp
    unfold posG at hx
    split at hx
    · cases hx
      have := lip_any h i j
      unfold capF; simp only; omega
    · cases hx
  have hle : (stateF (n + 1) k f).foldl (fun a p => match posG n k i p with | some x => min a x | none => a) (k + 1) ≤ capF k f i := by
    by_cases hc : f i ≤ k
    · obtain ⟨j, h1, h2, h3⟩ := root_of (n := n + 1) (k := k) h (f i).toNat i (by omega) hi
      have hp := h.pos j
      have := foldl_min_mem (posG n k i) (stateF (n + 1) k f) (k + 1) (f i) ⟨(j : Int), f j⟩ (mem_state.2 ⟨j, h1, by omega, h2, rfl⟩) (by
        unfold posG
        rw [if_pos (by simp only; omega)]
        simp only
        rw [h3])
      unfold capF; omega
    · have := foldl_min_le (posG n k i) (stateF (n + 1) k f) (k + 1)
      unfold capF; omega
  omega
/-- a state is told by what is not above 'k' -/
theorem state_cap {n : Nat} {k : Int} (f : Nat → Int) : stateF n k (capF k f) = stateF n k f := by
  unfold stateF
  have hf : ∀ j, (decide (capF k f j ≤ k) && !lesserM n k (capF k f) j) = (decide (f j ≤ k) && !lesserM n k f j) := by
    intro j
    by_cases hj : f j ≤ k
    · have e1 : capF k f j = f j := by unfold capF; omega
      have e2 : lesserM n k (capF k f) j = lesserM n k f j := by
        unfold lesserM
        refine List.any_congr rfl fun i => ?_
        rw [e1]
        by_cases hi : f i ≤ k
        · rw [show capF k f i = f i from by unfold capF; omega]
        · rw [show decide (capF k f i < f j) = false from decide_eq_false (by unfold capF; omega), show decide (f i < f j) = false from decide_eq_false (by omega), Bool.false_and, Bool.false_and]
      rw [e1, e2]
    · rw [show decide (capF k f j ≤ k) = false from decide_eq_false (by unfold capF; omega), show decide (f j ≤ k) = false from decide_eq_false hj]
      rfl
  rw [List.filter_congr fun j _ => hf j]
  refine List.map_congr_left fun j hj => ?_
  have := (List.mem_filter.1 hj).2
  simp only [Bool.and_eq_true, decide_eq_true_eq] at this
  rw [show capF k f j = f j from by unfold capF; omega]
/-! the state behind runes -/
def stateP (q : List Int) (k : Int) (p : List Int) : List Pos := stateF (q.length + 1) k (rowF q p)
theorem stateP_row {q : List Int} {k : Int} (hk : 0 ≤ k) (p : List Int) {i : Nat} (hi : i < q.length + 1) : spreadF q.length k (stateP q k p) i = capF k (rowF q p) i := spread_state hk (lip_row q p) hi
theorem stateP_start {q : List Int} {k : Int} (hk : 0 ≤ k) : stateP q k [] = [⟨0, 0⟩] := by
  unfold stateP stateF
  have hf : ∀ j ∈ List.range (q.length + 1), (decide (rowF q [] j ≤ k) && !lesserM (q.length + 1) k (rowF q []) j) = decide (j = 0) := by
    intro j hj
    by_cases h0 : j = 0
    · subst h0
      have : lesserM (q.length + 1) k (rowF q []) 0 = false := by
        unfold lesserM
        rw [List.any_eq_false]
        intro i hi
        simp only [Bool.and_eq_true, decide_eq_true_eq, not_and]
        intro hlt
        have : ((i : Nat) : Int) < ((0 : Nat) : Int) := hlt
        omega
      rw [this]
      have : rowF q [] 0 = 0 := rfl
      rw [this]
      simp [hk]
    · have : lesserM (q.length + 1) k (rowF q []) j = true := by
        unfold lesserM
        rw [List.any_eq_true]
        refine ⟨0, by simp, ?_⟩
        simp only [Bool.and_eq_true, decide_eq_true_eq]
        have e0 : rowF q [] 0 = 0 := rfl
        have ej : rowF q [] j = (j : Int) := rfl
        rw [e0, ej]
        omega
      rw [this]
      simp [h0]
  rw [List.filter_congr hf]
  have : (List.range (q.length + 1)).filter (fun j => decide (j = 0)) = [0] := by
    rw [List.range_succ_eq_map, List.filter_cons_of_pos (by simp)]
    congr 1
    rw [List.filter_eq_nil_iff]
    intro a ha
    obtain ⟨b, _, rfl⟩ := List.mem_map.1 ha
    simp
  rw [this]
  rfl
/-- behind a rune more -/
theorem stateP_step {q : List Int} {k : Int} (hk : 0 ≤ k) (p : List Int) (r : Int) : stateF (q.length + 1) k (cstepF k q (spreadF q.length k (stateP q k p)) r) = stateP q k (p ++ [r]) := by
  unfold stateP
  rw [rowF_snoc, ← state_cap (stepF q (rowF q p) r)]
  have hc : ∀ i, i < q.length + 1 → cstepF k q (spreadF q.length k (stateP q k p)) r i = capF k (stepF q (rowF q p) r) i := by
    intro i hi
    rw [← cstep_cap]
    have : ∀ i, i < q.length + 1 → cstepF k q (spreadF q.length k (stateP q k p)) r i = cstepF k q (capF k (rowF q p)) r i := by
      intro i
      induction i with
      | zero => intro hi; unfold cstepF; rw [stateP_row hk p hi]
      | succ i ih =>
        intro hi
        show min (min (min (spreadF q.length k (stateP q k p) (i + 1) + 1) (cstepF k q (spreadF q.length k (stateP q k p)) r i + 1)) (spreadF q.length k (stateP q k p) i + if q[i]? = some r then 0 else 1)) (k + 1) = min (min (min (capF k (rowF q p) (i + 1) + 1) (cstepF k q (capF k (rowF q p)) r i + 1)) (capF k (rowF q p) i + if q[i]? = some r then 0 else 1)) (k + 1)
        rw [ih (by omega), stateP_row hk p hi, stateP_row hk p (by omega : i < q.length + 1)]
    exact this i hi
  exact state_congr hc
where
  state_congr {n : Nat} {k : Int} {f g : Nat → Int} (h : ∀ i, i < n → f i = g i) : stateF n k f = stateF n k g := by
    unfold stateF
    have hl : ∀ j, j < n → lesserM n k f j = lesserM n k g j := by
      intro j hj
      unfold lesserM
      rw [Bool.eq_iff_iff, List.any_eq_true, List.any_eq_true]
      constructor
      · rintro ⟨i, hi, hc⟩
        refine ⟨i, hi, ?_⟩
        rw [← h i (List.mem_range.1 hi), ← h j hj]; exact hc
      · rintro ⟨i, hi, hc⟩
        refine ⟨i, hi, ?_⟩
        rw [h i (List.mem_range.1 hi), h j hj]; exact hc
    rw [List.filter_congr fun j hj => by rw [h j (List.mem_range.1 hj), hl j (List.mem_range.1 hj)]]
    refine List.map_congr_left fun j hj => ?_
    have := List.mem_range.1 (List.mem_filter.1 hj).1
    rw [h j this]
/-- no state: everything is above 'k', and stays so -/
theorem row_min {q : List Int} {f : Nat → Int} {r m : Int} (h : ∀ i, i < q.length + 1 → m ≤ f i) : ∀ i, i < q.length + 1 → m ≤ stepF q f r i
  | 0, hi => by have := h 0 hi; unfold stepF; omega
  | i + 1, hi => by
    have h1 := h (i + 1) hi; have h2 := h i (by omega); have h3 := row_min (r := r) h i (by omega)
    unfold stepF; split <;> omega
theorem dead_row {q : List Int} {k : Int} (hk : 0 ≤ k) {p : List Int} (h : stateP q k p = []) : ∀ i, i < q.length + 1 → k + 1 ≤ rowF q p i := by
  intro i hi
  have := stateP_row hk p hi
  rw [h] at this
  have e : spreadF q.length k [] i = k + 1 := rfl
  rw [e] at this
  unfold capF at this; omega
theorem dead_far {q : List Int} {k : Int} {p : List Int} (h : ∀ i, i < q.length + 1 → k + 1 ≤ rowF q p i) : ∀ (u : List Int), k + 1 ≤ lev q (p ++ u) := by
  have key : ∀ (u p : List Int), (∀ i, i < q.length + 1 → k + 1 ≤ rowF q p i) → ∀ i, i < q.length + 1 → k + 1 ≤ rowF q (p ++ u) i := by
    intro u
    induction u with
    | nil => intro p h; simpa using h
    | cons r u ih =>
      intro p h
      have := ih (p ++ [r]) (by rw [rowF_snoc]; exact row_min h)
      rw [List.append_assoc] at this
      exact this
  intro u
  exact key u p h q.length (by omega)
/-- the distance by a state -/
theorem dist_state {q : List Int} {k : Int} (hk : 0 ≤ k) (p : List Int) : spreadF q.length k (stateP q k p) q.length = min (lev q p) (k + 1) := stateP_row hk p (by omega)
theorem lev_pos (q p : List Int) : 0 ≤ lev q p := (lip_row q p).pos _
end Go.Ml
/-
  What walks through package auto ask: rows as lists, written place by place.
-/
set_option linter.unusedVariables false
set_option linter.unusedSimpArgs false
namespace Go.Ml
open Go.Ik

def encPos (x : Pos) : List Value := [.int .i64 x.at_, .int .i64 x.dist]
theorem encPos_len (x : Pos) : (encPos x).length = 2 := rfl
theorem encPos_one (x : Pos) : (encPos x).all (·.oneCell') = true := rfl
/-- a row as a list -/
def rowL (n : Nat) (f : Nat → Int) : List Int := (List.range (n + 1)).map f
theorem rowL_len (n : Nat) (f : Nat → Int) : (rowL n f).length = n + 1 := by simp [rowL]
theorem rowL_at {n : Nat} {f : Nat → Int} {i : Nat} {x : Int} (h : (rowL n f)[i]? = some x) : x = f i ∧ i < n + 1 := by
  obtain ⟨hi, h1⟩ := List.getElem?_eq_some_iff.1 h
  rw [rowL_len] at hi
  unfold rowL at h
  rw [List.getElem?_map, List.getElem?_range hi] at h
  exact ⟨by simpa using h.symm, hi⟩
theorem rowL_ext {n : Nat} {f g : Nat → Int} (h : ∀ i, i < n + 1 → f i = g i) : rowL n f = rowL n g := by
  unfold rowL
  exact List.map_congr_left fun i hi => h i (List.mem_range.1 hi)
theorem rowL_set {n : Nat} {f g : Nat → Int} {i : Nat} {x : Int} (hi : i < n + 1) (hx : x = g i) (h : ∀ j, j < n + 1 → j ≠ i → f j = g j) : (rowL n f).set i x = rowL n g := by
  refine List.ext_getElem? fun j => ?_
  unfold rowL
  rw [List.getElem?_set]
  split
  · rename_i e; subst e
    rw [if_pos (by simp; exact hi), List.getElem?_map, List.getElem?_range hi, hx]; rfl
  · rename_i hne
    by_cases hj : j < n + 1
    · rw [List.getElem?_map, List.getElem?_map, List.getElem?_range hj]
      simp [h j hj (fun e => hne e.symm)]
    · rw [List.getElem?_eq_none (by simp; omega), List.getElem?_eq_none (by simp; omega)]
/-! filling with k + 1 -/
theorem fill_start (n : Nat) (k : Int) : List.replicate (n + 1) (0 : Int) = rowL n fun j => if j < 0 then k + 1 else 0 := by
  refine List.ext_getElem (by simp [rowL]) fun i h1 h2 => ?_
  simp [rowL]
theorem fill_step {n i : Nat} {k : Int} {l : List Int} (h : l = rowL n fun j => if j < i then k + 1 else 0) (hi : i < n + 1) : l.set i (k + 1) = rowL n fun j => if j < i + 1 then k + 1 else 0 := by
  rw [h]
  refine rowL_set hi (by simp) fun j hj hne => ?_
  by_cases hji : j < i
  · rw [if_pos hji, if_pos (by omega)]
  · rw [if_neg hji, if_neg (by omega)]
theorem fill_end {n i : Nat} {k : Int} {l : List Int} (h : l = rowL n fun j => if j < i then k + 1 else 0) (hi : n + 1 ≤ i) : l = rowL n (spreadF n k []) := by
  rw [h]
  refine rowL_ext fun j hj => ?_
  rw [if_pos (by omega)]; rfl
/-! spreading one place -/
theorem spread_snoc (n : Nat) (k : Int) (s : List Pos) (p : Pos) (x : Nat) : spreadF n k (s ++ [p]) x = if (0 ≤ p.at_ ∧ p.at_ ≤ (n : Int) ∧ 0 ≤ p.dist ∧ p.dist ≤ k) ∧ max ((x : Int) - p.at_) (p.at_ - (x : Int)) ≤ k then min (spreadF n k s x) (p.dist + max ((x : Int) - p.at_) (p.at_ - (x : Int))) else spreadF n k s x := by
  unfold spreadF; rw [List.foldl_append]; rfl
theorem spread_take {n : Nat} {k : Int} {s : List Pos} {j : Nat} {p : Pos} (hp : s[j]? = some p) (x : Nat) : spreadF n k (s.take (j + 1)) x = if (0 ≤ p.at_ ∧ p.at_ ≤ (n : Int) ∧ 0 ≤ p.dist ∧ p.dist ≤ k) ∧ max ((x : Int) - p.at_) (p.at_ - (x : Int)) ≤ k then min (spreadF n k (s.take j) x) (p.dist + max ((x : Int) - p.at_) (p.at_ - (x : Int))) else spreadF n k (s.take j) x := by
  rw [List.take_add_one, hp]; exact spread_snoc n k _ p x
def spMix (n : Nat) (k : Int) (s : List Pos) (j : Nat) (i : Int) (x : Nat) : Int := if (x : Int) < i then spreadF n k (s.take (j + 1)) x else spreadF n k (s.take j) x
theorem sp_skip {n : Nat} {k : Int} {s : List Pos} {j : Nat} {p : Pos} (hp : s[j]? = some p) (h : p.at_ < 0 ∨ p.at_ > (n : Int) ∨ p.dist < 0 ∨ p.dist > k) : rowL n (spreadF n k (s.take j)) = rowL n (spreadF n k (s.take (j + 1))) := by
  refine rowL_ext fun x _ => ?_
  rw [spread_take hp, if_neg (by omega)]
theorem sp_start {n : Nat} {k : Int} {s : List Pos} {j : Nat} {p : Pos} (hp : s[j]? = some p) {i : Int} (hi : i = max (p.at_ - k) 0) : rowL n (spreadF n k (s.take j)) = rowL n (spMix n k s j i) := by
  refine rowL_ext fun x _ => ?_
  unfold spMix
  split
  · rw [spread_take hp, if_neg (by omega)]
  · rfl
theorem sp_set {n : Nat} {k : Int} {s : List Pos} {j : Nat} {p : Pos} (hp : s[j]? = some p) {i : Int} (h0 : 0 ≤ i) (hin : i ≤ (n : Int)) (hv : 0 ≤ p.at_ ∧ p.at_ ≤ (n : Int) ∧ 0 ≤ p.dist ∧ p.dist ≤ k) (h1 : p.at_ - k ≤ i) (h2 : i ≤ p.at_ + k) {x : Int} (hx : (rowL n (spMix n k s j i))[i.toNat]? = some x) :
    (rowL n (spMix n k s j i)).set i.toNat (min x (p.dist + max (i - p.at_) (p.at_ - i))) = rowL n (spMix n k s j (i + 1)) := by
  obtain ⟨hxe, hlt⟩ := rowL_at hx
  have hi : ((i.toNat : Nat) : Int) = i := by omega
  refine rowL_set hlt ?_ fun y hy hne => ?_
  · rw [hxe]
    unfold spMix
    rw [if_neg (by omega), if_pos (by omega), spread_take hp, if_pos ⟨hv, by omega⟩, hi]
  · unfold spMix
    by_cases h : (y : Int) < i
    · rw [if_pos h, if_pos (by omega)]
    · rw [if_neg h, if_neg (by omega)]
theorem sp_end {n : Nat} {k : Int} {s : List Pos} {j : Nat} {p : Pos} (hp : s[j]? = some p) {i : Int} (h : i > min (p.at_ + k) (n : Int)) : rowL n (spMix n k s j i) = rowL n (spreadF n k (s.take (j + 1))) := by
  refine rowL_ext fun x hx => ?_
  unfold spMix
  split
  · rfl
  · rw [spread_take hp, if_neg (by omega)]
theorem sp_fin {n : Nat} {k : Int} {s : List Pos} {j : Nat} {l : List Int} (h : l = rowL n (spreadF n k (s.take j))) (hj : s.length ≤ j) : l = rowL n (spreadF n k s) := by
  rw [h, List.take_of_length_le hj]
theorem spread_rng {n : Nat} {k : Int} (hk : 0 ≤ k) (s : List Pos) (x : Nat) : 0 ≤ spreadF n k s x ∧ spreadF n k s x ≤ k + 1 := by
  rw [spread_eq]
  refine ⟨foldl_min_ge _ _ _ _ (by omega) fun p hp y hy => ?_, foldl_min_le _ _ _⟩
  unfold posG at hy
  split at hy
  · cases hy; omega
  · cases hy
theorem sp_rng {n : Nat} {k : Int} {s : List Pos} {j : Nat} {i : Int} {x : Nat} (hk : 0 ≤ k) : 0 ≤ spMix n k s j i x ∧ spMix n k s j i x ≤ k + 1 := by
  unfold spMix; split <;> exact spread_rng hk _ _
/-! states, place by place -/
def lessW (n : Nat) (f : Nat → Int) (j : Nat) (i : Int) : Bool := (List.range n).any fun (x : Nat) => (decide (f x < f j) && decide (max ((x : Int) - (j : Int)) ((j : Int) - (x : Int)) ≤ f j - f x)) && decide ((x : Int) < i)
theorem less_start {n : Nat} {f : Nat → Int} {j : Nat} {k i : Int} (hp : ∀ x, 0 ≤ f x) (hj : f j ≤ k) (hi : i = max ((j : Int) - k) 0) : false = lessW n f j i := by
  symm; unfold lessW
  rw [List.any_eq_false]
  intro x hx
  have := hp x
  simp only [Bool.and_eq_true, decide_eq_true_eq, not_and]
  intro h; omega
theorem less_step {n : Nat} {f : Nat → Int} {j : Nat} {i : Int} {b : Bool} (hb : b = lessW n f j i) (h0 : 0 ≤ i) (hn : i < (n : Int)) {c : Bool} (hc : c = (decide (f i.toNat < f j) && decide (max (i - (j : Int)) ((j : Int) - i) ≤ f j - f i.toNat))) : (b || c) = lessW n f j (i + 1) := by
  rw [hb, Bool.eq_iff_iff]
  have hi : ((i.toNat : Nat) : Int) = i := by omega
  unfold lessW
  rw [Bool.or_eq_true, List.any_eq_true, List.any_eq_true]
  constructor
  · rintro (⟨x, hx, h⟩ | h)
    · refine ⟨x, hx, ?_⟩
      simp only [Bool.and_eq_true, decide_eq_true_eq] at h ⊢
      omega
    · refine ⟨i.toNat, List.mem_range.2 (by omega), ?_⟩
      rw [hc] at h
      simp only [Bool.and_eq_true, decide_eq_true_eq] at h ⊢
      rw [hi]; omega
  · rintro ⟨x, hx, h⟩
    simp only [Bool.and_eq_true, decide_eq_true_eq] at h
    by_cases hxi : (x : Int) < i
    · left; refine ⟨x, hx, ?_⟩
      simp only [Bool.and_eq_true, decide_eq_true_eq]; omega
    · right
      have : x = i.toNat := by omega
      subst this
      rw [hc, hi] at *
      simp only [Bool.and_eq_true, decide_eq_true_eq]
      omega
theorem less_end {n : Nat} {f : Nat → Int} {j : Nat} {k i : Int} {b : Bool} (hb : b = lessW n f j i) (hp : ∀ x, 0 ≤ f x) (hj : f j ≤ k) (hi : i > min ((j : Int) + k) ((n : Int) - 1)) : b = lesserM n k f j := by
  rw [hb]
  unfold lessW lesserM
  rw [Bool.eq_iff_iff, List.any_eq_true, List.any_eq_true]
  constructor
  · rintro ⟨x, hx, h⟩
    rw [Bool.and_eq_true] at h
    exact ⟨x, hx, h.1⟩
  · rintro ⟨x, hx, h⟩
    refine ⟨x, hx, ?_⟩
    have h1 := List.mem_range.1 hx
    have := hp x
    rw [Bool.and_eq_true]
    refine ⟨h, ?_⟩
    simp only [Bool.and_eq_true, decide_eq_true_eq] at h ⊢
    omega
def stateT (n : Nat) (k : Int) (f : Nat → Int) (i : Nat) : List Pos := ((List.range i).filter fun (j : Nat) => decide (f j ≤ k) && !lesserM n k f j).map fun (j : Nat) => Pos.mk (j : Int) (f j)
theorem stT_high {n : Nat} {k : Int} {f : Nat → Int} {i : Nat} {l : List Pos} (h : l = stateT n k f i) (hf : f i > k) : l = stateT n k f (i + 1) := by
  rw [h]; unfold stateT
  rw [List.range_succ, List.filter_append, List.filter_cons_of_neg (by simp; omega)]; simp
theorem stT_less {n : Nat} {k : Int} {f : Nat → Int} {i : Nat} {l : List Pos} (h : l = stateT n k f i) (hf : true = lesserM n k f i) : l = stateT n k f (i + 1) := by
  rw [h]; unfold stateT
  rw [List.range_succ, List.filter_append, List.filter_cons_of_neg (by simp [← hf])]; simp
theorem stT_more {n : Nat} {k : Int} {f : Nat → Int} {i : Nat} {l : List Pos} (h : l = stateT n k f i) (hf : ¬ f i > k) (hl : false = lesserM n k f i) {x : Int} (hx : x = f i) : l ++ [Pos.mk (i : Int) x] = stateT n k f (i + 1) := by
  rw [h, hx]; unfold stateT
  rw [List.range_succ, List.filter_append, List.filter_cons_of_pos (by simp [← hl]; omega)]; simp
theorem stT_len (n : Nat) (k : Int) (f : Nat → Int) (i : Nat) : (stateT n k f i).length ≤ i := by
  unfold stateT
  rw [List.length_map]
  exact Nat.le_trans (List.length_filter_le _ _) (by simp)
theorem stF_len (n : Nat) (k : Int) (f : Nat → Int) : (stateF n k f).length ≤ n := stT_len n k f n
/-! a step, place by place -/
def stepMix (n : Nat) (k : Int) (q : List Int) (s : List Pos) (r : Int) (i : Nat) (x : Nat) : Int := if x ≤ i then cstepF k q (spreadF n k s) r x else spreadF n k s x
theorem stp_start {n : Nat} {k : Int} {q : List Int} {s : List Pos} {r x : Int} (hx : (rowL n (spreadF n k s))[0]? = some x) : (rowL n (spreadF n k s)).set 0 (min (x + 1) (k + 1)) = rowL n (stepMix n k q s r 0) := by
  obtain ⟨hxe, hlt⟩ := rowL_at hx
  refine rowL_set hlt ?_ fun j hj hne => ?_
  · rw [hxe]; unfold stepMix; rw [if_pos (Nat.le_refl _)]; rfl
  · unfold stepMix; rw [if_neg (by omega)]
theorem stp_step {n : Nat} {k : Int} {q : List Int} {s : List Pos} {r : Int} {i : Nat} (hi : i + 1 < n + 1) {a b c t : Int} (ha : (rowL n (spreadF n k s))[i + 1]? = some a) (hb : (rowL n (stepMix n k q s r i))[i]? = some b) (hc : (rowL n (spreadF n k s))[i]? = some c) (ht : t = c + if q[i]? = some r then 0 else 1) :
    (rowL n (stepMix n k q s r i)).set (i + 1) (min (min (min (a + 1) (b + 1)) t) (k + 1)) = rowL n (stepMix n k q s r (i + 1)) := by
  obtain ⟨hae, _⟩ := rowL_at ha
  obtain ⟨hbe, _⟩ := rowL_at hb
  obtain ⟨hce, _⟩ := rowL_at hc
  refine rowL_set hi ?_ fun j hj hne => ?_
  · have e : b = cstepF k q (spreadF n k s) r i := by rw [hbe]; unfold stepMix; rw [if_pos (Nat.le_refl _)]
    unfold stepMix
    rw [if_pos (Nat.le_refl _)]
    show _ = min (min (min (spreadF n k s (i + 1) + 1) (cstepF k q (spreadF n k s) r i + 1)) (spreadF n k s i + if q[i]? = some r then 0 else 1)) (k + 1)
    rw [← e, ← hae, ht, hce]
  · unfold stepMix
    by_cases h : j ≤ i
    · rw [if_pos h, if_pos (by omega)]
    · rw [if_neg h, if_neg (by omega)]
theorem stp_fin {n : Nat} {k : Int} {q : List Int} {s : List Pos} {r : Int} {i : Nat} {l : List Int} (h : l = rowL n (stepMix n k q s r i)) (hi : n ≤ i) : l = rowL n (cstepF k q (spreadF n k s) r) := by
  rw [h]
  refine rowL_ext fun j hj => ?_
  unfold stepMix; rw [if_pos (by omega)]
theorem cstep_rng {k : Int} (hk : 0 ≤ k) {q : List Int} {f : Nat → Int} {r : Int} (h : ∀ i, 0 ≤ f i ∧ f i ≤ k + 1) : ∀ i, 0 ≤ cstepF k q f r i ∧ cstepF k q f r i ≤ k + 1
  | 0 => by have := h 0; unfold cstepF; omega
  | i + 1 => by
    have h1 := h (i + 1); have h2 := h i; have h3 := cstep_rng (q := q) (r := r) hk h i
    unfold cstepF; split <;> omega
end Go.Ml
namespace Go.Ml
open Go.Ik
theorem less_go {n : Nat} {f : Nat → Int} {j : Nat} {i : Int} (hb : true = lessW n f j i) (h0 : 0 ≤ i) (hn : i < (n : Int)) : true = lessW n f j (i + 1) := by
  have := less_step (c := (decide (f i.toNat < f j) && decide (max (i - (j : Int)) ((j : Int) - i) ≤ f j - f i.toNat))) hb h0 hn rfl
  rw [Bool.true_or] at this; exact this
theorem less_step' {n : Nat} {f : Nat → Int} {j : Nat} {i x : Int} {b : Bool} (hb : false = lessW n f j i) (h0 : 0 ≤ i) (hn : i < (n : Int)) (hx : x = f i.toNat) (hc : (b = true ∧ x < f j ∧ max (i - (j : Int)) ((j : Int) - i) ≤ f j - x) ∨ (b = false ∧ ¬ (x < f j ∧ max (i - (j : Int)) ((j : Int) - i) ≤ f j - x))) : b = lessW n f j (i + 1) := by
  have := less_step (c := b) hb h0 hn (by
    rw [← hx]
    rcases hc with ⟨h, h1, h2⟩ | ⟨h, h1⟩
    · rw [h, decide_eq_true h1, decide_eq_true h2]; rfl
    · rw [h]
      by_cases h2 : x < f j
      · rw [decide_eq_true h2, decide_eq_false (fun h3 => h1 ⟨h2, h3⟩)]; rfl
      · rw [decide_eq_false h2]; rfl)
  rw [Bool.false_or] at this; exact this
theorem stepMix_rng {n : Nat} {k : Int} {q : List Int} {r : Int} (hk : 0 ≤ k) (s : List Pos) (i x : Nat) : 0 ≤ stepMix n k q s r i x ∧ stepMix n k q s r i x ≤ k + 1 := by
  unfold stepMix
  split
  · exact cstep_rng hk (spread_rng hk s) x
  · exact spread_rng hk s x
theorem isEmpty_len {α : Type} {l : List α} {b : Bool} (h : b = (((l.length : Nat) : Int) == 0)) : b = l.isEmpty := by
  rw [h]; cases l <;> simp
  omega
end Go.Ml
namespace Go.Ml
open Go.Ik
theorem less_stepA {n : Nat} {f : Nat → Int} {j : Nat} {i x y : Int} {b : Bool} (hb : false = lessW n f j i) (h0 : 0 ≤ i) (hn : i < (n : Int)) (hx : x = f i.toNat) (hy : y = f j) (hl : x < y) (hc : b = decide (max (i - (j : Int)) ((j : Int) - i) ≤ y - x)) : b = lessW n f j (i + 1) := by
  refine less_step' hb h0 hn hx ?_
  subst hy
  cases b with
  | true => exact .inl ⟨rfl, hl, of_decide_eq_true hc.symm⟩
  | false => exact .inr ⟨rfl, fun h => (of_decide_eq_false hc.symm) h.2⟩
theorem less_stepB {n : Nat} {f : Nat → Int} {j : Nat} {i x y : Int} (hb : false = lessW n f j i) (h0 : 0 ≤ i) (hn : i < (n : Int)) (hx : x = f i.toNat) (hy : y = f j) (hl : ¬ x < y) : false = lessW n f j (i + 1) :=
  less_step' hb h0 hn hx (.inr ⟨rfl, fun h => hl (hy ▸ h.1)⟩)
end Go.Ml
/-
  slices.SortFunc and slices.Compact at a slice of texts of the call's own, out of the kit's contracts; what they make of it.
-/
set_option linter.unusedVariables false
set_option linter.unusedSimpArgs false
namespace Go.Ik
open Go Go.Proofs Go.Shelf Go.RowKit Go.Lib Go.Sort

theorem flat_encS : ∀ l : List Str, l.flatMap encS = l.map strV
  | [] => rfl
  | a :: l => by rw [List.flatMap_cons, flat_encS l]; rfl
theorem strV_one : OneCell strV := fun _ => rfl

/-- a row of the call's own that is laid anew -/
theorem putRow_own {w : World} {b : Nat} {cur : Array Value} {e : TypeId} (hb : w.heap[b]? = some (.cells cur e (0, 0))) (n : Nat) (os : Array Obj) (d : Array Str) :
    (grow (putRow strV (Sort.ahead w n) b 0 d) os).heap[b]? = some (.cells (putCells strV 0 d cur) e (0, 0)) ∧ Mod (Mg (b + 1)) w (grow (putRow strV (Sort.ahead w n) b 0 d) os) := by
  have hlt : b < w.heap.size := (Array.getElem?_eq_some_iff.1 hb).1
  have hh : (grow (putRow strV (Sort.ahead w n) b 0 d) os).heap = w.heap.modify b (onCells (putCells strV 0 d)) ++ os := rfl
  refine ⟨?_, rfl, rfl, rfl, ?_, ?_⟩
  · rw [hh, Array.getElem?_append_left (by simpa using hlt), Array.getElem?_modify, if_pos rfl, hb]; rfl
  · rw [hh]; simp
  · intro k o hk hn
    have hkl : k < w.heap.size := (Array.getElem?_eq_some_iff.1 hk).1
    rw [hh, Array.getElem?_append_left (by simpa using hkl), Array.getElem?_modify, if_neg (fun e => hn (by unfold Mg; omega))]
    exact hk

theorem putCells_take {d : Array Str} {cur : Array Value} (h : d.size ≤ cur.size) (m : Nat) (hm : m ≤ d.size) : (putCells strV 0 d cur).toList.take m = (d.toList.take m).map strV := by
  apply List.ext_getElem?
  intro i
  rw [List.getElem?_take, List.getElem?_map, List.getElem?_take]
  by_cases hi : i < m
  · rw [if_pos hi, if_pos hi]
    have h1 : i < d.size := by omega
    have h2 : i < cur.size := by omega
    have : (putCells strV 0 d cur)[i]? = some (strV d[i]!) := by
      unfold putCells
      rw [Array.getElem?_mapIdx, Array.getElem?_eq_getElem h2, Option.map_some, if_pos ⟨by omega, by omega⟩]; rfl
    rw [Array.getElem?_toList, this, Array.getElem?_toList, Array.getElem?_eq_getElem h1, Option.map_some, getElem!_pos d i h1]
  · rw [if_neg hi, if_neg hi]; rfl

theorem holds_own {w : World} {b : Nat} {cur : Array Value} {e : TypeId} {l : List Str} (hb : w.heap[b]? = some (.cells cur e (0, 0))) (ht : cur.toList.take l.length = l.map strV) : Holds strV w b 0 l.toArray := by
  intro j hj
  have hj' : j < l.length := by simpa using hj
  refine ⟨?_, by simp [World.frozen?, hb]⟩
  rw [cell_of_row w b (0 + j) cur e (0, 0) hb]
  have h1 : (cur.toList.take l.length)[j]? = (l.map strV)[j]? := by rw [ht]
  rw [List.getElem?_take, if_pos hj', List.getElem?_map, List.getElem?_eq_getElem hj'] at h1
  simp only [Option.map_some, Array.getElem?_toList] at h1
  rw [Nat.zero_add, h1]
  simp [hj']

def sortL (l : List Str) : List Str := l.mergeSort fun x y => !(ltOf Lib.compareBytes) y x
theorem swo_cmp : SWO (ltOf Lib.compareBytes) where
  irrefl x := by unfold ltOf; rw [Ml.cmp_refl]; rfl
  trans x y z h1 h2 := by
    unfold ltOf at *
    simp only [decide_eq_true_eq] at *
    exact Ml.lt_trans h1 h2
  ntrans x y z h1 h2 := by
    unfold ltOf at *
    simp only [decide_eq_false_iff_not] at *
    intro h
    by_cases e1 : x = y
    · subst e1; exact h2 h
    · by_cases e2 : y = z
      · subst e2; exact h1 h
      · exact h1 (Ml.lt_trans h (Ml.lt_tri h2 e2))

theorem sort_own {P : Program} {ρ : Ren} (L : SlLaysF.n6 P ρ) (g : Nat) (eg : ∀ args w, (callFunc g args).run P w = .ok (.enter g args) w)
    (hc : ∀ (w0 : World) (a b : Str), Calls P g #[strV a, strV b] w0 (Ret fun rv w1 => rv = .int .i64 (Lib.compareBytes a b) ∧ w1 = w0))
    {w0 : World} {gb : Nat} {v : Value} {l : List Str} {e : TypeId} (h : Acc encS e 1 w0 gb v l) (hlen : l.length ≤ 1000000) :
    Calls P (ρ.f 6) #[v, .func (.func g) #[] #[]] w0 (Ret fun rv w1 => rv = .tuple #[] ∧ Acc encS e 1 w1 gb v (sortL l) ∧ Mod (Mg gb) w0 w1) := by
  have hn : (sortL l).length = l.length := by unfold sortL; exact List.length_mergeSort _
  by_cases h0 : l = []
  · subst h0
    have hv : ∃ p cap, v = .slice p 0 cap := by
      rcases h with ⟨rfl, _⟩ | ⟨b, cap, cur, _, rfl, _⟩
      · exact ⟨_, _, rfl⟩
      · exact ⟨_, _, rfl⟩
    obtain ⟨p, cap, rfl⟩ := hv
    refine (AnyF.slices_SortFunc_none (P := P) (ρ := ρ) { L with } p cap (.func (.func g) #[] #[]) w0).mono ?_
    rintro e' w' ⟨rfl, rfl⟩
    exact ⟨_, rfl, rfl, by simpa [sortL] using h, Mod.refl _ _⟩
  · rcases h with ⟨_, h, _⟩ | ⟨b, cap, cur, rfl, rfl, hb, hcap, hm, hsz, ht⟩
    · exact absurd h h0
    · rw [Nat.mul_one] at hsz ht
      have ht' : cur.toList.take l.length = l.map strV := by rw [ht, flat_encS]
      have hd : l.toArray.size = l.length := by simp
      have hlay : CmpLays1 P g #[] strV Lib.compareBytes b 0 l.toArray.size w0 := by
        intro m os dk hs x y
        refine (hc _ x y).mono ?_
        rintro e' w' ⟨rv, rfl, rfl, rfl⟩
        exact ⟨rfl, 0, #[], by rw [grow_empty]; rfl⟩
      have hcon := Any.slices_SortFunc_total L strV strV_one Lib.compareBytes swo_cmp g #[] b 0 cap l.toArray w0 eg hlay (holds_own hb ht') (Array.getElem?_eq_some_iff.1 hb).1 (by simp; omega) (by
        intro x y h1 h2
        unfold ltOf at h1 h2
        simp only [decide_eq_false_iff_not] at h1 h2
        apply Classical.byContradiction
        intro hne
        exact h2 (Ml.lt_tri h1 hne))
      rw [hd] at hcon
      refine hcon.mono ?_
      rintro e' w' ⟨rfl, n, os, rfl⟩
      obtain ⟨p1, p2⟩ := putRow_own hb n os (sortL l).toArray
      refine ⟨_, rfl, rfl, .inr ⟨b, cap, _, rfl, by rw [hn], p1, by omega, hm, ?_, ?_⟩, p2⟩
      · simp [putCells, hsz]
      · rw [Nat.mul_one]
        have := putCells_take (d := (sortL l).toArray) (cur := cur) (by simp [hn]; omega) (sortL l).length (by simp)
        rw [this, flat_encS]
        simp

theorem compact_own {P : Program} {ρ : Ren} (L : SlLaysE.n43 P ρ) (v23 : ∀ w, (zeroValue (ρ.t 23)).run P w = .ok (strV []) w) 
    {w0 : World} {gb : Nat} {v : Value} {l : List Str} {e : TypeId} (h : Acc encS e 1 w0 gb v l) (hl : v ≠ .slice none 0 0) (hlen : l.length ≤ 1000000) :
    Calls P (ρ.f 43) #[v] w0 (Ret fun rv w1 => Acc encS e 1 w1 gb rv (compactUpTo l.toArray l.length) ∧ Mod (Mg gb) w0 w1) := by
  rcases h with ⟨h, _, _⟩ | ⟨b, cap, cur, rfl, rfl, hb, hcap, hm, hsz, ht⟩
  · exact absurd h hl
  · rw [Nat.mul_one] at hsz ht
    have ht' : cur.toList.take l.length = l.map strV := by rw [ht, flat_encS]
    have hd : l.toArray.size = l.length := by simp
    have hinj : ∀ x y : Str, ((⟨x.toArray⟩ : ByteArray).toList == (⟨y.toArray⟩ : ByteArray).toList) = decide (x = y) := by
      intro x y; rw [toList_mk, toList_mk]; by_cases h : x = y <;> simp [h]
    have heq : EqlAt P (ρ.t 23) strV (fun x y => decide (x = y)) := ⟨fun x y w => by
      have := (EqlAt.string P (ρ.t 23)).1 ⟨x.toArray⟩ ⟨y.toArray⟩ w
      simp only [hinj] at this; exact this, fun op a b x y w => (EqlAt.string P (ρ.t 23)).2 op a b ⟨x.toArray⟩ ⟨y.toArray⟩ w⟩
    have hne : NeqAt P (ρ.t 23) strV (fun x y => decide (x = y)) := ⟨fun x y w => by
      have := (NeqAt.string P (ρ.t 23)).1 ⟨x.toArray⟩ ⟨y.toArray⟩ w
      simp only [hinj] at this; exact this, fun op a b x y w => (NeqAt.string P (ρ.t 23)).2 op a b ⟨x.toArray⟩ ⟨y.toArray⟩ w⟩
    have hcon := AnyE.slices_Compact L strV strV_one heq hne [] v23 b 0 cap l.toArray w0 (holds_own hb ht') (by simp; omega) (by simp; omega)
    rw [hd] at hcon
    have hcl : (compactUpTo l.toArray l.length).length ≤ l.length := by
      unfold compactUpTo
      rw [List.length_map]
      exact Nat.le_trans (List.length_filter_le _ _) (by simp)
    refine hcon.mono ?_
    rintro e' w' ⟨rfl, n, rfl⟩
    obtain ⟨p1, p2⟩ := putRow_own hb n #[] (compactUpTo l.toArray l.length ++ List.replicate (l.length - (compactUpTo l.toArray l.length).length) []).toArray
    rw [grow_empty] at p1 p2
    refine ⟨_, rfl, .inr ⟨b, cap, _, rfl, rfl, p1, by omega, hm, ?_, ?_⟩, p2⟩
    · simp [putCells, hsz]
    · rw [Nat.mul_one]
      have := putCells_take (d := (compactUpTo l.toArray l.length ++ List.replicate (l.length - (compactUpTo l.toArray l.length).length) []).toArray) (cur := cur) (by simp; omega) (compactUpTo l.toArray l.length).length (by simp)
      rw [this, flat_encS]
      simp

theorem sortL_mem {l : List Str} {x : Str} : x ∈ sortL l ↔ x ∈ l := List.mem_mergeSort
theorem sortL_sorted (l : List Str) : (sortL l).Pairwise fun a b => ¬ Lib.compareBytes b a < 0 := by
  have h := List.pairwise_mergeSort (le := fun x y => !(ltOf Lib.compareBytes) y x) (fun a b c h1 h2 => by
    simp only [Bool.not_eq_true'] at *
    exact swo_cmp.ntrans _ _ _ h2 h1) (fun a b => by
    simp only [Bool.or_eq_true, Bool.not_eq_true']
    cases h : ltOf Lib.compareBytes b a with
    | false => exact .inl rfl
    | true =>
      refine .inr ?_
      cases h2 : ltOf Lib.compareBytes a b with
      | false => rfl
      | true =>
        have := swo_cmp.trans _ _ _ h h2
        rw [swo_cmp.irrefl] at this; cases this) l
  refine h.imp ?_
  intro a b hab
  unfold ltOf at hab
  simpa using hab

theorem compact_upTo {l : List Str} (hs : l.Pairwise fun a b => ¬ Lib.compareBytes b a < 0) : ∀ m, m ≤ l.length → Ml.Sorted (compactUpTo l.toArray m) ∧ (∀ x, x ∈ compactUpTo l.toArray m ↔ x ∈ l.take m) ∧
    (∀ k, m = k + 1 → ∀ x ∈ compactUpTo l.toArray m, x = l[k]! ∨ Ml.ltT x l[k]!)
  | 0, _ => ⟨by simp [compactUpTo, Ml.Sorted], by simp [compactUpTo], by intro k h; omega⟩
  | m + 1, hm => by
    obtain ⟨h1, h2, h3⟩ := compact_upTo hs m (by omega)
    have hlt : m < l.length := by omega
    have hg : l.toArray[m]! = l[m]! := by simp
    have ht : ∀ x, x ∈ l.take (m + 1) ↔ x ∈ l.take m ∨ x = l[m]! := by
      intro x
      rw [List.take_add_one, List.getElem?_eq_getElem hlt, List.mem_append, getElem!_pos l m hlt]
      simp only [Option.toList_some, List.mem_singleton]
    rw [compactUpTo_succ]
    cases hk : keeps l.toArray m with
    | true =>
      rw [if_pos rfl, hg]
      have hlow : ∀ x ∈ compactUpTo l.toArray m, Ml.ltT x l[m]! := by
        intro x hx
        cases m with
        | zero => simp [compactUpTo] at hx
        | succ k =>
          unfold keeps at hk
          simp only [decide_eq_true_eq] at hk
          have hne : l[k + 1]! ≠ l[k]! := by
            rcases hk with h | h
            · omega
            · simpa using h
          have hkl : k < l.length := by omega
          have hw : ¬ Lib.compareBytes l[k + 1]! l[k]! < 0 := by
            have := List.pairwise_iff_getElem.1 hs k (k + 1) hkl hlt (by omega)
            simpa [hkl, hlt] using this
          have hstep : Ml.ltT l[k]! l[k + 1]! := Ml.lt_tri hw hne
          rcases h3 k rfl x hx with rfl | h
          · exact hstep
          · exact Ml.lt_trans h hstep
      refine ⟨?_, ?_, ?_⟩
      · refine List.pairwise_append.2 ⟨h1, by simp, ?_⟩
        intro a ha b hb
        simp only [List.mem_singleton] at hb
        subst hb
        exact hlow a ha
      · intro x
        rw [List.mem_append, h2, ht, List.mem_singleton]
      · intro k hk2 x hx
        have : k = m := by omega
        subst this
        rcases List.mem_append.1 hx with hx | hx
        · exact .inr (hlow x hx)
        · exact .inl (by simpa using hx)
    | false =>
      rw [if_neg (by simp), List.append_nil]
      unfold keeps at hk
      simp only [decide_eq_false_iff_not, not_or] at hk
      cases m with
      | zero => exact absurd rfl hk.1
      | succ k =>
        have he : l[k + 1]! = l[k]! := by
          have := Classical.not_not.1 hk.2
          simpa using this
        have hkl : k < l.length := by omega
        have hin : l[k]! ∈ l.take (k + 1) := by
          rw [List.take_add_one, List.getElem?_eq_getElem hkl, List.mem_append, getElem!_pos l k hkl]
          simp only [Option.toList_some, List.mem_singleton, or_true]
        refine ⟨h1, ?_, ?_⟩
        · intro x
          rw [h2, ht, he]
          constructor
          · exact .inl
          · rintro (h | rfl)
            · exact h
            · exact hin
        · intro j hj x hx
          have : j = k + 1 := by omega
          subst this
          rw [he]
          exact h3 k rfl x hx
end Go.Ik
/-
  Plain functions and laws of chapter 4: where a word stands, without, in order; no program in sight.
-/
set_option linter.unusedVariables false
set_option linter.unusedSimpArgs false
namespace Go.Ml
open Go.Ik

/-! where a word stands -/
def belowW (l : List Str) (w : Str) : Nat := l.countP fun x => decide (Lib.compareBytes x w < 0)
theorem belowW_le (l : List Str) (w : Str) : belowW l w ≤ l.length := List.countP_le_length
theorem sorted_at {l : List Str} (hs : Sorted l) {i j : Nat} {x y : Str} (hx : l[i]? = some x) (hy : l[j]? = some y) (h : i < j) : ltT x y := by
  obtain ⟨h1, rfl⟩ := List.getElem?_eq_some_iff.1 hx
  obtain ⟨h2, rfl⟩ := List.getElem?_eq_some_iff.1 hy
  exact List.pairwise_iff_getElem.1 hs _ _ h1 h2 h
structure BsInv (l : List Str) (w : Str) (i j : Nat) : Prop where
  lo : ∀ k x, k < i → l[k]? = some x → ltT x w
  hi : ∀ k x, j ≤ k → l[k]? = some x → ¬ ltT x w
theorem BsInv.start (l : List Str) (w : Str) : BsInv l w 0 l.length :=
  ⟨fun k x h => by omega, fun k x h hx => by have := (List.getElem?_eq_some_iff.1 hx).1; omega⟩
theorem BsInv.up {l : List Str} {w x : Str} {i j h : Nat} (hb : BsInv l w i j) (hs : Sorted l) (hx : l[h]? = some x) (hc : Lib.compareBytes x w < 0) : BsInv l w (h + 1) j :=
  ⟨fun k y hk hy => by
    rcases Nat.lt_or_ge k h with hl | hl
    · exact lt_trans (sorted_at hs hy hx hl) hc
    · have : k = h := by omega
      subst this
      rw [hx] at hy; cases hy; exact hc, hb.hi⟩
theorem BsInv.dn {l : List Str} {w x : Str} {i j h : Nat} (hb : BsInv l w i j) (hs : Sorted l) (hx : l[h]? = some x) (hc : ¬ Lib.compareBytes x w < 0) : BsInv l w i h :=
  ⟨hb.lo, fun k y hk hy => by
    rcases Nat.lt_or_ge h k with hl | hl
    · exact fun hlt => hc (lt_trans (sorted_at hs hx hy hl) hlt)
    · have : k = h := by omega
      subst this
      rw [hx] at hy; cases hy; exact hc⟩
theorem BsInv.count {l : List Str} {w : Str} {i j : Nat} (hb : BsInv l w i j) (hij : i = j) (hi : i ≤ l.length) : belowW l w = i := by
  subst hij
  unfold belowW
  conv => lhs; rw [← List.take_append_drop i l]
  rw [List.countP_append]
  have h1 : (l.take i).countP (fun x => decide (Lib.compareBytes x w < 0)) = (l.take i).length := by
    rw [List.countP_eq_length]
    intro a ha
    obtain ⟨k, hk⟩ := List.mem_iff_getElem?.1 ha
    rw [List.getElem?_take] at hk
    split at hk
    · rename_i hlt
      exact decide_eq_true (hb.lo k a hlt hk)
    · cases hk
  have h2 : (l.drop i).countP (fun x => decide (Lib.compareBytes x w < 0)) = 0 := by
    rw [List.countP_eq_zero]
    intro a ha
    obtain ⟨k, hk⟩ := List.mem_iff_getElem?.1 ha
    rw [List.getElem?_drop] at hk
    have := hb.hi (i + k) a (by omega) hk
    simpa [ltT] using this
  rw [h1, h2, List.length_take]; omega
theorem lt_ne {x w : Str} (h : ltT x w) : x ≠ w := fun e => by subst e; exact lt_irrefl x h
theorem BsInv.yes {l : List Str} {w x : Str} {i : Nat} (hx : l[i]? = some x) (hc : Lib.compareBytes x w = 0) : true = l.contains w := by
  have := cmp_eq hc
  subst this
  exact (List.contains_iff_mem.2 (List.mem_of_getElem? hx)).symm
theorem BsInv.no {l : List Str} {w x : Str} {i j : Nat} (hb : BsInv l w i j) (hs : Sorted l) (hij : i = j) (hx : l[i]? = some x) (hc : Lib.compareBytes x w ≠ 0) : false = l.contains w := by
  subst hij
  cases h : l.contains w with
  | false => rfl
  | true =>
    obtain ⟨k, hk⟩ := List.mem_iff_getElem?.1 (List.contains_iff_mem.1 h)
    rcases Nat.lt_or_ge k i with hl | hl
    · exact absurd (hb.lo k w hl hk) (lt_irrefl w)
    · rcases Nat.lt_or_ge i k with h2 | h2
      · exact absurd (sorted_at hs hx hk h2) (hb.hi i x (Nat.le_refl _) hx)
      · have : k = i := by omega
        subst this
        rw [hx] at hk; cases hk
        exact absurd (cmp_refl _) hc
theorem BsInv.none {l : List Str} {w : Str} {i j : Nat} (hb : BsInv l w i j) (hi : l.length ≤ i) : false = l.contains w := by
  cases h : l.contains w with
  | false => rfl
  | true =>
    obtain ⟨k, hk⟩ := List.mem_iff_getElem?.1 (List.contains_iff_mem.1 h)
    have := (List.getElem?_eq_some_iff.1 hk).1
    exact absurd (hb.lo k w (by omega) hk) (lt_irrefl w)
/-- in a list in order: what is below a word stands ahead of its place -/
theorem bs_any {l : List Str} (hs : Sorted l) (w : Str) : BsInv l w (belowW l w) (belowW l w) := by
  have key : ∀ (l : List Str), Sorted l → ∀ k x, l[k]? = some x → (ltT x w ↔ k < belowW l w) := by
    intro l
    induction l with
    | nil => intro _ k x hx; simp at hx
    | cons a l ih =>
      intro hs k x hx
      have hs' := List.pairwise_cons.1 hs
      have hb : belowW (a :: l) w = belowW l w + (if Lib.compareBytes a w < 0 then 1 else 0) := by
        unfold belowW; rw [List.countP_cons]; simp
      cases k with
      | zero =>
        simp only [List.getElem?_cons_zero, Option.some.injEq] at hx
        subst hx
        by_cases h : Lib.compareBytes a w < 0
        · rw [hb, if_pos h]
          exact ⟨fun _ => by omega, fun _ => h⟩
        · rw [hb, if_neg h]
          have h0 : belowW l w = 0 := by
            unfold belowW
            rw [List.countP_eq_zero]
            intro y hy hlt
            exact h (lt_trans (hs'.1 y hy) (of_decide_eq_true hlt : Lib.compareBytes y w < 0))
          rw [h0]
          exact ⟨fun hh => absurd hh h, fun hh => by omega⟩
      | succ k =>
        simp only [List.getElem?_cons_succ] at hx
        have := ih hs'.2 k x hx
        by_cases h : Lib.compareBytes a w < 0
        · rw [hb, if_pos h, this]; omega
        · rw [hb, if_neg h, this]
          have h0 : belowW l w = 0 := by
            unfold belowW
            rw [List.countP_eq_zero]
            intro y hy hlt
            exact h (lt_trans (hs'.1 y hy) (of_decide_eq_true hlt : Lib.compareBytes y w < 0))
          omega
  exact ⟨fun k x hk hx => (key l hs k x hx).2 hk, fun k x hk hx hlt => by have := (key l hs k x hx).1 hlt; omega⟩
theorem at_mem {l : List Str} (hs : Sorted l) {w : Str} (h : l.contains w = true) : l[belowW l w]? = some w := by
  obtain ⟨k, hk⟩ := List.mem_iff_getElem?.1 (List.contains_iff_mem.1 h)
  have hb := bs_any hs w
  rcases Nat.lt_or_ge k (belowW l w) with hl | hl
  · exact absurd (hb.lo k w hl hk) (lt_irrefl w)
  · rcases Nat.lt_or_ge (belowW l w) k with h2 | h2
    · have hkl := (List.getElem?_eq_some_iff.1 hk).1
      have hx : l[belowW l w]? = some (l[belowW l w]'(by omega)) := List.getElem?_eq_getElem (by omega)
      exact absurd (sorted_at hs hx hk h2) (hb.hi _ _ (Nat.le_refl _) hx)
    · have : k = belowW l w := by omega
      rw [← this]; exact hk
theorem at_lt {l : List Str} (hs : Sorted l) {w x : Str} {i : Nat} (hx : l[i]? = some x) : Lib.compareBytes x w < 0 ↔ i < belowW l w := by
  have hb := bs_any hs w
  constructor
  · intro h
    rcases Nat.lt_or_ge i (belowW l w) with h1 | h1
    · exact h1
    · exact absurd h (hb.hi i x h1 hx)
  · intro h; exact hb.lo i x h hx

theorem BsInv.at {l : List Str} {w x : Str} {i j : Nat} {b : Bool} (hb : BsInv l w i j) (hs : Sorted l) (hij : i = j) (hx : l[i]? = some x) (h : b = (Lib.compareBytes x w == 0)) : b = l.contains w := by
  rw [h]
  by_cases hc : Lib.compareBytes x w = 0
  · rw [← BsInv.yes hx hc]; simp [hc]
  · rw [← hb.no hs hij hx hc]; simp [hc]

/-! without -/
def withoutM (a b : List Str) : List Str := a.filter fun w => !b.contains w
theorem wo_yes {a b l : List Str} {k : Nat} {x : Str} (hi : l = (a.take k).filter fun w => !b.contains w) (hx : a[k]? = some x) (h : b.contains x = false) : l ++ [x] = (a.take (k + 1)).filter fun w => !b.contains w := by
  rw [hi]; exact (filter_take_yes hx (by rw [h]; rfl)).symm
theorem wo_no {a b l : List Str} {k : Nat} {x : Str} (hi : l = (a.take k).filter fun w => !b.contains w) (hx : a[k]? = some x) (h : b.contains x = true) : l = (a.take (k + 1)).filter fun w => !b.contains w := by
  rw [hi]; exact (filter_take_no hx (by rw [h]; rfl)).symm
theorem LOk.att {l : List Str} (h : LOk l) {m k : Nat} {x : Str} (hx : (l.take m)[k]? = some x) : x.length ≤ 9223372036854775807 := h x (List.mem_of_mem_take (List.mem_of_getElem? hx))
theorem without_mem {a b : List Str} {x : Str} : x ∈ withoutM a b ↔ x ∈ a ∧ x ∉ b := by
  unfold withoutM; rw [List.mem_filter]; simp
theorem without_sorted {a b : List Str} (ha : Sorted a) : Sorted (withoutM a b) := List.Pairwise.filter _ ha
theorem without_len (a b : List Str) : (withoutM a b).length ≤ a.length := List.length_filter_le _ _

/-! in order -/
def sortedM (l : List Str) : List Str := Lib.compactUpTo (sortL ((l.take 1000).filter word)).toArray (sortL ((l.take 1000).filter word)).length
theorem sortedM_spec (l : List Str) : Sorted (sortedM l) ∧ ∀ x, x ∈ sortedM l ↔ x ∈ (l.take 1000).filter word := by
  have h := compact_upTo (sortL_sorted ((l.take 1000).filter word)) _ (Nat.le_refl _)
  refine ⟨h.1, fun x => ?_⟩
  unfold sortedM
  rw [h.2.1, List.take_length, sortL_mem]
theorem sortL_len (l : List Str) : (sortL l).length = l.length := List.length_mergeSort _
theorem sortedM_eq {words l : List Str} {k : Nat} (hi : l = ((words.take (min words.length 1000)).take k).filter word) (hk : (words.take (min words.length 1000)).length ≤ k) : Lib.compactUpTo (sortL l).toArray (sortL l).length = sortedM words := by
  have e : words.take (min words.length 1000) = words.take 1000 := by
    by_cases h : words.length ≤ 1000
    · rw [List.take_of_length_le (show words.length ≤ min words.length 1000 by omega), List.take_of_length_le h]
    · rw [show min words.length 1000 = 1000 by omega]
  rw [List.take_of_length_le hk, e] at hi
  rw [hi]; rfl
theorem sortedM_is {l r : List Str} (h1 : rising r = true) (h2 : (((l.take 1000).filter word).all fun x => r.contains x) = true) (h3 : (r.all fun x => ((l.take 1000).filter word).contains x) = true) : sortedM l = r := by
  have h := sortedM_spec l
  refine sorted_ext h.1 (rising_sorted h1) fun x => ?_
  rw [h.2]
  constructor
  · intro hx; exact List.contains_iff_mem.1 (List.all_eq_true.1 h2 x hx)
  · intro hx; exact List.contains_iff_mem.1 (List.all_eq_true.1 h3 x hx)
theorem nodup_len : ∀ {l r : List Str}, l.Nodup → (∀ x ∈ l, x ∈ r) → l.length ≤ r.length
  | [], r, _, _ => Nat.zero_le _
  | a :: l, r, hn, h => by
    have hn' := List.nodup_cons.1 hn
    have ha : a ∈ r := h a (by simp)
    have := nodup_len (l := l) (r := r.erase a) hn'.2 (fun x hx => by
      have hxa : x ≠ a := fun e => by subst e; exact hn'.1 hx
      exact (List.mem_erase_of_ne hxa).2 (h x (by simp [hx])))
    rw [List.length_erase_of_mem ha] at this
    have := List.length_pos_of_mem ha
    simp only [List.length_cons]; omega
theorem sorted_nodup {l : List Str} (h : Sorted l) : l.Nodup := h.imp fun h => lt_ne h
theorem sortedM_len (l : List Str) : (sortedM l).length ≤ l.length := by
  have h := sortedM_spec l
  refine nodup_len (sorted_nodup h.1) fun x hx => ?_
  exact List.mem_of_mem_take (List.mem_filter.1 ((h.2 x).1 hx)).1
theorem sortedM_small {l : List Str} (h : l.length ≤ 1000) (x : Str) : x ∈ sortedM l ↔ x ∈ l ∧ word x = true := by
  rw [(sortedM_spec l).2, List.take_of_length_le h, List.mem_filter]

/-! laws of chapter 4 -/
theorem good_sorted {l : List Str} (h : goodL l = 0) : Sorted l := (good_words h).2.2
theorem good_len {l : List Str} (h : goodL l = 0) : l.length ≤ 60 := (good_words h).1
theorem merge_comm {a b : List Str} (ha : Sorted a) (hb : Sorted b) : mergeL a b = mergeL b a :=
  sorted_ext (merge_sorted ha hb) (merge_sorted hb ha) fun x => by rw [mem_merge, mem_merge]; exact or_comm
theorem merge_without {a b : List Str} (ha : Sorted a) (hb : Sorted b) : mergeL (withoutM a b) b = mergeL a b :=
  sorted_ext (merge_sorted (without_sorted ha) hb) (merge_sorted ha hb) fun x => by
    rw [mem_merge, mem_merge, without_mem]
    by_cases h : x ∈ b <;> simp [h]
theorem merge_in (a b : List Str) (w : Str) : (mergeL a b).contains w = (a.contains w || b.contains w) := by
  rw [Bool.eq_iff_iff, List.contains_iff_mem, mem_merge, Bool.or_eq_true, List.contains_iff_mem, List.contains_iff_mem]
theorem without_self (a : List Str) : (withoutM a a).length = 0 := by
  rw [List.length_eq_zero_iff, List.eq_nil_iff_forall_not_mem]
  intro x hx
  have := without_mem.1 hx
  exact this.2 this.1
theorem merge_three {a b c : List Str} (ha : Sorted a) (hb : Sorted b) (hc : Sorted c) : mergeL (mergeL a b) c = mergeL a (mergeL c b) :=
  sorted_ext (merge_sorted (merge_sorted ha hb) hc) (merge_sorted ha (merge_sorted hc hb)) fun x => by
    simp only [mem_merge]
    constructor
    · rintro ((h | h) | h) <;> simp [h]
    · rintro (h | h | h) <;> simp [h]
theorem without_two {a b c : List Str} (ha : Sorted a) : withoutM (withoutM a b) c = withoutM a (mergeL b c) :=
  sorted_ext (without_sorted (without_sorted ha)) (without_sorted ha) fun x => by
    simp only [without_mem, mem_merge, not_or, and_assoc]
theorem without_merged {a b c : List Str} (ha : Sorted a) (hb : Sorted b) (hc : Sorted c) : withoutM (mergeL (mergeL a b) c) c = withoutM (mergeL a b) c :=
  sorted_ext (without_sorted (merge_sorted (merge_sorted ha hb) hc)) (without_sorted (merge_sorted ha hb)) fun x => by
    simp only [without_mem, mem_merge]
    constructor
    · rintro ⟨(h | h), h2⟩
      · exact ⟨h, h2⟩
      · exact absurd h h2
    · rintro ⟨h, h2⟩; exact ⟨.inl h, h2⟩
theorem greatT_len {l : List Str} (h : greatT l = false) : l.length ≤ 80 := by
  unfold greatT at h
  simp only [Bool.or_eq_false_iff, decide_eq_false_iff_not] at h
  omega
theorem filter_take_at {l : List Str} {k : Nat} {x : Str} (hx : l[k]? = some x) : (l.take (k + 1)).filter word = (l.take k).filter word ++ (if word x = true then [x] else []) := by
  rw [List.take_add_one, hx, List.filter_append]
  simp [List.filter_cons]
theorem decide_iff_eq {p q : Prop} [Decidable p] [Decidable q] (h : p ↔ q) : decide p = decide q := by
  by_cases hp : p
  · rw [decide_eq_true hp, decide_eq_true (h.1 hp)]
  · rw [decide_eq_false hp, decide_eq_false (fun hq => hp (h.2 hq))]

theorem at_mem_lt {l : List Str} (hs : Sorted l) {w : Str} (h : l.contains w = true) : belowW l w < l.length := (List.getElem?_eq_some_iff.1 (at_mem hs h)).1
theorem at_eq {l : List Str} (hs : Sorted l) {w x : Str} (h : l.contains w = true) (hx : l[belowW l w]? = some x) : x = w := by
  rw [at_mem hs h] at hx; cases hx; rfl
theorem at_no {l : List Str} {w x : Str} {i : Nat} (hx : l[i]? = some x) (hc : Lib.compareBytes x w = 0) (h : l.contains w = false) : False := by
  rw [← BsInv.yes hx hc] at h; cases h
theorem snbeq {a b : Str} (h : a = b) : (!(a == b)) = false := by rw [h]; simp
theorem nbeqB {p q : Prop} [Decidable p] [Decidable q] {b c : Bool} (hb : b = decide p) (hc : c = decide q) (h : p ↔ q) : (!(b == c)) = false := by
  rw [hb, hc, decide_iff_eq h]; simp
theorem nbeqBB {b c p q : Bool} (hb : b = p) (hc : c = q) (h : p = q) : (!(b == c)) = false := by rw [hb, hc, h]; simp
theorem eqb1 {a b : List Str} {w : Str} {z : Bool} (hz : z = (mergeL a b).contains w) (hx : a.contains w = true) : (z == true) = true := by rw [hz, merge_in, hx]; simp
theorem eqb2 {a b : List Str} {w : Str} {z y : Bool} (hz : z = (mergeL a b).contains w) (hx : a.contains w = false) (hy : y = b.contains w) : (z == y) = true := by rw [hz, merge_in, hx, hy]; simp
theorem sortedM_word {l : List Str} {i : Nat} {x : Str} (hx : (sortedM l)[i]? = some x) : word x = true := (List.mem_filter.1 (((sortedM_spec l).2 x).1 (List.mem_of_getElem? hx))).2
theorem sortedM_ok {l : List Str} (h : LOk l) {i : Nat} {x : Str} (hx : (sortedM l)[i]? = some x) : x.length ≤ 9223372036854775807 :=
  h x (List.mem_of_mem_take (List.mem_filter.1 (((sortedM_spec l).2 x).1 (List.mem_of_getElem? hx))).1)
theorem sortedM_lt {l : List Str} {i j : Nat} {x y : Str} (hx : (sortedM l)[j]? = some x) (hy : (sortedM l)[i]? = some y) (h : j < i) : Lib.compareBytes x y < 0 := sorted_at (sortedM_spec l).1 hx hy h
theorem sortedM_in {l : List Str} (hl : l.length ≤ 1000) {i : Nat} {x : Str} (hx : l[i]? = some x) : (sortedM l).contains x = word x := by
  rw [Bool.eq_iff_iff, List.contains_iff_mem, sortedM_small hl]
  exact ⟨fun h => h.2, fun h => ⟨List.mem_of_getElem? hx, h⟩⟩
end Go.Ml
