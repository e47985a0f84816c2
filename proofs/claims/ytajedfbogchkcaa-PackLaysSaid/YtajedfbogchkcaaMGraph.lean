/-
  Graphs in memory; functions handed in; results in a cell.
-/
import Derived.Test.YtajedfbogchkcaaPlGraph2
set_option linter.unusedVariables false
set_option linter.unusedSimpArgs false
set_option linter.unusedSectionVars false
namespace Go.Ik
open Go

/-! results in a cell -/
theorem r_retC1 {P : Program} {f : FuncId} {R : Ending → World → Prop} {n : Nat} {E : Env} {k : List Item} {w : World} {fn : Func} {t : Tmp} {ty : TypeId} {b off sz by_ : Nat} {z cs : List Value} (hf : P.funcs[f]? = some fn) (hres : fn.results = #[.cell t ty])
    (hv : lk t E = some (ptr b off)) (ht : tyI P ty = some (true, sz, by_, z)) (hr : Row w b off cs) (hn : cs.length = sz) (hR : R (.returned (.agg cs.toArray)) w) : RunE P f R n E (.code .ret :: k) w := fun a ha b' hb hk cs' =>
  ⟨_, w, { b'.at a (.code .ret :: k) with mode := .returning }, hR, .one step_ret, hb, leave_ret ha hf hb hk (by
    have hg : a.tmps[t]?.getD undef = .pointer (some ⟨b, off, none⟩) := by have := ha.has t _ hv; simpa [ptr] using this
    simp [results, hres, hg, asAddr, Sem.run_bind, Result.andThen, run_loadVar_agg ht hr hn])⟩

/-! blocks from 'B' on -/
def Ge (B : Nat) : Nat → Prop := fun b => B ≤ b
theorem Ext.thenGe {B : Nat} {w0 w w' : World} (h : Ext w0 w) (k : Mod (Ge B) w w') (hB : w0.heap.size ≤ B) : Ext w0 w' := h.then k (fun i hi hl => by unfold Ge at hi; omega)
theorem Mod.thenGe {B : Nat} {w0 w w' : World} (h : Mod (Ge B) w0 w) (k : Mod (Ge B) w w') : Mod (Ge B) w0 w' := h.trans k
theorem Mod.ofG {B g : Nat} {w w' : World} (k : Mod (Mg g) w w') (hg : g = 0 ∨ B < g) : Mod (Ge B) w w' := k.weaken (fun i hi _ => by unfold Mg at hi; unfold Ge; omega)
theorem Sl.keepB {α : Type} {enc : α → List Value} {w w' : World} {lo hi B : Nat} {v : Value} {l : List α} (h : Sl enc w (Iv lo hi) v l) (hm : Mod (Ge B) w w') (hg : hi ≤ B) : Sl enc w' (Iv lo hi) v l :=
  h.keep hm fun b hb hx => by unfold Iv Ge at *; omega
theorem Bk.keepB {w w' : World} {b B : Nat} {cs : List Value} {e : TypeId} (h : Bk w b cs e) (hm : Mod (Ge B) w w') (hg : b < B) : Bk w' b cs e := h.keep hm fun hx => by unfold Ge at hx; omega
theorem Acc.keepB {α : Type} {enc : α → List Value} {e : TypeId} {sz B g : Nat} {w w' : World} {v : Value} {l : List α} (h : Acc enc e sz w g v l) (hm : Mod (Ge B) w w') (hg : g ≤ B) : Acc enc e sz w' g v l := h.keep hm fun b hb hx => by unfold Ge at hx; omega
theorem Rw.keepB {w w' : World} {lo hi b B : Nat} {cs : List Value} (h : Rw w lo hi b cs) (hm : Mod (Ge B) w w') (hg : hi ≤ B) : Rw w' lo hi b cs := ⟨h.1, h.2.1, h.2.2.keep hm fun hx => by have := h.2.1; unfold Ge at hx; omega⟩
theorem It.keepB {w w' : World} {b B : Nat} {s : Str} {pos : Nat} (h : It w b s pos) (hm : Mod (Ge B) w w') (hg : b < B) : It w' b s pos := hm.keep _ _ h fun hx => by unfold Ge at hx; omega

/-! a slice compared with nil -/
theorem Q1.eqNilSl {P : Program} {E : Env} {C : World → Prop} {d : Option Tmp} {ty : TypeId} {pos : String} {af : Array Edge} {gd : Option (Nat × Bool)} {xt yt e : TypeId} {x y : Operand} {a : Option Addr} {n c : Nat} (hu : P.underlying xt = some (.slice e)) (hx : ev E x = some (.slice a n c)) (hy : ev E y = some (.slice none 0 0)) :
    Q1 P ⟨d, .binOp .eql xt x y yt, ty, pos, af, gd⟩ E C (.bool a.isNone) := fun s ha w _ => by
  have h : (Op.equal xt (.slice a n c) (.slice none 0 0)).run P w = .ok a.isNone w := by
    have key : ∀ k, (Op.equalIn (k + 1) xt (.slice a n c) (.slice none 0 0)).run P w = .ok a.isNone w := fun k => by
      cases a <;> simp [Op.equalIn, run_underlying hu]
    exact key 9999
  have hg : (eqGuard .eql xt x y (.slice a n c) (.slice none 0 0)).run P w = .ok () w := by
    unfold eqGuard; split <;> simp
  simp [execOp, ha.ev hx, ha.ev hy, hg, Go.binOp, h]
theorem Sl.isNil {α : Type} {enc : α → List Value} {w : World} {F : Nat → Prop} {v : Value} {l : List α} (h : Sl enc w F v l) : ∃ a c, v = .slice a l.length c ∧ (a.isNone = true → l = []) := by
  obtain ⟨a, c, h1, h2, h3, h4⟩ := h
  refine ⟨a, c, h1, fun hn => ?_⟩
  rcases h4 with h4 | ⟨b, off, h5, _⟩
  · exact h4
  · subst h5; cases hn

/-! graphs -/
structure RNode where
  fin : Bool
  e : SH
def encN (x : RNode) : List Value := [.bool x.fin, x.e.val]
theorem encN_len (x : RNode) : (encN x).length = 2 := rfl
theorem encN_one (x : RNode) : (encN x).all (·.oneCell') = true := rfl
abbrev GN := Bool × List Ml.Ed
def NRel (w : World) (F : Nat → Prop) (nds : List RNode) (N : List GN) : Prop := All2 (fun r n => r.fin = n.1 ∧ Sl Ml.encE w F r.e.val n.2) nds N
theorem NRel.keep {M : Nat → Prop} {w w' : World} {F : Nat → Prop} {nds : List RNode} {N : List GN} (h : NRel w F nds N) (hm : Mod M w w') (hF : ∀ b, F b → ¬ M b) : NRel w' F nds N :=
  All2.imp (fun r n ⟨h1, h2⟩ => ⟨h1, h2.keep hm hF⟩) h
theorem NRel.ext {w w' : World} {F : Nat → Prop} {nds : List RNode} {N : List GN} (h : NRel w F nds N) (hm : Ext w w') : NRel w' F nds N := h.keep hm (fun _ _ x => x)
theorem NRel.mono {w : World} {F F' : Nat → Prop} {nds : List RNode} {N : List GN} (h : NRel w F nds N) (hF : ∀ b, F b → F' b) : NRel w F' nds N :=
  All2.imp (fun r n ⟨h1, h2⟩ => ⟨h1, h2.mono hF⟩) h
theorem NRel.at {w : World} {F : Nat → Prop} {nds : List RNode} {N : List GN} (h : NRel w F nds N) {i : Nat} {r : RNode} (hr : nds[i]? = some r) : ∃ n, N[i]? = some n ∧ r.fin = n.1 ∧ Sl Ml.encE w F r.e.val n.2 := by
  have hg := h.get
  have hlt := (List.getElem?_eq_some_iff.1 hr).1
  have hx : N[i]? = some (N[i]'(by rw [← hg.1]; exact hlt)) := by simp
  exact ⟨_, hx, hg.2 i _ _ hr hx⟩
/-- a graph: nil (then it has no nodes) or one that has some -/
def Gr (gt : TypeId) (w : World) (lo hi : Nat) (v : Value) (N : List GN) : Prop :=
  (v = .pointer none ∧ N = []) ∨ ∃ b vn nds, v = ptr b 0 ∧ N ≠ [] ∧ Rw w lo hi b [vn] ∧ Sl encN w (Iv lo hi) vn nds ∧ NRel w (Iv lo hi) nds N
theorem Gr.ext {gt : TypeId} {w w' : World} {lo hi : Nat} {v : Value} {N : List GN} (h : Gr gt w lo hi v N) (hm : Ext w w') : Gr gt w' lo hi v N := by
  rcases h with h | ⟨b, vn, nds, h1, h2, h3, h4, h5⟩
  · exact .inl h
  · exact .inr ⟨b, vn, nds, h1, h2, h3.ext hm, h4.ext hm, h5.ext hm⟩
theorem Gr.keepG {gt : TypeId} {w w' : World} {lo hi g : Nat} {v : Value} {N : List GN} (h : Gr gt w lo hi v N) (hm : Mod (Mg g) w w') (hg : g ≤ lo ∨ hi < g) : Gr gt w' lo hi v N := by
  rcases h with h | ⟨b, vn, nds, h1, h2, h3, h4, h5⟩
  · exact .inl h
  · exact .inr ⟨b, vn, nds, h1, h2, h3.keepG hm hg, h4.keepG hm hg, h5.keep hm fun b hb hx => by unfold Iv Mg at *; omega⟩
theorem Gr.keepB {gt : TypeId} {w w' : World} {lo hi B : Nat} {v : Value} {N : List GN} (h : Gr gt w lo hi v N) (hm : Mod (Ge B) w w') (hg : hi ≤ B) : Gr gt w' lo hi v N := by
  rcases h with h | ⟨b, vn, nds, h1, h2, h3, h4, h5⟩
  · exact .inl h
  · exact .inr ⟨b, vn, nds, h1, h2, h3.keepB hm hg, h4.keepB hm hg, h5.keep hm fun b hb hx => by unfold Iv Ge at *; omega⟩
theorem Gr.iv {gt : TypeId} {w : World} {lo hi lo' hi' : Nat} {v : Value} {N : List GN} (h : Gr gt w lo hi v N) (h1 : lo' ≤ lo) (h2 : hi ≤ hi') : Gr gt w lo' hi' v N := by
  rcases h with h | ⟨b, vn, nds, k1, k2, ⟨k3, k4, k5⟩, k6, k7⟩
  · exact .inl h
  · exact .inr ⟨b, vn, nds, k1, k2, ⟨by omega, by omega, k5⟩, k6.iv h1 h2, k7.mono fun b hb => by unfold Iv at *; omega⟩
/-- a graph's nodes out of its names -/
def gnOf (s : Ml.GS) : List GN := s.map fun x => (Ml.finB x.1, x.2)
def nodeAt (N : List GN) (n : Int) : GN := if 0 ≤ n then N[n.toNat]?.getD (false, []) else (false, [])
theorem nodeAt_no {N : List GN} {n : Int} (h : n < 0 ∨ (N.length : Int) ≤ n) : nodeAt N n = (false, []) := by
  unfold nodeAt
  split
  · have : N[n.toNat]? = none := List.getElem?_eq_none (by omega)
    rw [this]; rfl
  · rfl
theorem nodeAt_yes {N : List GN} {n : Int} {x : GN} (h : 0 ≤ n) (hx : N[n.toNat]? = some x) : nodeAt N n = x := by
  unfold nodeAt; rw [if_pos h, hx]; rfl

theorem NRel.keepG {w w' : World} {lo hi g : Nat} {nds : List RNode} {N : List GN} (h : NRel w (Iv lo hi) nds N) (hm : Mod (Mg g) w w') (hg : g ≤ lo ∨ hi < g) : NRel w' (Iv lo hi) nds N := h.keep hm fun b hb hx => by unfold Iv Mg at *; omega
theorem NRel.keepB {w w' : World} {lo hi B : Nat} {nds : List RNode} {N : List GN} (h : NRel w (Iv lo hi) nds N) (hm : Mod (Ge B) w w') (hg : hi ≤ B) : NRel w' (Iv lo hi) nds N := h.keep hm fun b hb hx => by unfold Iv Ge at *; omega
theorem Gr.pos {gt : TypeId} {w : World} {lo hi : Nat} {v : Value} {N : List GN} (h : Gr gt w lo hi v N) (hn : 0 < N.length) : ∃ b vn nds, v = ptr b 0 ∧ N ≠ [] ∧ Rw w lo hi b [vn] ∧ Sl encN w (Iv lo hi) vn nds ∧ NRel w (Iv lo hi) nds N := by
  rcases h with ⟨_, h⟩ | h
  · subst h; simp at hn
  · exact h
theorem nodeAt_len {N : List GN} (h : ∀ x ∈ N, x.2.length ≤ 1000000) (n : Int) : (nodeAt N n).2.length ≤ 1000000 := by
  unfold nodeAt
  split
  · cases hx : N[n.toNat]? with
    | none => simp
    | some x => exact h x (List.mem_of_getElem? hx)
  · simp
theorem Ge.ext {B : Nat} {w0 w w' : World} (h : Mod (Ge B) w0 w) (k : Ext w w') : Mod (Ge B) w0 w' := Mod.ext h k
theorem Ge.thenG {B g : Nat} {w0 w w' : World} (h : Mod (Ge B) w0 w) (k : Mod (Mg g) w w') (hg : g = 0 ∨ B < g) : Mod (Ge B) w0 w' := h.trans (k.ofG hg)
theorem Ge.thenB {B B' : Nat} {w0 w w' : World} (h : Mod (Ge B) w0 w) (k : Mod (Ge B') w w') (hg : B ≤ B') : Mod (Ge B) w0 w' := h.trans (k.weaken fun i hi _ => by unfold Ge at *; omega)
/-! a function that is handed in: a text more, until it says no; 'F': the blocks that are its own -/
structure Yield (P : Program) {σ : Type} (ky : FuncId) (first cap : List Value) (B : Nat) (Inv : σ → (Nat → Prop) → World → Prop) (ok : σ → Str → Prop) (f : σ → Str → σ × Bool) : Prop where
  cl : clB P ky = true
  ext : ∀ s F w w', Inv s F w → Ext w w' → Inv s F w'
  foot : ∀ s F w, Inv s F w → ∀ b, F b → B ≤ b ∧ b < w.heap.size
  call : ∀ s F w x, Inv s F w → ok s x → Calls P ky (first ++ [strV x] ++ cap).toArray w (Ret fun rv w' => rv = .bool (f s x).2 ∧ Mod F w w' ∧ ∃ F', Inv (f s x).1 F' w' ∧ ∀ b, F' b → F b ∨ w.heap.size ≤ b)
/-- blocks of 'F' are from 'B' on -/
def Far (F : Nat → Prop) (B : Nat) : Prop := ∀ b, F b → B ≤ b
theorem Far.of {P : Program} {σ : Type} {ky : FuncId} {first cap : List Value} {B : Nat} {Inv : σ → (Nat → Prop) → World → Prop} {ok : σ → Str → Prop} {f : σ → Str → σ × Bool} (hy : Yield P ky first cap B Inv ok f) {s : σ} {F : Nat → Prop} {w : World} (h : Inv s F w) : Far F B := fun b hb => (hy.foot s F w h b hb).1
theorem Sl.keepF {α : Type} {enc : α → List Value} {w w' : World} {lo hi B : Nat} {F : Nat → Prop} {v : Value} {l : List α} (h : Sl enc w (Iv lo hi) v l) (hm : Mod F w w') (hF : Far F B) (hg : hi ≤ B) : Sl enc w' (Iv lo hi) v l :=
  h.keep hm fun b hb hx => by have := hF b hx; unfold Iv at hb; omega
theorem Rw.keepF {w w' : World} {lo hi b B : Nat} {F : Nat → Prop} {cs : List Value} (h : Rw w lo hi b cs) (hm : Mod F w w') (hF : Far F B) (hg : hi ≤ B) : Rw w' lo hi b cs := ⟨h.1, h.2.1, h.2.2.keep hm fun hx => by have := h.2.1; have := hF b hx; omega⟩
theorem NRel.keepF {w w' : World} {lo hi B : Nat} {F : Nat → Prop} {nds : List RNode} {N : List GN} (h : NRel w (Iv lo hi) nds N) (hm : Mod F w w') (hF : Far F B) (hg : hi ≤ B) : NRel w' (Iv lo hi) nds N := h.keep hm fun b hb hx => by have := hF b hx; unfold Iv at hb; omega
theorem Gr.keepF {gt : TypeId} {w w' : World} {lo hi B : Nat} {F : Nat → Prop} {v : Value} {N : List GN} (h : Gr gt w lo hi v N) (hm : Mod F w w') (hF : Far F B) (hg : hi ≤ B) : Gr gt w' lo hi v N := by
  rcases h with h | ⟨b, vn, nds, h1, h2, h3, h4, h5⟩
  · exact .inl h
  · exact .inr ⟨b, vn, nds, h1, h2, h3.keepF hm hF hg, h4.keepF hm hF hg, h5.keepF hm hF hg⟩
theorem ModF.thenG {F : Nat → Prop} {g : Nat} {w0 w w' : World} (h : Mod F w0 w) (k : Mod (Mg g) w w') (hg : g = 0 ∨ w0.heap.size < g) : Mod F w0 w' := h.then k (fun i hi hl => by unfold Mg at hi; omega)
theorem ModF.thenF {F F' : Nat → Prop} {w0 w w' : World} (h : Mod F w0 w) (k : Mod F' w w') (hF : ∀ b, F' b → F b ∨ w0.heap.size ≤ b) : Mod F w0 w' := h.then k (fun i hi hl => (hF i hi).resolve_right (by omega))
/-- all that is handed on may be -/
def OkAll {σ : Type} (ok : σ → Str → Prop) (f : σ → Str → σ × Bool) : σ → List Str → Prop
  | _, [] => True
  | s, x :: r => ok s x ∧ ((f s x).2 = true → OkAll ok f (f s x).1 r)
theorem OkAll.app {σ : Type} {ok : σ → Str → Prop} {f : σ → Str → σ × Bool} : ∀ {a b : List Str} {s : σ}, OkAll ok f s (a ++ b) → OkAll ok f s a ∧ ((Ml.eachF f s a).2 = true → OkAll ok f (Ml.eachF f s a).1 b)
  | [], b, s, h => ⟨trivial, fun _ => h⟩
  | x :: a, b, s, h => by
    have h1 : ok s x ∧ ((f s x).2 = true → OkAll ok f (f s x).1 (a ++ b)) := h
    constructor
    · exact ⟨h1.1, fun hx => (OkAll.app (h1.2 hx)).1⟩
    · intro he
      unfold Ml.eachF at he ⊢
      split at he
      · rename_i hx
        rw [if_pos hx]
        exact (OkAll.app (h1.2 hx)).2 he
      · cases he

/-! going over a graph -/
open Ml in
/-- what stands behind the first 'k' groups -/
def restL (ahead : Str) (r : List Str) (k : Nat) : List Str := ((groups (dropE r)).drop k).flatMap fun g => g.2.map fun t => ahead ++ (encL g.1 ++ t)
open Ml in
theorem map_rests {ahead : Str} {r : List Str} (h : GoodR r) : r.map (ahead ++ ·) = (if finB r = true then [ahead] else []) ++ restL ahead r 0 := by
  have ha := rests_all (x := (r, [])) h
  simp only at ha
  unfold restL
  conv => lhs; rw [ha]
  rw [List.map_append, List.drop_zero, List.map_flatMap]
  congr 1
  · split <;> simp
  · simp [List.map_map, Function.comp_def]
open Ml in
theorem restL_step {ahead : Str} {r : List Str} {k : Nat} {g : Nat × List Str} (hg : (groups (dropE r))[k]? = some g) : restL ahead r k = g.2.map ((ahead ++ encL g.1) ++ ·) ++ restL ahead r (k + 1) := by
  obtain ⟨hk, rfl⟩ := List.getElem?_eq_some_iff.1 hg
  unfold restL
  rw [List.drop_eq_getElem_cons hk, List.flatMap_cons]
  congr 1
  simp
open Ml in
theorem restL_end {ahead : Str} {r : List Str} {k : Nat} (h : (groups (dropE r)).length ≤ k) : restL ahead r k = [] := by
  unfold restL; rw [List.drop_of_length_le h]; rfl
open Ml in
theorem each_stop {σ : Type} {f : σ → Str → σ × Bool} {s0 sk : σ} {all rest a b : List Str} (h : eachF f s0 all = eachF f sk rest) (hr : rest = a ++ b) (hb : (eachF f sk a).2 = false) : eachF f s0 all = eachF f sk a := by
  rw [h, hr, eachF_app, if_neg (by rw [hb]; simp)]
open Ml in
theorem each_go {σ : Type} {f : σ → Str → σ × Bool} {s0 sk : σ} {all rest a b : List Str} (h : eachF f s0 all = eachF f sk rest) (hr : rest = a ++ b) (hb : (eachF f sk a).2 = true) : eachF f s0 all = eachF f (eachF f sk a).1 b := by
  rw [h, hr, eachF_app, if_pos hb]
open Ml in
theorem each_first {σ : Type} {f : σ → Str → σ × Bool} {s : σ} {a : Str} {r : List Str} (h : (f s a).2 = true) : eachF f s ([a] ++ r) = eachF f (f s a).1 r := by
  simp [eachF, h]
open Ml in
theorem each_first_no {σ : Type} {f : σ → Str → σ × Bool} {s : σ} {a : Str} {r : List Str} (h : (f s a).2 = false) : eachF f s ([a] ++ r) = ((f s a).1, false) := by
  simp [eachF, h]
open Ml in
theorem each_one {σ : Type} {f : σ → Str → σ × Bool} {s : σ} {x : Str} : eachF f s [x] = f s x := by
  unfold eachF
  split
  · rename_i h; unfold eachF; rw [← h]
  · rename_i h
    have : (f s x).2 = false := by simpa using h
    rw [← this]
open Ml in
theorem edge_at {s : GS} {x : List Str × List Ed} (hc : Corr s x) (hgd : GoodR x.1) {k : Nat} {e : Ed} (he : x.2[k]? = some e) : ∃ (g : Nat × List Str) (j : Nat) (es : List Ed), (groups (dropE x.1))[k]? = some g ∧ e.rune = (g.1 : Int) ∧ e.to = (j : Int) ∧ s[j]? = some (g.2, es) ∧ goodN g.1 ∧ g.2 ≠ [] := by
  have hg := All2.get hc
  have hlt := (List.getElem?_eq_some_iff.1 he).1
  have hx : (groups (dropE x.1))[k]? = some ((groups (dropE x.1))[k]'(by rw [hg.1]; exact hlt)) := by simp
  obtain ⟨h1, j, es, h2, h3⟩ := hg.2 k _ _ hx he
  have hd := dropE_good hgd
  have ok := groups_ok _ _ (Nat.le_refl _) hd.1 hd.2
  have hok := ok.good _ (List.mem_of_getElem? hx)
  exact ⟨_, j, es, hx, h1, h2, h3, hok.1, hok.2.1⟩
open Ml in
theorem deep_edge {l : List Str} (hg : GoodR l) {d k : Nat} {g : Nat × List Str} (h : Deep d l) (hk : (groups (dropE l))[k]? = some g) : ∃ e, d = e + 1 ∧ Deep e g.2 := by
  have hgm := List.mem_of_getElem? hk
  cases d with
  | zero =>
    exfalso
    have hd := dropE_good hg
    have ok := groups_ok _ _ (Nat.le_refl _) hd.1 hd.2
    obtain ⟨t, ht⟩ : ∃ t, t ∈ g.2 := by
      cases hg2 : g.2 with
      | nil => exact absurd hg2 (ok.good g hgm).2.1
      | cons t _ => exact ⟨t, by simp⟩
    have hm : encL g.1 ++ t ∈ dropE l := by
      rw [← ok.all]
      exact List.mem_flatMap.2 ⟨g, hgm, List.mem_map.2 ⟨t, ht, rfl⟩⟩
    have := h _ (dropE_mem hm)
    rw [runes_app (ok.good g hgm).1] at this
    simp at this
  | succ e => exact ⟨e, rfl, deep_groups hg h g hgm⟩
open Ml in
theorem gnOf_at {s : GS} {n : Nat} {x : List Str × List Ed} (h : s[n]? = some x) : nodeAt (gnOf s) (n : Int) = (finB x.1, x.2) := by
  refine nodeAt_yes (by omega) ?_
  simp [gnOf, h]
theorem gnOf_len (s : Ml.GS) : (gnOf s).length = s.length := by simp [gnOf]
theorem encL_len4 (c : Nat) : (Ml.encL c).length ≤ 4 := by
  unfold Ml.encL; repeat' split
  all_goals simp

/-- a graph and the words it holds: none (of nil), or as they were built -/
structure GOk (N : List GN) (s : Ml.GS) (words : List Str) : Prop where
  nodes : N = gnOf s
  root : ∃ es, nodeAt N 0 = (Ml.finB words, es) ∧ Ml.Corr s (words, es)
  good : Ml.GoodR words
  deep : Ml.Deep 12 words
  node : ∀ y ∈ s, Ml.Corr s y ∧ Ml.GoodR y.1 ∧ Ml.Deep 12 y.1
  size : s.length ≤ 1000000
  elen : ∀ y ∈ s, y.2.length ≤ 1000000
theorem GOk.nil : GOk [] [] [] := ⟨rfl, ⟨[], rfl, .nil⟩, ⟨List.Pairwise.nil, by simp⟩, by simp [Ml.Deep], by simp, by simp, by simp⟩
theorem GOk.of {s : Ml.GS} {words : List Str} (h : Ml.WFG s words) (hs : s.length ≤ 1000000) (he' : ∀ y ∈ s, y.2.length ≤ 1000000) : GOk (gnOf s) s words := by
  obtain ⟨es, he⟩ := h.root
  have hn := h.node _ (List.mem_of_getElem? he)
  exact ⟨rfl, ⟨es, gnOf_at he, hn.corr⟩, hn.good, hn.deep, fun y hy => ⟨(h.node y hy).corr, (h.node y hy).good, (h.node y hy).deep⟩, hs, he'⟩
theorem GOk.empty : GOk [(false, [])] [([], [])] [] := ⟨rfl, ⟨[], rfl, .nil⟩, ⟨List.Pairwise.nil, by simp⟩, by simp [Ml.Deep], by
  intro y hy
  simp only [List.mem_singleton] at hy
  subst hy
  exact ⟨.nil, ⟨List.Pairwise.nil, by simp⟩, by simp [Ml.Deep]⟩, by simp, by simp⟩

/-! a text box that grows -/
def BoxAcc (te e : TypeId) (bl B : Nat) (l : List Str) (F : Nat → Prop) (w : World) : Prop :=
  ∃ v g, Bk w bl [v] te ∧ Acc encS e 1 w g v l ∧ bl + 1 ≠ g ∧ B ≤ bl ∧ (g = 0 ∨ B < g) ∧ ∀ b, F b ↔ b = bl ∨ b + 1 = g
theorem BoxAcc.ext {te e : TypeId} {bl B : Nat} {l : List Str} {F : Nat → Prop} {w w' : World} (h : BoxAcc te e bl B l F w) (hm : Ext w w') : BoxAcc te e bl B l F w' := by
  obtain ⟨v, g, h1, h2, h3⟩ := h
  exact ⟨v, g, h1.ext hm, h2.ext hm, h3⟩
theorem BoxAcc.foot {te e : TypeId} {bl B : Nat} {l : List Str} {F : Nat → Prop} {w : World} (h : BoxAcc te e bl B l F w) : ∀ b, F b → B ≤ b ∧ b < w.heap.size := by
  obtain ⟨v, g, h1, h2, h3, h4, h5, h6⟩ := h
  intro b hb
  have hl := h1.lt
  have hg := h2.lt
  rcases (h6 b).1 hb with e | e
  · omega
  · omega
theorem BoxAcc.go {te e : TypeId} {bl B : Nat} {l' : List Str} {F : Nat → Prop} {w w' : World} {v' : Value} {g g' : Nat} (h6 : ∀ b, F b ↔ b = bl ∨ b + 1 = g) (hB : B ≤ bl) (h5 : g = 0 ∨ B < g) (hne : bl + 1 ≠ g) (hb : bl < w.heap.size) (k1 : Bk w' bl [v'] te) (k2 : Acc encS e 1 w' g' v' l') (k3 : g' = g ∨ w.heap.size < g') :
    ∃ F', BoxAcc te e bl B l' F' w' ∧ ∀ b, F' b → F b ∨ w.heap.size ≤ b :=
  ⟨fun b => b = bl ∨ b + 1 = g', ⟨v', g', k1, k2, by omega, hB, by omega, fun b => Iff.rfl⟩, fun b hb' => by
    rcases hb' with e | e
    · exact .inl ((h6 b).2 (.inl e))
    · rcases k3 with k3 | k3
      · exact .inl ((h6 b).2 (.inr (by omega)))
      · exact .inr (by omega)⟩
theorem eachF_all : ∀ (L l : List Str), Ml.eachF (fun (s : List Str) x => (s ++ [x], true)) l L = (l ++ L, true)
  | [], l => by simp [Ml.eachF]
  | x :: L, l => by
    simp only [Ml.eachF, if_true]
    rw [eachF_all L (l ++ [x])]; simp
theorem okAll_all (m : Nat) : ∀ (L l : List Str), l.length + L.length ≤ m → OkAll (fun (s : List Str) (_ : Str) => s.length ≤ m) (fun s x => (s ++ [x], true)) l L
  | [], l, _ => trivial
  | x :: L, l, h => ⟨by simp only [List.length_cons] at h; omega, fun _ => okAll_all m L (l ++ [x]) (by simp only [List.length_cons, List.length_append, List.length_nil] at h ⊢; omega)⟩
/-- from a word on, as many as are wanted -/
def fromF (w : Str) (most : Int) (s : List Str) (x : Str) : List Str × Bool :=
  let s' := if ((s.length : Nat) : Int) < most ∧ Lib.compareBytes x w ≥ 0 then s ++ [x] else s
  (s', decide (((s'.length : Nat) : Int) < most))
theorem okAll_from (w : Str) (most : Int) (m : Nat) : ∀ (L l : List Str), l.length + L.length ≤ m → OkAll (fun (s : List Str) (_ : Str) => s.length ≤ m) (fromF w most) l L
  | [], l, _ => trivial
  | x :: L, l, h => ⟨by simp only [List.length_cons] at h; omega, fun _ => okAll_from w most m L _ (by
      simp only [List.length_cons] at h
      unfold fromF
      simp only
      split
      · simp only [List.length_append, List.length_cons, List.length_nil]; omega
      · omega)⟩

/-! texts along a graph -/
theorem drop_el' {α : Type} {l : List α} {k : Nat} {x : α} (hx : l[k]? = some x) : l.drop k = x :: l.drop (k + 1) := by
  obtain ⟨h, rfl⟩ := List.getElem?_eq_some_iff.1 hx
  exact List.drop_eq_getElem_cons h
open Ml in
theorem next_c {s : GS} {x : List Str × List Ed} (hc : Corr s x) (hg : GoodR x.1) {c : Nat} (hgc : goodN c) :
    (nextM x.2 (c : Int) = none → ∀ t, encL c ++ t ∉ x.1) ∧ (∀ j, nextM x.2 (c : Int) = some j → ∃ (k : Nat) (b : List Str) (es : List Ed), j = (k : Int) ∧ s[k]? = some (b, es) ∧ ∀ t, encL c ++ t ∈ x.1 ↔ t ∈ b) := by
  have hd := dropE_good hg
  have ok := groups_ok _ _ (Nat.le_refl _) hd.1 hd.2
  have hf := forall2_find (c := c) hc
  unfold nextM
  constructor
  · intro hn t hm
    rw [Option.map_eq_none_iff] at hn
    obtain ⟨b, hb, _⟩ := (step_mem hg hgc t).1 hm
    exact hf.1 hn _ hb rfl
  · intro j hj
    obtain ⟨e, he, rfl⟩ := Option.map_eq_some_iff.1 hj
    obtain ⟨g, hgm, hgc', k, es, h1, h2⟩ := hf.2 e he
    refine ⟨k, g.2, es, h1, h2, fun t => ?_⟩
    rw [step_mem hg hgc]
    constructor
    · rintro ⟨b, hb, ht⟩
      have := group_unique ok.part hgm hb hgc'
      rw [this]; exact ht
    · intro ht
      exact ⟨g.2, by rw [← hgc']; exact hgm, ht⟩
/-- a place along a text -/
structure HasInv (N : List GN) (s : Ml.GS) (words : List Str) (w : Str) (k : Nat) (ok : Bool) (n : Int) : Prop where
  no : ok = false → words.contains w = false
  yes : ok = true → Ml.Fine w ∧ ∃ x, nodeAt N n = (Ml.finB x.1, x.2) ∧ Ml.Corr s x ∧ Ml.GoodR x.1 ∧ (w ∈ words ↔ Ml.encT ((Ml.runes w).drop k) ∈ x.1)
  n0 : 0 ≤ n ∧ n ≤ 1000000
open Ml in
theorem contains_no {l : List Str} {w : Str} (h : w ∉ l) : l.contains w = false := by
  cases hc : l.contains w with
  | false => rfl
  | true => exact absurd (List.contains_iff_mem.1 hc) h
open Ml in
theorem HasInv.start {N : List GN} {s : GS} {words : List Str} {w : Str} (h : GOk N s words) : HasInv N s words w 0 (fineT w) 0 := by
  refine ⟨fun hf => contains_no fun hm => ?_, fun hf => ?_, by omega⟩
  · have := fine_iff.2 (h.good.fine w hm)
    rw [this] at hf; cases hf
  · obtain ⟨es, h1, h2⟩ := h.root
    refine ⟨fine_iff.1 hf, (words, es), h1, h2, h.good, ?_⟩
    rw [List.drop_zero, (encT_runes w (fine_iff.1 hf)).1]
theorem HasInv.skip {N : List GN} {s : Ml.GS} {words : List Str} {w : Str} {k : Nat} {n : Int} (h : HasInv N s words w k false n) : HasInv N s words w (k + 1) false n := ⟨h.no, fun e => (by cases e), h.n0⟩
open Ml in
theorem runesM_at {w : Str} {k : Nat} {r : Int} (h : (runesM w)[k]? = some r) : Fine w ∧ ∃ c : Nat, (runes w)[k]? = some c ∧ r = (c : Int) ∧ goodN c := by
  unfold runesM at h
  split at h
  · rename_i hf
    have hf := fine_iff.1 hf
    unfold runesI at h
    rw [List.getElem?_map] at h
    obtain ⟨c, hc, rfl⟩ := Option.map_eq_some_iff.1 h
    exact ⟨hf, c, hc, rfl, (encT_runes w hf).2 c (List.mem_of_getElem? hc)⟩
  · simp at h
open Ml in
theorem HasInv.step {N : List GN} {s : GS} {words : List Str} {w : Str} {k : Nat} {n r : Int} (hN : GOk N s words) (h : HasInv N s words w k true n) (hr : (runesM w)[k]? = some r) :
    HasInv N s words w (k + 1) (nextM (nodeAt N n).2 r).isSome ((nextM (nodeAt N n).2 r).getD 0) := by
  obtain ⟨hf, x, h1, h2, h3, h4⟩ := h.yes rfl
  obtain ⟨_, c, hc, rfl, hgc⟩ := runesM_at hr
  have hn := next_c h2 h3 hgc
  have hd : (runes w).drop k = c :: (runes w).drop (k + 1) := drop_el' hc
  have he : encT ((runes w).drop k) = encL c ++ encT ((runes w).drop (k + 1)) := by rw [hd]; rfl
  rw [he] at h4
  rw [h1]
  simp only
  cases hx : nextM x.2 (c : Int) with
  | none =>
    exact ⟨fun _ => contains_no fun hm => hn.1 hx _ (h4.1 hm), fun e => (by cases e), by simp⟩
  | some j =>
    obtain ⟨m, b, es, rfl, hs, hb⟩ := hn.2 j hx
    have hy := hN.node _ (List.mem_of_getElem? hs)
    have hlt := (List.getElem?_eq_some_iff.1 hs).1
    have hsz := hN.size
    refine ⟨fun e => (by cases e), fun _ => ⟨hf, (b, es), ?_, hy.1, hy.2.1, ?_⟩, by simp only [Option.getD_some]; omega⟩
    · simp only [Option.getD_some]; rw [hN.nodes]; exact gnOf_at hs
    · rw [h4]; exact hb _
open Ml in
theorem HasInv.fin {N : List GN} {s : GS} {words : List Str} {w : Str} {k : Nat} {n : Int} (h : HasInv N s words w k true n) (hk : (runesM w).length ≤ k) : (nodeAt N n).1 = words.contains w := by
  obtain ⟨hf, x, h1, h2, h3, h4⟩ := h.yes rfl
  have hl : (runes w).length ≤ k := by
    unfold runesM at hk
    rw [if_pos (fine_iff.2 hf)] at hk
    simpa [runesI] using hk
  rw [List.drop_of_length_le hl] at h4
  have h5 : w ∈ words ↔ [] ∈ x.1 := h4
  rw [h1, Bool.eq_iff_iff, fin_mem h3, List.contains_iff_mem]
  exact h5.symm
open Ml in
theorem GOk.edges {N : List GN} {s : GS} {words : List Str} (h : GOk N s words) : (∀ x ∈ N, ∀ e ∈ x.2, I64 e.to ∧ -2147483648 ≤ e.rune ∧ e.rune ≤ 2147483647) ∧ N.length ≤ 1000000 ∧ ∀ x ∈ N, x.2.length ≤ 1000000 := by
  rw [h.nodes]
  refine ⟨fun x hx e he => ?_, by rw [gnOf_len]; exact h.size, fun x hx => ?_⟩
  · obtain ⟨y, hy, rfl⟩ := List.mem_map.1 hx
    obtain ⟨k, hk⟩ := List.mem_iff_getElem?.1 he
    obtain ⟨g, j, es, h1, h2, h3, h4, h5, h6⟩ := edge_at (h.node y hy).1 (h.node y hy).2.1 hk
    have := (List.getElem?_eq_some_iff.1 h4).1
    have := h.size
    obtain ⟨h7, _⟩ := h5
    unfold I64; omega
  · obtain ⟨y, hy, rfl⟩ := List.mem_map.1 hx
    exact h.elen y hy
def fromM (words : List Str) (w : Str) (most : Int) : List Str := (Ml.eachF (fromF w most) [] words).1
theorem fromM_eq (words : List Str) (w : Str) (most : Int) : fromM words w most = (Ml.eachF (fromF w most) [] words).1 := rfl
theorem HasInv.step' {N : List GN} {s : Ml.GS} {words : List Str} {w : Str} {k : Nat} {n r : Int} {b : Bool} (hN : GOk N s words) (h : HasInv N s words w k true n) (hr : (Ml.runesM w)[k]? = some r) (hb : b = (Ml.nextM (nodeAt N n).2 r).isSome) :
    HasInv N s words w (k + 1) b ((Ml.nextM (nodeAt N n).2 r).getD 0) := by rw [hb]; exact h.step hN hr
theorem HasInv.start' {N : List GN} {s : Ml.GS} {words : List Str} {w : Str} {b : Bool} (h : GOk N s words) (hb : b = Ml.fineT w) : HasInv N s words w 0 b 0 := by rw [hb]; exact HasInv.start h
theorem runesM_rng {w : Str} {k : Nat} {r : Int} (h : (Ml.runesM w)[k]? = some r) : 0 ≤ r ∧ r ≤ 1114111 := by
  obtain ⟨_, c, _, rfl, h1, _⟩ := runesM_at h
  omega
end Go.Ik
