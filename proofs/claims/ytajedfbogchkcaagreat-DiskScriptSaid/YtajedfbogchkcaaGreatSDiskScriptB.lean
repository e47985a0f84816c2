/-
  What the law DiskScript needs, part 2 of 7: theory, and walks through the code.
-/
import Derived.Test.YtajedfbogchkcaaGreatSDiskScriptA
set_option linter.unusedVariables false
set_option linter.unusedSimpArgs false
namespace Go.Ml
open Go.Ik
def NoFF (s : Str) : Prop := (255 : UInt8) ∉ s
theorem by8_ne {n : Nat} (h : n % 256 ≠ 255) : by8 n ≠ 255 := fun e => by
  have := congrArg UInt8.toNat e
  rw [by8_toNat] at this
  exact h this
theorem encL_noff {c : Nat} (h : goodN c) : NoFF (encL c) := by
  obtain ⟨h1, h2, h3⟩ := h
  unfold NoFF encL
  repeat' split
  all_goals simp only [List.mem_cons, List.not_mem_nil, or_false, not_or]
  · exact fun e => by8_ne (by omega) e.symm
  · exact ⟨fun e => by8_ne (by omega) e.symm, fun e => by8_ne (by omega) e.symm⟩
  · exact ⟨fun e => by8_ne (by omega) e.symm, fun e => by8_ne (by omega) e.symm, fun e => by8_ne (by omega) e.symm⟩
  · exact ⟨fun e => by8_ne (by omega) e.symm, fun e => by8_ne (by omega) e.symm, fun e => by8_ne (by omega) e.symm, fun e => by8_ne (by omega) e.symm⟩
theorem fine_noff : ∀ s, Fine s → NoFF s :=
  fine_ind (by simp [NoFF]) fun c t hc _ ih => by
    have := encL_noff hc
    unfold NoFF at *
    rw [List.mem_append, not_or]; exact ⟨this, ih⟩
def joinS (l : List Str) : Str := Lib.join l [255]
theorem joinS_cons (x : Str) (r : List Str) : joinS (x :: r) = x ++ Lib.joinTail [255] r := Lib.join_cons x r [255]
theorem tail_cons (x : Str) (r : List Str) : Lib.joinTail [255] (x :: r) = 255 :: (x ++ Lib.joinTail [255] r) := by simp [Lib.joinTail]
theorem tail_nil : Lib.joinTail [255] [] = [] := rfl
theorem split_ff : ∀ (x y u v : Str), NoFF x → NoFF y → (u = [] ∨ ∃ u', u = 255 :: u') → (v = [] ∨ ∃ v', v = 255 :: v') → x ++ u = y ++ v → x = y ∧ u = v
  | [], [], u, v, _, _, _, _, h => ⟨rfl, h⟩
  | [], b :: y, u, v, _, hy, hu, _, h => by
    simp only [List.nil_append, List.cons_append] at h
    rcases hu with rfl | ⟨u', rfl⟩
    · cases h
    · simp only [List.cons.injEq] at h
      exact absurd (by simp [h.1]) hy
  | a :: x, [], u, v, hx, _, _, hv, h => by
    simp only [List.nil_append, List.cons_append] at h
    rcases hv with rfl | ⟨v', rfl⟩
    · cases h
    · simp only [List.cons.injEq] at h
      exact absurd (by simp [h.1]) hx
  | a :: x, b :: y, u, v, hx, hy, hu, hv, h => by
    simp only [List.cons_append, List.cons.injEq] at h
    have := split_ff x y u v (fun e => hx (by simp [e])) (fun e => hy (by simp [e])) hu hv h.2
    exact ⟨by rw [h.1, this.1], this.2⟩
theorem tail_shape (r : List Str) : Lib.joinTail [255] r = [] ∨ ∃ u, Lib.joinTail [255] r = 255 :: u := by
  cases r with
  | nil => exact .inl rfl
  | cons x r => exact .inr ⟨_, tail_cons x r⟩
theorem tail_inj : ∀ (r s : List Str), (∀ x ∈ r, NoFF x) → (∀ x ∈ s, NoFF x) → Lib.joinTail [255] r = Lib.joinTail [255] s → r = s
  | [], [], _, _, _ => rfl
  | [], y :: s, _, _, h => by rw [tail_nil, tail_cons] at h; cases h
  | x :: r, [], _, _, h => by rw [tail_nil, tail_cons] at h; cases h
  | x :: r, y :: s, hr, hs, h => by
    rw [tail_cons, tail_cons] at h
    simp only [List.cons.injEq, true_and] at h
    have := split_ff x y _ _ (hr x (by simp)) (hs y (by simp)) (tail_shape r) (tail_shape s) h
    rw [this.1, tail_inj r s (fun x hx => hr x (by simp [hx])) (fun x hx => hs x (by simp [hx])) this.2]
theorem joinS_inj {l m : List Str} (hl : ∀ x ∈ l, NoFF x) (hm : ∀ x ∈ m, NoFF x) (h1 : l ≠ []) (h2 : m ≠ []) (h : joinS l = joinS m) : l = m := by
  cases l with
  | nil => exact absurd rfl h1
  | cons x r =>
    cases m with
    | nil => exact absurd rfl h2
    | cons y s =>
      rw [joinS_cons, joinS_cons] at h
      have := split_ff x y _ _ (hl x (by simp)) (hm y (by simp)) (tail_shape r) (tail_shape s) h
      rw [this.1, tail_inj r s (fun x hx => hl x (by simp [hx])) (fun x hx => hm x (by simp [hx])) this.2]
theorem GoodR.noff {l : List Str} (h : GoodR l) : ∀ x ∈ l, NoFF x := fun x hx => fine_noff x (h.fine x hx)
def sumLen (l : List Str) : Nat := (l.map List.length).sum
theorem joinS_len (l : List Str) : (joinS l).length ≤ sumLen l + l.length := by
  cases l with
  | nil => simp [joinS, Lib.join, sumLen]
  | cons x r =>
    rw [joinS_cons]
    have : ∀ r : List Str, (Lib.joinTail [255] r).length ≤ sumLen r + r.length := by
      intro r
      induction r with
      | nil => simp [tail_nil]
      | cons y r ih => rw [tail_cons]; simp only [sumLen, List.map_cons, List.sum_cons, List.length_cons, List.length_append] at *; omega
    have := this r
    simp only [sumLen, List.map_cons, List.sum_cons, List.length_cons, List.length_append] at *; omega
/-- the map of a graph's names -/
def mapK (s : GS) : List (Str × Int) := s.mapIdx fun i x => (joinS x.1, (i : Int))
theorem mapK_snoc (s : GS) (x : List Str × List Ed) : mapK (s ++ [x]) = mapK s ++ [(joinS x.1, (s.length : Int))] := by
  unfold mapK; rw [List.mapIdx_concat]
theorem mapK_names {s t : GS} (h : names s = names t) : mapK s = mapK t := by
  unfold mapK
  have hl : s.length = t.length := by simpa [names] using congrArg List.length h
  refine List.ext_getElem (by simp [hl]) fun i h1 h2 => ?_
  simp only [List.length_mapIdx] at h1 h2
  simp only [List.getElem_mapIdx, Prod.mk.injEq, and_true]
  have : (names s)[i]'(by simpa [names] using h1) = (names t)[i]'(by simpa [names] using h2) := by simp only [h]
  simp only [names, List.getElem_map] at this
  rw [this]
/-- names that may be -/
def NamesOk (s : GS) : Prop := ∀ x ∈ s, x.1 ≠ [] ∧ ∀ t ∈ x.1, NoFF t
theorem asc_mapK {r : List Str} (hr : ∀ t ∈ r, NoFF t) (hne : r ≠ []) : ∀ (s : GS), NamesOk s → asc (mapK s) (joinS r) = (s.findIdx? fun x => x.1 == r).map fun i : Nat => (i : Int) := by
  intro s hs
  have key : ∀ (s : GS) (k : Nat), NamesOk s → asc (s.mapIdx fun i x => (joinS x.1, ((i + k : Nat) : Int))) (joinS r) = (s.findIdx? fun x => x.1 == r).map fun i : Nat => ((i + k : Nat) : Int) := by
    intro s
    induction s with
    | nil => intro k _; rfl
    | cons x s ih =>
      intro k h
      rw [List.mapIdx_cons, List.findIdx?_cons]
      by_cases hx : x.1 = r
      · simp [asc, hx]
      · have hj : joinS x.1 ≠ joinS r := fun e => hx (joinS_inj (h x (by simp)).2 hr (h x (by simp)).1 hne e)
        have := ih (k + 1) (fun y hy => h y (by simp [hy]))
        unfold asc at this ⊢
        rw [List.find?_cons]
        simp only [decide_eq_false hj]
        have e1 : (fun (i : Nat) (x : List Str × List Ed) => (joinS x.1, ((i + 1 + k : Nat) : Int))) = fun (i : Nat) (x : List Str × List Ed) => (joinS x.1, ((i + (k + 1) : Nat) : Int)) := by
          funext i x; congr 2; omega
        rw [e1, this]
        have hxb : (x.1 == r) = false := by simp [hx]
        simp only [hxb, Bool.false_eq_true, if_false, Option.map_map]
        cases s.findIdx? fun x => x.1 == r with
        | none => rfl
        | some i => simp only [Option.map_some, Function.comp_apply, Option.some.injEq]; omega
  exact key s 0 hs
def finB (r : List Str) : Bool := decide (r.head? = some [])
/-- where an edge leads -/
def nextM (es : List Ed) (r : Int) : Option Int := (es.find? fun e => e.rune == r).map Ed.to
theorem RunInv.step {s : Str} {p : Nat} {l : List Int} (h : RunInv s p l) (he : s.drop p ≠ []) (hd : ((dec (s.drop p)).1 : Int) ≠ 65533) : RunInv s (p + (dec (s.drop p)).2) (l ++ [((dec (s.drop p)).1 : Int)]) := by
  obtain ⟨pre, h1, h2, h3⟩ := h.ex
  refine ⟨⟨_, h1.next he, by rw [h2, List.map_append]; rfl, ?_⟩⟩
  simp only [List.mem_append, List.mem_singleton, not_or]
  exact ⟨h3, fun e => hd (by omega)⟩
theorem runesM_len (s : Str) : (runesM s).length ≤ s.length := by
  unfold runesM
  split
  · unfold runesI; rw [List.length_map]; exact runes_length s
  · simp
def FirstInv (s : Str) (p : Nat) (hd : Int) : Prop := (p = 0 ∧ hd = 0) ∨ (0 < p ∧ p = wdN s ∧ hd = (hdN s : Int))
theorem FirstInv.next {s : Str} {p : Nat} {hd : Int} (h : FirstInv s p hd) (he : s.drop p ≠ []) (h0 : p = 0) : FirstInv s (p + (dec (s.drop p)).2) ((dec (s.drop p)).1 : Int) := by
  subst h0
  simp only [List.drop_zero, Nat.zero_add] at he ⊢
  have := dec_pos s he
  exact .inr ⟨by omega, rfl, rfl⟩
theorem FirstInv.ret {s : Str} {p : Nat} {hd : Int} (h : FirstInv s p hd) (h0 : 0 < p) : hd = (hdN s : Int) ∧ ((p : Nat) : Int) = ((wdN s : Nat) : Int) := by
  rcases h with h | h
  · omega
  · exact ⟨h.2.2, by rw [h.2.1]⟩
theorem FirstInv.fin {s : Str} {p : Nat} {hd : Int} (h : FirstInv s p hd) (hne : s ≠ []) (he : s.drop p = []) : hd = (hdN s : Int) ∧ ((s.length : Nat) : Int) = ((wdN s : Nat) : Int) := by
  rcases h with ⟨rfl, _⟩ | ⟨h1, h2, h3⟩
  · exact absurd (by simpa using he) hne
  · refine ⟨h3, ?_⟩
    have hl := dec_le s hne
    have := congrArg List.length he
    simp only [List.length_drop, List.length_nil] at this
    unfold wdN at *
    omega
theorem wdN_le (s : Str) : s ≠ [] → 1 ≤ wdN s ∧ wdN s ≤ s.length := fun h => ⟨dec_pos s h, dec_le s h⟩
theorem hdN_le (s : Str) : hdN s ≤ 1114111 := dec_rune s
theorem hp_yes {s p : Str} {b : Bool} (hl : ((s.length : Nat) : Int) ≥ ((p.length : Nat) : Int)) (hb : b = (s.take p.length == p)) : b = p.isPrefixOf s := by
  rw [hb, Bool.eq_iff_iff, List.isPrefixOf_iff_prefix, beq_iff_eq]
  constructor
  · intro h; rw [← h]; exact List.take_prefix _ _
  · rintro ⟨t, rfl⟩; simp
theorem hp_no {s p : Str} (hl : ¬ ((s.length : Nat) : Int) ≥ ((p.length : Nat) : Int)) : false = p.isPrefixOf s := by
  cases h : p.isPrefixOf s with
  | false => rfl
  | true =>
    rw [List.isPrefixOf_iff_prefix] at h
    have := h.length_le
    omega
structure NextInv (es : List Ed) (r : Int) (k : Nat) : Prop where
  no : ∀ e ∈ es.take k, e.rune ≠ r
theorem NextInv.none {es : List Ed} {r : Int} {k : Nat} (h : NextInv es r k) (hk : es.length ≤ k) : (0 : Int) = (nextM es r).getD 0 ∧ false = (nextM es r).isSome := by
  have hn := h.no
  rw [List.take_of_length_le hk] at hn
  have : es.find? (fun e => e.rune == r) = Option.none := by
    rw [List.find?_eq_none]
    intro e he; simp [hn e he]
  unfold nextM
  rw [this]
  exact ⟨rfl, rfl⟩
end Go.Ml
set_option linter.unusedSectionVars false
namespace Go.Ik
open Go
theorem r_retC1 {P : Program} {f : FuncId} {R : Ending → World → Prop} {n : Nat} {E : Env} {k : List Item} {w : World} {fn : Func} {t : Tmp} {ty : TypeId} {b off sz by_ : Nat} {z cs : List Value} (hf : P.funcs[f]? = some fn) (hres : fn.results = #[.cell t ty])
    (hv : lk t E = some (ptr b off)) (ht : tyI P ty = some (true, sz, by_, z)) (hr : Row w b off cs) (hn : cs.length = sz) (hR : R (.returned (.agg cs.toArray)) w) : RunE P f R n E (.code .ret :: k) w := fun a ha b' hb hk cs' =>
  ⟨_, w, { b'.at a (.code .ret :: k) with mode := .returning }, hR, .one step_ret, hb, leave_ret ha hf hb hk (by
    have hg : a.tmps[t]?.getD undef = .pointer (some ⟨b, off, none⟩) := by have := ha.has t _ hv; simpa [ptr] using this
    simp [results, hres, hg, asAddr, Sem.run_bind, Result.andThen, run_loadVar_agg ht hr hn])⟩
theorem Q1.eqNilSl {P : Program} {E : Env} {C : World → Prop} {d : Option Tmp} {ty : TypeId} {pos : String} {af : Array Edge} {gd : Option (Nat × Bool)} {xt yt e : TypeId} {x y : Operand} {a : Option Addr} {n c : Nat} (hu : P.underlying xt = some (.slice e)) (hx : ev E x = some (.slice a n c)) (hy : ev E y = some (.slice none 0 0)) :
    Q1 P ⟨d, .binOp .eql xt x y yt, ty, pos, af, gd⟩ E C (.bool a.isNone) := fun s ha w _ => by
  have h : (Op.equal xt (.slice a n c) (.slice none 0 0)).run P w = .ok a.isNone w := by
    have key : ∀ k, (Op.equalIn (k + 1) xt (.slice a n c) (.slice none 0 0)).run P w = .ok a.isNone w := fun k => by
      cases a <;> simp [Op.equalIn, run_underlying hu]
    exact key 9999
  have hg : (eqGuard .eql xt x y (.slice a n c) (.slice none 0 0)).run P w = .ok () w := by
    unfold eqGuard; split <;> simp
  simp [execOp, ha.ev hx, ha.ev hy, hg, Go.binOp, h]
theorem Sl.isNil {α : Type} {enc : α → List Value} {w : World} {F : Nat → Prop} {v : Value} {l : List α} (h : Sl enc w F v l) : ∃ a c, v = .slice a l.length c ∧ (a.isNone = true → l = []) := by
  obtain ⟨a, c, h1, h2, h3, h4⟩ := h
  refine ⟨a, c, h1, fun hn => ?_⟩
  rcases h4 with h4 | ⟨b, off, h5, _⟩
  · exact h4
  · subst h5; cases hn
structure RNode where
  fin : Bool
  e : SH
def encN (x : RNode) : List Value := [.bool x.fin, x.e.val]
theorem encN_len (x : RNode) : (encN x).length = 2 := rfl
theorem encN_one (x : RNode) : (encN x).all (·.oneCell') = true := rfl
abbrev GN := Bool × List Ml.Ed
def NRel (w : World) (F : Nat → Prop) (nds : List RNode) (N : List GN) : Prop := All2 (fun r n => r.fin = n.1 ∧ Sl Ml.encE w F r.e.val n.2) nds N
theorem NRel.keep {M : Nat → Prop} {w w' : World} {F : Nat → Prop} {nds : List RNode} {N : List GN} (h : NRel w F nds N) (hm : Mod M w w') (hF : ∀ b, F b → ¬ M b) : NRel w' F nds N :=
  All2.imp (fun r n ⟨h1, h2⟩ => ⟨h1, h2.keep hm hF⟩) h
theorem NRel.ext {w w' : World} {F : Nat → Prop} {nds : List RNode} {N : List GN} (h : NRel w F nds N) (hm : Ext w w') : NRel w' F nds N := h.keep hm (fun _ _ x => x)
theorem NRel.at {w : World} {F : Nat → Prop} {nds : List RNode} {N : List GN} (h : NRel w F nds N) {i : Nat} {r : RNode} (hr : nds[i]? = some r) : ∃ n, N[i]? = some n ∧ r.fin = n.1 ∧ Sl Ml.encE w F r.e.val n.2 := by
  have hg := h.get
  have hlt := (List.getElem?_eq_some_iff.1 hr).1
  have hx : N[i]? = some (N[i]'(by rw [← hg.1]; exact hlt)) := by simp
  exact ⟨_, hx, hg.2 i _ _ hr hx⟩
/-- a graph: nil (then it has no nodes) or one that has some -/
def Gr (gt : TypeId) (w : World) (lo hi : Nat) (v : Value) (N : List GN) : Prop :=
  (v = .pointer none ∧ N = []) ∨ ∃ b vn nds, v = ptr b 0 ∧ N ≠ [] ∧ Rw w lo hi b [vn] ∧ Sl encN w (Iv lo hi) vn nds ∧ NRel w (Iv lo hi) nds N
theorem Gr.ext {gt : TypeId} {w w' : World} {lo hi : Nat} {v : Value} {N : List GN} (h : Gr gt w lo hi v N) (hm : Ext w w') : Gr gt w' lo hi v N := by
  rcases h with h | ⟨b, vn, nds, h1, h2, h3, h4, h5⟩
  · exact .inl h
  · exact .inr ⟨b, vn, nds, h1, h2, h3.ext hm, h4.ext hm, h5.ext hm⟩
theorem Gr.keepG {gt : TypeId} {w w' : World} {lo hi g : Nat} {v : Value} {N : List GN} (h : Gr gt w lo hi v N) (hm : Mod (Mg g) w w') (hg : g ≤ lo ∨ hi < g) : Gr gt w' lo hi v N := by
  rcases h with h | ⟨b, vn, nds, h1, h2, h3, h4, h5⟩
  · exact .inl h
  · exact .inr ⟨b, vn, nds, h1, h2, h3.keepG hm hg, h4.keepG hm hg, h5.keep hm fun b hb hx => by unfold Iv Mg at *; omega⟩
/-- a graph's nodes out of its names -/
def gnOf (s : Ml.GS) : List GN := s.map fun x => (Ml.finB x.1, x.2)
def nodeAt (N : List GN) (n : Int) : GN := if 0 ≤ n then N[n.toNat]?.getD (false, []) else (false, [])
theorem nodeAt_no {N : List GN} {n : Int} (h : n < 0 ∨ (N.length : Int) ≤ n) : nodeAt N n = (false, []) := by
  unfold nodeAt
  split
  · have : N[n.toNat]? = none := List.getElem?_eq_none (by omega)
    rw [this]; rfl
  · rfl
theorem nodeAt_yes {N : List GN} {n : Int} {x : GN} (h : 0 ≤ n) (hx : N[n.toNat]? = some x) : nodeAt N n = x := by
  unfold nodeAt; rw [if_pos h, hx]; rfl
theorem NRel.keepG {w w' : World} {lo hi g : Nat} {nds : List RNode} {N : List GN} (h : NRel w (Iv lo hi) nds N) (hm : Mod (Mg g) w w') (hg : g ≤ lo ∨ hi < g) : NRel w' (Iv lo hi) nds N := h.keep hm fun b hb hx => by unfold Iv Mg at *; omega
theorem Gr.pos {gt : TypeId} {w : World} {lo hi : Nat} {v : Value} {N : List GN} (h : Gr gt w lo hi v N) (hn : 0 < N.length) : ∃ b vn nds, v = ptr b 0 ∧ N ≠ [] ∧ Rw w lo hi b [vn] ∧ Sl encN w (Iv lo hi) vn nds ∧ NRel w (Iv lo hi) nds N := by
  rcases h with ⟨_, h⟩ | h
  · subst h; simp at hn
  · exact h
theorem nodeAt_len {N : List GN} (h : ∀ x ∈ N, x.2.length ≤ 1000000) (n : Int) : (nodeAt N n).2.length ≤ 1000000 := by
  unfold nodeAt
  split
  · cases hx : N[n.toNat]? with
    | none => simp
    | some x => exact h x (List.mem_of_getElem? hx)
  · simp
theorem ModF.thenF {F F' : Nat → Prop} {w0 w w' : World} (h : Mod F w0 w) (k : Mod F' w w') (hF : ∀ b, F' b → F b ∨ w0.heap.size ≤ b) : Mod F w0 w' := h.then k (fun i hi hl => (hF i hi).resolve_right (by omega))
open Ml in
open Ml in
open Ml in
open Ml in
open Ml in
open Ml in
open Ml in
open Ml in
open Ml in
open Ml in
theorem edge_at {s : GS} {x : List Str × List Ed} (hc : Corr s x) (hgd : GoodR x.1) {k : Nat} {e : Ed} (he : x.2[k]? = some e) : ∃ (g : Nat × List Str) (j : Nat) (es : List Ed), (groups (dropE x.1))[k]? = some g ∧ e.rune = (g.1 : Int) ∧ e.to = (j : Int) ∧ s[j]? = some (g.2, es) ∧ goodN g.1 ∧ g.2 ≠ [] := by
  have hg := All2.get hc
  have hlt := (List.getElem?_eq_some_iff.1 he).1
  have hx : (groups (dropE x.1))[k]? = some ((groups (dropE x.1))[k]'(by rw [hg.1]; exact hlt)) := by simp
  obtain ⟨h1, j, es, h2, h3⟩ := hg.2 k _ _ hx he
  have hd := dropE_good hgd
  have ok := groups_ok _ _ (Nat.le_refl _) hd.1 hd.2
  have hok := ok.good _ (List.mem_of_getElem? hx)
  exact ⟨_, j, es, hx, h1, h2, h3, hok.1, hok.2.1⟩
open Ml in
open Ml in
theorem gnOf_at {s : GS} {n : Nat} {x : List Str × List Ed} (h : s[n]? = some x) : nodeAt (gnOf s) (n : Int) = (finB x.1, x.2) := by
  refine nodeAt_yes (by omega) ?_
  simp [gnOf, h]
theorem gnOf_len (s : Ml.GS) : (gnOf s).length = s.length := by simp [gnOf]
theorem encL_len4 (c : Nat) : (Ml.encL c).length ≤ 4 := by
  unfold Ml.encL; repeat' split
  all_goals simp
/-- a graph and the words it holds: none (of nil), or as they were built -/
structure GOk (N : List GN) (s : Ml.GS) (words : List Str) : Prop where
  nodes : N = gnOf s
  root : ∃ es, nodeAt N 0 = (Ml.finB words, es) ∧ Ml.Corr s (words, es)
  good : Ml.GoodR words
  deep : Ml.Deep 12 words
  node : ∀ y ∈ s, Ml.Corr s y ∧ Ml.GoodR y.1 ∧ Ml.Deep 12 y.1
  size : s.length ≤ 1000000
  elen : ∀ y ∈ s, y.2.length ≤ 1000000
theorem GOk.of {s : Ml.GS} {words : List Str} (h : Ml.WFG s words) (hs : s.length ≤ 1000000) (he' : ∀ y ∈ s, y.2.length ≤ 1000000) : GOk (gnOf s) s words := by
  obtain ⟨es, he⟩ := h.root
  have hn := h.node _ (List.mem_of_getElem? he)
  exact ⟨rfl, ⟨es, gnOf_at he, hn.corr⟩, hn.good, hn.deep, fun y hy => ⟨(h.node y hy).corr, (h.node y hy).good, (h.node y hy).deep⟩, hs, he'⟩
theorem GOk.empty : GOk [(false, [])] [([], [])] [] := ⟨rfl, ⟨[], rfl, .nil⟩, ⟨List.Pairwise.nil, by simp⟩, by simp [Ml.Deep], by
  intro y hy
  simp only [List.mem_singleton] at hy
  subst hy
  exact ⟨.nil, ⟨List.Pairwise.nil, by simp⟩, by simp [Ml.Deep]⟩, by simp, by simp⟩
theorem drop_el' {α : Type} {l : List α} {k : Nat} {x : α} (hx : l[k]? = some x) : l.drop k = x :: l.drop (k + 1) := by
  obtain ⟨h, rfl⟩ := List.getElem?_eq_some_iff.1 hx
  exact List.drop_eq_getElem_cons h
open Ml in
open Ml in
open Ml in
open Ml in
theorem runesM_at {w : Str} {k : Nat} {r : Int} (h : (runesM w)[k]? = some r) : Fine w ∧ ∃ c : Nat, (runes w)[k]? = some c ∧ r = (c : Int) ∧ goodN c := by
  unfold runesM at h
  split at h
  · rename_i hf
    have hf := fine_iff.1 hf
    unfold runesI at h
    rw [List.getElem?_map] at h
    obtain ⟨c, hc, rfl⟩ := Option.map_eq_some_iff.1 h
    exact ⟨hf, c, hc, rfl, (encT_runes w hf).2 c (List.mem_of_getElem? hc)⟩
  · simp at h
open Ml in
open Ml in
open Ml in
theorem GOk.edges {N : List GN} {s : GS} {words : List Str} (h : GOk N s words) : (∀ x ∈ N, ∀ e ∈ x.2, I64 e.to ∧ -2147483648 ≤ e.rune ∧ e.rune ≤ 2147483647) ∧ N.length ≤ 1000000 ∧ ∀ x ∈ N, x.2.length ≤ 1000000 := by
  rw [h.nodes]
  refine ⟨fun x hx e he => ?_, by rw [gnOf_len]; exact h.size, fun x hx => ?_⟩
  · obtain ⟨y, hy, rfl⟩ := List.mem_map.1 hx
    obtain ⟨k, hk⟩ := List.mem_iff_getElem?.1 he
    obtain ⟨g, j, es, h1, h2, h3, h4, h5, h6⟩ := edge_at (h.node y hy).1 (h.node y hy).2.1 hk
    have := (List.getElem?_eq_some_iff.1 h4).1
    have := h.size
    obtain ⟨h7, _⟩ := h5
    unfold I64; omega
  · obtain ⟨y, hy, rfl⟩ := List.mem_map.1 hx
    exact h.elen y hy
theorem runesM_rng {w : Str} {k : Nat} {r : Int} (h : (Ml.runesM w)[k]? = some r) : 0 ≤ r ∧ r ≤ 1114111 := by
  obtain ⟨_, c, _, rfl, h1, _⟩ := runesM_at h
  omega
end Go.Ik
namespace Go.Ik
open Go Go.Proofs
theorem flat_encJ (l : List Str) : l.flatMap encS = l.map strV := by
  induction l with
  | nil => rfl
  | cons a l ih => simp [encS, ih]
theorem join_own {P : Program} {ρ : Go.Shelf.Ren} (L : Lays.n156 P ρ) (X : Builder.Extra P ρ) {w0 : World} {F : Nat → Prop} {v : Value} {l : List Str} (h : Sl encS w0 F v l) (hne : l ≠ []) (hb : ∀ b, F b → b < w0.heap.size) (hlen : Ml.sumLen l + l.length ≤ 100000000) :
    Calls P (ρ.f 156) #[v, strV [255]] w0 (Ret fun rv w1 => rv = strV (Ml.joinS l) ∧ Ext w0 w1) := by
  obtain ⟨a, cap, rfl, h2, h3, h4⟩ := h
  rcases h4 with h4 | ⟨b, off, rfl, hF, hr⟩
  · exact absurd h4 hne
  · have hj := Ml.joinS_len l
    have hmap : (l.map fun s : Str => (⟨s.toArray⟩ : ByteArray)).map (·.data.toList) = l := by
      rw [List.map_map]
      conv => rhs; rw [← List.map_id l]
      exact List.map_congr_left fun s _ => by simp
    have hc := Any.strings_Join_48 L X b off cap (l.map fun s : Str => (⟨s.toArray⟩ : ByteArray)) ⟨#[255]⟩ w0 (fun j x hx => by
      rw [List.getElem?_map] at hx
      obtain ⟨s, hs, rfl⟩ := Option.map_eq_some_iff.1 hx
      have := hr j (strV s) (by rw [flat_encJ, List.getElem?_map, hs]; rfl)
      exact this) (hb b hF) (by rw [List.length_map]; omega) (by rw [List.length_map]; exact h2) (by
      rw [hmap]
      have : (Ml.joinS l).length ≤ 281474976710656 := by omega
      exact this)
    rw [List.length_map, hmap] at hc
    refine Calls.mono hc ?_
    rintro e w' ⟨rfl, hw⟩
    exact ⟨_, rfl, rfl, Mod.of_below hw⟩
end Go.Ik
set_option linter.unusedSectionVars false
namespace Go.Ik
open Go
/-- what is said of some blocks, and of blocks 'R' that nobody writes -/
structure Res (R : Nat → Prop) where
  p : (Nat → Prop) → World → Prop
  keep : ∀ {F : Nat → Prop} {w w' : World} {M : Nat → Prop}, p F w → Mod M w w' → (∀ b, F b → ¬ M b) → (∀ b, R b → ¬ M b) → p F w'
/-- resources that lie apart within blocks 'U' -/
def Sep {R : Nat → Prop} (L : List (Res R)) (U : Nat → Prop) (w : World) : Prop :=
  ∃ Fs : Nat → Nat → Prop, (∀ (i : Nat) (A : Res R), L[i]? = some A → A.p (Fs i) w) ∧ (∀ i b, Fs i b → (U b ∧ ¬ R b) ∧ b < w.heap.size) ∧ ∀ i j b, i ≠ j → Fs i b → ¬ Fs j b
section
variable {R : Nat → Prop} {L : List (Res R)} {U : Nat → Prop} {w w' : World}
theorem Sep.keep {M : Nat → Prop} (h : Sep L U w) (hm : Mod M w w') (hU : ∀ b, U b → b < w.heap.size → ¬ M b) (hR : ∀ b, R b → ¬ M b) : Sep L U w' := by
  obtain ⟨Fs, h1, h2, h3⟩ := h
  exact ⟨Fs, fun i A hA => A.keep (h1 i A hA) hm (fun b hb => hU b (h2 i b hb).1.1 (h2 i b hb).2) hR, fun i b hb => ⟨(h2 i b hb).1, Nat.lt_of_lt_of_le (h2 i b hb).2 hm.size⟩, h3⟩
theorem Sep.act {i : Nat} {A : Res R} (h : Sep L U w) (hR : ∀ b, R b → b < w.heap.size) (hi : L[i]? = some A) : ∃ F, A.p F w ∧ (∀ b, F b → (U b ∧ ¬ R b) ∧ b < w.heap.size) ∧ ∀ (w' : World) (F' : Nat → Prop) (A' : Res R), Mod F w w' → A'.p F' w' → (∀ b, F' b → b < w'.heap.size ∧ (F b ∨ (w.heap.size ≤ b ∧ U b))) → Sep (L.set i A') U w' := by
  obtain ⟨Fs, h1, h2, h3⟩ := h
  refine ⟨Fs i, h1 i A hi, h2 i, fun w' F' A' hm hA' hF' => ⟨fun k => if k = i then F' else Fs k, fun k B hB => ?_, fun k b hb => ?_, fun j k b hjk hj hk => ?_⟩⟩
  · by_cases hk : k = i
    · subst hk
      rw [List.getElem?_set_self (List.getElem?_eq_some_iff.1 hi).1] at hB
      simp only [if_true]
      cases hB; exact hA'
    · rw [List.getElem?_set_ne (fun e => hk e.symm)] at hB
      simp only [if_neg hk]
      exact B.keep (h1 k B hB) hm (fun b hb hx => h3 k i b hk hb hx) fun b hb hx => (h2 i b hx).1.2 hb
  · by_cases hk : k = i
    · subst hk
      simp only [if_true] at hb
      obtain ⟨h4, h5⟩ := hF' b hb
      exact ⟨h5.elim (fun h => (h2 k b h).1) (fun h => ⟨h.2, fun hr => by have := hR b hr; omega⟩), h4⟩
    · simp only [if_neg hk] at hb
      exact ⟨(h2 k b hb).1, Nat.lt_of_lt_of_le (h2 k b hb).2 hm.size⟩
  · by_cases hji : j = i
    · have hki : k ≠ i := fun e => hjk (hji.trans e.symm)
      simp only [if_pos hji] at hj
      simp only [if_neg hki] at hk
      rcases (hF' b hj).2 with h5 | h5
      · exact h3 i k b (fun e => hki e.symm) h5 hk
      · have := (h2 k b hk).2; omega
    · simp only [if_neg hji] at hj
      by_cases hki : k = i
      · simp only [if_pos hki] at hk
        rcases (hF' b hk).2 with h5 | h5
        · exact h3 j i b hji hj h5
        · have := (h2 j b hj).2; omega
      · simp only [if_neg hki] at hk
        exact h3 j k b hjk hj hk
theorem Sep.new {A : Res R} {F : Nat → Prop} (h : Sep L U w) (hR : ∀ b, R b → b < w.heap.size) (hm : Ext w w') (hA : A.p F w') (hF : ∀ b, F b → U b ∧ w.heap.size ≤ b ∧ b < w'.heap.size) : Sep (L ++ [A]) U w' := by
  obtain ⟨Fs, h1, h2, h3⟩ := h
  refine ⟨fun k => if k = L.length then F else Fs k, fun k B hB => ?_, fun k b hb => ?_, fun j k b hjk hj hk => ?_⟩
  · by_cases hk : k = L.length
    · subst hk
      rw [List.getElem?_append_right (Nat.le_refl _)] at hB
      simp only [Nat.sub_self, List.getElem?_cons_zero, Option.some.injEq] at hB
      subst hB
      simp only [if_true]; exact hA
    · simp only [if_neg hk]
      have hlt := (List.getElem?_eq_some_iff.1 hB).1
      simp only [List.length_append, List.length_cons, List.length_nil] at hlt
      rw [List.getElem?_append_left (by omega)] at hB
      exact B.keep (h1 k B hB) hm (fun b hb hx => hx) fun _ _ hx => hx
  · by_cases hk : k = L.length
    · simp only [if_pos hk] at hb
      exact ⟨⟨(hF b hb).1, fun hr => by have := hR b hr; have := (hF b hb).2.1; omega⟩, (hF b hb).2.2⟩
    · simp only [if_neg hk] at hb
      exact ⟨(h2 k b hb).1, Nat.lt_of_lt_of_le (h2 k b hb).2 hm.size⟩
  · by_cases hji : j = L.length
    · have hki : k ≠ L.length := fun e => hjk (hji.trans e.symm)
      simp only [if_pos hji] at hj
      simp only [if_neg hki] at hk
      have := (h2 k b hk).2; have := (hF b hj).2.1; omega
    · simp only [if_neg hji] at hj
      by_cases hki : k = L.length
      · simp only [if_pos hki] at hk
        have := (h2 j b hj).2; have := (hF b hk).2.1; omega
      · simp only [if_neg hki] at hk
        exact h3 j k b hjk hj hk
theorem sel_at {α : Type} {L : List α} : ∀ (is : List Nat) (k : Nat), (∀ i ∈ is, i < L.length) → (is.filterMap fun i => L[i]?)[k]? = (is[k]?).bind fun i => L[i]?
  | [], k, _ => by simp
  | i :: is, 0, h => by
    have := h i (by simp)
    simp [List.getElem?_eq_getElem this]
  | i :: is, k + 1, h => by
    have := h i (by simp)
    rw [List.filterMap_cons, List.getElem?_eq_getElem this]
    simp only [List.getElem?_cons_succ]
    exact sel_at is k fun j hj => h j (by simp [hj])
theorem Sep.sel (is : List Nat) (h : Sep L U w) (hl : (is.all fun i => decide (i < L.length)) = true) (hn : is.Nodup) : Sep (is.filterMap fun i => L[i]?) U w := by
  obtain ⟨Fs, h1, h2, h3⟩ := h
  have hl' : ∀ i ∈ is, i < L.length := fun i hi => of_decide_eq_true (List.all_eq_true.1 hl i hi)
  refine ⟨fun k b => ∃ i, is[k]? = some i ∧ Fs i b, fun k B hB => ?_, fun k b hb => ?_, fun j k b hjk hj hk => ?_⟩
  · rw [sel_at is k hl'] at hB
    obtain ⟨i, hi, hB⟩ := Option.bind_eq_some_iff.1 hB
    have e : (fun b => ∃ i, is[k]? = some i ∧ Fs i b) = Fs i := by
      funext b
      rw [hi]
      exact propext ⟨fun ⟨j, hj, hb⟩ => by cases hj; exact hb, fun hb => ⟨i, rfl, hb⟩⟩
    show B.p (fun b => ∃ i, is[k]? = some i ∧ Fs i b) w
    rw [e]; exact h1 i B hB
  · obtain ⟨i, _, hb⟩ := hb
    exact h2 i b hb
  · obtain ⟨i, hi, hbi⟩ := hj
    obtain ⟨i', hi', hbi'⟩ := hk
    refine h3 i i' b (fun e => ?_) hbi hbi'
    subst e
    obtain ⟨q1, q2⟩ := List.getElem?_eq_some_iff.1 hi
    obtain ⟨q3, q4⟩ := List.getElem?_eq_some_iff.1 hi'
    exact hjk ((List.getElem_inj hn).1 (q2.trans q4.symm))
theorem Sep.imp {i : Nat} {A A' : Res R} (h : Sep L U w) (hR : ∀ b, R b → b < w.heap.size) (hi : L[i]? = some A) (hA : ∀ F, A.p F w → A'.p F w) : Sep (L.set i A') U w := by
  obtain ⟨F, h1, h2, k⟩ := h.act hR hi
  exact k w F A' (Mod.refl _ _) (hA F h1) fun b hb => ⟨(h2 b hb).2, .inl hb⟩
theorem Sep.two {i j : Nat} {A B : Res R} (h : Sep L U w) (hi : L[i]? = some A) (hj : L[j]? = some B) (hn : i ≠ j) : ∃ F G, A.p F w ∧ B.p G w ∧ (∀ b, G b → ¬ F b) := by
  obtain ⟨Fs, h1, h2, h3⟩ := h
  exact ⟨Fs i, Fs j, h1 i A hi, h1 j B hj, fun b hb hx => h3 i j b hn hx hb⟩
end
/-- several as one -/
def boxR {R : Nat → Prop} (L : List (Res R)) : Res R := ⟨fun F w => Sep L F w, fun h hm hF hR => h.keep hm (fun b hb _ => hF b hb) hR⟩
theorem Sep.close {R : Nat → Prop} {L1 L2 : List (Res R)} {U : Nat → Prop} {w : World} (h : Sep (L1 ++ L2) U w) : Sep (L1 ++ [boxR L2]) U w := by
  obtain ⟨Fs, h1, h2, h3⟩ := h
  refine ⟨fun k b => if k < L1.length then Fs k b else k = L1.length ∧ ∃ j, Fs (L1.length + j) b, fun k B hB => ?_, fun k b hb => ?_, fun j k b hjk hj hk => ?_⟩
  · by_cases hk : k < L1.length
    · simp only [if_pos hk]
      rw [List.getElem?_append_left hk] at hB
      exact h1 k B (by rw [List.getElem?_append_left hk]; exact hB)
    · have hlt := (List.getElem?_eq_some_iff.1 hB).1
      simp only [List.length_append, List.length_cons, List.length_nil] at hlt
      have hk' : k = L1.length := by omega
      subst hk'
      rw [List.getElem?_append_right (Nat.le_refl _)] at hB
      simp only [Nat.sub_self, List.getElem?_cons_zero, Option.some.injEq] at hB
      subst hB
      simp only [Nat.lt_irrefl, if_false, true_and]
      exact ⟨fun j => Fs (L1.length + j), fun j A hA => h1 _ A (by rw [List.getElem?_append_right (by omega), Nat.add_sub_cancel_left]; exact hA), fun j b hb => ⟨⟨⟨j, hb⟩, (h2 _ b hb).1.2⟩, (h2 _ b hb).2⟩, fun i j b hij => h3 _ _ b (by omega)⟩
  · by_cases hk : k < L1.length
    · simp only [if_pos hk] at hb; exact h2 k b hb
    · simp only [if_neg hk] at hb
      obtain ⟨_, j, hb⟩ := hb
      exact h2 _ b hb
  · by_cases hj' : j < L1.length
    · simp only [if_pos hj'] at hj
      by_cases hk' : k < L1.length
      · simp only [if_pos hk'] at hk; exact h3 j k b hjk hj hk
      · simp only [if_neg hk'] at hk
        obtain ⟨_, m, hk⟩ := hk
        exact h3 j _ b (by omega) hj hk
    · simp only [if_neg hj'] at hj
      obtain ⟨e, m, hj⟩ := hj
      by_cases hk' : k < L1.length
      · simp only [if_pos hk'] at hk
        exact h3 _ k b (by omega) hj hk
      · simp only [if_neg hk'] at hk
        exact hjk (e.trans hk.1.symm)
theorem Sep.open {R : Nat → Prop} {L1 L2 : List (Res R)} {U : Nat → Prop} {w : World} (h : Sep (L1 ++ [boxR L2]) U w) : Sep (L1 ++ L2) U w := by
  obtain ⟨Fs, h1, h2, h3⟩ := h
  obtain ⟨Gs, g1, g2, g3⟩ := h1 L1.length (boxR L2) (by rw [List.getElem?_append_right (Nat.le_refl _)]; simp)
  refine ⟨fun k => if k < L1.length then Fs k else Gs (k - L1.length), fun k B hB => ?_, fun k b hb => ?_, fun j k b hjk hj hk => ?_⟩
  · by_cases hk : k < L1.length
    · simp only [if_pos hk]
      rw [List.getElem?_append_left hk] at hB
      exact h1 k B (by rw [List.getElem?_append_left hk]; exact hB)
    · simp only [if_neg hk]
      rw [List.getElem?_append_right (by omega)] at hB
      exact g1 _ B hB
  · by_cases hk : k < L1.length
    · simp only [if_pos hk] at hb; exact h2 k b hb
    · simp only [if_neg hk] at hb
      exact ⟨(h2 _ b (g2 _ b hb).1.1).1, (g2 _ b hb).2⟩
  · by_cases hj' : j < L1.length
    · simp only [if_pos hj'] at hj
      by_cases hk' : k < L1.length
      · simp only [if_pos hk'] at hk; exact h3 j k b hjk hj hk
      · simp only [if_neg hk'] at hk
        exact h3 j L1.length b (by omega) hj (g2 _ b hk).1.1
    · simp only [if_neg hj'] at hj
      by_cases hk' : k < L1.length
      · simp only [if_pos hk'] at hk
        exact h3 L1.length k b (by omega) (g2 _ b hj).1.1 hk
      · simp only [if_neg hk'] at hk
        exact g3 _ _ b (by omega) hj hk
section
variable {R : Nat → Prop}
def bkR (b : Nat) (cs : List Value) (e : TypeId) : Res R := ⟨fun F w => Bk w b cs e ∧ F b, fun h hm hF _ => ⟨h.1.keep hm (hF b h.2), h.2⟩⟩
def accR {α : Type} (enc : α → List Value) (e : TypeId) (sz : Nat) (v : Value) (l : List α) : Res R :=
  ⟨fun F w => ∃ g, Acc enc e sz w g v l ∧ ∀ b, b + 1 = g → F b, fun ⟨g, h1, h2⟩ hm hF _ => ⟨g, h1.keep hm fun b hb => hF b (h2 b hb.symm), h2⟩⟩
/-- slices that are read only, in blocks of one's own or in those that nobody writes -/
def slR {α : Type} (enc : α → List Value) (vs : List (Value × List α)) : Res R :=
  ⟨fun F w => ∀ x ∈ vs, Sl enc w (fun b => F b ∨ R b) x.1 x.2, fun h hm hF hR x hx => (h x hx).keep hm fun b hb => hb.elim (hF b) (hR b)⟩
def mapR {α β : Type} [DecidableEq α] (key : α → Value) (val : β → Value) (b : Nat) (m : List (α × β)) : Res R :=
  ⟨fun F w => MapO key val w b m ∧ F b, fun {F w w' M} h hm hF _ => ⟨by
    obtain ⟨⟨es, c, h1, h2⟩, hb⟩ := h
    exact ⟨es, c, hm.keep _ _ h1 (hF b hb), h2⟩, h.2⟩⟩
def exR {α : Type} (A : α → Res R) : Res R := ⟨fun F w => ∃ a, (A a).p F w, fun ⟨a, h⟩ hm hF hR => ⟨a, (A a).keep h hm hF hR⟩⟩
def andR (P : Prop) (A : Res R) : Res R := ⟨fun F w => P ∧ A.p F w, fun h hm hF hR => ⟨h.1, A.keep h.2 hm hF hR⟩⟩
def noR : Res R := ⟨fun _ _ => True, fun _ _ _ _ => trivial⟩
end
theorem mg_weaken {F : Nat → Prop} {b : Nat} {w w' : World} (hm : Mod (Mg (b + 1)) w w') (hb : F b) : Mod F w w' := hm.weaken fun b' hb' _ => by
  have e : b' = b := by unfold Mg at hb'; omega
  rw [e]; exact hb
/-- where a walk stands: what may have been written since the call began; what is held -/
structure St (R F0 : Nat → Prop) (w0 w : World) (L : List (Res R)) : Prop where
  mod : Mod F0 w0 w
  far : ∀ b, R b → b < w0.heap.size ∧ ¬ F0 b
  sep : Sep L (fun b => F0 b ∨ w0.heap.size ≤ b) w
section
variable {R F0 : Nat → Prop} {w0 w w' : World} {L : List (Res R)} {i j : Nat} {A B : Res R}
theorem St.rlt (h : St R F0 w0 w L) : ∀ b, R b → b < w.heap.size := fun b hb => Nat.lt_of_lt_of_le (h.far b hb).1 h.mod.size
theorem St.start (w0 : World) (hR : ∀ b, R b → b < w0.heap.size) : St R (fun _ => False) w0 w0 [] := ⟨Mod.refl _ _, fun b hb => ⟨hR b hb, id⟩, ⟨fun _ _ => False, fun i A h => by simp at h, fun _ _ h => h.elim, fun _ _ _ _ h => h.elim⟩⟩
theorem St.start0 (w0 : World) : St (fun _ => False) (fun _ => False) w0 w0 [] := St.start w0 fun _ h => h.elim
theorem St.start1 {F : Nat → Prop} (hA : A.p F w0) (hF : ∀ b, F b → b < w0.heap.size ∧ ¬ R b) (hR : ∀ b, R b → b < w0.heap.size) : St R F w0 w0 [A] := ⟨Mod.refl _ _, fun b hb => ⟨hR b hb, fun h => (hF b h).2 hb⟩, ⟨fun i b => i = 0 ∧ F b, fun i B h => by
    cases i with
    | zero =>
      simp only [List.getElem?_cons_zero, Option.some.injEq] at h
      subst h
      simpa using hA
    | succ i => simp at h, fun i b h => ⟨⟨.inl h.2, (hF b h.2).2⟩, (hF b h.2).1⟩, fun i j b hij h1 h2 => hij (h1.1.trans h2.1.symm)⟩⟩
theorem St.ext (h : St R F0 w0 w L) (hm : Ext w w') : St R F0 w0 w' L := ⟨h.mod.ext hm, h.far, h.sep.keep hm (fun _ _ _ x => x) fun _ _ x => x⟩
theorem St.get (h : St R F0 w0 w L) (hi : L[i]? = some A) : ∃ F, A.p F w ∧ ∀ b, F b → b < w.heap.size := by
  obtain ⟨Fs, h1, h2, _⟩ := h.sep
  exact ⟨Fs i, h1 i A hi, fun b hb => (h2 i b hb).2⟩
theorem St.act (h : St R F0 w0 w L) (hi : L[i]? = some A) : ∃ F, A.p F w ∧ (∀ b, F b → ((F0 b ∨ w0.heap.size ≤ b) ∧ ¬ R b) ∧ b < w.heap.size) ∧ ∀ (w' : World) (F' : Nat → Prop) (A' : Res R), Mod F w w' → A'.p F' w' → (∀ b, F' b → b < w'.heap.size ∧ (F b ∨ w.heap.size ≤ b)) → St R F0 w0 w' (L.set i A') := by
  obtain ⟨F, h1, h2, k⟩ := h.sep.act h.rlt hi
  refine ⟨F, h1, h2, fun w' F' A' hm hA' hF' => ⟨h.mod.then hm fun b hb hl => (h2 b hb).1.1.resolve_right (by omega), h.far, k w' F' A' hm hA' fun b hb => ⟨(hF' b hb).1, (hF' b hb).2.imp id fun hb => ⟨hb, .inr (Nat.le_trans h.mod.size hb)⟩⟩⟩⟩
theorem St.act2 (h : St R F0 w0 w L) (hi : L[i]? = some A) (hj : L[j]? = some B) (hn : i ≠ j) : ∃ F G, A.p F w ∧ B.p G w ∧ (∀ b, G b → ¬ F b) ∧ (∀ b, F b → ((F0 b ∨ w0.heap.size ≤ b) ∧ ¬ R b) ∧ b < w.heap.size) ∧ (∀ b, G b → b < w.heap.size) ∧ ∀ (w' : World) (F' : Nat → Prop) (A' : Res R), Mod F w w' → A'.p F' w' → (∀ b, F' b → b < w'.heap.size ∧ (F b ∨ w.heap.size ≤ b)) → St R F0 w0 w' (L.set i A') := by
  obtain ⟨Fs, h1, h2, h3⟩ := h.sep
  let U : Nat → Prop := fun b => F0 b ∨ w0.heap.size ≤ b
  have hS : Sep L U w := ⟨Fs, h1, h2, h3⟩
  refine ⟨Fs i, Fs j, h1 i A hi, h1 j B hj, fun b hb hx => h3 i j b hn hx hb, h2 i, fun b hb => (h2 j b hb).2, fun w' F' A' hm hA' hF' => ⟨h.mod.then hm fun b hb hl => (h2 i b hb).1.1.resolve_right (by omega), h.far, ?_⟩⟩
  refine ⟨fun k => if k = i then F' else Fs k, fun k B hB => ?_, fun k b hb => ?_, fun j k b hjk hj hk => ?_⟩
  · by_cases hk : k = i
    · subst hk
      rw [List.getElem?_set_self (List.getElem?_eq_some_iff.1 hi).1] at hB
      simp only [if_true]
      cases hB; exact hA'
    · rw [List.getElem?_set_ne (fun e => hk e.symm)] at hB
      simp only [if_neg hk]
      exact B.keep (h1 k B hB) hm (fun b hb hx => h3 k i b hk hb hx) fun b hb hx => (h2 i b hx).1.2 hb
  · by_cases hk : k = i
    · subst hk
      simp only [if_true] at hb
      obtain ⟨h4, h5⟩ := hF' b hb
      exact ⟨h5.elim (fun h => (h2 k b h).1) (fun hb => ⟨.inr (Nat.le_trans h.mod.size hb), fun hr => by have := h.rlt b hr; omega⟩), h4⟩
    · simp only [if_neg hk] at hb
      exact ⟨(h2 k b hb).1, Nat.lt_of_lt_of_le (h2 k b hb).2 hm.size⟩
  · by_cases hji : j = i
    · have hki : k ≠ i := fun e => hjk (hji.trans e.symm)
      simp only [if_pos hji] at hj
      simp only [if_neg hki] at hk
      rcases (hF' b hj).2 with h5 | h5
      · exact h3 i k b (fun e => hki e.symm) h5 hk
      · have := (h2 k b hk).2; omega
    · simp only [if_neg hji] at hj
      by_cases hki : k = i
      · simp only [if_pos hki] at hk
        rcases (hF' b hk).2 with h5 | h5
        · exact h3 j i b hji hj h5
        · have := (h2 j b hj).2; omega
      · simp only [if_neg hki] at hk
        exact h3 j k b hjk hj hk
theorem St.new {F : Nat → Prop} (h : St R F0 w0 w L) (hm : Ext w w') (hA : A.p F w') (hF : ∀ b, F b → w.heap.size ≤ b ∧ b < w'.heap.size) : St R F0 w0 w' (L ++ [A]) :=
  ⟨h.mod.ext hm, h.far, h.sep.new h.rlt hm hA fun b hb => ⟨.inr (Nat.le_trans h.mod.size (hF b hb).1), hF b hb⟩⟩
theorem St.sel (is : List Nat) (h : St R F0 w0 w L) (hl : (is.all fun i => decide (i < L.length)) = true) (hn : is.Nodup) : St R F0 w0 w (is.filterMap fun i => L[i]?) := ⟨h.mod, h.far, h.sep.sel is hl hn⟩
theorem St.imp {A' : Res R} (h : St R F0 w0 w L) (hi : L[i]? = some A) (hA : ∀ F, A.p F w → A'.p F w) : St R F0 w0 w (L.set i A') := ⟨h.mod, h.far, h.sep.imp h.rlt hi hA⟩
theorem St.close {L1 L2 : List (Res R)} (h : St R F0 w0 w (L1 ++ L2)) : St R F0 w0 w (L1 ++ [boxR L2]) := ⟨h.mod, h.far, h.sep.close⟩
theorem St.open {L1 L2 : List (Res R)} (h : St R F0 w0 w (L1 ++ [boxR L2])) : St R F0 w0 w (L1 ++ L2) := ⟨h.mod, h.far, h.sep.open⟩
theorem St.fin (h : St R F0 w0 w [A]) : Mod F0 w0 w ∧ ∃ F', A.p F' w ∧ ∀ b, F' b → b < w.heap.size ∧ (F0 b ∨ w0.heap.size ≤ b) := by
  obtain ⟨Fs, h1, h2, _⟩ := h.sep
  exact ⟨h.mod, Fs 0, h1 0 A rfl, fun b hb => ⟨(h2 0 b hb).2, (h2 0 b hb).1.1⟩⟩
theorem St.exo {α : Type} {A : α → Res R} (h : St R F0 w0 w L) (hi : L[i]? = some (exR A)) : ∃ a, St R F0 w0 w (L.set i (A a)) := by
  obtain ⟨F, ⟨a, ha⟩, h2, k⟩ := h.act hi
  exact ⟨a, k w F (A a) (Mod.refl _ _) ha fun b hb => ⟨(h2 b hb).2, .inl hb⟩⟩
theorem St.exi {α : Type} {A : α → Res R} (h : St R F0 w0 w L) (a : α) (hi : L[i]? = some (A a)) : St R F0 w0 w (L.set i (exR A)) := h.imp hi fun F x => ⟨a, x⟩
theorem St.bk {b : Nat} {cs : List Value} {e : TypeId} (h : St R F0 w0 w L) (hi : L[i]? = some (bkR b cs e)) : Bk w b cs e := by
  obtain ⟨F, h1, _⟩ := h.get hi; exact h1.1
theorem St.bkK {b : Nat} {cs cs' : List Value} {e : TypeId} (h : St R F0 w0 w L) (hi : L[i]? = some (bkR b cs e)) (hm : Mod (Mg (b + 1)) w w') (hk : Bk w' b cs' e) : St R F0 w0 w' (L.set i (bkR b cs' e)) := by
  obtain ⟨F, h1, h2, k⟩ := h.act hi
  exact k w' F _ (mg_weaken hm h1.2) ⟨hk, h1.2⟩ fun b hb => ⟨Nat.lt_of_lt_of_le (h2 b hb).2 hm.size, .inl hb⟩
theorem St.newBk {b : Nat} {cs : List Value} {e : TypeId} (h : St R F0 w0 w L) (hm : Ext w w') (hb : b = w.heap.size) (hk : Bk w' b cs e) : St R F0 w0 w' (L ++ [bkR b cs e]) :=
  h.new (F := fun x => x = b) hm ⟨hk, rfl⟩ fun x hx => by have := hk.lt; omega
theorem St.map {α β : Type} [DecidableEq α] {key : α → Value} {val : β → Value} {b : Nat} {m : List (α × β)} (h : St R F0 w0 w L) (hi : L[i]? = some (mapR key val b m)) : MapO key val w b m := by
  obtain ⟨F, h1, _⟩ := h.get hi; exact h1.1
theorem St.mapK {α β : Type} [DecidableEq α] {key : α → Value} {val : β → Value} {b : Nat} {m m' : List (α × β)} (h : St R F0 w0 w L) (hi : L[i]? = some (mapR key val b m)) (hm : Mod (Mg (b + 1)) w w') (hk : MapO key val w' b m') : St R F0 w0 w' (L.set i (mapR key val b m')) := by
  obtain ⟨F, h1, h2, k⟩ := h.act hi
  exact k w' F _ (mg_weaken hm h1.2) ⟨hk, h1.2⟩ fun b hb => ⟨Nat.lt_of_lt_of_le (h2 b hb).2 hm.size, .inl hb⟩
theorem St.newMap {α β : Type} [DecidableEq α] {key : α → Value} {val : β → Value} {b : Nat} {m : List (α × β)} (h : St R F0 w0 w L) (hm : Ext w w') (hb : b = w.heap.size) (hk : MapO key val w' b m) : St R F0 w0 w' (L ++ [mapR key val b m]) :=
  h.new (F := fun x => x = b) hm ⟨hk, rfl⟩ fun x hx => by have := hk.lt; omega
section
variable {α : Type} {enc : α → List Value} {e : TypeId} {sz : Nat} {v : Value} {l : List α}
theorem Acc.uniq {g g' : Nat} {w' : World} (h : Acc enc e sz w g v l) {e' : TypeId} {sz' : Nat} {l' : List α} (h' : Acc enc e' sz' w' g' v l') : g = g' := by
  rcases h with ⟨h1, _, h2⟩ | ⟨b, cap, cur, h0, h1, _⟩ <;> rcases h' with ⟨k1, _, k2⟩ | ⟨b', cap', cur', k0, k1, _⟩
  · omega
  · rw [h1] at k1; simp at k1
  · rw [h1] at k1; simp at k1
  · rw [h1] at k1
    simp only [Value.slice.injEq, Option.some.injEq, Addr.mk.injEq] at k1
    omega
theorem St.accK (h : St R F0 w0 w L) (hi : L[i]? = some (accR enc e sz v l)) : ∃ g, Acc enc e sz w g v l ∧ g ≤ w.heap.size ∧ ∀ (w' : World) (g' : Nat) (v' : Value) (l' : List α), Mod (Mg g) w w' → Acc enc e sz w' g' v' l' → (g' = g ∨ w.heap.size < g') → St R F0 w0 w' (L.set i (accR enc e sz v' l')) := by
  obtain ⟨F, ⟨g, h1, h3⟩, h2, k⟩ := h.act hi
  refine ⟨g, h1, h1.lt, fun w' g' v' l' hm ha hg => k w' (fun b => b + 1 = g') _ (hm.weaken fun b hb _ => h3 b hb) ⟨g', ha, fun b hb => hb⟩ fun b hb => ⟨?_, ?_⟩⟩
  · have := ha.lt; omega
  · rcases hg with hg | hg
    · exact .inl (h3 b (by omega))
    · exact .inr (by omega)
theorem St.newAcc {g : Nat} (h : St R F0 w0 w L) (hm : Ext w w') (ha : Acc enc e sz w' g v l) (hg : g = 0 ∨ w.heap.size < g) : St R F0 w0 w' (L ++ [accR enc e sz v l]) :=
  h.new (F := fun b => b + 1 = g) hm ⟨g, ha, fun b hb => hb⟩ fun b hb => by have := ha.lt; omega
theorem St.ne {b g : Nat} {cs : List Value} {e' : TypeId} (h : St R F0 w0 w L) (hi : L[i]? = some (accR enc e sz v l)) (hj : L[j]? = some (bkR b cs e')) (hij : i ≠ j) (ha : Acc enc e sz w g v l) : b + 1 ≠ g := by
  obtain ⟨F, G, ⟨g', h1, h2⟩, h3, h4⟩ := h.sep.two hi hj hij
  have := ha.uniq h1
  subst this
  intro e
  exact h4 b h3.2 (h2 b e)
theorem St.sl {vs : List (Value × List α)} {k : Nat} (h : St R F0 w0 w L) (hi : L[i]? = some (slR enc vs)) (hk : vs[k]? = some (v, l)) : Sl enc w (Iv 0 w.heap.size) v l := by
  obtain ⟨F, h1, h2⟩ := h.get hi
  exact (h1 _ (List.mem_of_getElem? hk)).mono fun b hb => ⟨Nat.zero_le _, hb.elim (h2 b) (h.rlt b)⟩
theorem St.newSl (h : St R F0 w0 w L) (hm : Ext w w') (hs : Sl enc w' (Iv w.heap.size w'.heap.size) v l) : St R F0 w0 w' (L ++ [slR enc [(v, l)]]) :=
  h.new (F := Iv w.heap.size w'.heap.size) hm (fun x hx => by simp only [List.mem_singleton] at hx; subst hx; exact hs.mono fun b hb => .inl hb) fun b hb => hb
theorem St.newSlB {b : Nat} (h : St R F0 w0 w L) (hm : Ext w w') (hb : b = w.heap.size) (hz : w'.heap.size = w.heap.size + 1) (hs : Sl enc w' (Iv b (b + 1)) v l) : St R F0 w0 w' (L ++ [slR enc [(v, l)]]) :=
  h.newSl hm (hs.mono fun x hx => by unfold Iv at *; omega)
theorem Sl.atF {F : Nat → Prop} (h : Sl enc w F v l) {P : Program} {t : TypeId} {by_ : Nat} {g : Bool} {z : List Value} (ht : P.underlying t = some (.slice e)) (he : tyI P e = some (g, sz, by_, z)) (hsz : ∀ x, (enc x).length = sz) {k : IntKind} {n : Int} (i : Nat) (hn : n = (i : Int)) (hi : i < l.length) :
    ∃ x b off, l[i]? = some x ∧ (∀ w, (Instr.indexAt t v (.int k n)).run P w = .ok (ptr b off) w) ∧ F b ∧ Row w b off (enc x) := by
  obtain ⟨b, off, h1, h2, h3⟩ := h.at ht he hsz (k := k) i hn hi
  exact ⟨l[i], b, off, by simp, h1, h2, h3⟩
/-- an element's row, wherever it was found first -/
theorem Sl.rowAt {F : Nat → Prop} (h : Sl enc w F v l) {P : Program} {t : TypeId} {by_ : Nat} {g : Bool} {z : List Value} (ht : P.underlying t = some (.slice e)) (he : tyI P e = some (g, sz, by_, z)) (hsz : ∀ x, (enc x).length = sz) {k : IntKind} {n : Int} (i : Nat) (hn : n = (i : Int)) {x : α} {b off : Nat} (hx : l[i]? = some x)
    (hr : ∀ w, (Instr.indexAt t v (.int k n)).run P w = .ok (ptr b off) w) : Row w b off (enc x) := by
  obtain ⟨x', b', off', hx', hr', _, hrow⟩ := h.atF ht he hsz (k := k) i hn (List.getElem?_eq_some_iff.1 hx).1
  have e1 := (hr w).symm.trans (hr' w)
  simp only [ptr, Result.ok.injEq, Value.pointer.injEq, Option.some.injEq, Addr.mk.injEq, and_true] at e1
  obtain ⟨rfl, rfl⟩ := e1
  rw [hx] at hx'
  cases hx'
  exact hrow
/-- an own slice that is read only from now on -/
theorem St.freeze (h : St R F0 w0 w L) (hi : L[i]? = some (accR enc e sz v l)) : St R F0 w0 w (L.set i (slR enc [(v, l)])) :=
  h.imp hi fun F hx x hx' => by
    obtain ⟨g, h1, h2⟩ := hx
    simp only [List.mem_singleton] at hx'
    subst hx'
    refine h1.sl.mono fun b hb => ?_
    rcases h1 with ⟨_, _, h4⟩ | ⟨b', cap, cur, h0, _⟩
    · unfold Iv at hb; omega
    · exact .inl (h2 b (by unfold Iv at hb; omega))
/-- what lies in blocks that nobody writes -/
theorem St.newFar {G : Nat → Prop} (h : St R F0 w0 w L) (hs : Sl enc w0 G v l) (hG : ∀ b, G b → R b) : St R F0 w0 w (L ++ [slR enc [(v, l)]]) :=
  h.new (F := fun _ => False) (Mod.refl _ _) (fun x hx => by
    simp only [List.mem_singleton] at hx
    subst hx
    exact (hs.keep h.mod fun b hb => (h.far b (hG b hb)).2).mono fun b hb => .inr (hG b hb)) fun _ hb => hb.elim
end
end
section
variable {w0 w : World} {R : Nat → Prop} {L0 : List (Res (fun _ => False))} {L : List (Res R)} {i : Nat} {α : Type} {enc : α → List Value} {e : TypeId} {sz : Nat} {v : Value} {l : List α}
theorem St.slOut {vs : List (Value × List α)} {k : Nat} (h : St (fun _ => False) (fun _ => False) w0 w L0) (hi : L0[i]? = some (slR enc vs)) (hk : vs[k]? = some (v, l)) : Sl enc w (Iv w0.heap.size w.heap.size) v l := by
  obtain ⟨F, h1, h2, _⟩ := h.act hi
  exact (h1 _ (List.mem_of_getElem? hk)).mono fun b hb => ⟨(h2 b (hb.resolve_right id)).1.1.resolve_left fun x => x, (h2 b (hb.resolve_right id)).2⟩
theorem St.accOut (h : St R (fun _ => False) w0 w L) (hi : L[i]? = some (accR enc e sz v l)) : ∃ g, Acc enc e sz w g v l ∧ (g = 0 ∨ w0.heap.size < g) := by
  obtain ⟨F, ⟨g, h1, h3⟩, h2, _⟩ := h.act hi
  refine ⟨g, h1, ?_⟩
  rcases (by omega : g = 0 ∨ 0 < g) with hg | hg
  · exact .inl hg
  · have := (h2 (g - 1) (h3 _ (by omega))).1.1.resolve_left fun x => x
    exact .inr (by omega)
theorem St.accSl (h : St R (fun _ => False) w0 w L) (hi : L[i]? = some (accR enc e sz v l)) : Sl enc w (Iv w0.heap.size w.heap.size) v l := by
  obtain ⟨g, h1, h2⟩ := h.accOut hi
  exact h1.fresh h2
end
/-- what lies outside stays -/
theorem St.out {R F0 G : Nat → Prop} {w0 w : World} {L : List (Res R)} {α : Type} {enc : α → List Value} {v : Value} {l : List α} (h : St R F0 w0 w L) (hs : Sl enc w0 G v l) (hG : ∀ b, G b → ¬ F0 b) : Sl enc w G v l := hs.keep h.mod hG
end Go.Ik
set_option linter.unusedSectionVars false
namespace Go.Ik
open Go
section
variable {P : Program} {E : Env} {C : World → Prop} {d : Option Tmp} {ty : TypeId} {pos : String} {af : Array Edge} {gd : Option (Nat × Bool)} {w : World} {K : Value → World → Prop}
theorem Q1.quo32 {x y : Operand} {xt yt : TypeId} {p q : Int} (r : Int) (hx : ev E x = some (.int .i32 p)) (hy : ev E y = some (.int .i32 q)) (hr : 0 ≤ p ∧ p ≤ 2147483647 ∧ 1 ≤ q ∧ p / q = r) : Q1 P ⟨d, .binOp .quo xt x y yt, ty, pos, af, gd⟩ E C (.int .i32 r) := by
  have h := Q1.quo (P := P) (C := C) (d := d) (xt := xt) (yt := yt) (ty := ty) (pos := pos) (af := af) (gd := gd) hx hy (by omega)
  have e : IntKind.i32.wrap (p.tdiv q) = r := by
    rw [Int.tdiv_eq_ediv_of_nonneg hr.1, hr.2.2.2]
    have h0 := Int.ediv_nonneg hr.1 (by omega : 0 ≤ q)
    have h1 := Int.ediv_le_self q hr.1
    exact IntWalk.i32_in _ (by omega)
  rw [e] at h; exact h
theorem row_byte {b off : Nat} {l : Str} (hr : Row w b off (l.flatMap encB)) (j : Nat) (hj : j < l.length) : w.cell? ((⟨b, off, none⟩ : Addr).add j) = some (.int .u8 (l[j].toNat : Int)) := by
  have hf : l.flatMap encB = l.map fun c => Value.int .u8 (c.toNat : Int) := by
    clear hr hj
    induction l with
    | nil => rfl
    | cons a l ih => simp [encB, ih]
  rw [add_lit]
  exact hr.cell j _ (by rw [hf, List.getElem?_map, List.getElem?_eq_getElem hj]; rfl)
theorem AW.bytesStr {s t e : TypeId} {x : Operand} {v : Value} {F : Nat → Prop} {l : Str} (hs : P.underlying s = some (.slice e)) (he : P.underlying e = some (.int .u8)) (ht : P.underlying t = some .string) (hx : ev E x = some v) (h : Sl encB w F v l) (hK : K (strV l) w) :
    AW P ⟨d, .convert s t x, ty, pos, af, gd⟩ E w K := fun a ha => by
  obtain ⟨ad, cap, rfl, h2, h3, h4⟩ := h
  have hr : (convert s t (.slice ad l.length cap)).run P w = .ok (strV l) w := by
    rcases h4 with rfl | ⟨b, off, rfl, _, hr⟩
    · show (convert s t (.slice ad 0 cap)).run P w = _
      rw [run_convert_bytes_string w s t e ad 0 cap hs he ht]
      cases ad <;> simp [Conv.bytesToString, loadCells, loadCellsFrom, strV] <;> rfl
    · exact run_convert_bytes_back w s t e _ cap l hs he ht (row_byte hr)
  simp [execOp, ha.ev hx, hr, out]
  exact hK
end
end Go.Ik
namespace Go.Ik
open Go
/-- a byte out of a number -/
def byN (n : Int) : UInt8 := UInt8.ofNat (n % 256).toNat
theorem byN_toNat (n : Int) : ((byN n).toNat : Int) = n % 256 := by
  have h0 := Int.emod_nonneg n (by omega : (256 : Int) ≠ 0)
  have h1 := Int.emod_lt_of_pos n (by omega : (0 : Int) < 256)
  unfold byN
  rw [UInt8.toNat_ofNat']
  omega
theorem byN_nat (n : Nat) : byN (n : Int) = UInt8.ofNat n := by
  apply UInt8.toNat_inj.1
  have := byN_toNat (n : Int)
  rw [UInt8.toNat_ofNat']
  omega
section
variable {P : Program} {E : Env} {C : World → Prop} {d : Option Tmp} {ty : TypeId} {pos : String} {af : Array Edge} {gd : Option (Nat × Bool)} {w : World} {K : Value → World → Prop}
theorem Q1.convB {s t : TypeId} {x : Operand} {k : IntKind} {p : Int} (hs : (P.underlying s).isSome = true) (ht : P.underlying t = some (.int .u8)) (hx : ev E x = some (.int k p)) : Q1 P ⟨d, .convert s t x, ty, pos, af, gd⟩ E C (.int .u8 ((byN p).toNat : Int)) := by
  have h := Q1.convI (P := P) (C := C) (d := d) (ty := ty) (pos := pos) (af := af) (gd := gd) hs ht hx
  have e : IntKind.u8.wrap p = ((byN p).toNat : Int) := by rw [byN_toNat, IntKind.wrap_u8]
  rw [e] at h; exact h
end
end Go.Ik
namespace Go.Ik
open Go
theorem xor_lt32 {a b : Nat} (ha : a < 4294967296) (hb : b < 4294967296) : a ^^^ b < 4294967296 := Nat.xor_lt_two_pow (n := 32) ha hb
theorem not32 {a : Nat} (ha : a < 4294967296) : 4294967295 ^^^ a = 4294967295 - a := by
  have h : (4294967295 ^^^ a) = (BitVec.ofNat 32 4294967295 ^^^ BitVec.ofNat 32 a).toNat := by
    rw [BitVec.toNat_xor, BitVec.toNat_ofNat, BitVec.toNat_ofNat, Nat.mod_eq_of_lt (by omega : a < 2 ^ 32)]
  have h2 : BitVec.ofNat 32 4294967295 = BitVec.allOnes 32 := rfl
  rw [h, h2, BitVec.allOnes_xor, BitVec.toNat_not, BitVec.toNat_ofNat, Nat.mod_eq_of_lt (by omega : a < 2 ^ 32)]
section
variable {P : Program} {E : Env} {C : World → Prop} {d : Option Tmp} {ty : TypeId} {pos : String} {af : Array Edge} {gd : Option (Nat × Bool)} {xt yt : TypeId} {x y : Operand}
theorem Q1.xor32 {a b : Nat} (hx : ev E x = some (.int .u32 (a : Int))) (hy : ev E y = some (.int .u32 (b : Int))) (ha : a < 4294967296) (hb : b < 4294967296) : Q1 P ⟨d, .binOp .xor xt x y yt, ty, pos, af, gd⟩ E C (.int .u32 ((a ^^^ b : Nat) : Int)) := fun s hs w _ => by
  have h := u32_xor_nat a b ha hb
  simp [execOp, hs.ev hx, hs.ev hy, eqGuard, Go.binOp, intBits_xor, h]
theorem Q1.xor8 {a b : UInt8} (hx : ev E x = some (.int .u8 (a.toNat : Int))) (hy : ev E y = some (.int .u8 (b.toNat : Int))) : Q1 P ⟨d, .binOp .xor xt x y yt, ty, pos, af, gd⟩ E C (.int .u8 ((a ^^^ b).toNat : Int)) := fun s hs w _ => by
  have h := u8_xor_nat a.toNat b.toNat a.toNat_lt b.toNat_lt
  rw [← UInt8.toNat_xor] at h
  simp [execOp, hs.ev hx, hs.ev hy, eqGuard, Go.binOp, intBits_xor, h]
theorem Q1.addU {p q : Int} (r : Int) (hx : ev E x = some (.int .u64 p)) (hy : ev E y = some (.int .u64 q)) (hr : p + q = r ∧ 0 ≤ r ∧ r ≤ 18446744073709551615) : Q1 P ⟨d, .binOp .add xt x y yt, ty, pos, af, gd⟩ E C (.int .u64 r) := by
  have h := Q1.add (P := P) (C := C) (d := d) (xt := xt) (yt := yt) (ty := ty) (pos := pos) (af := af) (gd := gd) hx hy
  rw [IntWalk.u64_in _ (by omega), hr.1] at h; exact h
theorem Q1.and1 {a : Nat} (hx : ev E x = some (.int .u32 (a : Int))) (hy : ev E y = some (.int .u32 1)) (ha : a < 4294967296) : Q1 P ⟨d, .binOp .and xt x y yt, ty, pos, af, gd⟩ E C (.int .u32 ((a % 2 : Nat) : Int)) := fun s hs w _ => by
  have h := u32_and_nat a 1 ha (by omega)
  rw [Nat.and_one_is_mod] at h
  have h' : bits .and .u32 (a : Int) 1 = ((a % 2 : Nat) : Int) := h
  simp [execOp, hs.ev hx, hs.ev hy, eqGuard, Go.binOp, intBits_and, h']
theorem Q1.not32 {a : Nat} (hx : ev E x = some (.int .u32 (a : Int))) (ha : a < 4294967296) : Q1 P ⟨d, .unOp .xor xt x, ty, pos, af, gd⟩ E C (.int .u32 ((4294967295 - a : Nat) : Int)) := fun s hs w _ => by
  have h := u32_xor_nat 4294967295 a (by omega) ha
  rw [Ik.not32 ha] at h
  have h' : bits .xor .u32 4294967295 (a : Int) = ((4294967295 - a : Nat) : Int) := h
  simp [execOp, hs.ev hx, Op.unary, intBits_xor, IntKind.signed, IntKind.max]
  exact h'
theorem Q1.shrN {k k' : IntKind} {p m : Int} (n : Nat) (hx : ev E x = some (.int k p)) (hy : ev E y = some (.int k' m)) (hm : m = (n : Int)) (hn : n ≤ k.bits) : Q1 P ⟨d, .binOp .shr xt x y yt, ty, pos, af, gd⟩ E C (.int k (p / 2 ^ n)) := fun s hs w _ => by
  subst hm
  have h := shift_shr k k' p (n : Int) (by omega) (by omega)
  simp [execOp, hs.ev hx, hs.ev hy, eqGuard, Go.binOp, h]
theorem Q1.subU32 {a b : Nat} (hx : ev E x = some (.int .u32 (a : Int))) (hy : ev E y = some (.int .u32 (b : Int))) (hb : b ≤ a) (ha : a < 4294967296) : Q1 P ⟨d, .binOp .sub xt x y yt, ty, pos, af, gd⟩ E C (.int .u32 ((a - b : Nat) : Int)) := by
  have h := Q1.sub (P := P) (C := C) (d := d) (xt := xt) (yt := yt) (ty := ty) (pos := pos) (af := af) (gd := gd) hx hy
  rw [IntWalk.u32_in _ (by omega), show (a : Int) - (b : Int) = ((a - b : Nat) : Int) from by omega] at h; exact h
theorem Q1.quoU32 {a : Nat} (b : Nat) (hx : ev E x = some (.int .u32 (a : Int))) (hy : ev E y = some (.int .u32 (b : Int))) (hb : b ≠ 0) (ha : a < 4294967296) : Q1 P ⟨d, .binOp .quo xt x y yt, ty, pos, af, gd⟩ E C (.int .u32 ((a / b : Nat) : Int)) := by
  have h := Q1.quo (P := P) (C := C) (d := d) (xt := xt) (yt := yt) (ty := ty) (pos := pos) (af := af) (gd := gd) hx hy (by omega)
  have e : IntKind.u32.wrap ((a : Int).tdiv (b : Int)) = ((a / b : Nat) : Int) := by
    rw [Int.tdiv_eq_ediv_of_nonneg (by omega), ← Int.natCast_ediv]
    have := Nat.div_le_self a b
    generalize a / b = q at *
    exact IntWalk.u32_in _ (by omega)
  rw [e] at h; exact h
end
end Go.Ik
namespace Go.Ik
open Go
section
variable {P : Program} {E : Env} {d : Option Tmp} {ty : TypeId} {pos : String} {af : Array Edge} {gd : Option (Nat × Bool)} {w : World} {K : Value → World → Prop}
/-- bytes taken for bytes of their own type: their block bears a mark from now on -/
theorem AW.convSl {s e e' : TypeId} {x : Operand} {b n c : Nat} {cs : List Value} (hs : P.underlying s = some (.slice e)) (he : P.underlying e = some (.int .u8)) (hx : ev E x = some (.slice (some ⟨b, 0, none⟩) n c)) (hb : Bk w b cs e')
    (hK : ∀ w', Mod (Mg (b + 1)) w w' → w'.heap.size = w.heap.size → Row w' b 0 cs → K (.slice (some ⟨b, 0, none⟩) n c) w') : AW P ⟨d, .convert s s x, ty, pos, af, gd⟩ E w K := fun a ha => by
  have hsh : w.shape? b = some (e', cs.length) := by
    unfold World.shape?
    rw [show w.heap[b]? = some (.cells cs.toArray e' (0, 0)) from hb]
    simp
  have hr : (convert s s (.slice (some ⟨b, 0, none⟩) n c)).run P w = .ok (.slice (some ⟨b, 0, none⟩) n c) (w.freeze ⟨b, cs.length, none⟩ 1) := by
    simp [convert, run_underlying hs, run_underlying he, markStringish, hsh]
  have hh : (w.freeze ⟨b, cs.length, none⟩ 1).heap[b]? = some (.cells cs.toArray e' (cs.length, cs.length + 1)) := by
    unfold World.freeze
    rw [if_neg (by decide)]
    simp only [Array.getElem?_modify, if_true]
    rw [show w.heap[b]? = some (.cells cs.toArray e' (0, 0)) from hb]
    rfl
  simp [execOp, ha.ev hx, hr, out]
  refine hK _ ⟨rfl, rfl, rfl, ?_, ?_⟩ ?_ ?_
  · unfold World.freeze
    rw [if_neg (by decide)]
    simp
  · intro b' o ho hn
    unfold World.freeze
    rw [if_neg (by decide)]
    simp only [Array.getElem?_modify]
    rw [if_neg (fun e => hn (by unfold Mg; omega))]
    exact ho
  · unfold World.freeze
    rw [if_neg (by decide)]
    simp
  · intro i v hv
    unfold World.cell?
    simp only [Option.isSome_none, Bool.false_eq_true, if_false]
    rw [hh]
    simpa using hv
end
theorem Sl.of_row {α : Type} {enc : α → List Value} {w : World} {b : Nat} {l : List α} (h : Row w b 0 (l.flatMap enc)) (n : Nat) (hn : n = l.length) (hm : n ≤ maxLen) : Sl enc w (Iv b (b + 1)) (.slice (some ⟨b, 0, none⟩) n n) l :=
  ⟨some ⟨b, 0, none⟩, n, by rw [hn], by omega, hm, .inr ⟨b, 0, rfl, ⟨Nat.le_refl _, by omega⟩, h⟩⟩
end Go.Ik
namespace Go.Ml
open Go.Ik
theorem sumLen_cons (s : Str) (l : List Str) : sumLen (s :: l) = s.length + sumLen l := by simp [sumLen]
theorem sumLen_app (a b : List Str) : sumLen (a ++ b) = sumLen a + sumLen b := by simp [sumLen]
theorem sumLen_map (p : Str) (l : List Str) : sumLen (l.map (p ++ ·)) = l.length * p.length + sumLen l := by
  induction l with
  | nil => simp [sumLen]
  | cons s l ih => simp only [List.map_cons, sumLen_cons, ih, List.length_append, List.length_cons, Nat.add_mul, Nat.one_mul]; omega
/-- a group's rests are shorter by its beginning -/
theorem strip_sum {p : Str} (hp : 1 ≤ p.length) (l : List Str) : sumLen (stripP p l) + (stripP p l).length + sumLen (moreP p l) ≤ sumLen l := by
  have h := congrArg sumLen (strip_app p l)
  rw [sumLen_app, sumLen_map] at h
  have := Nat.mul_le_mul_left (stripP p l).length hp
  omega
theorem strip_len (p : Str) (l : List Str) : (stripP p l).length + (moreP p l).length = l.length := by
  have h := congrArg List.length (strip_app p l)
  rw [List.length_append, List.length_map] at h; exact h
theorem sumLen_dropE (l : List Str) : sumLen (dropE l) = sumLen l := by
  cases l with
  | nil => rfl
  | cons a r => cases a <;> simp [dropE, sumLen]
theorem dropE_len (l : List Str) : (dropE l).length ≤ l.length := by
  cases l with
  | nil => simp [dropE]
  | cons a r => cases a <;> simp [dropE]
def gsum (gs : List (Nat × List Str)) : Nat := (gs.map fun g => sumLen g.2 + 1).sum
theorem gsum_groups : ∀ (n : Nat) (l : List Str), l.length ≤ n → GoodR l → (∀ s ∈ l, s ≠ []) → gsum (groups l) ≤ sumLen l
  | _, [], _, _, _ => by simp [groups_nil, gsum]
  | 0, s :: r, h, _, _ => by simp at h
  | n + 1, s :: r, hn, h, hne => by
    have hl := more_len s r
    simp only [List.length_cons] at hn
    have hs := hne s (by simp)
    have hf := h.fine s (by simp)
    have hp : pfx s = encL (hdN s) := (enc_dec hs ((fine_cons hs).1 hf).1).2.symm
    have ih := gsum_groups n (moreP (pfx s) (s :: r)) (by omega) (h.more _) (fun t ht => hne t ((List.dropWhile_suffix _).subset ht))
    have h1 := strip_sum (p := pfx s) (by rw [hp]; exact encL_pos _) (s :: r)
    have h2 : 1 ≤ (stripP (pfx s) (s :: r)).length := by
      unfold stripP
      rw [List.takeWhile_cons, if_pos (pfx_is s)]; simp
    rw [groups_cons]
    unfold gsum at ih ⊢
    simp only [List.map_cons, List.sum_cons]
    omega
theorem edgesM_len {add : GS → List Str → GS × Nat} : ∀ (gs : List (Nat × List Str)) (s : GS), (∀ g ∈ gs, ∀ s, (add s g.2).1.length ≤ s.length + 1 + sumLen g.2) → (edgesM add s gs).1.length ≤ s.length + gsum gs
  | [], s, _ => by simp [edgesM, gsum]
  | g :: gs, s, h => by
    have h1 := h g (by simp) s
    have h2 := edgesM_len gs (add s g.2).1 (fun g' hg' => h g' (by simp [hg']))
    show (edgesM add (add s g.2).1 gs).1.length ≤ _
    unfold gsum at h2 ⊢
    simp only [List.map_cons, List.sum_cons]
    omega
theorem addM_len : ∀ (f : Nat) (s : GS) (rests : List Str), GoodR rests → (addM f s rests).1.length ≤ s.length + 1 + sumLen rests
  | 0, s, rests, _ => by simp [addM]; omega
  | f + 1, s, rests, hg => by
    unfold addM
    cases hi : s.findIdx? fun x => x.1 == rests with
    | some i => simp; omega
    | none =>
      simp only [List.length_set]
      have hd := dropE_good hg
      have ok := groups_ok _ _ (Nat.le_refl _) hd.1 hd.2
      have h1 := edgesM_len (add := addM f) (groups (dropE rests)) (s ++ [(rests, [])]) (fun g hgm s' => addM_len f s' g.2 (ok.good g hgm).2.2)
      have h2 := gsum_groups _ _ (Nat.le_refl _) hd.1 hd.2
      rw [sumLen_dropE] at h2
      simp only [List.length_append, List.length_cons, List.length_nil] at h1
      omega
theorem addM_names {f : Nat} {s : GS} {rests : List Str} (hd : Deep f rests) (hg : GoodR rests) (hne : rests ≠ []) (hn : (names s).Nodup) (hok : NamesOk s) : NamesOk (addM (f + 1) s rests).1 ∧ (names (addM (f + 1) s rests).1).Nodup := by
  have h := addM_ok f s rests hd hg hne hn
  obtain ⟨t, e, k⟩ := h.tail
  refine ⟨fun x hx => ?_, h.apart⟩
  rw [e] at hx
  rcases List.mem_append.1 hx with hx | hx
  · exact hok x hx
  · exact ⟨(k x hx).ne, (k x hx).good.noff⟩
theorem addM_lt {f : Nat} {s : GS} {rests : List Str} (hd : Deep f rests) (hg : GoodR rests) (hne : rests ≠ []) (hn : (names s).Nodup) : (addM (f + 1) s rests).2 < (addM (f + 1) s rests).1.length := by
  obtain ⟨es, h⟩ := (addM_ok f s rests hd hg hne hn).here
  exact (List.getElem?_eq_some_iff.1 h).1
/-- how far the edges of a node have come -/
def EInv (f : Nat) (S0 : GS) (gs0 : List (Nat × List Str)) (sc : GS) (ES : List Ed) (r1 : List Str) : Prop :=
  edgesM (addM f) S0 gs0 = ((edgesM (addM f) sc (groups r1)).1, ES ++ (edgesM (addM f) sc (groups r1)).2)
theorem EInv.start (f : Nat) (S0 : GS) (r : List Str) : EInv f S0 (groups r) S0 [] r := by unfold EInv; simp
theorem EInv.next {f : Nat} {S0 : GS} {gs0 : List (Nat × List Str)} {sc : GS} {ES : List Ed} {s : Str} {r : List Str} (h : EInv f S0 gs0 sc ES (s :: r)) :
    EInv f S0 gs0 (addM f sc (stripP (pfx s) (s :: r))).1 (ES ++ [⟨(hdN s : Int), ((addM f sc (stripP (pfx s) (s :: r))).2 : Int)⟩]) (moreP (pfx s) (s :: r)) := by
  unfold EInv at h ⊢
  rw [h, groups_cons]
  simp only [edgesM, List.append_assoc, List.cons_append, List.nil_append]
theorem EInv.fin {f : Nat} {S0 : GS} {gs0 : List (Nat × List Str)} {sc : GS} {ES : List Ed} (h : EInv f S0 gs0 sc ES []) : edgesM (addM f) S0 gs0 = (sc, ES) := by
  unfold EInv at h; rw [h, groups_nil]; simp [edgesM]
theorem addM_hit {f : Nat} {s : GS} {rests : List Str} {i : Nat} (h : (s.findIdx? fun x => x.1 == rests) = some i) : addM (f + 1) s rests = (s, i) := by
  unfold addM; rw [h]
theorem addM_miss {f : Nat} {s xs : GS} {rests : List Str} {ES : List Ed} (h : (s.findIdx? fun x => x.1 == rests) = none) (he : edgesM (addM f) (s ++ [(rests, [])]) (groups (dropE rests)) = (s ++ (rests, []) :: xs, ES)) : addM (f + 1) s rests = (s ++ (rests, ES) :: xs, s.length) := by
  unfold addM; rw [h]
  simp only [he]
  rw [List.set_append_right _ _ (Nat.le_refl _)]
  simp
theorem EInv.cast {f : Nat} {S0 sc sc' : GS} {gs0 : List (Nat × List Str)} {ES : List Ed} {r r' : List Str} (h : EInv f S0 gs0 sc ES r) (e1 : sc = sc') (e2 : r = r') : EInv f S0 gs0 sc' ES r' := by subst e1 e2; exact h
theorem EInv.next2 {f : Nat} {S0 : GS} {gs0 : List (Nat × List Str)} {sc : GS} {ES : List Ed} {x : Str} {r1 : List Str} (hx : r1[0]? = some x) (h : EInv f S0 gs0 sc ES r1) :
    EInv f S0 gs0 (addM f sc (stripP (pfx x) r1)).1 (ES ++ [⟨(hdN x : Int), ((addM f sc (stripP (pfx x) r1)).2 : Int)⟩]) (moreP (pfx x) r1) := by
  rw [head_cons hx] at h ⊢
  exact h.next
theorem names_put {s : GS} {rests : List Str} (hf : (s.findIdx? fun x => x.1 == rests) = none) (hnd : (names s).Nodup) (hok : NamesOk s) (hne : rests ≠ []) (hr : ∀ t ∈ rests, NoFF t) : NamesOk (s ++ (rests, []) :: []) ∧ (names (s ++ (rests, []) :: [])).Nodup := by
  have hno := findIdx_none hf
  refine ⟨fun x hx => ?_, ?_⟩
  · rcases List.mem_append.1 hx with hx | hx
    · exact hok x hx
    · simp only [List.mem_singleton] at hx
      subst hx; exact ⟨hne, hr⟩
  · unfold names
    rw [List.map_append, List.nodup_append]
    refine ⟨hnd, by simp, fun a ha b hb => ?_⟩
    simp only [List.map_cons, List.map_nil, List.mem_singleton] at hb
    subst hb
    exact fun e => hno (by rw [← e]; exact ha)
theorem strip_facts {r1 : List Str} {x : Str} {f : Nat} (hx : r1[0]? = some x) (hr : GoodR r1 ∧ (∀ t ∈ r1, t ≠ []) ∧ Deep (f + 1) r1) :
    GoodR (stripP (pfx x) r1) ∧ stripP (pfx x) r1 ≠ [] ∧ Deep f (stripP (pfx x) r1) ∧ sumLen (stripP (pfx x) r1) + (stripP (pfx x) r1).length + sumLen (moreP (pfx x) r1) ≤ sumLen r1 ∧ (stripP (pfx x) r1).length + (moreP (pfx x) r1).length = r1.length ∧ 1 ≤ (stripP (pfx x) r1).length := by
  obtain ⟨hg, hn, hd⟩ := hr
  have hxm := List.mem_of_getElem? hx
  have hxn := hn x hxm
  have hp : pfx x = encL (hdN x) := (enc_dec hxn ((fine_cons hxn).1 (hg.fine x hxm)).1).2.symm
  have hgn := ((hg.fine x hxm).split hxn).1
  have h1 : 1 ≤ (stripP (pfx x) r1).length := by
    rw [head_cons hx]
    unfold stripP
    rw [List.takeWhile_cons, if_pos (pfx_is x)]; simp
  refine ⟨?_, ?_, fun t ht => ?_, strip_sum (by rw [hp]; exact encL_pos _) _, strip_len _ _, h1⟩
  · rw [head_cons hx] at hg ⊢
    exact strip_good hg hxn
  · intro e; rw [e] at h1; simp at h1
  · have hm := hd _ (strip_mem ht)
    rw [hp] at hm
    have h2 := runes_app (c := hdN x) hgn t
    unfold hdN at hm h2
    rw [h2] at hm
    simp only [List.length_cons] at hm
    omega
theorem deep_succ {f : Nat} {r1 : List Str} {x : Str} (hd : Deep f r1) (hx : x ∈ r1) (hn : x ≠ []) : ∃ f2, f = f2 + 1 := by
  have := hd x hx
  rw [runes_cons hn] at this
  simp only [List.length_cons] at this
  exact ⟨f - 1, by omega⟩
theorem sum_mem {l : List Str} {x : Str} (h : x ∈ l) : x.length ≤ sumLen l := by
  induction l with
  | nil => simp at h
  | cons a l ih =>
    rw [sumLen_cons]
    rcases List.mem_cons.1 h with rfl | h
    · omega
    · have := ih h; omega
theorem dropE_nil {l : List Str} {x : Str} (hx : l[0]? = some x) (h : x = []) : dropE l = l.drop 1 ∧ finB l = true := by
  rw [head_cons hx, h]; simp [dropE, finB]
theorem dropE_cons {l : List Str} {x : Str} (hx : l[0]? = some x) (h : x ≠ []) : dropE l = l ∧ finB l = false := by
  have hl := head_cons hx
  cases x with
  | nil => exact absurd rfl h
  | cons a x =>
    constructor
    · rw [hl]; rfl
    · rw [hl]; simp [finB]
theorem mapK_es (s xs : GS) (r : List Str) (es es' : List Ed) : mapK (s ++ (r, es) :: xs) = mapK (s ++ (r, es') :: xs) := mapK_names (by simp [names])
/-- a group, as it is gone through: 'k' of them have the beginning -/
structure SpanInv (p : Str) (l : List Str) (k : Nat) (b : List Str) : Prop where
  is : b = (l.take k).map fun t => t.drop p.length
  all : ∀ t ∈ l.take k, p.isPrefixOf t = true
theorem SpanInv.start (p : Str) (l : List Str) : SpanInv p l 0 [] := ⟨by simp, by simp⟩
theorem SpanInv.next {p : Str} {l : List Str} {k : Nat} {b : List Str} {t : Str} (h : SpanInv p l k b) (ht : l[k]? = some t) (hp : p.isPrefixOf t = true) : SpanInv p l (k + 1) (b ++ [t.drop p.length]) := by
  refine ⟨by rw [h.is, List.take_add_one, ht]; simp, fun u hu => ?_⟩
  rw [List.take_add_one, ht] at hu
  simp only [Option.toList_some, List.mem_append, List.mem_singleton] at hu
  rcases hu with hu | rfl
  · exact h.all u hu
  · exact hp
theorem SpanInv.nxt {p : Str} {l : List Str} {k m : Nat} {b : List Str} {t : Str} (h : SpanInv p l k b) (hm : p.length = m) (ht : l[k]? = some t) (hp : p.isPrefixOf t = true) : SpanInv p l (k + 1) (b ++ [t.drop m]) := by rw [← hm]; exact h.next ht hp
theorem takeWhile_take {α : Type} {p : α → Bool} {l : List α} {k : Nat} (h1 : ∀ t ∈ l.take k, p t = true) (h2 : ∀ t, l[k]? = some t → p t = false) : l.takeWhile p = l.take k ∧ l.dropWhile p = l.drop k := by
  have e : l = l.take k ++ l.drop k := (List.take_append_drop k l).symm
  have h3 : (l.drop k).takeWhile p = [] ∧ (l.drop k).dropWhile p = l.drop k := by
    cases hd : l.drop k with
    | nil => simp
    | cons t r =>
      have : l[k]? = some t := by rw [← List.head?_drop, hd]; rfl
      have := h2 t this
      simp [List.takeWhile_cons, List.dropWhile_cons, this]
  constructor
  · conv => lhs; rw [e]
    rw [List.takeWhile_append_of_pos h1, h3.1, List.append_nil]
  · conv => lhs; rw [e]
    rw [List.dropWhile_append_of_pos h1, h3.2]
theorem SpanInv.fin {p : Str} {l : List Str} {k : Nat} {b : List Str} (h : SpanInv p l k b) (he : l.length ≤ k ∨ ∃ t, l[k]? = some t ∧ p.isPrefixOf t = false) : b = stripP p l ∧ l.drop k = moreP p l := by
  have := takeWhile_take h.all (fun t ht => by
    rcases he with he | ⟨u, hu, hp⟩
    · rw [List.getElem?_eq_none he] at ht; cases ht
    · rw [hu] at ht; cases ht; exact hp)
  unfold stripP moreP
  rw [this.1, this.2]
  exact ⟨h.is, rfl⟩
theorem hp_le {p t : Str} {n : Nat} (h : p.isPrefixOf t = true) (hn : p.length = n) : n ≤ t.length := by
  have := congrArg List.length (prefix_drop h)
  rw [List.length_append] at this; omega
theorem pfx_len {s : Str} (hs : s ≠ []) : (pfx s).length = wdN s := by
  have := dec_le s hs
  unfold pfx wdN
  rw [List.length_take]; omega
end Go.Ml
namespace Go.Ik
open Go
def NR (w : World) (F : Nat → Prop) (t : List RNode) (xs : Ml.GS) : Prop := All2 (fun r x => r.fin = Ml.finB x.1 ∧ Sl Ml.encE w F r.e.val x.2) t xs
/-- blocks of an interval but one, but two -/
def Ivx (lo hi x : Nat) : Nat → Prop := fun b => lo ≤ b ∧ b < hi ∧ b + 1 ≠ x
def Ivy (lo hi x y : Nat) : Nat → Prop := fun b => lo ≤ b ∧ b < hi ∧ b + 1 ≠ x ∧ b + 1 ≠ y
theorem NR.keep {M : Nat → Prop} {w w' : World} {F : Nat → Prop} {t : List RNode} {xs : Ml.GS} (h : NR w F t xs) (hm : Mod M w w') (hF : ∀ b, F b → ¬ M b) : NR w' F t xs := All2.imp (fun r n ⟨h1, h2⟩ => ⟨h1, h2.keep hm hF⟩) h
theorem NR.mono {w : World} {F F' : Nat → Prop} {t : List RNode} {xs : Ml.GS} (h : NR w F t xs) (hF : ∀ b, F b → F' b) : NR w F' t xs := All2.imp (fun r n ⟨h1, h2⟩ => ⟨h1, h2.mono hF⟩) h
theorem NR.len {w : World} {F : Nat → Prop} {t : List RNode} {xs : Ml.GS} (h : NR w F t xs) : t.length = xs.length := (All2.get h).1
def NRy (w : World) (lo hi x y : Nat) (t : List RNode) (xs : Ml.GS) : Prop := NR w (Ivy lo hi x y) t xs
theorem NRy.out {w : World} {lo hi hi2 x y : Nat} {t : List RNode} {xs : Ml.GS} (h : NRy w lo hi x y t xs) (hh : hi ≤ hi2) : NR w (Ivx lo hi2 y) t xs := NR.mono h fun b hb => by unfold Ivy at hb; unfold Ivx; omega
theorem mapO_cast {w : World} {b : Nat} {m m' : List (Str × Int)} (h : MapO strV intV w b m) (e : m = m') : MapO strV intV w b m' := e ▸ h
theorem Q1.lookupHit {P : Program} {E : Env} {C : World → Prop} {d : Option Tmp} {ty : TypeId} {pos : String} {af : Array Edge} {gd : Option (Nat × Bool)} {α β : Type} [DecidableEq α] {key : α → Value} {val : β → Value} {t kt et : TypeId} {x y : Operand} {b : Nat} {m : List (α × β)} {a : α} {z : Value} {u : β} (hk : KeyOk P kt key) (ht : P.underlying t = some (.map kt et)) (hz : ∀ w, (zeroValue et).run P w = .ok z w) (hx : ev E x = some (.map (some b))) (hy : ev E y = some (key a)) (hm : ∀ w, C w → MapO key val w b m) (hu : asc m a = some u) :
    Q1 P ⟨d, .lookup t x y true, ty, pos, af, gd⟩ E C (.tuple #[val u, .bool true]) := by
  have h := Q1.lookupOk (d := d) (ty := ty) (pos := pos) (af := af) (gd := gd) (g := true) (n := 0) (by_ := 0) hk ht hz hx hy hm
  rw [hu] at h; exact h
theorem Q1.lookupMiss {P : Program} {E : Env} {C : World → Prop} {d : Option Tmp} {ty : TypeId} {pos : String} {af : Array Edge} {gd : Option (Nat × Bool)} {α β : Type} [DecidableEq α] {key : α → Value} {val : β → Value} {t kt et : TypeId} {x y : Operand} {b : Nat} {m : List (α × β)} {a : α} {z : Value} (hk : KeyOk P kt key) (ht : P.underlying t = some (.map kt et)) (hz : ∀ w, (zeroValue et).run P w = .ok z w) (hx : ev E x = some (.map (some b))) (hy : ev E y = some (key a)) (hm : ∀ w, C w → MapO key val w b m) (hu : asc m a = none) :
    Q1 P ⟨d, .lookup t x y true, ty, pos, af, gd⟩ E C (.tuple #[z, .bool false]) := by
  have h := Q1.lookupOk (d := d) (ty := ty) (pos := pos) (af := af) (gd := gd) (g := true) (n := 0) (by_ := 0) hk ht hz hx hy hm
  rw [hu] at h; exact h
end Go.Ik
namespace Go.Ml
open Go.Ik
theorem encT_len : ∀ rs : List Nat, (encT rs).length ≤ 4 * rs.length
  | [] => by simp [encT]
  | c :: rs => by
    have h := encT_len rs
    have h4 := encL_len4 c
    have e : encT (c :: rs) = encL c ++ encT rs := rfl
    rw [e, List.length_append, List.length_cons]; omega
theorem word_short {w : Str} (h : word w = true) : w.length ≤ 48 := by
  unfold word at h
  rw [Bool.and_eq_true, decide_eq_true_eq, decide_eq_true_eq] at h
  have hf : Fine w := by
    intro hm
    unfold lenT at h; rw [if_pos hm] at h; omega
  have hl := lenT_fine hf
  have he := encT_len (runes w)
  rw [(encT_runes w hf).1] at he
  omega
theorem sum_le {l : List Str} {m : Nat} (h : ∀ x ∈ l, x.length ≤ m) : sumLen l ≤ l.length * m := by
  induction l with
  | nil => simp [sumLen]
  | cons a l ih =>
    rw [sumLen_cons, List.length_cons, Nat.add_mul]
    have := h a (by simp)
    have := ih fun x hx => h x (by simp [hx])
    omega
theorem good_sum {l : List Str} (h : goodL l = 0) : l.length ≤ 60 ∧ sumLen l ≤ 2880 := by
  obtain ⟨h1, h2, _⟩ := good_words h
  have := sum_le (l := l) (m := 48) fun x hx => word_short (h2 x hx)
  omega
/-- nodes of words as they are built -/
def graphB (words : List Str) : GS := if words = [] then [([], [])] else graphM words
def gnodes (words : List Str) : List GN := if goodL words = 0 then gnOf (graphB words) else []
theorem gnodes_no {words : List Str} (h : goodL words ≠ 0) : gnodes words = [] := by unfold gnodes; rw [if_neg h]
theorem gnodes_yes {words : List Str} (h : goodL words = 0) : gnodes words = gnOf (graphB words) := by unfold gnodes; rw [if_pos h]
theorem gnodes_nil {words : List Str} (h : words = []) : gnodes words = [(false, [])] := by subst h; decide
theorem graphM_len {words : List Str} (h : goodL words = 0) : (graphM words).length ≤ 2881 := by
  have h1 := addM_len 13 [] words (good_deep h).1
  have h2 := (good_sum h).2
  unfold graphM
  simp only [List.length_nil] at h1
  omega
theorem all2_len {α β : Type} {R : α → β → Prop} {a : List α} {b : List β} (h : All2 R a b) : a.length = b.length := (All2.get h).1
theorem groups_count : ∀ (n : Nat) (l : List Str), l.length ≤ n → (groups l).length ≤ l.length
  | _, [], _ => by simp [groups_nil]
  | 0, _ :: _, h => by simp at h
  | n + 1, s :: r, h => by
    rw [groups_cons]
    have hm := more_len s r
    have := groups_count n (moreP (pfx s) (s :: r)) (by simp only [List.length_cons] at h; omega)
    simp only [List.length_cons]; omega
theorem strip_le (p : Str) (l : List Str) : (stripP p l).length ≤ l.length := by have := strip_len p l; omega
theorem groups_sub : ∀ (n : Nat) (l : List Str), l.length ≤ n → ∀ g ∈ groups l, g.2.length ≤ l.length
  | _, [], _, g, hg => by simp [groups_nil] at hg
  | 0, _ :: _, h, _, _ => by simp at h
  | n + 1, s :: r, h, g, hg => by
    rw [groups_cons] at hg
    have hm := more_len s r
    rcases List.mem_cons.1 hg with rfl | hg
    · exact strip_le _ _
    · have := groups_sub n (moreP (pfx s) (s :: r)) (by simp only [List.length_cons] at h; omega) g hg
      simp only [List.length_cons]; omega
theorem edgesM_names {add : GS → List Str → GS × Nat} {L : Nat} : ∀ (gs : List (Nat × List Str)) (s : GS), (∀ g ∈ gs, ∀ s, (∀ y ∈ s, y.1.length ≤ L) → ∀ y ∈ (add s g.2).1, y.1.length ≤ L) → (∀ y ∈ s, y.1.length ≤ L) → ∀ y ∈ (edgesM add s gs).1, y.1.length ≤ L
  | [], s, _, hs => hs
  | g :: gs, s, h, hs => by
    show ∀ y ∈ (edgesM add (add s g.2).1 gs).1, _
    exact edgesM_names gs _ (fun g' hg' => h g' (by simp [hg'])) (h g (by simp) s hs)
theorem addM_short {L : Nat} : ∀ (f : Nat) (s : GS) (rests : List Str), (∀ y ∈ s, y.1.length ≤ L) → rests.length ≤ L → ∀ y ∈ (addM f s rests).1, y.1.length ≤ L
  | 0, s, rests, hs, _ => hs
  | f + 1, s, rests, hs, hr => by
    unfold addM
    cases hi : s.findIdx? fun x => x.1 == rests with
    | some i => exact hs
    | none =>
      have h1 := edgesM_names (add := addM f) (L := L) (groups (dropE rests)) (s ++ [(rests, [])]) (fun g hgm s' hs' => addM_short f s' g.2 hs' (by
        have := groups_sub _ (dropE rests) (Nat.le_refl _) g hgm
        have := dropE_len rests
        omega)) (fun y hy => by
          rcases List.mem_append.1 hy with hy | hy
          · exact hs y hy
          · simp only [List.mem_singleton] at hy; subst hy; exact hr)
      intro y hy
      rcases List.mem_or_eq_of_mem_set hy with hy | rfl
      · exact h1 y hy
      · exact hr
theorem gok_of {words : List Str} (h : goodL words = 0) : GOk (gnodes words) (graphB words) words := by
  rw [gnodes_yes h]
  unfold graphB
  split
  · rename_i he; subst he; exact GOk.empty
  · rename_i he
    have hw := graphM_ok (good_deep h).2 (good_deep h).1 he
    have hl := graphM_len h
    refine GOk.of hw (by omega) fun y hy => ?_
    have hc := all2_len (hw.node y hy).corr
    have hg := groups_count _ (dropE y.1) (Nat.le_refl _)
    have hd := dropE_len y.1
    have hyl : y.1.length ≤ 60 := addM_short 13 [] words (by simp) (good_sum h).1 y hy
    omega
end Go.Ml
namespace Go.Ik
open Go
theorem nr_rel {w : World} {F : Nat → Prop} : ∀ {t : List RNode} {xs : Ml.GS}, NR w F t xs → NRel w F t (gnOf xs)
  | _, _, .nil => .nil
  | _, _, .cons h r => .cons h (nr_rel r)
end Go.Ik
namespace Go.Ml
open Go.Ik
def crcS (c : Nat) : Nat := if c % 2 = 1 then (c / 2) ^^^ 3988292384 else c / 2
def crcK : Nat → Nat → Nat
  | 0, c => c
  | k + 1, c => crcS (crcK k c)
def turnN (c b : Nat) : Nat := crcK 8 (c ^^^ b)
def crcF (c : Nat) (l : List UInt8) : Nat := l.foldl (fun c x => turnN c x.toNat) c
def sumF (c : Nat) (l : List UInt8) : Nat := 4294967295 - crcF (4294967295 - c) l
def sumN (l : List UInt8) : Nat := sumF 0 l
theorem crcS_lt {c : Nat} (h : c < 4294967296) : crcS c < 4294967296 := by
  unfold crcS
  split
  · exact xor_lt32 (by omega) (by omega)
  · omega
theorem crcK_lt {c : Nat} (h : c < 4294967296) : ∀ k, crcK k c < 4294967296
  | 0 => h
  | k + 1 => crcS_lt (crcK_lt h k)
theorem turnN_lt {c b : Nat} (h : c < 4294967296) (hb : b < 256) : turnN c b < 4294967296 := crcK_lt (xor_lt32 h (by omega)) 8
theorem turnN_ltE (c : Nat) (b : UInt8) (h : c < 4294967296) : turnN c b.toNat < 4294967296 := turnN_lt h b.toNat_lt
theorem crcF_take {c : Nat} {l : List UInt8} {k : Nat} {x : UInt8} (hx : l[k]? = some x) : crcF c (l.take (k + 1)) = turnN (crcF c (l.take k)) x.toNat := by
  unfold crcF
  rw [List.take_add_one, hx, List.foldl_append]; rfl
theorem sumF_lt (c : Nat) (l : List UInt8) : sumF c l < 4294967296 := by unfold sumF; omega
theorem crc_one {c c0 : Nat} {k : Nat} (h : c = crcK k c0) (h1 : c % 2 = 1) : (c / 2) ^^^ 3988292384 = crcK (k + 1) c0 := by
  show _ = crcS (crcK k c0)
  rw [← h]; unfold crcS; rw [if_pos h1]
theorem crc_nil {c c0 : Nat} {k : Nat} (h : c = crcK k c0) (h1 : ¬ c % 2 = 1) : c / 2 = crcK (k + 1) c0 := by
  show _ = crcS (crcK k c0)
  rw [← h]; unfold crcS; rw [if_neg h1]
theorem xor_half (a b : Nat) : (a ^^^ b) / 2 = (a / 2) ^^^ (b / 2) := by
  have := Nat.shiftRight_xor_distrib (a := a) (b := b) (i := 1)
  simpa [Nat.shiftRight_eq_div_pow] using this
theorem xor_low (a b : Nat) : (a ^^^ b) % 2 = (a % 2 + b % 2) % 2 := by
  have := Nat.xor_mod_two_pow (a := a) (b := b) (n := 1)
  simp only [Nat.pow_one] at this
  rw [this]
  rcases Nat.mod_two_eq_zero_or_one a with h | h <;> rcases Nat.mod_two_eq_zero_or_one b with h' | h' <;> rw [h, h'] <;> rfl
/-- the document's sum, bit by bit -/
def RefK (c0 b : Nat) (k c : Nat) : Prop := crcK k (c0 ^^^ b) = c ^^^ (b / 2 ^ k) ∧ c < 4294967296
theorem RefK.start {c0 b : Nat} (h : c0 < 4294967296) : RefK c0 b 0 c0 := ⟨by simp [crcK], h⟩
theorem refK_step {c0 b k c : Nat} (h : RefK c0 b k c) (hb : b < 256) : crcK (k + 1) (c0 ^^^ b) = (if c % 2 ≠ b / 2 ^ k % 2 then (c / 2) ^^^ 3988292384 else c / 2) ^^^ (b / 2 ^ (k + 1)) := by
  show crcS (crcK k (c0 ^^^ b)) = _
  rw [h.1]
  unfold crcS
  rw [xor_low, xor_half, Nat.pow_succ, ← Nat.div_div_eq_div_mul]
  by_cases hc : c % 2 = b / 2 ^ k % 2
  · rw [if_neg (by omega), if_neg (by omega)]
  · rw [if_pos (by omega), if_pos hc, Nat.xor_assoc, Nat.xor_comm (b / 2 ^ k / 2), ← Nat.xor_assoc]
theorem RefK.one {c0 b k c : Nat} (h : RefK c0 b k c) (hb : b < 256) (hc : c % 2 ≠ b / 2 ^ k % 2) : RefK c0 b (k + 1) ((c / 2) ^^^ 3988292384) := ⟨by rw [refK_step h hb, if_pos hc], xor_lt32 (by have := h.2; omega) (by omega)⟩
theorem RefK.nil {c0 b k c : Nat} (h : RefK c0 b k c) (hb : b < 256) (hc : c % 2 = b / 2 ^ k % 2) : RefK c0 b (k + 1) (c / 2) := ⟨by rw [refK_step h hb, if_neg (by omega)], by have := h.2; omega⟩
theorem RefK.fin {c0 b c : Nat} (h : RefK c0 b 8 c) (hb : b < 256) : c = turnN c0 b := by
  have := h.1
  rw [Nat.div_eq_of_lt (by omega : b < 2 ^ 8), Nat.xor_zero] at this
  exact this.symm
def putN (n : Int) (size : Nat) : List UInt8 := (List.range size).map fun i => byN (IntKind.u64.wrap n / 2 ^ (8 * (size - 1 - i)))
theorem putN_len (n : Int) (size : Nat) : (putN n size).length = size := by simp [putN]
theorem putN_take {n : Int} {size i : Nat} {b out : List UInt8} {x : UInt8} (h : out = b ++ (putN n size).take i) (hi : i < size) (hx : x = byN (IntKind.u64.wrap n / 2 ^ (8 * (size - 1 - i)))) : out ++ [x] = b ++ (putN n size).take (i + 1) := by
  rw [h, List.append_assoc]
  congr 1
  rw [List.take_add_one]
  congr 1
  unfold putN
  rw [List.getElem?_map, List.getElem?_range hi, hx]; rfl
def edgeB (e : Ed) : List UInt8 := putN e.rune 4 ++ putN e.to 2
def nodeB (x : GN) : List UInt8 := putN (if x.1 = true then 1 else 0) 1 ++ putN x.2.length 2 ++ x.2.flatMap edgeB
def bodyB (N : List GN) : List UInt8 := [73, 78, 75, 49] ++ putN N.length 2 ++ N.flatMap nodeB
def sealB (b : List UInt8) : List UInt8 := b ++ putN (sumN b) 4
def encB_ (N : List GN) : List UInt8 := sealB (bodyB N)
end Go.Ml
namespace Go.Ml
open Go.Ik
theorem put_down {n i : Int} {size : Nat} {b out : List UInt8} (h : out = b ++ (putN n size).take ((size : Int) - 1 - i).toNat) (h0 : 0 ≤ i) (hi : i < (size : Int)) : out ++ [byN (IntKind.u64.wrap n / 2 ^ (8 * i).toNat)] = b ++ (putN n size).take ((size : Int) - 1 - (i - 1)).toNat := by
  have := putN_take (x := byN (IntKind.u64.wrap n / 2 ^ (8 * i).toNat)) h (by omega) (by congr 3; omega)
  rw [this]
  congr 2; omega
end Go.Ml
namespace Go.Ml
open Go.Ik
theorem nodeAt_some {g : List GN} {i : Nat} (h : i < g.length) : g[i]? = some (nodeAt g (i : Int)) := by
  rw [nodeAt_yes (by omega) (List.getElem?_eq_getElem h)]
  exact List.getElem?_eq_getElem h
theorem enc_start (g : List GN) : [73, 78, 75, 49] ++ putN (g.length : Int) 2 ++ (g.drop 0).flatMap nodeB = bodyB g := rfl
theorem enc_node {g : List GN} {B out : List UInt8} {i : Nat} {x : GN} {f : Int} (h : out ++ (g.drop i).flatMap nodeB = B) (hx : g[i]? = some x) (hf : f = if x.1 = true then 1 else 0) : out ++ putN f 1 ++ putN (x.2.length : Int) 2 ++ ((x.2.drop 0).flatMap edgeB ++ (g.drop (i + 1)).flatMap nodeB) = B := by
  rw [← h, drop_el' hx, List.flatMap_cons, hf]
  unfold nodeB
  simp
theorem enc_edge {B out : List UInt8} {es : List Ed} {R : List UInt8} {k : Nat} {e : Ed} (h : out ++ ((es.drop k).flatMap edgeB ++ R) = B) (hx : es[k]? = some e) : out ++ putN e.rune 4 ++ putN e.to 2 ++ ((es.drop (k + 1)).flatMap edgeB ++ R) = B := by
  rw [← h, drop_el' hx, List.flatMap_cons]
  unfold edgeB
  simp
theorem enc_next {B out : List UInt8} {es : List Ed} {R : List UInt8} {k : Nat} (h : out ++ ((es.drop k).flatMap edgeB ++ R) = B) (hk : es.length ≤ k) : out ++ R = B := by
  rw [List.drop_of_length_le hk] at h
  simpa using h
theorem enc_len {B out R : List UInt8} (h : out ++ R = B) : out.length ≤ B.length := by rw [← h, List.length_append]; omega
theorem enc_len4 {B out R : List UInt8} {es : List Ed} {k : Nat} {e : Ed} (h : out ++ ((es.drop k).flatMap edgeB ++ R) = B) (hx : es[k]? = some e) : out.length + 6 ≤ B.length := by
  have := enc_len (enc_edge h hx)
  simp only [List.length_append, putN_len] at this; omega
theorem enc_lenN {g : List GN} {B out : List UInt8} {i : Nat} {x : GN} (h : out ++ (g.drop i).flatMap nodeB = B) (hx : g[i]? = some x) : out.length + 3 ≤ B.length := by
  have := enc_len (enc_node (f := if x.1 = true then 1 else 0) h hx rfl)
  simp only [List.length_append, putN_len] at this; omega
theorem enc_fin {g : List GN} {out : List UInt8} {i : Nat} (h : out ++ (g.drop i).flatMap nodeB = bodyB g) (hi : g.length ≤ i) : out = bodyB g := by
  rw [List.drop_of_length_le hi] at h
  simpa using h
def encA (g : List GN) : List UInt8 := if g.isEmpty = true then [] else encB_ g
theorem encA_no {g : List GN} (h : g = []) : encA g = [] := by subst h; rfl
theorem encA_yes {g : List GN} (h : g ≠ []) : encA g = encB_ g := by
  unfold encA; rw [if_neg]; cases g <;> simp at *
def errA (g : List GN) : Int := if g.isEmpty = true then 2 else 0
theorem errA_yes {g : List GN} (h : g ≠ []) : (0 : Int) = errA g := by
  unfold errA; rw [if_neg]; cases g <;> simp at *
def imgM (words : List Str) : List UInt8 := if goodL words = 0 then encB_ (gnodes words) else []
theorem imgM_no {words : List Str} (h : goodL words ≠ 0) : ([] : List UInt8) = imgM words := by unfold imgM; rw [if_neg h]
theorem gnOf_get {g : GS} {i : Nat} {x : List Str × List Ed} (h : g[i]? = some x) : (gnOf g)[i]? = some (finB x.1, x.2) := by unfold gnOf; rw [List.getElem?_map, h]; rfl
end Go.Ml
namespace Go.Ml
open Go.Ik
theorem edges_flat (es : List Ed) : (es.flatMap edgeB).length = 6 * es.length := by
  induction es with
  | nil => rfl
  | cons e es ih => rw [List.flatMap_cons, List.length_append, ih, List.length_cons]; unfold edgeB; rw [List.length_append, putN_len, putN_len]; omega
def edgeCount (N : List GN) : Nat := (N.map fun x => x.2.length).sum
theorem nodes_flat (N : List GN) : (N.flatMap nodeB).length = 3 * N.length + 6 * edgeCount N := by
  unfold edgeCount
  induction N with
  | nil => rfl
  | cons x N ih =>
    rw [List.flatMap_cons, List.length_append, ih, List.length_cons, List.map_cons, List.sum_cons]
    unfold nodeB
    rw [List.length_append, List.length_append, putN_len, putN_len, edges_flat]; omega
theorem bodyB_len (N : List GN) : (bodyB N).length = 6 + 3 * N.length + 6 * edgeCount N := by
  unfold bodyB
  rw [List.length_append, List.length_append, putN_len, nodes_flat]
  simp only [List.length_cons, List.length_nil]; omega
theorem encB_len (N : List GN) : (encB_ N).length = 10 + 3 * N.length + 6 * edgeCount N := by
  unfold encB_ sealB
  rw [List.length_append, putN_len, bodyB_len]; omega
theorem edgeCount_le {N : List GN} {m : Nat} (h : ∀ x ∈ N, x.2.length ≤ m) : edgeCount N ≤ N.length * m := by
  unfold edgeCount
  induction N with
  | nil => simp
  | cons x N ih =>
    have h1 := h x (by simp)
    have h2 := ih fun y hy => h y (by simp [hy])
    rw [List.map_cons, List.sum_cons, List.length_cons, Nat.succ_mul]; omega
end Go.Ml
namespace Go.Ml
open Go.Ik
theorem enc_nodeT {g : GS} {out : List UInt8} {i : Nat} {gx : List Str × List Ed} (h : out ++ ((gnOf g).drop i).flatMap nodeB = bodyB (gnOf g)) (hx : g[i]? = some gx) (hb : (nodeAt (gnOf g) (i : Int)).1 = true) : out ++ putN 1 1 ++ putN (gx.2.length : Int) 2 ++ ((gx.2.drop 0).flatMap edgeB ++ ((gnOf g).drop (i + 1)).flatMap nodeB) = bodyB (gnOf g) := by
  rw [gnOf_at hx] at hb
  exact enc_node (x := (finB gx.1, gx.2)) h (gnOf_get hx) (by rw [if_pos hb])
theorem enc_nodeF {g : GS} {out : List UInt8} {i : Nat} {gx : List Str × List Ed} (h : out ++ ((gnOf g).drop i).flatMap nodeB = bodyB (gnOf g)) (hx : g[i]? = some gx) (hb : (nodeAt (gnOf g) (i : Int)).1 = false) : out ++ putN 0 1 ++ putN (gx.2.length : Int) 2 ++ ((gx.2.drop 0).flatMap edgeB ++ ((gnOf g).drop (i + 1)).flatMap nodeB) = bodyB (gnOf g) := by
  rw [gnOf_at hx] at hb
  have hb' : finB gx.1 = false := hb
  exact enc_node (x := (finB gx.1, gx.2)) h (gnOf_get hx) (by rw [if_neg (by simp [hb'])])
end Go.Ml
namespace Go.Ik
open Go Go.Ml
def nrR {R : Nat → Prop} (t : List RNode) (xs : GS) : Res R := ⟨fun F w => NR w F t xs, fun h hm hF _ => NR.keep h hm hF⟩
abbrev No : Nat → Prop := fun _ => False
/-- the builder in block 'bB': the graph, what is found by name, the nodes -/
def bldR (bT gT nT : TypeId) (bB : Nat) (s : GS) (nds : List RNode) : Res No :=
  exR fun x : Nat × Nat × Value => boxR [bkR bB [ptr x.1 0, .map (some x.2.1)] bT, bkR x.1 [x.2.2] gT, mapR strV intV x.2.1 (mapK s), accR encN nT 2 x.2.2 nds]
theorem sep_pair {R : Nat → Prop} {A B : Res R} {F : Nat → Prop} {w : World} (h : (boxR [A, B]).p F w) : ∃ F1 F2, A.p F1 w ∧ B.p F2 w ∧ (∀ b, F1 b → F b) ∧ (∀ b, F2 b → F b) := by
  obtain ⟨Fs, h1, h2, h3⟩ := h
  exact ⟨Fs 0, Fs 1, h1 0 A rfl, h1 1 B rfl, fun b hb => (h2 0 b hb).1.1, fun b hb => (h2 1 b hb).1.1⟩
theorem nr_app {t t2 : List RNode} {xs xs2 : GS} {F : Nat → Prop} {w : World} {R : Nat → Prop} (h : (boxR (R := R) [nrR t xs, nrR t2 xs2]).p F w) : (nrR (R := R) (t ++ t2) (xs ++ xs2)).p F w := by
  obtain ⟨F1, F2, h1, h2, h3, h4⟩ := sep_pair h
  exact All2.app (NR.mono h1 h3) (NR.mono h2 h4)
theorem acc_sl {α : Type} {enc : α → List Value} {e : TypeId} {sz : Nat} {v : Value} {l : List α} {F : Nat → Prop} {w : World} {R : Nat → Prop} (h : (accR (R := R) enc e sz v l).p F w) : Sl enc w F v l := by
  obtain ⟨g, h1, h2⟩ := h
  refine h1.sl.mono fun b hb => ?_
  rcases h1 with ⟨_, _, h4⟩ | ⟨b', cap, cur, h0, _⟩
  · unfold Iv at hb; omega
  · exact h2 b (by unfold Iv at hb; omega)
theorem slR_one {α : Type} {enc : α → List Value} {v : Value} {l : List α} {F : Nat → Prop} {w : World} {R : Nat → Prop} (h : (slR (R := R) enc [(v, l)]).p F w) : Sl enc w (fun b => F b ∨ R b) v l := h (v, l) (List.mem_singleton_self _)
theorem slR_no {α : Type} {enc : α → List Value} {v : Value} {l : List α} {F : Nat → Prop} {w : World} (h : (slR (R := No) enc [(v, l)]).p F w) : Sl enc w F v l := (slR_one h).mono fun b hb => hb.resolve_right id
theorem nr_len {R : Nat → Prop} {A : Res R} {t : List RNode} {xs : GS} {F : Nat → Prop} {w : World} (h : (boxR [A, nrR t xs]).p F w) : t.length = xs.length := by
  obtain ⟨F1, F2, h1, h2, h3, h4⟩ := sep_pair h
  exact NR.len h2
theorem nr_cons {e : TypeId} {v : Value} {es : List Ed} {t : List RNode} {xs : GS} {x : List Str} {r : RNode} {F : Nat → Prop} {w : World} (hv : v = r.e.val) (hf : r.fin = finB x) {R : Nat → Prop} (h : (boxR (R := R) [accR encE e 2 v es, nrR t xs]).p F w) : (nrR (R := R) (r :: t) ((x, es) :: xs)).p F w := by
  obtain ⟨F1, F2, h1, h2, h3, h4⟩ := sep_pair h
  exact .cons ⟨hf, hv ▸ (acc_sl h1).mono h3⟩ (NR.mono h2 h4)
end Go.Ik
namespace Go.Ik
open Go Go.Ml
theorem St.gr {w0 w : World} {bG : Nat} {gT nT : TypeId} {vN : Value} {t : List RNode} {xs : GS} (h : St No No w0 w [bkR bG [vN] gT, accR encN nT 2 vN t, nrR t xs]) (hne : xs ≠ []) : Gr 0 w w0.heap.size w.heap.size (ptr bG 0) (gnOf xs) := by
  obtain ⟨F, h1, h2, _⟩ := h.act (i := 0) rfl
  have hs := h.accSl (i := 1) rfl
  obtain ⟨F3, h3, h4, _⟩ := h.act (i := 2) rfl
  have hb := h2 bG h1.2
  exact .inr ⟨bG, vN, t, rfl, by simpa [gnOf] using hne, ⟨hb.1.1.resolve_left id, hb.2, h1.1.row⟩, hs, nr_rel (NR.mono h3 fun b hb => ⟨(h4 b hb).1.1.resolve_left id, (h4 b hb).2⟩)⟩
theorem St.gr1 {w0 w : World} {bG : Nat} {gT : TypeId} {vN : Value} (h : St No No w0 w [bkR bG [vN] gT, slR encN [(vN, [RNode.mk false (SH.mk none 0 0)])]]) : Gr 0 w w0.heap.size w.heap.size (ptr bG 0) [(false, [])] := by
  obtain ⟨F, h1, h2, _⟩ := h.act (i := 0) rfl
  have hs := h.slOut (i := 1) (k := 0) rfl rfl
  have hb := h2 bG h1.2
  exact .inr ⟨bG, vN, _, rfl, by simp, ⟨hb.1.1.resolve_left id, hb.2, h1.1.row⟩, hs, .cons ⟨rfl, Sl.nil⟩ .nil⟩
theorem far_iv {F0 F : Nat → Prop} {w0 : World} (h : ∀ b, F b → ((False ∨ w0.heap.size ≤ b) ∧ ¬ False) ∧ F0 b) : ∀ b, Iv 0 w0.heap.size b → ¬ F b := fun b hb hf => by
  have := (h b hf).1.1.resolve_left id
  unfold Iv at hb; omega
end Go.Ik
namespace Go.Ml
open Go.Ik
theorem sorted_at {l : List Str} (hs : Sorted l) {i j : Nat} {x y : Str} (hx : l[i]? = some x) (hy : l[j]? = some y) (h : i < j) : ltT x y := by
  obtain ⟨h1, rfl⟩ := List.getElem?_eq_some_iff.1 hx
  obtain ⟨h2, rfl⟩ := List.getElem?_eq_some_iff.1 hy
  exact List.pairwise_iff_getElem.1 hs _ _ h1 h2 h
structure BsInv (l : List Str) (w : Str) (i j : Nat) : Prop where
  lo : ∀ k x, k < i → l[k]? = some x → ltT x w
  hi : ∀ k x, j ≤ k → l[k]? = some x → ¬ ltT x w
theorem BsInv.yes {l : List Str} {w x : Str} {i : Nat} (hx : l[i]? = some x) (hc : Lib.compareBytes x w = 0) : true = l.contains w := by
  have := cmp_eq hc
  subst this
  exact (List.contains_iff_mem.2 (List.mem_of_getElem? hx)).symm
theorem BsInv.no {l : List Str} {w x : Str} {i j : Nat} (hb : BsInv l w i j) (hs : Sorted l) (hij : i = j) (hx : l[i]? = some x) (hc : Lib.compareBytes x w ≠ 0) : false = l.contains w := by
  subst hij
  cases h : l.contains w with
  | false => rfl
  | true =>
    obtain ⟨k, hk⟩ := List.mem_iff_getElem?.1 (List.contains_iff_mem.1 h)
    rcases Nat.lt_or_ge k i with hl | hl
    · exact absurd (hb.lo k w hl hk) (lt_irrefl w)
    · rcases Nat.lt_or_ge i k with h2 | h2
      · exact absurd (sorted_at hs hx hk h2) (hb.hi i x (Nat.le_refl _) hx)
      · have : k = i := by omega
        subst this
        rw [hx] at hk; cases hk
        exact absurd (cmp_refl _) hc
theorem BsInv.none {l : List Str} {w : Str} {i j : Nat} (hb : BsInv l w i j) (hi : l.length ≤ i) : false = l.contains w := by
  cases h : l.contains w with
  | false => rfl
  | true =>
    obtain ⟨k, hk⟩ := List.mem_iff_getElem?.1 (List.contains_iff_mem.1 h)
    have := (List.getElem?_eq_some_iff.1 hk).1
    exact absurd (hb.lo k w (by omega) hk) (lt_irrefl w)
theorem BsInv.at {l : List Str} {w x : Str} {i j : Nat} {b : Bool} (hb : BsInv l w i j) (hs : Sorted l) (hij : i = j) (hx : l[i]? = some x) (h : b = (Lib.compareBytes x w == 0)) : b = l.contains w := by
  rw [h]
  by_cases hc : Lib.compareBytes x w = 0
  · rw [← BsInv.yes hx hc]; simp [hc]
  · rw [← hb.no hs hij hx hc]; simp [hc]
theorem greatT_len {l : List Str} (h : greatT l = false) : l.length ≤ 80 := by
  unfold greatT at h
  simp only [Bool.or_eq_false_iff, decide_eq_false_iff_not] at h
  omega
theorem nbeqBB {b c p q : Bool} (hb : b = p) (hc : c = q) (h : p = q) : (!(b == c)) = false := by rw [hb, hc, h]; simp
end Go.Ml
namespace Go.Ml
open Go.Ik
theorem by8_N (n : Nat) : byN (n : Int) = by8 n := byN_nat n
theorem enc_b1 {r : Int} (h0 : 0 ≤ r) (h : r < 128) : [byN r] = encL r.toNat := by
  obtain ⟨c, rfl⟩ := Int.eq_ofNat_of_zero_le h0
  rw [Int.toNat_natCast]; unfold encL
  rw [if_pos (by omega), by8_N]
theorem enc_b2 {r : Int} (h0 : 0 ≤ r) (h : ¬ r < 128) (h2 : r < 2048) : [byN (192 + r / 64), byN (128 + r % 64)] = encL r.toNat := by
  obtain ⟨c, rfl⟩ := Int.eq_ofNat_of_zero_le h0
  rw [Int.toNat_natCast]; unfold encL
  rw [if_neg (by omega), if_pos (by omega), ← by8_N, ← by8_N]
  rfl
theorem enc_b3 {r : Int} (h0 : 0 ≤ r) (h : ¬ r < 128) (h2 : ¬ r < 2048) (h3 : r < 65536) : [byN (224 + r / 4096), byN (128 + r / 64 % 64), byN (128 + r % 64)] = encL r.toNat := by
  obtain ⟨c, rfl⟩ := Int.eq_ofNat_of_zero_le h0
  rw [Int.toNat_natCast]; unfold encL
  rw [if_neg (by omega), if_neg (by omega), if_pos (by omega), ← by8_N, ← by8_N, ← by8_N]
  rfl
theorem enc_b4 {r : Int} (h0 : 0 ≤ r) (h : ¬ r < 128) (h2 : ¬ r < 2048) (h3 : ¬ r < 65536) : [byN (240 + r / 262144), byN (128 + r / 4096 % 64), byN (128 + r / 64 % 64), byN (128 + r % 64)] = encL r.toNat := by
  obtain ⟨c, rfl⟩ := Int.eq_ofNat_of_zero_le h0
  rw [Int.toNat_natCast]; unfold encL
  rw [if_neg (by omega), if_neg (by omega), if_neg (by omega), ← by8_N, ← by8_N, ← by8_N, ← by8_N]
  rfl
def encI_ (l : List Int) : Str := l.flatMap fun r => encL r.toNat
def rtext (l : List Int) : Str := if l.all goodR = true then encI_ l else []
theorem encI_take {l : List Int} {k : Nat} {x : Int} (hx : l[k]? = some x) : encI_ (l.take (k + 1)) = encI_ (l.take k) ++ encL x.toNat := by
  unfold encI_; rw [List.take_add_one, hx]; simp
theorem rtext_no {l : List Int} {k : Nat} {x : Int} (hx : l[k]? = some x) (h : goodR x = false) : ([] : Str) = rtext l ∧ false = l.all goodR := by
  have : l.all goodR = false := not_all hx h
  unfold rtext; rw [this]; exact ⟨rfl, rfl⟩
theorem rtext_yes {l : List Int} {k : Nat} {s : Str} (ha : (l.take k).all goodR = true) (hs : s = encI_ (l.take k)) (hk : l.length ≤ k) : s = rtext l ∧ true = l.all goodR := by
  rw [List.take_of_length_le hk] at ha hs
  unfold rtext; rw [if_pos ha, ha]; exact ⟨hs, rfl⟩
theorem encL_len4' (c : Nat) : (encL c).length ≤ 4 := encL_len4 c
theorem goodR_of {c : Nat} (h : goodN c) : goodR (c : Int) = true := by
  rw [good_d]; unfold goodN at h; exact decide_eq_true (by omega)
theorem goodR_rng {x : Int} (h : goodR x = true) : 0 ≤ x ∧ x ≤ 1114111 := by
  rw [good_d] at h
  have := of_decide_eq_true h
  omega
theorem fine_head {s : Str} (hf : Fine s) (hne : s ≠ []) : goodN (hdN s) ∧ encL (hdN s) = pfx s ∧ (runesM s)[0]? = some ((hdN s : Nat) : Int) ∧ 1 ≤ (runesM s).length := by
  have h1 := (encT_runes s hf).2 (hdN s) (by rw [runes_cons hne]; simp [hdN])
  have h2 := (enc_dec hne h1.2.2).2
  have h3 : runesM s = ((hdN s : Nat) : Int) :: (runes (s.drop (dec s).2)).map fun n : Nat => (n : Int) := by
    unfold runesM; rw [if_pos (fine_iff.2 hf)]; unfold runesI; rw [runes_cons hne]; rfl
  exact ⟨h1, h2, by rw [h3]; rfl, by rw [h3]; simp⟩
theorem rpfx {s : Str} (hf : Fine s) (hne : s ≠ []) : rtext ((runesM s).take 1) = pfx s := by
  obtain ⟨h1, h2, h3, h4⟩ := fine_head hf hne
  have h5 : (runesM s).take 1 = [((hdN s : Nat) : Int)] := by
    cases hl : runesM s with
    | nil => rw [hl] at h4; simp at h4
    | cons a r => rw [hl] at h3; simp at h3; simp [h3]
  rw [h5]; unfold rtext
  rw [if_pos (by simp [goodR_of h1])]
  unfold encI_; simp [h2]
theorem rpfx1 {s : Str} (hf : Fine s) (hne : s ≠ []) (h : ¬ (1 : Int) < ((runesM s).length : Int)) : rtext (runesM s) = pfx s := by
  rw [← rpfx hf hne, List.take_of_length_le (by omega)]
theorem dec_encL' {c : Nat} (hc : goodN c) (t : Str) : pfx (encL c ++ t) = encL c := by
  have h : runes (encL c ++ t) = c :: runes t := runes_app hc t
  have hne : encL c ++ t ≠ [] := by
    intro e
    rw [e] at h; simp [runes_nil] at h
  have hd : (dec (encL c ++ t)).1 = c := by
    rw [runes_cons hne] at h
    exact (List.cons.inj h).1
  have := (enc_dec hne (by rw [hd]; exact hc.2.2)).2
  rw [hd] at this
  exact this.symm
theorem no_find' {s : GS} {r : List Str} (h : ∀ x ∈ s, x.1 ≠ r) : (s.findIdx? fun x => x.1 == r) = none := by
  rw [List.findIdx?_eq_none_iff]
  intro x hx
  exact beq_eq_false_iff_ne.2 (h x hx)
theorem pfx_eq {x t : Str} (hx : Fine x) (hxn : x ≠ []) (ht : Fine t) (htn : t ≠ []) : (pfx t == pfx x) = (pfx x).isPrefixOf t := by
  obtain ⟨h1, h2, _⟩ := fine_head hx hxn
  rw [Bool.eq_iff_iff, beq_iff_eq]
  constructor
  · intro e; rw [← e]; exact pfx_is t
  · intro h
    have := prefix_drop h
    rw [← h2] at this ⊢
    rw [this]
    exact (dec_encL' h1 _)
def remR (rests : List Str) (i : Nat) : List Str := if i = 0 then dropE rests else rests.drop i
theorem rem_zero (rests : List Str) : remR rests 0 = dropE rests := rfl
theorem pos_ne {l : List Str} (hs : Sorted l) {i : Nat} {x : Str} (hx : l[i]? = some x) (hi : 0 < i) : x ≠ [] := by
  have hlt := (List.getElem?_eq_some_iff.1 hx).1
  have h0 : l[0]? = some l[0] := List.getElem?_eq_getElem (by omega)
  have := sorted_at hs h0 hx hi
  intro e; subst e
  unfold ltT at this
  have h2 : Lib.compareBytes l[0] [] ≥ 0 := by
    cases l[0] with
    | nil => decide
    | cons a r => show (1 : Int) ≥ 0; omega
  omega
theorem ne_at {l : List Str} (hs : Sorted l) {k k1 : Nat} {x y : Str} (hx : l[k]? = some x) (hxn : x ≠ []) (hk : k ≤ k1) (hy : l[k1]? = some y) : y ≠ [] := by
  rcases Nat.eq_or_lt_of_le hk with e | h
  · subst e
    rw [hx] at hy; cases hy; exact hxn
  · exact pos_ne hs hy (by omega)
theorem runesM_r32 (s : Str) : ∀ x ∈ runesM s, -2147483648 ≤ x ∧ x ≤ 2147483647 := by
  intro x hx
  obtain ⟨k, hk⟩ := List.mem_iff_getElem?.1 hx
  have := runesM_rng hk
  omega
theorem rem_skip {rests : List Str} (hg : GoodR rests) {i : Nat} {x : Str} (hx : rests[i]? = some x) (he : x = []) : remR rests i = remR rests (i + 1) ∧ i = 0 := by
  have hi : i = 0 := by
    rcases Nat.eq_zero_or_pos i with h | h
    · exact h
    · exact absurd he (pos_ne hg.sorted hx h)
  subst hi
  refine ⟨?_, rfl⟩
  rw [rem_zero, (dropE_nil hx he).1]; rfl
theorem rem_grp {rests : List Str} {i : Nat} {x : Str} (hx : rests[i]? = some x) (hne : x ≠ []) : remR rests i = rests.drop i := by
  unfold remR
  split
  · rename_i h; subst h
    rw [(dropE_cons hx hne).1]; rfl
  · rfl
theorem rem_end {rests : List Str} {i : Nat} (h : rests.length ≤ i) : remR rests i = [] := by
  unfold remR
  split
  · have : rests = [] := List.eq_nil_of_length_eq_zero (by omega)
    subst this; rfl
  · exact List.drop_of_length_le h
theorem rem_pos {rests : List Str} {i : Nat} (h : 0 < i) : remR rests i = rests.drop i := by unfold remR; rw [if_neg (by omega)]
theorem rem_good {rests : List Str} {f : Nat} (hg : GoodR rests) (hd : Deep f rests) (i : Nat) : GoodR (remR rests i) ∧ (∀ t ∈ remR rests i, t ≠ []) ∧ Deep f (remR rests i) := by
  unfold remR
  split
  · have := dropE_good hg
    exact ⟨this.1, this.2, fun t ht => hd t (dropE_mem ht)⟩
  · rename_i hi
    refine ⟨⟨sorted_suffix hg.sorted (List.drop_suffix _ _), fun t ht => hg.fine t (List.mem_of_mem_drop ht)⟩, fun t ht => ?_, fun t ht => hd t (List.mem_of_mem_drop ht)⟩
    obtain ⟨k, hk⟩ := List.mem_iff_getElem?.1 ht
    rw [List.getElem?_drop] at hk
    exact pos_ne hg.sorted hk (by omega)
theorem rem_sum (rests : List Str) (i : Nat) : sumLen (remR rests i) ≤ sumLen rests := by
  unfold remR
  split
  · rw [sumLen_dropE]; exact Nat.le_refl _
  · have := sumLen_app (rests.take i) (rests.drop i)
    rw [List.take_append_drop] at this
    omega
theorem find_at {s : GS} {r : List Str} {k : Nat} {x : List Str × List Ed} (hno : ∀ y ∈ s.take k, y.1 ≠ r) (hx : s[k]? = some x) (he : x.1 = r) : (s.findIdx? fun x => x.1 == r) = some k := by
  obtain ⟨hk, rfl⟩ := List.getElem?_eq_some_iff.1 hx
  rw [List.findIdx?_eq_some_iff_getElem]
  refine ⟨hk, by simpa using he, fun j hj => ?_⟩
  have := hno s[j] (by rw [List.mem_take_iff_getElem]; exact ⟨j, by omega, rfl⟩)
  simpa using this
theorem find_step {s : GS} {r : List Str} {k : Nat} {x : List Str × List Ed} (hno : ∀ y ∈ s.take k, y.1 ≠ r) (hx : s[k]? = some x) (he : x.1 ≠ r) : ∀ y ∈ s.take (k + 1), y.1 ≠ r := by
  intro y hy
  rw [List.take_add_one, hx] at hy
  simp only [Option.toList_some, List.mem_append, List.mem_singleton] at hy
  rcases hy with hy | rfl
  · exact hno y hy
  · exact he
theorem find_no {s : GS} {r : List Str} {k : Nat} (hno : ∀ y ∈ s.take k, y.1 ≠ r) (hk : s.length ≤ k) : (s.findIdx? fun x => x.1 == r) = none := by
  rw [List.take_of_length_le hk] at hno
  exact no_find' hno
theorem names_put' {s : GS} {rests : List Str} (hf : (s.findIdx? fun x => x.1 == rests) = none) (hnd : (names s).Nodup) : (names (s ++ (rests, []) :: [])).Nodup := by
  have hno := findIdx_none hf
  unfold names
  rw [List.map_append, List.nodup_append]
  refine ⟨hnd, by simp, fun a ha b hb => ?_⟩
  simp only [List.map_cons, List.map_nil, List.mem_singleton] at hb
  subst hb
  exact fun e => hno (by rw [← e]; exact ha)
theorem addM_nodup {f : Nat} {s : GS} {rests : List Str} (hd : Deep f rests) (hg : GoodR rests) (hne : rests ≠ []) (hn : (names s).Nodup) : (names (addM (f + 1) s rests).1).Nodup := (addM_ok f s rests hd hg hne hn).apart
end Go.Ml
namespace Go.Ik
open Go Go.Ml
structure RNd where
  r : SH
  e : SH
def encRd (x : RNd) : List Value := [x.r.val, x.e.val]
theorem encRd_len (x : RNd) : (encRd x).length = 2 := rfl
theorem encRd_one (x : RNd) : (encRd x).all (·.oneCell') = true := rfl
section
variable {R : Nat → Prop}
def RR (w : World) (F : Nat → Prop) (nds : List RNd) (s : GS) : Prop := All2 (fun n x => Sl encS w F n.r.val x.1 ∧ Sl encE w F n.e.val x.2) nds s
theorem RR.mono {w : World} {F F' : Nat → Prop} {nds : List RNd} {s : GS} (h : RR w F nds s) (hF : ∀ b, F b → F' b) : RR w F' nds s := All2.imp (fun r n ⟨h1, h2⟩ => ⟨h1.mono hF, h2.mono hF⟩) h
theorem RR.keep {M : Nat → Prop} {w w' : World} {F : Nat → Prop} {nds : List RNd} {s : GS} (h : RR w F nds s) (hm : Mod M w w') (hF : ∀ b, F b → ¬ M b) : RR w' F nds s := All2.imp (fun r n ⟨h1, h2⟩ => ⟨h1.keep hm hF, h2.keep hm hF⟩) h
theorem RR.len {w : World} {F : Nat → Prop} {nds : List RNd} {s : GS} (h : RR w F nds s) : nds.length = s.length := (All2.get h).1
theorem RR.at {w : World} {F : Nat → Prop} {nds : List RNd} {s : GS} (h : RR w F nds s) {k : Nat} {n : RNd} (hn : nds[k]? = some n) : ∃ x, s[k]? = some x ∧ Sl encS w F n.r.val x.1 ∧ Sl encE w F n.e.val x.2 := by
  have hg := All2.get h
  have hlt := (List.getElem?_eq_some_iff.1 hn).1
  have hx : s[k]? = some (s[k]'(by rw [← hg.1]; exact hlt)) := by simp
  exact ⟨_, hx, hg.2 k _ _ hn hx⟩
def rrR (nds : List RNd) (s : GS) : Res R := ⟨fun F w => RR w (fun b => F b ∨ R b) nds s, fun h hm hF hR => RR.keep h hm fun b hb => hb.elim (hF b) (hR b)⟩
/-- the graph in block 'bG': its nodes' rests (their headers: 'hs') and edges -/
def rgR (gT nT : TypeId) (bG : Nat) (s : GS) (hs : List Value) : Res R := exR fun x : Value × List RNd => andR (x.2.map (fun n => n.r.val) = hs) (boxR [bkR bG [x.1] gT, accR encRd nT 2 x.1 x.2, rrR x.2 s])
theorem St.and {F0 : Nat → Prop} {w0 w : World} {L : List (Res R)} {i : Nat} {P : Prop} {A : Res R} (h : St R F0 w0 w L) (hi : L[i]? = some (andR P A)) : P ∧ St R F0 w0 w (L.set i A) := by
  obtain ⟨F, h1, _⟩ := h.get hi
  exact ⟨h1.1, h.imp hi fun F hF => hF.2⟩
theorem St.rrAt {F0 : Nat → Prop} {w0 w : World} {L : List (Res R)} {i k : Nat} {nds : List RNd} {s : GS} {n : RNd} (h : St R F0 w0 w L) (hi : L[i]? = some (rrR nds s)) (hn : nds[k]? = some n) : ∃ x, s[k]? = some x ∧ Sl encS w (Iv 0 w.heap.size) n.r.val x.1 ∧ Sl encE w (Iv 0 w.heap.size) n.e.val x.2 := by
  obtain ⟨F, h1, h2⟩ := h.get hi
  have h3 : RR w (Iv 0 w.heap.size) nds s := RR.mono h1 fun b hb => ⟨Nat.zero_le _, hb.elim (h2 b) (h.rlt b)⟩
  exact h3.at hn
theorem St.rrLen {F0 : Nat → Prop} {w0 w : World} {L : List (Res R)} {i : Nat} {nds : List RNd} {s : GS} (h : St R F0 w0 w L) (hi : L[i]? = some (rrR nds s)) : nds.length = s.length := by
  obtain ⟨F, h1, _⟩ := h.get hi
  exact RR.len h1
theorem St.rgAt {F0 : Nat → Prop} {w0 w : World} {L : List (Res R)} {i k : Nat} {gT nT : TypeId} {bG : Nat} {s : GS} {hs : List Value} {v : Value} {x : List Str × List Ed} (h : St R F0 w0 w L) (hi : L[i]? = some (rgR gT nT bG s hs)) (hv : hs[k]? = some v) (hx : s[k]? = some x) : Sl encS w (Iv 0 w.heap.size) v x.1 := by
  obtain ⟨F, ⟨⟨vN, nds⟩, hm, Fs, h1, h2, h3⟩, hF⟩ := h.get hi
  have h4 : RR w (fun b => Fs 2 b ∨ R b) nds s := h1 2 _ rfl
  have h5 : RR w (Iv 0 w.heap.size) nds s := RR.mono h4 fun b hb => ⟨Nat.zero_le _, hb.elim (fun h => (h2 2 b h).2) (h.rlt b)⟩
  have hm' : nds.map (fun n => n.r.val) = hs := hm
  subst hm'
  rw [List.getElem?_map] at hv
  obtain ⟨n, hn, rfl⟩ := Option.map_eq_some_iff.1 hv
  obtain ⟨x', hx', h6, _⟩ := h5.at hn
  rw [hx] at hx'; cases hx'
  exact h6
theorem rr_push {nds : List RNd} {s : GS} {v : Value} {rests : List Str} {n : RNd} {F : Nat → Prop} {w : World} (hv : v = n.r.val) (he : n.e.val = .slice none 0 0) (h : (boxR (R := R) [rrR nds s, slR encS [(v, rests)]]).p F w) : (rrR (R := R) (nds ++ [n]) (s ++ [(rests, [])])).p F w := by
  obtain ⟨F1, F2, h1, h2, h3, h4⟩ := sep_pair h
  exact All2.app (RR.mono h1 fun b hb => hb.imp (h3 b) id) (.cons ⟨hv ▸ (slR_one h2).mono fun b hb => hb.imp (h4 b) id, he ▸ Sl.nil⟩ .nil)
theorem rg_len {gT nT : TypeId} {bG : Nat} {s : GS} {hs : List Value} {F : Nat → Prop} {w : World} (h : (rgR (R := R) gT nT bG s hs).p F w) : hs.length = s.length := by
  obtain ⟨⟨vN, nds⟩, hm, Fs, h1, h2, h3⟩ := h
  have h4 : RR w (fun b => Fs 2 b ∨ R b) nds s := h1 2 _ rfl
  have hm' : nds.map (fun n => n.r.val) = hs := hm
  rw [← hm', List.length_map]; exact RR.len h4
theorem all2_set {α β : Type} {Q : α → β → Prop} : ∀ {a : List α} {b : List β} {i : Nat} {x : α} {y : β}, All2 Q a b → Q x y → All2 Q (a.set i x) (b.set i y)
  | _, _, _, _, _, .nil, _ => .nil
  | _, _, 0, _, _, .cons h r, hq => .cons hq r
  | _, _, i + 1, _, _, .cons h r, hq => .cons h (all2_set r hq)
theorem rr_set {nds : List RNd} {s : GS} {k : Nat} {n : RNd} {hd : SH} {rests : List Str} {es0 es : List Ed} {e : TypeId} {v : Value} {F : Nat → Prop} {w : World} (hn : nds[k]? = some n) (hx : s[k]? = some (rests, es0)) (hv : v = hd.val) (h : (boxR (R := R) [rrR nds s, accR encE e 2 v es]).p F w) :
    (rrR (R := R) (nds.set k (RNd.mk n.r hd)) (s.set k (rests, es))).p F w := by
  obtain ⟨F1, F2, h1, h2, h3, h4⟩ := sep_pair h
  have h5 : RR w (fun b => F b ∨ R b) nds s := RR.mono h1 fun b hb => hb.imp (h3 b) id
  obtain ⟨x, hx', h6, _⟩ := h5.at hn
  rw [hx] at hx'; cases hx'
  exact all2_set h5 ⟨h6, hv ▸ (acc_sl h2).mono fun b hb => .inl (h4 b hb)⟩
end
theorem map_set_r {nds : List RNd} {k : Nat} {n : RNd} {hd : SH} (hn : nds[k]? = some n) : (nds.set k (RNd.mk n.r hd)).map (fun n => n.r.val) = nds.map (fun n => n.r.val) := by
  obtain ⟨h, rfl⟩ := List.getElem?_eq_some_iff.1 hn
  rw [List.map_set]
  refine List.ext_getElem? fun i => ?_
  rw [List.getElem?_set]
  split
  · rename_i e; subst e
    simp [h]
  · rfl
theorem at_mid {α : Type} {a b : List α} {x : α} {n : Nat} (h : n = a.length) : (a ++ x :: b)[n]? = some x := by
  subst h
  rw [List.getElem?_append_right (Nat.le_refl _), Nat.sub_self]; rfl
theorem set_mid {α : Type} {a b : List α} {x y : α} {n : Nat} (h : n = a.length) : (a ++ x :: b).set n y = a ++ y :: b := by
  subst h
  rw [List.set_append_right _ _ (Nat.le_refl _), Nat.sub_self]; rfl
end Go.Ik
namespace Go.Ik
open Go Go.Ml
theorem RR.ext {w w' : World} {F : Nat → Prop} {nds : List RNd} {s : GS} (h : RR w F nds s) (hm : Ext w w') : RR w' F nds s := RR.keep h hm fun _ _ x => x
theorem RR.keepG {w w' : World} {lo hi g : Nat} {nds : List RNd} {s : GS} (h : RR w (Iv lo hi) nds s) (hm : Mod (Mg g) w w') (hg : g ≤ lo ∨ hi < g) : RR w' (Iv lo hi) nds s := RR.keep h hm fun b hb hx => by unfold Iv Mg at *; omega
/-- what a graph of the reference is, when nobody writes it any more -/
theorem rg_facts {R F : Nat → Prop} {gT nT : TypeId} {bG n : Nat} {s : GS} {hs : List Value} {w : World} (h : (rgR (R := R) gT nT bG s hs).p F w) (hF : ∀ b, F b → b < w.heap.size ∧ n ≤ b) (hR : ∀ b, R b → b < w.heap.size) :
    ∃ vN nds, Rw w n w.heap.size bG [vN] ∧ Sl encRd w (Iv n w.heap.size) vN nds ∧ RR w (Iv 0 w.heap.size) nds s := by
  obtain ⟨⟨vN, nds⟩, hm, Fs, h1, h2, h3⟩ := h
  have hF' : ∀ i b, Fs i b → n ≤ b ∧ b < w.heap.size := fun i b hb => ⟨(hF b (h2 i b hb).1.1).2, (h2 i b hb).2⟩
  have k0 := h1 0 _ rfl
  have k1 := h1 1 _ rfl
  have k2 := h1 2 _ rfl
  exact ⟨vN, nds, ⟨(hF' 0 _ k0.2).1, (hF' 0 _ k0.2).2, k0.1.row⟩, (acc_sl k1).mono fun b hb => hF' 1 b hb, RR.mono k2 fun b hb => ⟨Nat.zero_le _, hb.elim (fun h => (hF' 2 b h).2) (hR b)⟩⟩
theorem graphB_add (words : List Str) : (addM 13 [] words).1 = graphB words := by
  unfold graphB
  split
  · rename_i h; subst h; rfl
  · rfl
theorem node_yes {s : GS} {n : Int} {x : List Str × List Ed} (h : 0 ≤ n) (hx : s[n.toNat]? = some x) : nodeAt (gnOf s) n = (finB x.1, x.2) := by
  have := gnOf_at hx
  rw [show ((n.toNat : Nat) : Int) = n from by omega] at this
  exact this
theorem node_no {s : GS} {n : Int} (h : n < 0 ∨ (s.length : Int) ≤ n) : nodeAt (gnOf s) n = (false, []) := nodeAt_no (by rw [gnOf_len]; exact h)
theorem fin_head0 {r : List Str} {x : Str} (hx : r[0]? = some x) {b : Bool} (hb : b = (x == [])) : b = finB r := by
  unfold finB
  rw [hb, List.head?_eq_getElem?, hx]
  cases x <;> simp
theorem fin_nil {r : List Str} (h : ¬ (((r.length : Nat) : Int) > 0)) : false = finB r := by
  have : r = [] := List.eq_nil_of_length_eq_zero (by omega)
  subst this; rfl
end Go.Ik
namespace Go.Ml
open Go.Ik
theorem graphB_len {words : List Str} (h : goodL words = 0) : 1 ≤ (graphB words).length ∧ (graphB words).length ≤ 2881 := by
  unfold graphB
  split
  · simp
  · rename_i hne
    obtain ⟨es, he⟩ := (graphM_ok (good_deep h).2 (good_deep h).1 hne).root
    have := (List.getElem?_eq_some_iff.1 he).1
    have := graphM_len h
    omega
theorem graphB_short {words : List Str} (h : goodL words = 0) : ∀ y ∈ graphB words, y.1.length ≤ 60 := by
  unfold graphB
  split
  · simp
  · exact addM_short 13 [] words (by simp) (good_sum h).1
end Go.Ml
namespace Go.Ml
open Go.Ik
theorem gnodes_edges {words : List Str} (h : goodL words = 0) : ∀ x ∈ gnodes words, x.2.length ≤ 60 := by
  have hok := gok_of h
  intro x hx
  rw [gnodes_yes h] at hx
  obtain ⟨y, hy, rfl⟩ := List.mem_map.1 hx
  have h1 := (All2.get (hok.node y hy).1).1
  have h2 := groups_count _ (dropE y.1) (Nat.le_refl _)
  have h3 := dropE_len y.1
  have h4 := graphB_short h y hy
  simp only; omega
theorem gnodes_len {words : List Str} (h : goodL words = 0) : 1 ≤ (gnodes words).length ∧ (gnodes words).length ≤ 2881 := by
  rw [gnodes_yes h, gnOf_len]; exact graphB_len h
theorem body_len {words : List Str} (h : goodL words = 0) : (bodyB (gnodes words)).length ≤ 3000000 := by
  have h1 := edgeCount_le (gnodes_edges h)
  have h2 := (gnodes_len h).2
  have h3 : (gnodes words).length * 60 ≤ 2881 * 60 := Nat.mul_le_mul_right _ h2
  rw [bodyB_len]; omega
theorem encA_len {g : List GN} (h : (bodyB g).length ≤ 3000000) : (encA g).length ≤ 3000010 := by
  unfold encA
  split
  · simp
  · rw [encB_len]; rw [bodyB_len] at h; omega
theorem encA_lenE (g : List GN) (h : (bodyB g).length ≤ 3000000) : (encA g).length ≤ 3000010 := encA_len h
theorem gnodes_nn {words : List Str} (h : goodL words = 0) : gnodes words ≠ [] := by
  intro e
  have := (gnodes_len h).1
  rw [e] at this; simp at this
theorem encA_img {words : List Str} (h : goodL words = 0) : encA (gnodes words) = imgM words := by
  unfold imgM; rw [if_pos h, encA_yes (gnodes_nn h)]
theorem errA_img {words : List Str} (h : goodL words = 0) : errA (gnodes words) = goodL words := by
  rw [h]; exact (errA_yes (gnodes_nn h)).symm
theorem imgM_len (words : List Str) : (imgM words).length ≤ 3000010 := by
  unfold imgM
  split
  · rename_i h
    rw [← encA_yes (gnodes_nn h)]; exact encA_len (body_len h)
  · simp
theorem enc_img {words : List Str} (h : goodL words = 0) : encB_ (gnodes words) = imgM words := by unfold imgM; rw [if_pos h]
end Go.Ml
namespace Go.Ml
open Go.Ik
def SOk (l : List Str) : Prop := ∀ s ∈ l, s.length ≤ 1000000000
theorem SOk.at {l : List Str} (h : SOk l) {k : Nat} {x : Str} (hx : l[k]? = some x) : x.length ≤ 1000000000 := h x (List.mem_of_getElem? hx)
theorem greatT_short {l : List Str} (h : greatT l = false) : SOk l := by
  intro s hs
  unfold greatT at h
  simp only [Bool.or_eq_false_iff, List.any_eq_false, decide_eq_true_eq] at h
  have := h.2 s hs
  omega
end Go.Ml
namespace Go.Ml
open Go.Ik
structure CfgS (c : Cfg) : Prop where
  words : SOk c.words
  cuts : ∀ k ∈ c.cuts, k.text.length ≤ 1000
  wl : c.words.length ≤ 80
  cl : c.cuts.length ≤ 10
theorem CfgS.of {c : Cfg} (h : greatC c = false) : CfgS c := by
  unfold greatC at h
  simp only [Bool.or_eq_false_iff, decide_eq_false_iff_not] at h
  obtain ⟨⟨h1, h2⟩, h3⟩ := h
  refine ⟨greatT_short h3, fun k hk => ?_, greatT_len h3, by omega⟩
  rw [List.any_eq_false] at h2
  have := h2 k hk
  simp only [decide_eq_true_eq] at this; omega
theorem kcmp_eq (a b : Key) : keyCmp a b = if cmpI a.len b.len ≠ 0 then cmpI a.len b.len else Lib.compareBytes a.text b.text := by
  unfold keyCmp
  simp only [orI]
  split
  · rfl
  · split
    · rfl
    · omega
theorem keyLess_iff {a b : Key} : keyLess a b = true ↔ a.len < b.len ∨ a.len = b.len ∧ Lib.compareBytes a.text b.text < 0 := by
  unfold keyLess
  rw [decide_eq_true_eq, kcmp_eq]
  unfold cmpI
  by_cases h1 : a.len < b.len
  · simp [h1]
  · by_cases h2 : a.len > b.len
    · simp [h1, h2]; omega
    · have : a.len = b.len := by omega
      simp [this]
theorem kl_yes {a b : Key} (h : a.len < b.len) : true = keyLess a b := (keyLess_iff.2 (.inl h)).symm
theorem kl_no {a b : Key} (h1 : ¬ a.len < b.len) (h2 : ¬ a.len = b.len) : false = keyLess a b := by
  cases h : keyLess a b with
  | false => rfl
  | true => rw [keyLess_iff] at h; rcases h with h | h; exact absurd h h1; exact absurd h.1 h2
theorem kl_dec {a b : Key} {c : Bool} (h2 : a.len = b.len) (h : c = decide (Lib.compareBytes a.text b.text < 0)) : c = keyLess a b := by
  cases h' : keyLess a b with
  | true =>
    rw [keyLess_iff] at h'
    rcases h' with h' | h'
    · omega
    · rw [h]; exact decide_eq_true h'.2
  | false =>
    rw [h]
    refine decide_eq_false fun hx => ?_
    have := keyLess_iff.2 (.inr ⟨h2, hx⟩)
    rw [h'] at this; cases this
theorem of_yes {cuts : List Key} {w : Str} {j n : Nat} (hw : word w = true) (h : n = ((cuts.take j).filter fun c => !keyLess ⟨lenT w, w⟩ c).length) (hj : cuts.length ≤ j) : (n : Int) = ofM cuts w := by
  rw [List.take_of_length_le hj] at h
  unfold ofM; rw [if_pos hw, h]; rfl
theorem of_no {cuts : List Key} {w : Str} (hw : word w = false) : (-1 : Int) = ofM cuts w := by unfold ofM; rw [hw]; rfl
theorem of_rng (cuts : List Key) (w : Str) : -1 ≤ ofM cuts w ∧ ofM cuts w ≤ cuts.length := by
  unfold ofM belowN
  split
  · have := List.length_filter_le (fun c => !keyLess ⟨lenT w, w⟩ c) cuts; omega
  · omega
theorem of_pos {cuts : List Key} {w : Str} (hw : word w = true) : 0 ≤ ofM cuts w := by unfold ofM; rw [if_pos hw]; omega
theorem sl_yes {cuts : List Key} {shard : Int} {w : Str} (hw : word w = true) (h : ofM cuts w = shard) : slP cuts shard w = true := slP_yes (of_pos hw) h
theorem sl_no1 {cuts : List Key} {shard : Int} {w : Str} (hw : word w = false) : slP cuts shard w = false := slP_no1 (by unfold ofM; rw [hw]; simp)
theorem slice_len (cuts : List Key) (words : List Str) (shard : Int) : (sliceM cuts words shard).length ≤ words.length := List.length_filter_le _ _
theorem slice_ok {cuts : List Key} {words : List Str} {shard : Int} (h : SOk words) : SOk (sliceM cuts words shard) := fun s hs => h s (List.mem_filter.1 hs).1
theorem slice_lok {cuts : List Key} {words : List Str} {shard : Int} (h : LOk words) : LOk (sliceM cuts words shard) := fun s hs => h s (List.mem_filter.1 hs).1
theorem cop_1 {c : Cfg} {shard : Int} {j : Nat} {l : List Int} (hi : l = (List.range j).map (fun j : Nat => 1 + (shard + (j : Int)) % c.workers)) (h1 : ¬ (j : Int) < c.copies) (h2 : j ≤ c.copies.toNat) (hin : j = 0 ∨ within shard 0 ((shards c : Int) - 1) = true) : l = copiesM c shard := by
  by_cases hw : within shard 0 ((shards c : Int) - 1) = true
  · exact copies_yes hw hi (by omega)
  · have hj : j = 0 := hin.resolve_right hw
    subst hj
    rw [hi]
    exact copies_no (by simpa using hw)
theorem cop_2 {c : Cfg} {shard : Int} {j : Nat} {l : List Int} (hi : l = (List.range j).map (fun j : Nat => 1 + (shard + (j : Int)) % c.workers)) (h1 : shard < 0 ∨ (shards c : Int) ≤ shard) (hin : j = 0 ∨ within shard 0 ((shards c : Int) - 1) = true) : l = copiesM c shard := by
  have hw : within shard 0 ((shards c : Int) - 1) = false := by
    unfold within
    rcases h1 with h1 | h1
    · rw [decide_eq_false (by omega)]; rfl
    · rw [decide_eq_false (p := shard ≤ _) (by omega), Bool.and_false]
  have hj : j = 0 := hin.resolve_right (by rw [hw]; simp)
  subst hj
  rw [hi]
  exact copies_no hw
theorem within_yes {shard : Int} {c : Cfg} (h0 : 0 ≤ shard) (h1 : shard < (shards c : Int)) : within shard 0 ((shards c : Int) - 1) = true := by
  unfold within; rw [decide_eq_true h0, decide_eq_true (by omega)]; rfl
theorem copies_inj {W s : Int} {i j : Nat} (hW : (i : Int) < W) (hj : (j : Int) < W) (h : (s + (i : Int)) % W = (s + (j : Int)) % W) : i = j := by
  have h1 := Int.emod_add_mul_ediv (s + (i : Int)) W
  have h2 := Int.emod_add_mul_ediv (s + (j : Int)) W
  rw [h] at h1
  have h3 : W * ((s + i) / W - (s + j) / W) = (i : Int) - j := by rw [Int.mul_sub]; omega
  by_cases hq : (s + (i : Int)) / W - (s + (j : Int)) / W = 0
  · rw [hq] at h3; omega
  · exfalso
    rcases Int.lt_or_gt_of_ne hq with h4 | h4
    · have : W * ((s + i) / W - (s + j) / W) ≤ W * (-1) := Int.mul_le_mul_of_nonneg_left (by omega) (by omega)
      omega
    · have : W * 1 ≤ W * ((s + i) / W - (s + j) / W) := Int.mul_le_mul_of_nonneg_left (by omega) (by omega)
      omega
theorem copies_count (c : Cfg) (shard : Int) (x : Int) : (copiesM c shard).count x = if (copiesM c shard).contains x = true then 1 else 0 := by
  have hn : (copiesM c shard).Nodup := by
    unfold copiesM
    split
    · rename_i hw
      have hs := within_true hw
      have hm := may_bounds (may_of_shards (c := c) (by omega))
      rw [List.Nodup, List.pairwise_map]
      refine List.Pairwise.imp_of_mem (R := fun a b => a ≠ b) (fun {a b} ha hb hab e => ?_) (List.nodup_range (n := c.copies.toNat))
      have h1 := List.mem_range.1 ha
      have h2 := List.mem_range.1 hb
      exact hab (copies_inj (W := c.workers) (s := shard) (by omega) (by omega) (by omega))
    · simp
  by_cases h : x ∈ copiesM c shard
  · rw [if_pos (by simpa using h)]
    have h1 := List.nodup_iff_count.1 hn x
    have h2 := List.count_pos_iff.2 h
    omega
  · rw [if_neg (by simpa using h)]
    exact List.count_eq_zero.2 h
/-- the document's Keeps, place by place -/
theorem kp_next {c : Cfg} {worker : Int} {k j : Nat} {l l2 : List Int} (h : l = ((List.range k).filter (fun s : Nat => (copiesM c (s : Int)).contains worker)).map (fun s : Nat => (s : Int))) (h2 : l2 = l ++ List.replicate (((copiesM c (k : Int)).take j).count worker) (k : Int)) (hj : (copiesM c (k : Int)).length ≤ j) :
    l2 = ((List.range (k + 1)).filter (fun s : Nat => (copiesM c (s : Int)).contains worker)).map (fun s : Nat => (s : Int)) := by
  rw [List.take_of_length_le hj, copies_count] at h2
  rw [h2, List.range_succ, List.filter_append, List.map_append, ← h]
  congr 1
  by_cases hc : (copiesM c (k : Int)).contains worker = true
  · rw [if_pos hc, List.filter_cons_of_pos (p := fun s : Nat => (copiesM c (s : Int)).contains worker) hc]; rfl
  · rw [if_neg hc, List.filter_cons_of_neg (p := fun s : Nat => (copiesM c (s : Int)).contains worker) hc]; rfl
theorem kp_yes {l l2 w : List Int} {worker x k : Int} {j : Nat} (h2 : l2 = l ++ List.replicate ((w.take j).count worker) k) (hx : w[j]? = some x) (he : x = worker) : l2 ++ [k] = l ++ List.replicate ((w.take (j + 1)).count worker) k := by
  rw [h2, List.take_add_one, hx, List.count_append, he]
  simp [List.replicate_succ']
theorem kp_no {l l2 w : List Int} {worker x k : Int} {j : Nat} (h2 : l2 = l ++ List.replicate ((w.take j).count worker) k) (hx : w[j]? = some x) (he : ¬ x = worker) : l2 = l ++ List.replicate ((w.take (j + 1)).count worker) k := by
  rw [h2, List.take_add_one, hx, List.count_append]
  simp [he]
def wordsR (c : Cfg) (shard : Int) : List Str := if 0 ≤ shard ∧ shard < (shards c : Int) then sliceM c.cuts c.words shard else []
theorem wordsR_no {c : Cfg} {shard : Int} (h : shard < 0 ∨ (shards c : Int) ≤ shard) : [] = wordsR c shard := by unfold wordsR; rw [if_neg (by omega)]
theorem wordsR_yes {c : Cfg} {shard : Int} (h : 0 ≤ shard) (h2 : shard < (shards c : Int)) : sliceM c.cuts c.words shard = wordsR c shard := by unfold wordsR; rw [if_pos ⟨h, h2⟩]
def imgC (c : Cfg) (shard : Int) : List UInt8 := if 0 ≤ shard ∧ shard < (shards c : Int) then imgM (sliceM c.cuts c.words shard) else []
def errC (c : Cfg) (shard : Int) : Int := if 0 ≤ shard ∧ shard < (shards c : Int) then goodL (sliceM c.cuts c.words shard) else 4
theorem imgC_no {c : Cfg} {shard : Int} (h : shard < 0 ∨ (shards c : Int) ≤ shard) : ([] : List UInt8) = imgC c shard ∧ (4 : Int) = errC c shard := by unfold imgC errC; rw [if_neg (by omega), if_neg (by omega)]; exact ⟨rfl, rfl⟩
theorem imgC_yes {c : Cfg} {shard : Int} (h : 0 ≤ shard) (h2 : shard < (shards c : Int)) : imgM (sliceM c.cuts c.words shard) = imgC c shard ∧ goodL (sliceM c.cuts c.words shard) = errC c shard := by unfold imgC errC; rw [if_pos ⟨h, h2⟩, if_pos ⟨h, h2⟩]; exact ⟨rfl, rfl⟩
theorem imgC_len (c : Cfg) (shard : Int) : (imgC c shard).length ≤ 3000010 := by
  unfold imgC; split
  · exact imgM_len _
  · simp
theorem copies_len (c : Cfg) (shard : Int) : (copiesM c shard).length ≤ 3 := by
  unfold copiesM
  split
  · rename_i hw
    have hs := within_true hw
    have hm := may_bounds (may_of_shards (c := c) (by omega))
    simp; omega
  · simp
theorem keeps_len (c : Cfg) (worker : Int) : (keepsM c worker).length ≤ 6 := by
  unfold keepsM
  rw [List.length_map]
  have h1 := List.length_filter_le (fun s : Nat => (copiesM c (s : Int)).contains worker) (List.range (shards c))
  have h2 := shards_le c
  rw [List.length_range] at h1; omega
end Go.Ml
theorem Go.Ml.wordsR_len (c : Go.Ml.Cfg) (shard : Int) : (Go.Ml.wordsR c shard).length ≤ c.words.length := by
  unfold Go.Ml.wordsR; split
  · exact Go.Ml.slice_len _ _ _
  · simp
theorem Go.Ml.errC_rng (c : Go.Ml.Cfg) (shard : Int) : 0 ≤ Go.Ml.errC c shard ∧ Go.Ml.errC c shard ≤ 100 := by
  unfold Go.Ml.errC; split
  · have := Go.Ml.goodL_range (Go.Ml.sliceM c.cuts c.words shard); omega
  · omega
namespace Go.Ml
open Go.Ik
theorem encR_le (r : Int) : (encR r).length ≤ 4 := by
  unfold encR Utf8.encode
  simp only
  repeat' split
  all_goals first | (simp; done) | (simp only [ByteArray.data_mk, List.toArray_toList]; decide) | rfl | decide | simp
end Go.Ml
namespace Go.Ml
open Go.Ik
def turnX (x : Int) : UInt8 := byN (1 + (IntKind.u64.wrap x) % 255)
def turnAt (b : List UInt8) (at_ : Int) : Nat := (lowM at_ (b.length : Int)).toNat
def turnB (b : List UInt8) (at_ x : Int) : List UInt8 := match b[turnAt b at_]? with
  | none => b
  | some y => b.set (turnAt b at_) (y ^^^ turnX x)
theorem turnAt_lt {b : List UInt8} (h : 1 ≤ b.length) (at_ : Int) : turnAt b at_ < b.length := by
  unfold turnAt lowM
  have h2 := Int.emod_nonneg (IntKind.u64.wrap at_) (by omega : (b.length : Int) ≠ 0)
  have h3 := Int.emod_lt_of_pos (IntKind.u64.wrap at_) (by omega : (0 : Int) < (b.length : Int))
  omega
theorem turnB_yes {b : List UInt8} {at_ x : Int} {y : UInt8} (h : b[turnAt b at_]? = some y) : turnB b at_ x = b.set (turnAt b at_) (y ^^^ turnX x) := by unfold turnB; rw [h]
theorem turnB_len (b : List UInt8) (at_ x : Int) : (turnB b at_ x).length = b.length := by
  unfold turnB; split
  · rfl
  · rw [List.length_set]
theorem img_len {words : List Str} (h : goodL words = 0) : 10 ≤ (imgM words).length := by
  rw [← enc_img h, encB_len]; omega
end Go.Ml
namespace Go.Ml
open Go.Ik
abbrev RP := Bool × List (Int × Int)
/-- an edge after the other: each has to tell a word at least -/
def eachP (g : List Str → Int × Int → List Str × Bool) : List Str → List (Int × Int) → List Str × Bool
  | out, [] => (out, true)
  | out, e :: es => if e.1 > 1114111 then (out, false) else if (g out e).2 = false ∨ (g out e).1.length = out.length then ((g out e).1, false) else eachP g (g out e).1 es
/-- the words that nodes tell, as the document reads them -/
def wordsP (N : List RP) : Nat → Int → Int → Str → List Str → List Str × Bool
  | 0, _, _, _, out => (out, false)
  | f + 1, n, d, a, out => if n < 0 ∨ n ≥ N.length ∨ d > 12 ∨ out.length > 60 then (out, false) else match N[n.toNat]? with
    | none => (out, false)
    | some x => eachP (fun out e => wordsP N f e.2 (d + 1) (a ++ encR e.1) out) (if x.1 = true then out ++ [a] else out) x.2
theorem eachP_short {g : List Str → Int × Int → List Str × Bool} (h : ∀ out e, (∀ t ∈ out, t.length ≤ 1000) → ∀ t ∈ (g out e).1, t.length ≤ 1000) : ∀ (es : List (Int × Int)) (out : List Str), (∀ t ∈ out, t.length ≤ 1000) → ∀ t ∈ (eachP g out es).1, t.length ≤ 1000
  | [], out, ho => ho
  | e :: es, out, ho => by
    unfold eachP
    split
    · exact ho
    · split
      · exact h out e ho
      · exact eachP_short h es _ (h out e ho)
theorem wordsP_short (N : List RP) : ∀ (f : Nat) (n d : Int) (a : Str) (out : List Str), (a.length : Int) ≤ 4 * d → (∀ t ∈ out, t.length ≤ 1000) → ∀ t ∈ (wordsP N f n d a out).1, t.length ≤ 1000
  | 0, _, _, _, out, _, h => h
  | f + 1, n, d, a, out, ha, h => by
    unfold wordsP
    split
    · exact h
    · rename_i hn
      split
      · exact h
      · refine eachP_short (fun out e h => wordsP_short N f _ _ _ out (by have := encR_le e.1; simp only [List.length_append]; omega) h) _ _ ?_
        have : ¬ d > 12 := fun k => hn (.inr (.inr (.inl k)))
        split
        · intro t ht
          rcases List.mem_append.1 ht with ht | ht
          · exact h t ht
          · simp only [List.mem_singleton] at ht; subst ht; omega
        · exact h
end Go.Ml
namespace Go.Ml
open Go.Ik
theorem sorted_goodL {l : List Str} (hs : Sorted l) (hw : ∀ w ∈ l, word w = true) (hl : l.length ≤ 60) : goodL l = 0 := by
  unfold goodL
  rw [if_neg (by omega), if_pos (List.all_eq_true.2 hw), if_pos (sorted_rising hs)]
end Go.Ml
namespace Go.Ml
open Go.Ik
theorem slice_good {cuts : List Key} {words : List Str} (h : goodL words = 0) (shard : Int) : goodL (sliceM cuts words shard) = 0 := by
  obtain ⟨h1, h2, h3⟩ := good_words h
  refine sorted_goodL (List.Pairwise.filter _ h3) (fun w hw => h2 w (List.mem_filter.1 hw).1) ?_
  have := List.length_filter_le (slP cuts shard) words
  unfold sliceM; omega
theorem may_good {c : Cfg} (h : may c = true) : goodL c.words = 0 := by
  unfold may at h
  simp only [Bool.and_eq_true, beq_iff_eq] at h
  exact h.1.1
theorem shard_good {c : Cfg} (h : may c = true) (s : Int) : goodL (wordsM c s) = 0 := slice_good (may_good h) s
theorem shard_img {c : Cfg} (h : may c = true) {s : Int} (h0 : 0 ≤ s) (h1 : s < (shards c : Int)) : imgC c s = imgM (wordsM c s) ∧ errC c s = 0 := by
  obtain ⟨h2, h3⟩ := imgC_yes (c := c) h0 h1
  exact ⟨h2.symm, h3.symm.trans (shard_good h s)⟩
end Go.Ml
namespace Go.Ik
open Go
section
variable {R U : Nat → Prop} {w : World}
theorem fm_mid {α : Type} : ∀ (A C B : List α), (List.range' C.length A.length).filterMap (fun i => (C ++ A ++ B)[i]?) = A
  | [], C, B => rfl
  | a :: A, C, B => by
    have := fm_mid A (C ++ [a]) B
    rw [List.length_cons, List.range'_succ, List.filterMap_cons]
    have h1 : (C ++ a :: A ++ B)[C.length]? = some a := by simp
    rw [h1]
    simp only
    rw [List.length_append, List.length_cons, List.length_nil] at this
    rw [show C ++ a :: A ++ B = C ++ [a] ++ A ++ B from by simp, this]
theorem Sep.rot {A B : List (Res R)} (h : Sep (A ++ B) U w) : Sep (B ++ A) U w := by
  have := h.sel (List.range' A.length B.length ++ List.range' 0 A.length) (by
    rw [List.all_eq_true]
    intro i hi
    rw [List.mem_append, List.mem_range'_1, List.mem_range'_1] at hi
    rw [List.length_append]
    exact decide_eq_true (by omega)) (by
    rw [List.nodup_append]
    refine ⟨List.nodup_range', List.nodup_range', fun a ha b hb => ?_⟩
    rw [List.mem_range'_1] at ha hb
    omega)
  rw [List.filterMap_append] at this
  have h1 := fm_mid B A []
  have h2 := fm_mid A [] B
  rw [List.append_nil] at h1
  rw [List.length_nil, List.nil_append] at h2
  rw [h1, h2] at this
  exact this
theorem Sep.mid {A B : List (Res R)} {x : Res R} (h : Sep (A ++ x :: B) U w) : Sep [boxR A, x, boxR B] U w := by
  have h1 : Sep ((A ++ [x]) ++ B) U w := by simpa using h
  have h2 : Sep (A ++ [x, boxR B]) U w := by simpa using h1.close
  have h3 := (h2.rot).close (L1 := [x, boxR B]) (L2 := A)
  exact h3.sel [2, 0, 1] rfl (by decide)
theorem Sep.mid_back {A B : List (Res R)} {x : Res R} (h : Sep [boxR A, x, boxR B] U w) : Sep (A ++ x :: B) U w := by
  have h1 : Sep ([x, boxR B] ++ [boxR A]) U w := h.sel [1, 2, 0] rfl (by decide)
  have h2 := (h1.open).rot
  have h3 : Sep ((A ++ [x]) ++ [boxR B]) U w := by simpa using h2
  have h4 := h3.open
  simpa using h4
def ptrV (b : Nat) : Value := ptr b 0
/-- an image: its shard, its block, as it should be, as it is -/
structure DI where
  shard : Int
  ptr : Nat
  good : List UInt8
  now : List UInt8
def imR (eI u8 : TypeId) (x : DI) : Res R := exR fun vs : Value × Value => boxR [bkR x.ptr [vs.1, vs.2] eI, accR encB u8 1 vs.1 x.good, accR encB u8 1 vs.2 x.now]
/-- all images but one, and that one -/
theorem ims_out {eI u8 : TypeId} {D : List DI} {k : Nat} {x : DI} (hx : D[k]? = some x) : ∀ F : Nat → Prop, (boxR (R := R) (D.map (imR eI u8))).p F w → (boxR (R := R) [boxR ((D.take k).map (imR eI u8)), imR eI u8 x, boxR ((D.drop (k + 1)).map (imR eI u8))]).p F w := by
  intro F h
  have hk := (List.getElem?_eq_some_iff.1 hx).1
  have e : D = D.take k ++ x :: D.drop (k + 1) := by
    have := (List.getElem?_eq_some_iff.1 hx).2
    rw [← this]; simp
  rw [e] at h
  rw [List.map_append, List.map_cons] at h
  exact Sep.mid h
theorem ims_in {eI u8 : TypeId} {D : List DI} {k : Nat} {x y : DI} (hx : D[k]? = some x) : ∀ F : Nat → Prop, (boxR (R := R) [boxR ((D.take k).map (imR eI u8)), imR eI u8 y, boxR ((D.drop (k + 1)).map (imR eI u8))]).p F w → (boxR (R := R) ((D.set k y).map (imR eI u8))).p F w := by
  intro F h
  have hk := (List.getElem?_eq_some_iff.1 hx).1
  have e : D.set k y = D.take k ++ y :: D.drop (k + 1) := by rw [List.set_eq_take_append_cons_drop, if_pos hk]
  rw [e, List.map_append, List.map_cons]
  exact Sep.mid_back h
/-- a disk -/
def dkR (eD eI u8 : TypeId) (bd : Nat) (life : Int) (D : List DI) : Res R := exR fun bm : Nat => boxR [bkR bd [.map (some bm), .int .i64 life] eD, mapR intV ptrV bm (D.map fun x => (x.shard, x.ptr)), boxR (D.map (imR eI u8))]
end
end Go.Ik
namespace Go.Ml
open Go.Ik
/-- shard, right, as it is -/
abbrev DE := Int × List UInt8 × List UInt8
def dkGet (D : List DE) (s : Int) : Option DE := D.find? fun x => decide (x.1 = s)
def dkErr (D : List DE) (s : Int) : Int := match dkGet D s with | none => 4 | some _ => 0
def dkRead (D : List DE) (s : Int) : List UInt8 := match dkGet D s with | none => [] | some x => x.2.2
def dkRotten (D : List DE) (s : Int) : Bool := match dkGet D s with | none => false | some x => decide (x.2.2 ≠ x.2.1)
def dkPut (D : List DE) (s : Int) (f : List UInt8 → List UInt8) : List DE := D.map fun x => if x.1 = s then (x.1, x.2.1, f x.2.1) else x
def dkRot (D : List DE) (s at_ x : Int) : List DE := dkPut D s fun b => turnB b at_ x
def dkMend (D : List DE) (s : Int) : List DE := dkPut D s id
def DkOk (D : List DE) : Prop := (D.map (·.1)).Nodup ∧ ∀ x ∈ D, 1 ≤ x.2.1.length ∧ x.2.1.length ≤ 4000000 ∧ x.2.2.length = x.2.1.length
theorem dkPut_keys (D : List DE) (s : Int) (f : List UInt8 → List UInt8) : (dkPut D s f).map (·.1) = D.map (·.1) := by
  unfold dkPut
  rw [List.map_map]
  apply List.map_congr_left
  intro x _
  simp only [Function.comp]
  split <;> rfl
theorem DkOk.put {D : List DE} (h : DkOk D) (s : Int) {f : List UInt8 → List UInt8} (hf : ∀ b, (f b).length = b.length) : DkOk (dkPut D s f) := by
  refine ⟨by rw [dkPut_keys]; exact h.1, fun x hx => ?_⟩
  unfold dkPut at hx
  obtain ⟨y, hy, rfl⟩ := List.mem_map.1 hx
  have := h.2 y hy
  split
  · exact ⟨this.1, this.2.1, hf _⟩
  · exact this
theorem DkOk.rot {D : List DE} (h : DkOk D) (s at_ x : Int) : DkOk (dkRot D s at_ x) := h.put s fun b => turnB_len b at_ x
theorem DkOk.mend {D : List DE} (h : DkOk D) (s : Int) : DkOk (dkMend D s) := h.put s fun _ => rfl
theorem dkGet_key {D : List DE} {s : Int} {x : DE} (h : dkGet D s = some x) : x.1 = s ∧ x ∈ D := by
  unfold dkGet at h
  have h2 := List.find?_some h
  exact ⟨of_decide_eq_true h2, List.mem_of_find?_eq_some h⟩
/-- where an entry stands -/
theorem dkGet_at {D : List DE} {s : Int} {x : DE} (h : dkGet D s = some x) : ∃ k, D[k]? = some x ∧ x.1 = s ∧ ∀ (j : Nat) (y : DE), j < k → D[j]? = some y → y.1 ≠ s := by
  unfold dkGet at h
  induction D with
  | nil => cases h
  | cons y D ih =>
    rw [List.find?_cons] at h
    by_cases hy : y.1 = s
    · rw [decide_eq_true hy] at h
      simp only [Option.some.injEq] at h
      subst h
      exact ⟨0, rfl, hy, fun j y hj => absurd hj (Nat.not_lt_zero _)⟩
    · rw [decide_eq_false hy] at h
      obtain ⟨k, h1, h2, h3⟩ := ih h
      refine ⟨k + 1, h1, h2, fun j z hj hz => ?_⟩
      cases j with
      | zero => simp only [List.getElem?_cons_zero, Option.some.injEq] at hz; subst hz; exact hy
      | succ j => exact h3 j z (by omega) (by simpa using hz)
/-- where keys are all other ones, putting is setting -/
theorem dkPut_at {D : List DE} {s : Int} {x : DE} {k : Nat} {f : List UInt8 → List UInt8} (hn : (D.map (·.1)).Nodup) (hx : D[k]? = some x) (hs : x.1 = s) : dkPut D s f = D.set k (x.1, x.2.1, f x.2.1) := by
  unfold dkPut
  apply List.ext_getElem?
  intro j
  rw [List.getElem?_map, List.getElem?_set]
  have hk := (List.getElem?_eq_some_iff.1 hx).1
  by_cases hj : k = j
  · subst hj
    rw [hx, if_pos rfl, if_pos hk]
    simp [hs]
  · rw [if_neg hj]
    cases hy : D[j]? with
    | none => rfl
    | some y =>
      simp only [Option.map_some, Option.some.injEq]
      rw [if_neg]
      intro e
      have h1 : (D.map (·.1))[k]? = some s := by rw [List.getElem?_map, hx, ← hs]; rfl
      have h2 : (D.map (·.1))[j]? = some s := by rw [List.getElem?_map, hy, ← e]; rfl
      exact hj ((List.getElem?_inj (by rw [List.length_map]; exact hk) hn).1 (h1.trans h2.symm))
theorem dkPut_no {D : List DE} {s : Int} {f : List UInt8 → List UInt8} (h : dkGet D s = none) : dkPut D s f = D := by
  unfold dkPut
  conv => rhs; rw [← List.map_id D]
  apply List.map_congr_left
  intro x hx
  unfold dkGet at h
  have := List.find?_eq_none.1 h x hx
  rw [if_neg (by simpa using this)]
  rfl
def deI (x : DI) : DE := (x.shard, x.good, x.now)
theorem asc_ims (D : List DI) (s : Int) : asc (D.map fun x => (x.shard, x.ptr)) s = (D.find? fun x => decide (x.shard = s)).map (·.ptr) := by
  unfold asc
  rw [List.find?_map, Option.map_map]
  rfl
theorem dkGet_ims (D : List DI) (s : Int) : dkGet (D.map deI) s = (D.find? fun x => decide (x.shard = s)).map deI := by
  unfold dkGet
  rw [List.find?_map]
  rfl
theorem ims_hit {D : List DI} {s : Int} {x : DE} (h : dkGet (D.map deI) s = some x) : ∃ (k : Nat) (y : DI), D[k]? = some y ∧ deI y = x ∧ y.shard = s ∧ asc (D.map fun x => (x.shard, x.ptr)) s = some y.ptr := by
  rw [dkGet_ims] at h
  cases hf : D.find? fun x => decide (x.shard = s) with
  | none => rw [hf] at h; cases h
  | some y =>
    rw [hf] at h
    obtain ⟨k, hk⟩ := List.mem_iff_getElem?.1 (List.mem_of_find?_eq_some hf)
    have h2 := List.find?_some hf
    exact ⟨k, y, hk, by simpa using h, of_decide_eq_true h2, by rw [asc_ims, hf]; rfl⟩
theorem ims_miss {D : List DI} {s : Int} (h : dkGet (D.map deI) s = none) : asc (D.map fun x => (x.shard, x.ptr)) s = none := by
  rw [dkGet_ims] at h
  cases hf : D.find? fun x => decide (x.shard = s) with
  | none => rw [asc_ims, hf]; rfl
  | some y => rw [hf] at h; cases h
theorem ims_set {D : List DI} {k : Nat} {y : DI} {s : Int} {f : List UInt8 → List UInt8} (hn : DkOk (D.map deI)) (hk : D[k]? = some y) (hs : y.shard = s) : (D.set k { y with now := f y.good }).map deI = dkPut (D.map deI) s f := by
  rw [dkPut_at (x := deI y) hn.1 (by rw [List.getElem?_map, hk]; rfl) hs, List.map_set]
  rfl
theorem ims_keys {D : List DI} {k : Nat} {y : DI} {b : List UInt8} (hk : D[k]? = some y) : ((D.set k { y with now := b }).map fun x => (x.shard, x.ptr)) = D.map fun x => (x.shard, x.ptr) := by
  rw [List.map_set]
  apply List.ext_getElem?
  intro j
  rw [List.getElem?_set]
  split
  · rename_i h
    subst h
    split
    · rw [List.getElem?_map, hk]; rfl
    · rw [List.getElem?_eq_none (by omega)]
  · rfl
def mayD (c : Cfg) (w : Int) : Bool := may c && (decide (1 ≤ w) && decide (w ≤ c.workers))
theorem mayD_yes {c : Cfg} {w : Int} (h1 : may c = true) (h2 : 1 ≤ w) (h3 : w ≤ c.workers) : mayD c w = true := by unfold mayD; rw [h1, decide_eq_true h2, decide_eq_true h3]; rfl
theorem mayD_no {c : Cfg} {w : Int} (h : may c = false ∨ w < 1 ∨ c.workers < w) : mayD c w = false := by
  unfold mayD
  rcases h with h | h | h
  · rw [h]; rfl
  · rw [decide_eq_false (by omega : ¬ 1 ≤ w)]; simp
  · rw [decide_eq_false (by omega : ¬ w ≤ c.workers)]; simp
theorem mayD_may {c : Cfg} {w : Int} (h : mayD c w = true) : may c = true ∧ 1 ≤ w ∧ w ≤ c.workers := by
  unfold mayD at h
  simp only [Bool.and_eq_true, decide_eq_true_eq] at h
  exact ⟨h.1, h.2.1, h.2.2⟩
/-- the disk of a worker -/
def dkNew (c : Cfg) (w : Int) : List DE := (keepsM c w).map fun s => (s, imgC c s, imgC c s)
def dkE (c : Cfg) (s : Int) : DE := (s, imgC c s, imgC c s)
theorem dkNew_eq (c : Cfg) (w : Int) : dkNew c w = (keepsM c w).map (dkE c) := rfl
theorem keeps_nodup (c : Cfg) (w : Int) : (keepsM c w).Nodup := by
  unfold keepsM
  refine List.Pairwise.map _ (fun a b h => ?_) ((List.nodup_range (n := shards c)).filter _)
  omega
theorem dkE_step {c : Cfg} {l : List Int} {k : Nat} {x : Int} (hx : l[k]? = some x) : (l.take k).map (dkE c) ++ [(x, imgC c x, imgC c x)] = (l.take (k + 1)).map (dkE c) := by
  rw [List.take_add_one, hx, List.map_append]; rfl
theorem dkE_fresh {c : Cfg} {l : List Int} (hn : l.Nodup) {k : Nat} {x : Int} (hx : l[k]? = some x) {D : List DI} (hD : D.map deI = (l.take k).map (dkE c)) : ∀ y ∈ D, y.shard ≠ x := by
  intro y hy e
  have h1 : deI y ∈ (l.take k).map (dkE c) := hD ▸ List.mem_map_of_mem hy
  obtain ⟨z, hz, hz2⟩ := List.mem_map.1 h1
  have hzx : z = x := (congrArg Prod.fst hz2).trans e
  obtain ⟨j, hj⟩ := List.mem_iff_getElem?.1 hz
  rw [List.getElem?_take] at hj
  split at hj
  · rename_i hjk
    rw [hzx] at hj
    have := (List.getElem?_inj (List.getElem?_eq_some_iff.1 hj).1 hn).1 (hj.trans hx.symm)
    omega
  · cases hj
/-- each shard that is kept has an image of good words -/
theorem keeps_range {c : Cfg} {w s : Int} (h : s ∈ keepsM c w) : 0 ≤ s ∧ s < (shards c : Int) := by
  unfold keepsM at h
  obtain ⟨k, hk, rfl⟩ := List.mem_map.1 h
  have := List.mem_range.1 (List.mem_filter.1 hk).1
  omega
theorem dkNew_ok {c : Cfg} (h : may c = true) (w : Int) : DkOk (dkNew c w) := by
  refine ⟨?_, fun x hx => ?_⟩
  · have : (dkNew c w).map (·.1) = keepsM c w := by
      rw [dkNew_eq, List.map_map]
      conv => rhs; rw [← List.map_id (keepsM c w)]
      rfl
    rw [this]; exact keeps_nodup c w
  · rw [dkNew_eq] at hx
    obtain ⟨s, hs, rfl⟩ := List.mem_map.1 hx
    obtain ⟨h1, h2⟩ := keeps_range hs
    obtain ⟨h3, _⟩ := shard_img h h1 h2
    have h4 := img_len (shard_good h s)
    have h5 := imgC_len c s
    unfold dkE
    dsimp only
    rw [h3] at h5 ⊢
    exact ⟨by omega, by omega, rfl⟩
theorem get_err {D : List DE} {s : Int} {x : DE} (h : dkGet D s = some x) : dkErr D s = 0 ∧ dkRead D s = x.2.2 ∧ dkRotten D s = decide (x.2.2 ≠ x.2.1) := by
  unfold dkErr dkRead dkRotten; rw [h]; exact ⟨rfl, rfl, rfl⟩
/-- a small configuration -/
def smallC : Cfg := ⟨[[97], [97, 98, 99], [98]], [⟨2, []⟩], 2, 1, 1, 1, 1, 1, 1, 1, 0, 8⟩
theorem smallC_may : mayD smallC 1 = true := by decide +kernel
theorem smallC_keeps : keepsM smallC 1 = [0] := by decide +kernel
def rightS : List UInt8 := imgC smallC 0
theorem rightS_len : rightS.length = 28 := by decide +kernel
/-- its only image, as it is -/
def oneD (n : List UInt8) : List DE := [(0, rightS, n)]
theorem oneD_new : dkNew smallC 1 = oneD rightS := by rw [dkNew_eq, smallC_keeps]; rfl
theorem oneD_get (n : List UInt8) : dkErr (oneD n) 0 = 0 ∧ dkRead (oneD n) 0 = n ∧ dkRotten (oneD n) 0 = decide (n ≠ rightS) := get_err (x := (0, rightS, n)) rfl
theorem oneD_ok {n : List UInt8} (h : n.length = rightS.length) : DkOk (oneD n) := by
  refine ⟨by unfold oneD; simp, fun x hx => ?_⟩
  unfold oneD at hx
  rw [List.mem_singleton] at hx
  subst hx
  have := rightS_len
  exact ⟨by dsimp only; omega, by dsimp only; omega, h⟩
end Go.Ml
namespace Go.Ik
open Go Go.Ml
structure RIm where
  shard : Int
  r : SH
  b : SH
def encIm (x : RIm) : List Value := [.int .i64 x.shard, x.r.val, x.b.val]
theorem encIm_len (x : RIm) : (encIm x).length = 3 := rfl
theorem encIm_one (x : RIm) : (encIm x).all (·.oneCell') = true := rfl
def IRel (w : World) (F : Nat → Prop) (rows : List RIm) (K : List DE) : Prop := All2 (fun r e => r.shard = e.1 ∧ Sl encB w F r.r.val e.2.1 ∧ Sl encB w F r.b.val e.2.2) rows K
theorem IRel.keep {M : Nat → Prop} {w w' : World} {F : Nat → Prop} {rows : List RIm} {K : List DE} (h : IRel w F rows K) (hm : Mod M w w') (hF : ∀ b, F b → ¬ M b) : IRel w' F rows K :=
  All2.imp (fun _ _ k => ⟨k.1, k.2.1.keep hm hF, k.2.2.keep hm hF⟩) h
theorem IRel.mono {w : World} {F F' : Nat → Prop} {rows : List RIm} {K : List DE} (h : IRel w F rows K) (hF : ∀ b, F b → F' b) : IRel w F' rows K :=
  All2.imp (fun _ _ k => ⟨k.1, k.2.1.mono hF, k.2.2.mono hF⟩) h
theorem IRel.at {w : World} {F : Nat → Prop} {rows : List RIm} {K : List DE} (h : IRel w F rows K) {i : Nat} {r : RIm} (hr : rows[i]? = some r) : ∃ e, K[i]? = some e ∧ r.shard = e.1 ∧ Sl encB w F r.r.val e.2.1 ∧ Sl encB w F r.b.val e.2.2 := by
  obtain ⟨h1, h2⟩ := All2.get h
  have hi := (List.getElem?_eq_some_iff.1 hr).1
  exact ⟨_, List.getElem?_eq_getElem (by omega), h2 i r _ hr (List.getElem?_eq_getElem (by omega))⟩
theorem All2.set {α β : Type} {Q : α → β → Prop} : ∀ {l : List α} {m : List β} (k : Nat) {a : α} {b : β}, All2 Q l m → Q a b → All2 Q (l.set k a) (m.set k b)
  | _, _, _, _, _, .nil, _ => .nil
  | _, _, 0, _, _, .cons _ h, hab => .cons hab h
  | _, _, k + 1, _, _, .cons h1 h, hab => .cons h1 (All2.set k h hab)
section
variable {R F : Nat → Prop} {w : World} {rows : List RIm} {K : List DE}
def irR {R : Nat → Prop} (rows : List RIm) (K : List DE) : Res R := ⟨fun F w => IRel w F rows K, fun h hm hF _ => h.keep hm hF⟩
theorem ir_push {e : TypeId} {x : SH} {v : Value} {s : Int} {img : List UInt8} (hv : v = x.val) (h : (boxR (R := R) [irR rows K, accR encB e 1 v img]).p F w) : (irR (R := R) (rows ++ [⟨s, x, x⟩]) (K ++ [(s, img, img)])).p F w := by
  obtain ⟨F1, F2, h1, h2, h3, h4⟩ := sep_pair h
  exact All2.app (IRel.mono h1 h3) (.cons ⟨rfl, hv ▸ (acc_sl h2).mono h4, hv ▸ (acc_sl h2).mono h4⟩ .nil)
theorem ir_set {e : TypeId} {x : SH} {v : Value} {r : RIm} {k : Nat} {img : List UInt8} (hv : v = x.val) (hr : rows[k]? = some r) {y : DE} (hy : K[k]? = some y) (h : (boxR (R := R) [irR rows K, accR encB e 1 v img]).p F w) : (irR (R := R) (rows.set k { r with b := x }) (K.set k (y.1, y.2.1, img))).p F w := by
  obtain ⟨F1, F2, h1, h2, h3, h4⟩ := sep_pair h
  obtain ⟨e', he, k1, k2, k3⟩ := IRel.at h1 hr
  obtain rfl : e' = y := Option.some.inj (he.symm.trans hy)
  exact All2.set k (IRel.mono h1 h3) ⟨k1, k2.mono h3, hv ▸ (acc_sl h2).mono h4⟩
theorem ir_mend {r : RIm} {k : Nat} (hr : rows[k]? = some r) {y : DE} (hy : K[k]? = some y) (h : (irR (R := R) rows K).p F w) : (irR (R := R) (rows.set k { r with b := r.r }) (K.set k (y.1, y.2.1, y.2.1))).p F w := by
  obtain ⟨e', he, k1, k2, k3⟩ := IRel.at h hr
  obtain rfl : e' = y := Option.some.inj (he.symm.trans hy)
  exact All2.set k h ⟨k1, k2, k2⟩
/-- the document's disk -/
def rdR {R : Nat → Prop} (eW eI : TypeId) (bw : Nat) (lives : Int) (K : List DE) : Res R := exR fun x : Value × List RIm => boxR [bkR bw [x.1, .int .i64 lives] eW, accR encIm eI 3 x.1 x.2, irR x.2 K]
/-- a disk: what it has of each shard -/
def dkK {R : Nat → Prop} (eD eI u8 : TypeId) (bd : Nat) (life : Int) (K : List DE) : Res R := exR fun D : List DI => andR (D.map deI = K) (dkR eD eI u8 bd life D)
end
end Go.Ik
namespace Go.Ik
open Go Go.Ml
section
variable {R F : Nat → Prop} {w : World}
/-- what a disk reads as -/
theorem ims_read {eI u8 : TypeId} {D : List DI} (h : (boxR (R := R) (D.map (imR eI u8))).p F w) {x : DI} (hx : x ∈ D) : ∃ vg vn, Bk w x.ptr [vg, vn] eI ∧ Sl encB w F vg x.good ∧ Sl encB w F vn x.now := by
  obtain ⟨k, hk⟩ := List.mem_iff_getElem?.1 hx
  obtain ⟨Fs, h1, h2, _⟩ := h
  obtain ⟨⟨vg, vn⟩, hb⟩ := h1 k (imR eI u8 x) (by rw [List.getElem?_map, hk]; rfl)
  obtain ⟨Gs, g1, g2, _⟩ := hb
  have q1 := g1 0 _ rfl
  have q2 := g1 1 _ rfl
  have q3 := g1 2 _ rfl
  refine ⟨vg, vn, q1.1, (acc_sl q2).mono fun b hb => ?_, (acc_sl q3).mono fun b hb => ?_⟩
  · exact (h2 k b (g2 1 b hb).1.1).1.1
  · exact (h2 k b (g2 2 b hb).1.1).1.1
theorem dkK_in {eD eI u8 : TypeId} {bd : Nat} {life : Int} {K : List DE} (h : (dkK (R := R) eD eI u8 bd life K).p F w) : ∃ (D : List DI) (bm : Nat), D.map deI = K ∧ Bk w bd [.map (some bm), .int .i64 life] eD ∧ MapO intV ptrV w bm (D.map fun x => (x.shard, x.ptr)) ∧ ∀ x ∈ D, ∃ vg vn, Bk w x.ptr [vg, vn] eI ∧ Sl encB w F vg x.good ∧ Sl encB w F vn x.now := by
  obtain ⟨D, hD, bm, Fs, h1, h2, _⟩ := h
  have q1 := h1 0 _ rfl
  have q2 := h1 1 _ rfl
  have q3 := h1 2 _ rfl
  refine ⟨D, bm, hD, q1.1, q2.1, fun x hx => ?_⟩
  obtain ⟨vg, vn, k1, k2, k3⟩ := ims_read q3 hx
  exact ⟨vg, vn, k1, k2.mono fun b hb => (h2 2 b hb).1.1, k3.mono fun b hb => (h2 2 b hb).1.1⟩
/-- an image of a shard that is kept -/
theorem dk_hit {D : List DI} {K : List DE} {s : Int} {x : DE} (hD : D.map deI = K) (h : dkGet K s = some x) : ∃ (k : Nat) (y : DI), D[k]? = some y ∧ deI y = x ∧ y.shard = s ∧ asc (D.map fun x => (x.shard, x.ptr)) s = some y.ptr := by
  subst hD; exact ims_hit h
theorem dk_miss {D : List DI} {K : List DE} {s : Int} (hD : D.map deI = K) (h : dkGet K s = none) : asc (D.map fun x => (x.shard, x.ptr)) s = none := by
  subst hD; exact ims_miss h
theorem dk_no {K : List DE} {s : Int} (h : dkGet K s = none) : dkErr K s = 4 ∧ dkRead K s = [] ∧ dkRotten K s = false ∧ (∀ f, dkPut K s f = K) := by
  unfold dkErr dkRead dkRotten; rw [h]; exact ⟨rfl, rfl, rfl, fun f => dkPut_no h⟩
theorem dk_yes {K : List DE} {s : Int} {x : DE} (h : dkGet K s = some x) : dkErr K s = 0 ∧ dkRead K s = x.2.2 ∧ dkRotten K s = decide (x.2.2 ≠ x.2.1) := by
  unfold dkErr dkRead dkRotten; rw [h]; exact ⟨rfl, rfl, rfl⟩
/-- an image out of its disk, and back -/
theorem dkK_out {eD eI u8 : TypeId} {bd : Nat} {life : Int} {K : List DE} {s : Int} {x : DE} (h : (dkK (R := R) eD eI u8 bd life K).p F w) (hx : dkGet K s = some x) : ∃ (D : List DI) (k : Nat) (y : DI) (bm : Nat), D.map deI = K ∧ D[k]? = some y ∧ deI y = x ∧ y.shard = s ∧ asc (D.map fun x => (x.shard, x.ptr)) s = some y.ptr ∧
    (boxR (R := R) [bkR bd [.map (some bm), .int .i64 life] eD, mapR intV ptrV bm (D.map fun x => (x.shard, x.ptr)), boxR ((D.take k).map (imR eI u8)), imR eI u8 y, boxR ((D.drop (k + 1)).map (imR eI u8))]).p F w := by
  obtain ⟨D, hD, bm, hS⟩ := h
  obtain ⟨k, y, h1, h2, h3, h4⟩ := dk_hit hD hx
  refine ⟨D, k, y, bm, hD, h1, h2, h3, h4, ?_⟩
  obtain ⟨Fs, g1, g2, g3⟩ := hS
  have q3 := ims_out (R := R) (eI := eI) (u8 := u8) h1 (Fs 2) (g1 2 _ rfl)
  have : Sep (R := R) [bkR bd [.map (some bm), .int .i64 life] eD, mapR intV ptrV bm (D.map fun x => (x.shard, x.ptr)), boxR [boxR ((D.take k).map (imR eI u8)), imR eI u8 y, boxR ((D.drop (k + 1)).map (imR eI u8))]] F w := by
    refine ⟨Fs, fun i A hA => ?_, g2, g3⟩
    match i, hA with
    | 0, hA => exact g1 0 A hA
    | 1, hA => exact g1 1 A hA
    | 2, hA =>
      simp only [List.getElem?_cons_succ, List.getElem?_cons_zero, Option.some.injEq] at hA
      subst hA
      exact q3
    | n + 3, hA => simp at hA
  exact Sep.open (L1 := [_, _]) this
theorem dkK_back {eD eI u8 : TypeId} {bd : Nat} {life : Int} {K : List DE} {D : List DI} {k : Nat} {y : DI} {bm : Nat} {s : Int} {f : List UInt8 → List UInt8} (hD : D.map deI = K) (hK : DkOk K) (hk : D[k]? = some y) (hys : y.shard = s)
    (h : (boxR (R := R) [bkR bd [.map (some bm), .int .i64 life] eD, mapR intV ptrV bm (D.map fun x => (x.shard, x.ptr)), boxR ((D.take k).map (imR eI u8)), imR eI u8 { y with now := f y.good }, boxR ((D.drop (k + 1)).map (imR eI u8))]).p F w) : (dkK (R := R) eD eI u8 bd life (dkPut K s f)).p F w := by
  subst hD; subst hys
  refine ⟨D.set k { y with now := f y.good }, ims_set hK hk rfl, bm, ?_⟩
  have h2 : Sep ([bkR (R := R) bd [.map (some bm), .int .i64 life] eD, mapR intV ptrV bm (D.map fun x => (x.shard, x.ptr))] ++ [boxR ((D.take k).map (imR eI u8)), imR eI u8 { y with now := f y.good }, boxR ((D.drop (k + 1)).map (imR eI u8))]) F w := h
  have h3 := h2.close
  obtain ⟨Fs, g1, g2, g3⟩ := h3
  refine ⟨Fs, fun i A hA => ?_, g2, g3⟩
  match i, hA with
  | 0, hA => exact g1 0 A hA
  | 1, hA =>
    rw [ims_keys hk] at hA
    exact g1 1 A hA
  | 2, hA =>
    simp only [List.getElem?_cons_succ, List.getElem?_cons_zero, Option.some.injEq] at hA
    subst hA
    exact ims_in (R := R) (eI := eI) (u8 := u8) hk (Fs 2) (g1 2 _ rfl)
  | n + 3, hA => simp at hA
theorem dkK_op {eD eI u8 : TypeId} {bd : Nat} {life : Int} {K : List DE} (h : (dkK (R := R) eD eI u8 bd life K).p F w) : ∃ (D : List DI) (bm : Nat), D.map deI = K ∧ (boxR (R := R) [bkR bd [.map (some bm), .int .i64 life] eD, mapR intV ptrV bm (D.map fun x => (x.shard, x.ptr)), boxR (D.map (imR eI u8))]).p F w := by
  obtain ⟨D, hD, bm, hS⟩ := h
  exact ⟨D, bm, hD, hS⟩
theorem dkK_cl {eD eI u8 : TypeId} {bd : Nat} {life : Int} {K : List DE} {D : List DI} {bm : Nat} (hD : D.map deI = K) (h : (boxR (R := R) [bkR bd [.map (some bm), .int .i64 life] eD, mapR intV ptrV bm (D.map fun x => (x.shard, x.ptr)), boxR (D.map (imR eI u8))]).p F w) : (dkK (R := R) eD eI u8 bd life K).p F w := ⟨D, hD, bm, h⟩
theorem dkK_push {eD eI u8 : TypeId} {bd : Nat} {life : Int} {K : List DE} {D : List DI} {bm : Nat} {y : DI} {s : Int} {img : List UInt8} (hD : D.map deI = K) (hy : deI y = (s, img, img))
    (h : (boxR (R := R) [bkR bd [.map (some bm), .int .i64 life] eD, mapR intV ptrV bm ((D.map fun x => (x.shard, x.ptr)) ++ [(s, y.ptr)]), boxR (D.map (imR eI u8)), imR eI u8 y]).p F w) : (dkK (R := R) eD eI u8 bd life (K ++ [(s, img, img)])).p F w := by
  have hs : y.shard = s := congrArg Prod.fst hy
  refine ⟨D ++ [y], by rw [List.map_append, hD, List.map_singleton, hy], bm, ?_⟩
  have h2 : Sep (R := R) ([bkR bd [.map (some bm), .int .i64 life] eD, mapR intV ptrV bm ((D.map fun x => (x.shard, x.ptr)) ++ [(s, y.ptr)])] ++ [boxR (D.map (imR eI u8)), imR eI u8 y]) F w := h
  obtain ⟨Fs, g1, g2, g3⟩ := h2.close
  refine ⟨Fs, fun i A hA => ?_, g2, g3⟩
  match i, hA with
  | 0, hA => exact g1 0 A hA
  | 1, hA =>
    rw [List.map_append, List.map_singleton, hs] at hA
    exact g1 1 A hA
  | 2, hA =>
    simp only [List.getElem?_cons_succ, List.getElem?_cons_zero, Option.some.injEq] at hA
    subst hA
    have k : Sep (R := R) [boxR (D.map (imR eI u8)), imR eI u8 y] (Fs 2) w := g1 2 _ rfl
    have k2 : Sep (R := R) [imR eI u8 y, boxR (D.map (imR eI u8))] (Fs 2) w := Sep.rot (A := [boxR (D.map (imR eI u8))]) (B := [imR eI u8 y]) k
    have k3 := (Sep.open (L1 := [imR (R := R) eI u8 y]) k2)
    have k4 := Sep.rot (A := [imR (R := R) eI u8 y]) (B := D.map (imR eI u8)) k3
    show Sep (R := R) ((D ++ [y]).map (imR eI u8)) (Fs 2) w
    rw [List.map_append, List.map_singleton]
    exact k4
  | n + 3, hA => simp at hA
/-- an empty disk -/
theorem dkK_nil {eD eI u8 : TypeId} {bd bm : Nat} {life : Int} (h : (boxR (R := R) [bkR bd [.map (some bm), .int .i64 life] eD, mapR intV ptrV bm []]).p F w) : (dkK (R := R) eD eI u8 bd life []).p F w := by
  refine ⟨[], rfl, bm, ?_⟩
  obtain ⟨Fs, g1, g2, g3⟩ := h
  refine ⟨fun i b => Fs i b ∧ i < 2, fun i A hA => ?_, fun i b hb => g2 i b hb.1, fun i j b hij hi hj => g3 i j b hij hi.1 hj.1⟩
  match i, hA with
  | 0, hA =>
    have := g1 0 A hA
    simpa using this
  | 1, hA =>
    have := g1 1 A hA
    simpa using this
  | 2, hA =>
    simp only [List.getElem?_cons_succ, List.getElem?_cons_zero, Option.some.injEq] at hA
    subst hA
    exact ⟨fun _ _ => False, fun i A h => by simp at h, fun _ _ h => h.elim, fun _ _ _ _ h => h.elim⟩
  | n + 3, hA => simp at hA
theorem asc_none {D : List DI} {s : Int} (h : ∀ x ∈ D, x.shard ≠ s) : asc (D.map fun x => (x.shard, x.ptr)) s = none := by
  rw [asc_ims, List.find?_eq_none.2]
  · rfl
  · intro x hx
    simpa using h x hx
end
section
variable {P : Program} {E : Env} {C : World → Prop} {d : Option Tmp} {ty : TypeId} {pos : String} {af : Array Edge} {gd : Option (Nat × Bool)} {α β : Type} [DecidableEq α] {key : α → Value} {val : β → Value}
theorem Q1.lookHit {t kt et : TypeId} {x y : Operand} {b : Nat} {m : List (α × β)} {a : α} {z : Value} {u : β} (hk : KeyOk P kt key) (ht : P.underlying t = some (.map kt et)) (hz : ∀ w, (zeroValue et).run P w = .ok z w) (hx : ev E x = some (.map (some b))) (hy : ev E y = some (key a)) (hm : ∀ w, C w → MapO key val w b m) (ha : asc m a = some u) :
    Q1 P ⟨d, .lookup t x y false, ty, pos, af, gd⟩ E C (val u) := by
  have h := Q1.lookup1 (d := d) (ty := ty) (pos := pos) (af := af) (gd := gd) (val := val) hk ht hz hx hy hm
  rw [ha] at h; exact h
theorem Q1.lookMiss {t kt et : TypeId} {x y : Operand} {b : Nat} {m : List (α × β)} {a : α} {z : Value} (hk : KeyOk P kt key) (ht : P.underlying t = some (.map kt et)) (hz : ∀ w, (zeroValue et).run P w = .ok z w) (hx : ev E x = some (.map (some b))) (hy : ev E y = some (key a)) (hm : ∀ w, C w → MapO key val w b m) (ha : asc m a = none) :
    Q1 P ⟨d, .lookup t x y false, ty, pos, af, gd⟩ E C z := by
  have h := Q1.lookup1 (d := d) (ty := ty) (pos := pos) (af := af) (gd := gd) (val := val) hk ht hz hx hy hm
  rw [ha] at h; exact h
end
end Go.Ik
namespace Go.Ik
open Go Go.Ml
/-- what is done to a disk -/
structure ActD where
  do_ : Int
  shard : Int
  at_ : Int
  x : Int
def encAct (a : ActD) : List Value := [.int .i64 a.do_, .int .i64 a.shard, .int .i64 a.at_, .int .i64 a.x]
theorem encAct_len (a : ActD) : (encAct a).length = 4 := rfl
structure ActD.Ok (a : ActD) : Prop where
  do_ : I64 a.do_
  shard : I64 a.shard
  at_ : I64 a.at_
  x : I64 a.x
end Go.Ik
namespace Go.Ml
open Go.Ik
/-- where a shard's image stands; -1 -/
def dkIx (K : List DE) (s : Int) : Int := match K.findIdx? fun x => decide (x.1 = s) with | some i => (i : Int) | none => -1
theorem ix_no {K : List DE} {s : Int} (h : dkGet K s = none) : dkIx K s = -1 := by
  unfold dkIx
  have : K.findIdx? (fun x => decide (x.1 = s)) = none := by
    rw [List.findIdx?_eq_none_iff]
    intro x hx
    have := List.find?_eq_none.1 h x hx
    simpa using this
  rw [this]
theorem ix_yes {K : List DE} {s : Int} {x : DE} (h : dkGet K s = some x) : ∃ k : Nat, dkIx K s = (k : Int) ∧ K[k]? = some x ∧ x.1 = s := by
  obtain ⟨k, h1, h2, h3⟩ := dkGet_at h
  refine ⟨k, ?_, h1, h2⟩
  unfold dkIx
  have : K.findIdx? (fun x => decide (x.1 = s)) = some k := by
    obtain ⟨hk, rfl⟩ := List.getElem?_eq_some_iff.1 h1
    rw [List.findIdx?_eq_some_iff_getElem]
    refine ⟨hk, decide_eq_true h2, fun j hj => ?_⟩
    have := h3 j _ hj (List.getElem?_eq_getElem (by omega))
    simpa using this
  rw [this]
/-- going over the rows -/
theorem ix_found {K : List DE} {s : Int} {sh : List Int} {i : Nat} {y : Int} (hsh : sh = K.map (·.1)) (hno : ∀ z ∈ sh.take i, z ≠ s) (hy : sh[i]? = some y) (he : y = s) : (i : Int) = dkIx K s := by
  subst hsh
  unfold dkIx
  rw [List.getElem?_map] at hy
  cases hk : K[i]? with
  | none => rw [hk] at hy; cases hy
  | some x =>
    rw [hk] at hy
    have hx : x.1 = s := (Option.some.inj hy).trans he
    obtain ⟨hil, hxe⟩ := List.getElem?_eq_some_iff.1 hk
    have : K.findIdx? (fun x => decide (x.1 = s)) = some i := by
      rw [List.findIdx?_eq_some_iff_getElem]
      refine ⟨hil, decide_eq_true (by rw [hxe]; exact hx), fun j hj => ?_⟩
      have h2 := hno (K[j]'(by omega)).1 (by
        rw [← List.map_take]
        exact List.mem_map_of_mem (List.mem_take_iff_getElem.2 ⟨j, by omega, rfl⟩))
      simpa using h2
    rw [this]
theorem ix_none {K : List DE} {s : Int} {sh : List Int} {i : Nat} (hsh : sh = K.map (·.1)) (hno : ∀ z ∈ sh.take i, z ≠ s) (hi : sh.length ≤ i) : (-1 : Int) = dkIx K s := by
  rw [List.take_of_length_le hi] at hno
  subst hsh
  unfold dkIx
  have : K.findIdx? (fun x => decide (x.1 = s)) = none := by
    rw [List.findIdx?_eq_none_iff]
    intro x hx
    have := hno x.1 (List.mem_map_of_mem hx)
    simpa using this
  rw [this]
theorem no_step {sh : List Int} {s y : Int} {i : Nat} (hno : ∀ z ∈ sh.take i, z ≠ s) (hy : sh[i]? = some y) (hne : y ≠ s) : ∀ z ∈ sh.take (i + 1), z ≠ s := by
  intro z hz
  rw [List.take_add_one, hy] at hz
  rcases List.mem_append.1 hz with h | h
  · exact hno z h
  · simp only [Option.toList_some, List.mem_singleton] at h; rw [h]; exact hne
theorem dkErr_I64 (K : List DE) (s : Int) : I64 (dkErr K s) := by unfold dkErr; split <;> (unfold I64; decide)
theorem dkRead_len {K : List DE} (h : DkOk K) (s : Int) : (dkRead K s).length ≤ 4000000 := by
  unfold dkRead
  split
  · exact Nat.zero_le _
  · rename_i x hx
    have := h.2 _ (dkGet_key hx).2
    omega
theorem rotten_eq {K : List DE} {s : Int} {x : DE} {q : Bool} (h : dkGet K s = some x) (hq : q = !(x.2.2 == x.2.1)) : q = dkRotten K s := by
  rw [(get_err h).2.2, hq]
  by_cases e : x.2.2 = x.2.1
  · rw [e]; simp
  · rw [decide_eq_true e, beq_eq_false_iff_ne.2 e]; rfl
end Go.Ml
namespace Go.Ik
open Go Go.Ml
section
variable {P : Program} {E : Env} {C : World → Prop} {d : Option Tmp} {ty : TypeId} {pos : String} {af : Array Edge} {gd : Option (Nat × Bool)}
/-- a row of bytes turned into a text, where no one writes them -/
theorem Q1.bytesStr {s t e : TypeId} {x : Operand} {v : Value} {F : Nat → Prop} {l : Str} (hs : P.underlying s = some (.slice e)) (he : P.underlying e = some (.int .u8)) (ht : P.underlying t = some .string) (hx : ev E x = some v) (h : ∀ w, C w → Sl encB w F v l) :
    Q1 P ⟨d, .convert s t x, ty, pos, af, gd⟩ E C (strV l) := fun a ha w hC => by
  obtain ⟨ad, cap, rfl, h2, h3, h4⟩ := h w hC
  have hr : (convert s t (.slice ad l.length cap)).run P w = .ok (strV l) w := by
    rcases h4 with rfl | ⟨b, off, rfl, _, hr⟩
    · show (convert s t (.slice ad 0 cap)).run P w = _
      rw [run_convert_bytes_string w s t e ad 0 cap hs he ht]
      cases ad <;> simp [Conv.bytesToString, loadCells, loadCellsFrom, strV] <;> rfl
    · exact run_convert_bytes_back w s t e _ cap l hs he ht (row_byte hr)
  simp [execOp, ha.ev hx, hr]
theorem Sl.keep0 {α : Type} {enc : α → List Value} {w w' : World} {F : Nat → Prop} {v : Value} {l : List α} (h : Sl enc w F v l) (hm : Mod (Mg 0) w w') : Sl enc w' F v l := h.keep hm fun b _ hx => by unfold Mg at hx; omega
end
section
variable {R F F0 : Nat → Prop} {w0 w : World} {L : List (Res R)} {i : Nat} {rows : List RIm} {K : List DE}
theorem ir_shards (h : IRel w F rows K) : rows.map (·.shard) = K.map (·.1) := by
  induction h with
  | nil => rfl
  | cons h _ ih => rw [List.map_cons, List.map_cons, ih, h.1]
theorem St.irGet (h : St R F0 w0 w L) (hi : L[i]? = some (irR rows K)) : IRel w (Iv 0 w.heap.size) rows K := by
  obtain ⟨F, h1, h2⟩ := h.get hi
  exact IRel.mono h1 fun b hb => ⟨Nat.zero_le _, h2 b hb⟩
theorem IRel.two (h : IRel w F rows K) {k : Nat} {r : RIm} (hr : rows[k]? = some r) {y : DE} (hy : K[k]? = some y) : Sl encB w F r.r.val y.2.1 ∧ Sl encB w F r.b.val y.2.2 := by
  obtain ⟨e, he, _, k2, k3⟩ := h.at hr
  obtain rfl : e = y := Option.some.inj (he.symm.trans hy)
  exact ⟨k2, k3⟩
theorem rdR_in {eW eI : TypeId} {bw : Nat} {lives : Int} (h : (rdR (R := R) eW eI bw lives K).p F w) : ∃ (vl : Value) (rows : List RIm), Bk w bw [vl, .int .i64 lives] eW ∧ Sl encIm w F vl rows ∧ IRel w F rows K := by
  obtain ⟨⟨vl, rows⟩, Fs, h1, h2, _⟩ := h
  have q1 := h1 0 _ rfl
  have q2 := h1 1 _ rfl
  have q3 := h1 2 _ rfl
  exact ⟨vl, rows, q1.1, (acc_sl q2).mono fun b hb => (h2 1 b hb).1.1, IRel.mono q3 fun b hb => (h2 2 b hb).1.1⟩
end
end Go.Ik
namespace Go.Proofs
open Go.Ik Go.Ml
theorem mixed : Tryz.prog.follows .mixedOrders = true := by kernel_rfl
theorem ti3 : tyI Tryz.prog 3 = some (false, 1, 8, [.int .i64 0]) := by kernel_rfl
theorem ti5 : tyI Tryz.prog 5 = some (false, 1, 1, [.int .u8 0]) := by kernel_rfl
theorem ti9 : tyI Tryz.prog 9 = some (false, 1, 16, [strV []]) := by kernel_rfl
theorem ti21 : tyI Tryz.prog 21 = some (false, 1, 4, [.int .i32 0]) := by kernel_rfl
theorem ti22 : tyI Tryz.prog 22 = some (false, 1, 24, [.slice none 0 0]) := by kernel_rfl
theorem ti23 : tyI Tryz.prog 23 = some (false, 1, 24, [.slice none 0 0]) := by kernel_rfl
theorem ti25 : tyI Tryz.prog 25 = some (true, 12, 128, [.slice none 0 0, .slice none 0 0, .int .i64 0, .int .i64 0, .int .i64 0, .int .i64 0, .int .i64 0, .int .i64 0, .int .i64 0, .int .i64 0, .int .i64 0, .int .i64 0]) := by kernel_rfl
theorem ti38 : tyI Tryz.prog 38 = some (true, 4, 32, [.int .i64 0, .int .i64 0, .int .i64 0, .int .i64 0]) := by kernel_rfl
theorem ti43 : tyI Tryz.prog 43 = some (false, 1, 24, [.slice none 0 0]) := by kernel_rfl
theorem ti47 : tyI Tryz.prog 47 = some (false, 1, 24, [.slice none 0 0]) := by kernel_rfl
theorem ti57 : tyI Tryz.prog 57 = some (true, 2, 24, [.int .i64 0, strV []]) := by kernel_rfl
theorem ti60 : tyI Tryz.prog 60 = some (false, 1, 8, [.map none]) := by kernel_rfl
theorem ti72 : tyI Tryz.prog 72 = some (true, 3, 56, [.int .i64 0, .slice none 0 0, .slice none 0 0]) := by kernel_rfl
theorem ti92 : tyI Tryz.prog 92 = some (false, 1, 8, [.pointer none]) := by kernel_rfl
theorem ti103 : tyI Tryz.prog 103 = some (false, 1, 24, [.slice none 0 0]) := by kernel_rfl
theorem ti106 : tyI Tryz.prog 106 = some (false, 1, 8, [.map none]) := by kernel_rfl
theorem ti109 : tyI Tryz.prog 109 = some (false, 1, 24, [.slice none 0 0]) := by kernel_rfl
theorem ti111 : tyI Tryz.prog 111 = some (true, 2, 32, [.bool false, .slice none 0 0]) := by kernel_rfl
theorem ti114 : tyI Tryz.prog 114 = some (true, 2, 16, [.int .i32 0, .int .i64 0]) := by kernel_rfl
theorem ti121 : tyI Tryz.prog 121 = some (false, 1, 24, [.slice none 0 0]) := by kernel_rfl
theorem ti125 : tyI Tryz.prog 125 = some (true, 2, 48, [.slice none 0 0, .slice none 0 0]) := by kernel_rfl
theorem fl25_0 : fldI Tryz.prog 25 0 = some 0 := by kernel_rfl
theorem fl25_1 : fldI Tryz.prog 25 1 = some 1 := by kernel_rfl
theorem fl25_2 : fldI Tryz.prog 25 2 = some 2 := by kernel_rfl
theorem fl25_3 : fldI Tryz.prog 25 3 = some 3 := by kernel_rfl
theorem fl25_4 : fldI Tryz.prog 25 4 = some 4 := by kernel_rfl
theorem fl25_5 : fldI Tryz.prog 25 5 = some 5 := by kernel_rfl
theorem fl25_6 : fldI Tryz.prog 25 6 = some 6 := by kernel_rfl
theorem fl25_7 : fldI Tryz.prog 25 7 = some 7 := by kernel_rfl
theorem fl25_8 : fldI Tryz.prog 25 8 = some 8 := by kernel_rfl
theorem fl25_9 : fldI Tryz.prog 25 9 = some 9 := by kernel_rfl
theorem fl25_10 : fldI Tryz.prog 25 10 = some 10 := by kernel_rfl
theorem fl25_11 : fldI Tryz.prog 25 11 = some 11 := by kernel_rfl
theorem fl38_0 : fldI Tryz.prog 38 0 = some 0 := by kernel_rfl
theorem fl38_1 : fldI Tryz.prog 38 1 = some 1 := by kernel_rfl
theorem fl38_2 : fldI Tryz.prog 38 2 = some 2 := by kernel_rfl
theorem fl38_3 : fldI Tryz.prog 38 3 = some 3 := by kernel_rfl
theorem fl45_0 : fldI Tryz.prog 45 0 = some 0 := by kernel_rfl
theorem fl45_1 : fldI Tryz.prog 45 1 = some 1 := by kernel_rfl
theorem fl57_0 : fldI Tryz.prog 57 0 = some 0 := by kernel_rfl
theorem fl57_1 : fldI Tryz.prog 57 1 = some 1 := by kernel_rfl
theorem fl62_0 : fldI Tryz.prog 62 0 = some 0 := by kernel_rfl
theorem fl62_1 : fldI Tryz.prog 62 1 = some 1 := by kernel_rfl
theorem fl69_0 : fldI Tryz.prog 69 0 = some 0 := by kernel_rfl
theorem fl69_1 : fldI Tryz.prog 69 1 = some 1 := by kernel_rfl
theorem fl72_0 : fldI Tryz.prog 72 0 = some 0 := by kernel_rfl
theorem fl72_1 : fldI Tryz.prog 72 1 = some 1 := by kernel_rfl
theorem fl72_2 : fldI Tryz.prog 72 2 = some 2 := by kernel_rfl
theorem fl105_0 : fldI Tryz.prog 105 0 = some 0 := by kernel_rfl
theorem fl108_0 : fldI Tryz.prog 108 0 = some 0 := by kernel_rfl
theorem fl108_1 : fldI Tryz.prog 108 1 = some 1 := by kernel_rfl
theorem fl114_0 : fldI Tryz.prog 114 0 = some 0 := by kernel_rfl
theorem fl114_1 : fldI Tryz.prog 114 1 = some 1 := by kernel_rfl
theorem fl123_0 : fldI Tryz.prog 123 0 = some 0 := by kernel_rfl
theorem fl125_0 : fldI Tryz.prog 125 0 = some 0 := by kernel_rfl
theorem fl125_1 : fldI Tryz.prog 125 1 = some 1 := by kernel_rfl
theorem cl4 : clB Tryz.prog 4 = true := by kernel_rfl
theorem cl5 : clB Tryz.prog 5 = true := by kernel_rfl
theorem cl6 : clB Tryz.prog 6 = true := by kernel_rfl
theorem cl7 : clB Tryz.prog 7 = true := by kernel_rfl
theorem cl8 : clB Tryz.prog 8 = true := by kernel_rfl
theorem cl9 : clB Tryz.prog 9 = true := by kernel_rfl
theorem cl10 : clB Tryz.prog 10 = true := by kernel_rfl
theorem cl11 : clB Tryz.prog 11 = true := by kernel_rfl
theorem cl12 : clB Tryz.prog 12 = true := by kernel_rfl
theorem cl13 : clB Tryz.prog 13 = true := by kernel_rfl
theorem cl14 : clB Tryz.prog 14 = true := by kernel_rfl
theorem cl15 : clB Tryz.prog 15 = true := by kernel_rfl
theorem cl16 : clB Tryz.prog 16 = true := by kernel_rfl
theorem cl17 : clB Tryz.prog 17 = true := by kernel_rfl
theorem cl18 : clB Tryz.prog 18 = true := by kernel_rfl
theorem cl19 : clB Tryz.prog 19 = true := by kernel_rfl
theorem cl20 : clB Tryz.prog 20 = true := by kernel_rfl
theorem cl21 : clB Tryz.prog 21 = true := by kernel_rfl
theorem cl22 : clB Tryz.prog 22 = true := by kernel_rfl
theorem cl23 : clB Tryz.prog 23 = true := by kernel_rfl
theorem cl24 : clB Tryz.prog 24 = true := by kernel_rfl
theorem cl25 : clB Tryz.prog 25 = true := by kernel_rfl
theorem cl26 : clB Tryz.prog 26 = true := by kernel_rfl
theorem cl27 : clB Tryz.prog 27 = true := by kernel_rfl
theorem cl28 : clB Tryz.prog 28 = true := by kernel_rfl
theorem cl29 : clB Tryz.prog 29 = true := by kernel_rfl
theorem cl30 : clB Tryz.prog 30 = true := by kernel_rfl
theorem cl31 : clB Tryz.prog 31 = true := by kernel_rfl
theorem cl32 : clB Tryz.prog 32 = true := by kernel_rfl
theorem cl33 : clB Tryz.prog 33 = true := by kernel_rfl
theorem cl34 : clB Tryz.prog 34 = true := by kernel_rfl
theorem cl35 : clB Tryz.prog 35 = true := by kernel_rfl
theorem cl36 : clB Tryz.prog 36 = true := by kernel_rfl
theorem cl37 : clB Tryz.prog 37 = true := by kernel_rfl
theorem cl38 : clB Tryz.prog 38 = true := by kernel_rfl
theorem cl39 : clB Tryz.prog 39 = true := by kernel_rfl
theorem cl40 : clB Tryz.prog 40 = true := by kernel_rfl
theorem cl41 : clB Tryz.prog 41 = true := by kernel_rfl
theorem cl42 : clB Tryz.prog 42 = true := by kernel_rfl
theorem cl43 : clB Tryz.prog 43 = true := by kernel_rfl
theorem cl44 : clB Tryz.prog 44 = true := by kernel_rfl
theorem cl45 : clB Tryz.prog 45 = true := by kernel_rfl
theorem cl46 : clB Tryz.prog 46 = true := by kernel_rfl
theorem cl47 : clB Tryz.prog 47 = true := by kernel_rfl
theorem cl48 : clB Tryz.prog 48 = true := by kernel_rfl
theorem cl49 : clB Tryz.prog 49 = true := by kernel_rfl
theorem cl50 : clB Tryz.prog 50 = true := by kernel_rfl
theorem cl51 : clB Tryz.prog 51 = true := by kernel_rfl
theorem cl52 : clB Tryz.prog 52 = true := by kernel_rfl
theorem cl53 : clB Tryz.prog 53 = true := by kernel_rfl
theorem cl54 : clB Tryz.prog 54 = true := by kernel_rfl
theorem cl55 : clB Tryz.prog 55 = true := by kernel_rfl
theorem cl56 : clB Tryz.prog 56 = true := by kernel_rfl
theorem cl57 : clB Tryz.prog 57 = true := by kernel_rfl
theorem cl58 : clB Tryz.prog 58 = true := by kernel_rfl
theorem cl59 : clB Tryz.prog 59 = true := by kernel_rfl
theorem cl60 : clB Tryz.prog 60 = true := by kernel_rfl
theorem cl61 : clB Tryz.prog 61 = true := by kernel_rfl
theorem cl62 : clB Tryz.prog 62 = true := by kernel_rfl
theorem cl63 : clB Tryz.prog 63 = true := by kernel_rfl
theorem cl64 : clB Tryz.prog 64 = true := by kernel_rfl
theorem cl65 : clB Tryz.prog 65 = true := by kernel_rfl
theorem cl66 : clB Tryz.prog 66 = true := by kernel_rfl
theorem cl67 : clB Tryz.prog 67 = true := by kernel_rfl
theorem cl68 : clB Tryz.prog 68 = true := by kernel_rfl
theorem cl69 : clB Tryz.prog 69 = true := by kernel_rfl
theorem cl70 : clB Tryz.prog 70 = true := by kernel_rfl
theorem cl71 : clB Tryz.prog 71 = true := by kernel_rfl
theorem cl72 : clB Tryz.prog 72 = true := by kernel_rfl
theorem cl73 : clB Tryz.prog 73 = true := by kernel_rfl
theorem cl74 : clB Tryz.prog 74 = true := by kernel_rfl
theorem cl75 : clB Tryz.prog 75 = true := by kernel_rfl
theorem cl76 : clB Tryz.prog 76 = true := by kernel_rfl
theorem cl77 : clB Tryz.prog 77 = true := by kernel_rfl
theorem cl78 : clB Tryz.prog 78 = true := by kernel_rfl
theorem cl79 : clB Tryz.prog 79 = true := by kernel_rfl
theorem cl80 : clB Tryz.prog 80 = true := by kernel_rfl
theorem cl81 : clB Tryz.prog 81 = true := by kernel_rfl
theorem cl82 : clB Tryz.prog 82 = true := by kernel_rfl
theorem cl83 : clB Tryz.prog 83 = true := by kernel_rfl
theorem cl84 : clB Tryz.prog 84 = true := by kernel_rfl
theorem cl85 : clB Tryz.prog 85 = true := by kernel_rfl
theorem cl86 : clB Tryz.prog 86 = true := by kernel_rfl
theorem cl87 : clB Tryz.prog 87 = true := by kernel_rfl
theorem cl88 : clB Tryz.prog 88 = true := by kernel_rfl
theorem cl89 : clB Tryz.prog 89 = true := by kernel_rfl
theorem cl90 : clB Tryz.prog 90 = true := by kernel_rfl
theorem cl91 : clB Tryz.prog 91 = true := by kernel_rfl
theorem cl92 : clB Tryz.prog 92 = true := by kernel_rfl
theorem cl93 : clB Tryz.prog 93 = true := by kernel_rfl
theorem cl95 : clB Tryz.prog 95 = true := by kernel_rfl
theorem cl99 : clB Tryz.prog 99 = true := by kernel_rfl
theorem cl100 : clB Tryz.prog 100 = true := by kernel_rfl
theorem cl101 : clB Tryz.prog 101 = true := by kernel_rfl
theorem cl102 : clB Tryz.prog 102 = true := by kernel_rfl
theorem cl105 : clB Tryz.prog 105 = true := by kernel_rfl
end Go.Proofs
namespace Go.Proofs
open Go.Ik Go.Ml
set_option maxRecDepth 20000 in
set_option maxHeartbeats 4000000 in
theorem turn_c {w0 : World}  (c : Nat) (b : UInt8) (h_c : c < 4294967296) :
    Calls Tryz.prog 100 #[.int .u32 (((c : Nat) : Int)), .int .u8 ((b.toNat : Int))] w0 (Ret fun rv w1 => rv = .int .u32 (((turnN c b.toNat : Nat) : Int)) ∧ Ext w0 w1) := by
  have hE0 : Ext w0 w0 := Mod.refl _ _
  have hbb := b.toNat_lt
  refine calls_enter Tryz.func100 rfl Tryz.ntmps100 rfl ?_
  refine r_seq ?_
  refine r_region ?_
  refine OL.q (Q1.assign rfl) rfl rfl ?_
  refine OL.nil ?_
  refine r_seq ?_
  refine r_region ?_
  refine OL.q (Q1.move rfl) rfl rfl ?_
  refine OL.q (Q1.move rfl) rfl rfl ?_
  refine OL.q (Q1.convN (by kernel_rfl) Tryz.underlying115 rfl (IntWalk.u32_in _ (by omega))) rfl rfl ?_
  have hxl1 := xor_lt32 (a := c) (b := b.toNat) (by omega) (by omega)
  refine OL.q (Q1.xor32 (a := c) (b := b.toNat) rfl rfl (by omega) (by omega)) rfl rfl ?_
  refine OL.q (Q1.assign rfl) rfl rfl ?_
  refine OL.nil ?_
  refine r_seq ?_
  refine r_seq ?_
  refine r_region ?_
  refine OL.q (Q1.move rfl) rfl rfl ?_
  refine OL.nil ?_
  refine r_block ?_
  refine r_loop (I := fun m E W => ∃ (c1 : Nat) (k : Nat), E = [(0, .int .u32 (((c1 : Nat) : Int))), (10, .int .i64 (((k : Nat) : Int)))] ∧ m = 8 - k ∧ Ext w0 W ∧ w0.heap.size ≤ W.heap.size ∧ (c1 = crcK k (c ^^^ b.toNat)) ∧ (c1 < 4294967296) ∧ (k ≤ 8)) ?_ ?_
  · refine ⟨_, _, ⟨(c ^^^ b.toNat : Nat), (0 : Nat), rfl, rfl, hE0, Nat.le_refl _, (by rfl), (by omega), (by omega)⟩, ⟨rfl, rfl, trivial⟩⟩
  · rintro _ _ w1 ⟨c1, k, rfl, rfl, hE1, hs1, hc, hcl, hk8⟩ ih1
    refine r_seq ?_
    refine r_region ?_
    refine OL.qb (Q1.lt rfl rfl) rfl rfl ?_
    intro b1 hb1
    refine OL.nil ?_
    refine r_seq ?_
    cases b1 with
    | true =>
      replace hb1 := of_decide_eq_true hb1.symm
      refine r_cond_t rfl ?_
      refine r_skip ?_
      refine r_seq ?_
      refine r_block ?_
      refine r_seq ?_
      refine r_region ?_
      refine OL.q (Q1.move rfl) rfl rfl ?_
      refine OL.q (Q1.and1 (a := c1) rfl rfl (by omega)) rfl rfl ?_
      refine OL.q (Q1.assign rfl) rfl rfl ?_
      refine OL.nil ?_
      refine r_seq ?_
      refine r_region ?_
      refine OL.q (Q1.move rfl) rfl rfl ?_
      refine OL.q (Q1.shr1 (((c1 / 2 : Nat) : Int)) rfl rfl (by omega)) rfl rfl ?_
      refine OL.q (Q1.assign rfl) rfl rfl ?_
      refine OL.nil ?_
      refine r_seq ?_
      refine r_region ?_
      refine OL.q (Q1.move rfl) rfl rfl ?_
      refine OL.qb (Q1.eq rfl rfl) rfl rfl ?_
      intro b2 hb2
      refine OL.nil ?_
      cases b2 with
      | true =>
        replace hb2 := eq_of_beq hb2.symm
        refine r_cond_t rfl ?_
        refine r_region ?_
        refine OL.q (Q1.move rfl) rfl rfl ?_
        have hxl2 := xor_lt32 (a := c1 / 2) (b := 3988292384) (by omega) (by omega)
        refine OL.q (Q1.xor32 (a := c1 / 2) (b := 3988292384) rfl rfl (by omega) (by omega)) rfl rfl ?_
        refine OL.q (Q1.assign rfl) rfl rfl ?_
        refine OL.nil ?_
        refine r_inBlock ?_
        refine r_region ?_
        refine OL.q (Q1.addI (((k + 1 : Nat) : Int)) rfl rfl (by omega)) rfl rfl ?_
        refine OL.q (Q1.move rfl) rfl rfl ?_
        refine OL.nil ?_
        exact (ih1 _ _ _ ⟨((c1 / 2) ^^^ 3988292384 : Nat), (k + 1 : Nat), rfl, rfl, hE1, (by omega), (by first | exact crc_one hc (by omega) | exact crc_nil hc (by omega) | (exfalso; omega)), (by first | omega | (exfalso; omega)), (by first | omega | (exfalso; omega))⟩ (by omega)).sub ⟨rfl, rfl, trivial⟩
      | false =>
        replace hb2 := ne_of_beq_false hb2.symm
        refine r_cond_f rfl ?_
        refine r_skip ?_
        refine r_inBlock ?_
        refine r_region ?_
        refine OL.q (Q1.addI (((k + 1 : Nat) : Int)) rfl rfl (by omega)) rfl rfl ?_
        refine OL.q (Q1.move rfl) rfl rfl ?_
        refine OL.nil ?_
        exact (ih1 _ _ _ ⟨(c1 / 2 : Nat), (k + 1 : Nat), rfl, rfl, hE1, (by omega), (by first | exact crc_one hc (by omega) | exact crc_nil hc (by omega) | (exfalso; omega)), (by first | omega | (exfalso; omega)), (by first | omega | (exfalso; omega))⟩ (by omega)).sub ⟨rfl, rfl, trivial⟩
    | false =>
      replace hb1 := of_decide_eq_false hb1.symm
      refine r_cond_f rfl ?_
      refine r_exit rfl ?_
      refine r_seq ?_
      refine r_region ?_
      refine OL.q (Q1.move rfl) rfl rfl ?_
      refine OL.q (Q1.assign rfl) rfl rfl ?_
      refine OL.nil ?_
      refine r_ret1 Tryz.func100 rfl rfl ?_
      exact Ret.mk ⟨(congrArg (Value.int .u32) (by first | (rw [hc, show k = 8 from by omega]; rfl) | (exfalso; omega))), hE1⟩
set_option maxRecDepth 20000 in
set_option maxHeartbeats 4000000 in
theorem sumadd_c {w0 : World}  (c : Nat) {v_b : Value} {b : List UInt8} (h_c : c < 4294967296) (h_b : Sl encB w0 (Iv 0 w0.heap.size) v_b b) (hbl : b.length ≤ 4000000) :
    Calls Tryz.prog 87 #[.int .u32 (((c : Nat) : Int)), v_b] w0 (Ret fun rv w1 => rv = .int .u32 (((sumF c b : Nat) : Int)) ∧ Ext w0 w1) := by
  have hE0 : Ext w0 w0 := Mod.refl _ _
  have hle1 := h_b.le
  refine calls_enter Tryz.func87 rfl Tryz.ntmps87 rfl ?_
  refine r_seq ?_
  refine r_region ?_
  refine OL.q (Q1.assign rfl) rfl rfl ?_
  refine OL.nil ?_
  refine r_seq ?_
  refine r_region ?_
  refine OL.q (Q1.move rfl) rfl rfl ?_
  refine OL.q (Q1.not32 (a := c) rfl (by omega)) rfl rfl ?_
  refine OL.q (Q1.assign rfl) rfl rfl ?_
  refine OL.nil ?_
  refine r_seq ?_
  refine r_seq ?_
  refine r_region ?_
  refine OL.q (Q1.move rfl) rfl rfl ?_
  refine OL.q (Q1.lenSl Tryz.underlying47 (h_b) rfl) rfl rfl ?_
  refine OL.q (Q1.move rfl) rfl rfl ?_
  refine OL.nil ?_
  refine r_block ?_
  refine r_loop (I := fun m E W => ∃ (c1 : Nat) (k : Nat), E = [(0, .int .u32 (((c1 : Nat) : Int))), (9, v_b), (10, .int .i64 (((b.length : Nat) : Int))), (11, .int .i64 (((k : Nat) : Int)))] ∧ m = b.length - k ∧ Ext w0 W ∧ w0.heap.size ≤ W.heap.size ∧ Sl encB W (Iv 0 w0.heap.size) v_b b ∧ (c1 = crcF (4294967295 - c) (b.take k)) ∧ (c1 < 4294967296) ∧ (k ≤ b.length)) ?_ ?_
  · refine ⟨_, _, ⟨(4294967295 - c : Nat), (0 : Nat), rfl, rfl, hE0, Nat.le_refl _, h_b, (by rfl), (by omega), (by omega)⟩, ⟨rfl, rfl, rfl, rfl, trivial⟩⟩
  · rintro _ _ w1 ⟨c1, k, rfl, rfl, hE1, hs1, f1, hc, hcl, hkl⟩ ih1
    refine r_seq ?_
    refine r_region ?_
    refine OL.qb (Q1.lt rfl rfl) rfl rfl ?_
    intro b1 hb1
    refine OL.nil ?_
    refine r_seq ?_
    cases b1 with
    | true =>
      replace hb1 := of_decide_eq_true hb1.symm
      refine r_cond_t rfl ?_
      refine r_skip ?_
      refine r_seq ?_
      refine r_block ?_
      refine r_seq ?_
      refine r_region ?_
      obtain ⟨x1, b2, o1, hx1, hr1, hl1, hu1, hw1⟩ := Sl.at' (P := Tryz.prog) f1 Tryz.underlying47 ti5 encB_len (k := .i64) (n := ((k : Nat) : Int)) (k) (by omega) (by first | assumption | omega)
      refine OL.q (Q1.indexAddr rfl rfl hr1) rfl rfl ?_
      refine OL.q (Q1.load1 ti5 rfl (fun _ e => e ▸ hw1)) rfl rfl ?_
      have hx1b := x1.toNat_lt
      refine OL.q (Q1.assign rfl) rfl rfl ?_
      refine OL.nil ?_
      refine r_region ?_
      refine OL.q (Q1.move rfl) rfl rfl ?_
      refine OL.q (Q1.move rfl) rfl rfl ?_
      refine OL.act rfl rfl (AW.callF cl100 rfl (turn_c (w0 := w1)  (c1) (x1) (by first | omega | assumption)) ?_)
      rintro _ w2 ⟨rfl, hm1⟩
      have f2 := f1.ext hm1
      have hE2 := hE1.ext hm1
      have hs2 := hm1.size
      have := turnN_ltE c1 x1 (by omega)
      refine OL.q (Q1.assign rfl) rfl rfl ?_
      refine OL.nil ?_
      refine r_inBlock ?_
      refine r_region ?_
      refine OL.q (Q1.addI (((k + 1 : Nat) : Int)) rfl rfl (by omega)) rfl rfl ?_
      refine OL.q (Q1.move rfl) rfl rfl ?_
      refine OL.nil ?_
      exact (ih1 _ _ _ ⟨(turnN c1 x1.toNat : Nat), (k + 1 : Nat), rfl, rfl, hE2, (by omega), f2, (by first | (rw [crcF_take hx1, ← hc]) | (exfalso; omega)), (by first | exact turnN_lt hcl x1.toNat_lt | (exfalso; omega)), (by first | omega | (exfalso; omega))⟩ (by omega)).sub ⟨rfl, rfl, rfl, rfl, trivial⟩
    | false =>
      replace hb1 := of_decide_eq_false hb1.symm
      refine r_cond_f rfl ?_
      refine r_exit rfl ?_
      refine r_seq ?_
      refine r_region ?_
      refine OL.q (Q1.move rfl) rfl rfl ?_
      refine OL.q (Q1.not32 (a := c1) rfl (by omega)) rfl rfl ?_
      refine OL.q (Q1.assign rfl) rfl rfl ?_
      refine OL.nil ?_
      refine r_ret1 Tryz.func87 rfl rfl ?_
      exact Ret.mk ⟨(congrArg (Value.int .u32) (by first | (rw [hc, List.take_of_length_le (by omega)]; rfl) | (exfalso; omega))), hE1⟩
set_option maxRecDepth 20000 in
set_option maxHeartbeats 4000000 in
theorem sumof_c {w0 : World}  {v_b : Value} {b : List UInt8} (h_b : Sl encB w0 (Iv 0 w0.heap.size) v_b b) (hbl : b.length ≤ 4000000) :
    Calls Tryz.prog 71 #[v_b] w0 (Ret fun rv w1 => rv = .int .u32 (((sumN b : Nat) : Int)) ∧ Ext w0 w1) := by
  have hE0 : Ext w0 w0 := Mod.refl _ _
  have hle1 := h_b.le
  refine calls_enter Tryz.func71 rfl Tryz.ntmps71 rfl ?_
  refine r_seq ?_
  refine r_region ?_
  refine OL.q (Q1.assign rfl) rfl rfl ?_
  refine OL.nil ?_
  refine r_seq ?_
  refine r_region ?_
  refine OL.q (Q1.move rfl) rfl rfl ?_
  refine OL.act rfl rfl (AW.callF cl87 rfl (sumadd_c (w0 := w0) (b := b) (0) (by first | omega | assumption) ((h_b).iv (Nat.zero_le _) (by omega)) (by first | assumption | omega | (simp only [List.length_append, putN_len, List.length_cons, List.length_nil]; omega))) ?_)
  rintro _ w1 ⟨rfl, hm1⟩
  have f1 := h_b.ext hm1
  have hE1 := hE0.ext hm1
  have hs1 := hm1.size
  have := sumF_lt 0 b
  refine OL.q (Q1.assign rfl) rfl rfl ?_
  refine OL.nil ?_
  refine r_ret1 Tryz.func71 rfl rfl ?_
  exact Ret.mk ⟨(congrArg (Value.int .u32) (by rfl)), hE1⟩
set_option maxRecDepth 20000 in
set_option maxHeartbeats 4000000 in
theorem cloneB_c {w0 : World}  {v_s : Value} {s : List UInt8} (h_s : Sl encB w0 (Iv 0 w0.heap.size) v_s s) (hln : s.length ≤ 4000000) :
    Calls Tryz.prog 26 #[v_s] w0 (Ret fun rv w1 => (∃ gr, Acc encB 5 1 w1 gr rv (s) ∧ (gr = 0 ∨ w0.heap.size < gr)) ∧ Ext w0 w1) := by
  have hE0 : Ext w0 w0 := Mod.refl _ _
  have hle1 := h_s.le
  refine calls_enter Tryz.func26 rfl Tryz.ntmps26 rfl ?_
  refine r_seq ?_
  refine r_region ?_
  refine OL.q (Q1.assign rfl) rfl rfl ?_
  refine OL.nil ?_
  refine r_seq ?_
  refine r_seq ?_
  refine r_region ?_
  refine OL.q (Q1.move rfl) rfl rfl ?_
  obtain ⟨ad1, cp1, hv1, hz1⟩ := Sl.isNil (h_s)
  subst hv1
  refine OL.qb (Q1.eqNilSl Tryz.underlying47 rfl rfl) rfl rfl ?_
  intro b1 hb1
  refine OL.nil ?_
  cases b1 with
  | true =>
    replace hb1 := hb1.symm
    replace hz1 := hz1 hb1
    refine r_cond_t rfl ?_
    refine r_seq ?_
    refine r_region ?_
    refine OL.q (Q1.assign rfl) rfl rfl ?_
    refine OL.nil ?_
    refine r_ret1 Tryz.func26 rfl rfl ?_
    exact Ret.mk ⟨⟨0, Acc.cast Acc.nil (by first | (symm; assumption) | simp | (exfalso; omega)), .inl rfl⟩, hE0⟩
  | false =>
    replace hb1 := hb1.symm
    refine r_cond_f rfl ?_
    refine r_skip ?_
    refine r_seq ?_
    refine r_region ?_
    refine OL.act rfl rfl (AW.buildSlice [] Tryz.underlying47 ti5 rfl rfl rfl (by decide) ?_)
    intro w1 b2 hm1 hb2 hz2 hk1
    have f1 := h_s.ext hm1
    have hE1 := hE0.ext hm1
    have hs1 := hm1.size
    have hl1 := Acc.of_blk (enc := encB) hk1 ([] : List UInt8) 0 rfl encB_len rfl (by unfold maxLen; omega)
    refine OL.q (Q1.move rfl) rfl rfl ?_
    have hl2 := hl1.lt
    refine OL.act rfl rfl (AW.append hl1 Tryz.underlying47 ti5 rfl encB_len encB_one rfl rfl (f1) (by first | omega | (simp only [List.length_append, List.length_cons, List.length_nil]; omega) | (simp; omega)) (by unfold maxLen; first | omega | (simp only [List.length_append, List.length_cons, List.length_nil]; omega) | (simp; omega)) ?_)
    intro v1 g1 w2 ha1 hm2 hg1 hz3
    have hl3 := hl1.lt
    have f2 := f1.keepG hm2 (by omega)
    have hE2 := Ext.thenG hE1 hm2 (by omega)
    have hs2 := hm2.size
    refine OL.q (Q1.assign rfl) rfl rfl ?_
    refine OL.nil ?_
    refine r_ret1 Tryz.func26 rfl rfl ?_
    exact Ret.mk ⟨⟨_, Acc.cast ha1 (by first | (symm; assumption) | simp | (exfalso; omega)), by omega⟩, hE2⟩
set_option maxRecDepth 20000 in
set_option maxHeartbeats 4000000 in
theorem put_c {w0 : World}  {v_b : Value} {b : List UInt8} (n : Int) (size : Nat) (h_b : Sl encB w0 (Iv 0 w0.heap.size) v_b b) (hbl : b.length ≤ 4000000) (hsz : size ≤ 8) :
    Calls Tryz.prog 67 #[v_b, .int .i64 n, .int .i64 (((size : Nat) : Int))] w0 (Ret fun rv w1 => (∃ gr, Acc encB 5 1 w1 gr rv (b ++ putN n size) ∧ (gr = 0 ∨ w0.heap.size < gr)) ∧ Ext w0 w1) := by
  have hE0 : Ext w0 w0 := Mod.refl _ _
  have hle1 := h_b.le
  refine calls_enter Tryz.func67 rfl Tryz.ntmps67 rfl ?_
  refine r_seq ?_
  refine r_region ?_
  refine OL.q (Q1.assign rfl) rfl rfl ?_
  refine OL.nil ?_
  refine r_seq ?_
  refine r_region ?_
  refine OL.q (Q1.move rfl) rfl rfl ?_
  refine OL.act rfl rfl (AW.callF cl26 rfl (cloneB_c (w0 := w0) (s := b)  ((h_b).iv (Nat.zero_le _) (by omega)) (by first | assumption | omega)) ?_)
  rintro v1 w1 ⟨⟨gr1, h1, hg1⟩, hm1⟩
  have f1 := h_b.ext hm1
  have hE1 := hE0.ext hm1
  have hs1 := hm1.size
  have hle_1 := h1.le
  have hlt_1 := h1.lt
  refine OL.q (Q1.assign rfl) rfl rfl ?_
  refine OL.nil ?_
  refine r_seq ?_
  refine r_region ?_
  refine OL.q (Q1.move rfl) rfl rfl ?_
  refine OL.q (Q1.max rfl rfl) rfl rfl ?_
  refine OL.q (Q1.min rfl rfl) rfl rfl ?_
  rw [show (min (max (size : Int) 0) 8) = ((size : Nat) : Int) from by omega]
  refine OL.q (Q1.assign rfl) rfl rfl ?_
  refine OL.nil ?_
  refine r_seq ?_
  refine r_seq ?_
  refine r_region ?_
  refine OL.q (Q1.move rfl) rfl rfl ?_
  refine OL.q (Q1.move rfl) rfl rfl ?_
  refine OL.nil ?_
  refine r_block ?_
  refine r_loop (I := fun m E W => ∃ (v_out : Value) (g_out : Nat) (out : List UInt8) (i : Nat), E = [(1, .int .i64 n), (2, .int .i64 (((size : Nat) : Int))), (7, v_out), (14, .int .i64 (((size : Nat) : Int))), (15, .int .i64 (((i : Nat) : Int)))] ∧ m = size - i ∧ Ext w0 W ∧ w1.heap.size ≤ W.heap.size ∧ Acc encB 5 1 W g_out v_out out ∧ (g_out = 0 ∨ w0.heap.size < g_out) ∧ (out = b ++ (putN n size).take i) ∧ (out.length = b.length + i) ∧ (i ≤ size)) ?_ ?_
  · refine ⟨_, _, ⟨(v1 : Value), (gr1 : Nat), ((b) : List UInt8), (0 : Nat), rfl, rfl, hE1, Nat.le_refl _, h1, (by omega), (by simp), (by simp), (by omega)⟩, ⟨rfl, rfl, rfl, rfl, rfl, trivial⟩⟩
  · rintro _ _ w2 ⟨v_out, g_out, out, i, rfl, rfl, hE2, hs2, ha1, hg2, ho, hol, hil⟩ ih1
    refine r_seq ?_
    refine r_region ?_
    refine OL.qb (Q1.lt rfl rfl) rfl rfl ?_
    intro b1 hb1
    refine OL.nil ?_
    refine r_seq ?_
    cases b1 with
    | true =>
      replace hb1 := of_decide_eq_true hb1.symm
      refine r_cond_t rfl ?_
      refine r_skip ?_
      refine r_seq ?_
      refine r_block ?_
      refine r_seq ?_
      refine r_region ?_
      refine OL.q (Q1.move rfl) rfl rfl ?_
      refine OL.q (Q1.assign rfl) rfl rfl ?_
      refine OL.nil ?_
      refine r_region ?_
      refine OL.q (Q1.move rfl) rfl rfl ?_
      refine OL.q (Q1.move rfl) rfl rfl ?_
      refine OL.q (Q1.convI (by kernel_rfl) Tryz.underlying133 rfl) rfl rfl ?_
      refine OL.q (Q1.move rfl) rfl rfl ?_
      refine OL.q (Q1.subI ((((size : Nat) : Int) - 1)) rfl rfl (by omega)) rfl rfl ?_
      refine OL.q (Q1.move rfl) rfl rfl ?_
      refine OL.q (Q1.subI (((((size : Nat) : Int) - 1) - (((i : Nat) : Int)))) rfl rfl (by omega)) rfl rfl ?_
      refine OL.q (Q1.mulI (((8 * (((size - 1) - i)) : Nat) : Int)) rfl rfl (by omega)) rfl rfl ?_
      refine OL.q (Q1.convN (by kernel_rfl) Tryz.underlying75 rfl (IntWalk.u64_in _ (by omega))) rfl rfl ?_
      refine OL.q (Q1.shrN (8 * (((size - 1) - i))) rfl rfl (by omega) (by simp only [IntKind.bits]; omega)) rfl rfl ?_
      refine OL.q (Q1.convB (by kernel_rfl) Tryz.underlying5 rfl) rfl rfl ?_
      refine OL.act rfl rfl (AW.buildSlice [(.int .u8 (((byN (((IntKind.u64.wrap n) / 2 ^ (8 * (((size - 1) - i)))))).toNat : Int)) : Value)] Tryz.underlying47 ti5 rfl rfl rfl (by decide) ?_)
      intro w3 b2 hm2 hb2 hz1 hk1
      have hl1 := ha1.lt
      have f2 := ha1.ext hm2
      have hE3 := hE2.ext hm2
      have hs3 := hm2.size
      have hl2 := Sl.of_blk (enc := encB) hk1 ([(byN (((IntKind.u64.wrap n) / 2 ^ (8 * (((size - 1) - i))))))] : List UInt8) 1 rfl rfl (by unfold maxLen; omega)
      have hl3 := f2.lt
      refine OL.act rfl rfl (AW.append f2 Tryz.underlying47 ti5 rfl encB_len encB_one rfl rfl (hl2) (by first | omega | (simp only [List.length_append, List.length_cons, List.length_nil]; omega) | (simp; omega)) (by unfold maxLen; first | omega | (simp only [List.length_append, List.length_cons, List.length_nil]; omega) | (simp; omega)) ?_)
      intro v2 g1 w4 ha2 hm3 hg3 hz2
      have hl4 := f2.lt
      have f3 := hl2.keepG hm3 (by omega)
      have hE4 := Ext.thenG hE3 hm3 (by omega)
      have hs4 := hm3.size
      refine OL.q (Q1.assign rfl) rfl rfl ?_
      refine OL.nil ?_
      refine r_inBlock ?_
      refine r_region ?_
      refine OL.q (Q1.addI (((i + 1 : Nat) : Int)) rfl rfl (by omega)) rfl rfl ?_
      refine OL.q (Q1.move rfl) rfl rfl ?_
      refine OL.nil ?_
      exact (ih1 _ _ _ ⟨(v2 : Value), (g1 : Nat), ((out ++ [(byN (((IntKind.u64.wrap n) / 2 ^ (8 * (((size - 1) - i))))))]) : List UInt8), (i + 1 : Nat), rfl, rfl, hE4, (by omega), ha2, (by omega), (by first | exact putN_take ho (by omega) rfl | (exfalso; omega)), (by first | (simp only [List.length_append, List.length_cons, List.length_nil]; omega) | (exfalso; omega)), (by first | omega | (exfalso; omega))⟩ (by omega)).sub ⟨rfl, rfl, rfl, rfl, rfl, trivial⟩
    | false =>
      replace hb1 := of_decide_eq_false hb1.symm
      refine r_cond_f rfl ?_
      refine r_exit rfl ?_
      refine r_seq ?_
      refine r_region ?_
      refine OL.q (Q1.move rfl) rfl rfl ?_
      refine OL.q (Q1.assign rfl) rfl rfl ?_
      refine OL.nil ?_
      refine r_ret1 Tryz.func67 rfl rfl ?_
      exact Ret.mk ⟨⟨_, Acc.cast ha1 (by first | (rw [ho, List.take_of_length_le (by rw [putN_len]; omega)]) | (exfalso; omega)), by omega⟩, hE2⟩
set_option maxRecDepth 20000 in
set_option maxHeartbeats 4000000 in
theorem r2of_c {w0 : World}  {v_b : Value} {b : List UInt8} (h_b : Sl encB w0 (Iv 0 w0.heap.size) v_b b) (hbl : b.length ≤ 4000000) :
    Calls Tryz.prog 93 #[v_b] w0 (Ret fun rv w1 => rv = .int .u32 (((sumN b : Nat) : Int)) ∧ Ext w0 w1) := by
  have hE0 : Ext w0 w0 := Mod.refl _ _
  have hle1 := h_b.le
  refine calls_enter Tryz.func93 rfl Tryz.ntmps93 rfl ?_
  refine r_seq ?_
  refine r_region ?_
  refine OL.q (Q1.assign rfl) rfl rfl ?_
  refine OL.nil ?_
  refine r_seq ?_
  refine r_region ?_
  refine OL.q (Q1.assign rfl) rfl rfl ?_
  refine OL.nil ?_
  refine r_seq ?_
  refine r_seq ?_
  refine r_region ?_
  refine OL.q (Q1.assign rfl) rfl rfl ?_
  refine OL.nil ?_
  refine r_block ?_
  refine r_loop (I := fun m E W => ∃ (c : Nat) (i : Nat), E = [(0, v_b), (3, .int .u32 (((c : Nat) : Int))), (4, .int .i64 (((i : Nat) : Int)))] ∧ m = b.length - i ∧ Ext w0 W ∧ w0.heap.size ≤ W.heap.size ∧ Sl encB W (Iv 0 w0.heap.size) v_b b ∧ (c = crcF 4294967295 (b.take i)) ∧ (c < 4294967296) ∧ (i ≤ b.length)) ?_ ?_
  · refine ⟨_, _, ⟨(4294967295 : Nat), (0 : Nat), rfl, rfl, hE0, Nat.le_refl _, h_b, (by rfl), (by omega), (by omega)⟩, ⟨rfl, rfl, rfl, trivial⟩⟩
  · rintro _ _ w1 ⟨c, i, rfl, rfl, hE1, hs1, f1, hc, hcl, hil⟩ ih1
    refine r_seq ?_
    refine r_seq ?_
    refine r_region ?_
    refine OL.q (Q1.move rfl) rfl rfl ?_
    refine OL.q (Q1.move rfl) rfl rfl ?_
    refine OL.q (Q1.lenSl Tryz.underlying47 (f1) rfl) rfl rfl ?_
    refine OL.qb (Q1.lt rfl rfl) rfl rfl ?_
    intro b1 hb1
    refine OL.nil ?_
    cases b1 with
    | true =>
      replace hb1 := of_decide_eq_true hb1.symm
      refine r_cond_t rfl ?_
      refine r_skip ?_
      refine r_seq ?_
      refine r_block ?_
      refine r_seq ?_
      refine r_region ?_
      refine OL.q (Q1.assign rfl) rfl rfl ?_
      obtain ⟨xi, hxi⟩ : ∃ x, b[i]? = some x := ⟨_, List.getElem?_eq_getElem (by omega)⟩
      have hxib := xi.toNat_lt
      refine OL.nil ?_
      refine r_block ?_
      refine r_loop (I := fun m E W => ∃ (c1 : Nat) (k : Nat), E = [(0, v_b), (3, .int .u32 (((c1 : Nat) : Int))), (4, .int .i64 (((i : Nat) : Int))), (5, .int .i64 (((k : Nat) : Int)))] ∧ m = 8 - k ∧ Ext w0 W ∧ w1.heap.size ≤ W.heap.size ∧ Sl encB W (Iv 0 w0.heap.size) v_b b ∧ (RefK c xi.toNat k c1) ∧ (k ≤ 8)) ?_ ?_
      · refine ⟨_, _, ⟨(c : Nat), (0 : Nat), rfl, rfl, hE1, Nat.le_refl _, f1, (by exact RefK.start hcl), (by omega)⟩, ⟨rfl, rfl, rfl, rfl, trivial⟩⟩
      · rintro _ _ w2 ⟨c1, k, rfl, rfl, hE2, hs2, f2, hr, hk8⟩ ih2
        have hcl1 := hr.2
        refine r_seq ?_
        refine r_seq ?_
        refine r_region ?_
        refine OL.q (Q1.move rfl) rfl rfl ?_
        refine OL.qb (Q1.lt rfl rfl) rfl rfl ?_
        intro b2 hb2
        refine OL.nil ?_
        cases b2 with
        | true =>
          replace hb2 := of_decide_eq_true hb2.symm
          refine r_cond_t rfl ?_
          refine r_skip ?_
          refine r_seq ?_
          refine r_block ?_
          refine r_seq ?_
          refine r_region ?_
          refine OL.q (Q1.move rfl) rfl rfl ?_
          refine OL.q (Q1.remI (((c1 % 2 : Nat) : Int)) rfl rfl ⟨Int.natCast_nonneg _, by omega, rfl⟩) rfl rfl ?_
          refine OL.q (Q1.move rfl) rfl rfl ?_
          refine OL.q (Q1.move rfl) rfl rfl ?_
          obtain ⟨x1, b3, o1, hx1, hr1, hl1, hu1, hw1⟩ := Sl.at' (P := Tryz.prog) f2 Tryz.underlying47 ti5 encB_len (k := .i64) (n := ((i : Nat) : Int)) (i) (by omega) (by first | assumption | omega)
          refine OL.q (Q1.indexAddr rfl rfl hr1) rfl rfl ?_
          obtain rfl : x1 = xi := Option.some.inj (hx1.symm.trans hxi)
          refine OL.q (Q1.load1 ti5 rfl (fun _ e => e ▸ hw1)) rfl rfl ?_
          refine OL.q (Q1.convN (by kernel_rfl) Tryz.underlying115 rfl (IntWalk.u32_in _ (by omega))) rfl rfl ?_
          refine OL.q (Q1.move rfl) rfl rfl ?_
          refine OL.q (Q1.shrN k rfl rfl (by omega) (by simp only [IntKind.bits]; omega)) rfl rfl ?_
          rw [show (((x1.toNat : Int) : Int) / 2 ^ k) = ((x1.toNat / 2 ^ k : Nat) : Int) from by norm_cast]
          refine OL.q (Q1.remI ((((x1.toNat / 2 ^ k) % 2 : Nat) : Int)) rfl rfl ⟨Int.natCast_nonneg _, by omega, rfl⟩) rfl rfl ?_
          refine OL.qb (Q1.ne rfl rfl) rfl rfl ?_
          intro b4 hb3
          refine OL.q (Q1.assign rfl) rfl rfl ?_
          refine OL.nil ?_
          refine r_seq ?_
          refine r_region ?_
          refine OL.q (Q1.move rfl) rfl rfl ?_
          refine OL.q (Q1.quoU32 (a := c1) 2 rfl rfl (by omega) (by omega)) rfl rfl ?_
          refine OL.q (Q1.assign rfl) rfl rfl ?_
          refine OL.nil ?_
          refine r_seq ?_
          refine r_region ?_
          refine OL.q (Q1.move rfl) rfl rfl ?_
          refine OL.nil ?_
          cases b4 with
          | true =>
            replace hb3 := bne_iff_ne.1 hb3.symm
            refine r_cond_t rfl ?_
            refine r_region ?_
            refine OL.q (Q1.move rfl) rfl rfl ?_
            have hxl1 := xor_lt32 (a := c1 / 2) (b := 3988292384) (by omega) (by omega)
            refine OL.q (Q1.xor32 (a := c1 / 2) (b := 3988292384) rfl rfl (by omega) (by omega)) rfl rfl ?_
            refine OL.q (Q1.assign rfl) rfl rfl ?_
            refine OL.nil ?_
            refine r_inBlock ?_
            refine r_region ?_
            refine OL.q (Q1.move rfl) rfl rfl ?_
            refine OL.q (Q1.addI (((k + 1 : Nat) : Int)) rfl rfl (by omega)) rfl rfl ?_
            refine OL.q (Q1.assign rfl) rfl rfl ?_
            refine OL.nil ?_
            exact (ih2 _ _ _ ⟨((c1 / 2) ^^^ 3988292384 : Nat), (k + 1 : Nat), rfl, rfl, hE2, (by omega), f2, (by first | exact hr.one (UInt8.toNat_lt _) (by omega) | exact hr.nil (UInt8.toNat_lt _) (by omega) | (exfalso; omega)), (by first | omega | (exfalso; omega))⟩ (by omega)).sub ⟨rfl, rfl, rfl, rfl, trivial⟩
          | false =>
            replace hb3 := bne_eq_false_iff_eq.1 hb3.symm
            refine r_cond_f rfl ?_
            refine r_skip ?_
            refine r_inBlock ?_
            refine r_region ?_
            refine OL.q (Q1.move rfl) rfl rfl ?_
            refine OL.q (Q1.addI (((k + 1 : Nat) : Int)) rfl rfl (by omega)) rfl rfl ?_
            refine OL.q (Q1.assign rfl) rfl rfl ?_
            refine OL.nil ?_
            exact (ih2 _ _ _ ⟨(c1 / 2 : Nat), (k + 1 : Nat), rfl, rfl, hE2, (by omega), f2, (by first | exact hr.one (UInt8.toNat_lt _) (by omega) | exact hr.nil (UInt8.toNat_lt _) (by omega) | (exfalso; omega)), (by first | omega | (exfalso; omega))⟩ (by omega)).sub ⟨rfl, rfl, rfl, rfl, trivial⟩
        | false =>
          replace hb2 := of_decide_eq_false hb2.symm
          refine r_cond_f rfl ?_
          refine r_exit rfl ?_
          refine r_inBlock ?_
          refine r_region ?_
          refine OL.q (Q1.move rfl) rfl rfl ?_
          refine OL.q (Q1.addI (((i + 1 : Nat) : Int)) rfl rfl (by omega)) rfl rfl ?_
          refine OL.q (Q1.assign rfl) rfl rfl ?_
          refine OL.nil ?_
          exact (ih1 _ _ _ ⟨(c1 : Nat), (i + 1 : Nat), rfl, rfl, hE2, (by omega), f2, (by first | (rw [crcF_take hxi, ← hc]; exact RefK.fin (by rw [show k = 8 from by omega] at hr; exact hr) xi.toNat_lt) | (exfalso; omega)), (by first | exact hr.2 | (exfalso; omega)), (by first | omega | (exfalso; omega))⟩ (by omega)).sub ⟨rfl, rfl, rfl, trivial⟩
    | false =>
      replace hb1 := of_decide_eq_false hb1.symm
      refine r_cond_f rfl ?_
      refine r_exit rfl ?_
      refine r_seq ?_
      refine r_region ?_
      refine OL.q (Q1.move rfl) rfl rfl ?_
      refine OL.q (Q1.subU32 (a := 4294967295) (b := c) rfl rfl (by omega) (by omega)) rfl rfl ?_
      refine OL.q (Q1.assign rfl) rfl rfl ?_
      refine OL.nil ?_
      refine r_ret1 Tryz.func93 rfl rfl ?_
      exact Ret.mk ⟨(congrArg (Value.int .u32) (by first | (rw [hc, List.take_of_length_le (by omega)]; rfl) | (exfalso; omega))), hE1⟩
set_option maxRecDepth 20000 in
set_option maxHeartbeats 4000000 in
theorem r3put_c {w0 : World}  {v_b : Value} {b : List UInt8} (n : Int) (size : Nat) (h_b : Sl encB w0 (Iv 0 w0.heap.size) v_b b) (hbl : b.length ≤ 4000000) (hsz : size ≤ 8) :
    Calls Tryz.prog 75 #[v_b, .int .i64 n, .int .i64 (((size : Nat) : Int))] w0 (Ret fun rv w1 => (∃ gr, Acc encB 5 1 w1 gr rv (b ++ putN n size) ∧ (gr = 0 ∨ w0.heap.size < gr)) ∧ Ext w0 w1) := by
  have hE0 : Ext w0 w0 := Mod.refl _ _
  have hle1 := h_b.le
  refine calls_enter Tryz.func75 rfl Tryz.ntmps75 rfl ?_
  refine r_seq ?_
  refine r_region ?_
  refine OL.q (Q1.assign rfl) rfl rfl ?_
  refine OL.nil ?_
  refine r_seq ?_
  refine r_region ?_
  refine OL.q (Q1.move rfl) rfl rfl ?_
  refine OL.act rfl rfl (AW.append (Acc.nil (enc := encB) (e := 5) (sz := 1) (w := w0)) Tryz.underlying47 ti5 rfl encB_len encB_one rfl rfl (h_b) (by first | omega | (simp only [List.length_append, List.length_cons, List.length_nil]; omega) | (simp; omega)) (by unfold maxLen; first | omega | (simp only [List.length_append, List.length_cons, List.length_nil]; omega) | (simp; omega)) ?_)
  intro v1 g1 w1 ha1 hm1 hg1 hz1
  replace hm1 := hm1.toExt
  have f1 := h_b.ext hm1
  have hE1 := hE0.ext hm1
  have hs1 := hm1.size
  refine OL.q (Q1.assign rfl) rfl rfl ?_
  refine OL.nil ?_
  refine r_seq ?_
  refine r_region ?_
  refine OL.q (Q1.move rfl) rfl rfl ?_
  refine OL.q (Q1.convI (by kernel_rfl) Tryz.underlying133 rfl) rfl rfl ?_
  refine OL.q (Q1.assign rfl) rfl rfl ?_
  refine OL.nil ?_
  refine r_seq ?_
  refine r_seq ?_
  refine r_region ?_
  refine OL.q (Q1.move rfl) rfl rfl ?_
  refine OL.q (Q1.max rfl rfl) rfl rfl ?_
  refine OL.q (Q1.min rfl rfl) rfl rfl ?_
  rw [show (min (max (size : Int) 0) 8) = ((size : Nat) : Int) from by omega]
  refine OL.q (Q1.subI ((((size : Nat) : Int) - 1)) rfl rfl (by omega)) rfl rfl ?_
  refine OL.q (Q1.assign rfl) rfl rfl ?_
  refine OL.nil ?_
  refine r_block ?_
  refine r_loop (I := fun m E W => ∃ (v_out : Value) (g_out : Nat) (out : List UInt8) (i : Int), E = [(7, v_out), (8, .int .u64 ((IntKind.u64.wrap n))), (9, .int .i64 i)] ∧ m = (i + 1).toNat ∧ Ext w0 W ∧ w1.heap.size ≤ W.heap.size ∧ Acc encB 5 1 W g_out v_out out ∧ (g_out = 0 ∨ w0.heap.size < g_out) ∧ (out = b ++ (putN n size).take (size - 1 - i).toNat) ∧ (out.length ≤ b.length + (size - 1 - i).toNat) ∧ (-1 ≤ i ∧ i < (size : Int))) ?_ ?_
  · refine ⟨_, _, ⟨(v1 : Value), (g1 : Nat), (([] ++ b) : List UInt8), ((((size : Nat) : Int) - 1) : Int), rfl, rfl, hE1, Nat.le_refl _, ha1, (by omega), (by (rw [show ((size : Int) - 1 - ((size : Int) - 1)).toNat = 0 from by omega]; simp)), (by simp), (by omega)⟩, ⟨rfl, rfl, rfl, trivial⟩⟩
  · rintro _ _ w2 ⟨v_out, g_out, out, i, rfl, rfl, hE2, hs2, ha2, hg2, ho, hol, hil⟩ ih1
    refine r_seq ?_
    refine r_seq ?_
    refine r_region ?_
    refine OL.q (Q1.move rfl) rfl rfl ?_
    refine OL.qb (Q1.ge rfl rfl) rfl rfl ?_
    intro b1 hb1
    refine OL.nil ?_
    cases b1 with
    | true =>
      replace hb1 := of_decide_eq_true hb1.symm
      refine r_cond_t rfl ?_
      refine r_skip ?_
      refine r_seq ?_
      refine r_block ?_
      refine r_region ?_
      refine OL.q (Q1.move rfl) rfl rfl ?_
      refine OL.q (Q1.move rfl) rfl rfl ?_
      refine OL.q (Q1.move rfl) rfl rfl ?_
      refine OL.q (Q1.mulI ((8 * i)) rfl rfl (by omega)) rfl rfl ?_
      refine OL.q (Q1.shrN (((8 * i)).toNat) rfl rfl (by omega) (by simp only [IntKind.bits]; omega)) rfl rfl ?_
      refine OL.q (Q1.convB (by kernel_rfl) Tryz.underlying5 rfl) rfl rfl ?_
      refine OL.act rfl rfl (AW.buildSlice [(.int .u8 (((byN (((IntKind.u64.wrap n) / 2 ^ (((8 * i)).toNat)))).toNat : Int)) : Value)] Tryz.underlying47 ti5 rfl rfl rfl (by decide) ?_)
      intro w3 b2 hm2 hb2 hz2 hk1
      have hl1 := ha2.lt
      have f2 := ha2.ext hm2
      have hE3 := hE2.ext hm2
      have hs3 := hm2.size
      have hl2 := Sl.of_blk (enc := encB) hk1 ([(byN (((IntKind.u64.wrap n) / 2 ^ (((8 * i)).toNat))))] : List UInt8) 1 rfl rfl (by unfold maxLen; omega)
      have hl3 := f2.lt
      refine OL.act rfl rfl (AW.append f2 Tryz.underlying47 ti5 rfl encB_len encB_one rfl rfl (hl2) (by first | omega | (simp only [List.length_append, List.length_cons, List.length_nil]; omega) | (simp; omega)) (by unfold maxLen; first | omega | (simp only [List.length_append, List.length_cons, List.length_nil]; omega) | (simp; omega)) ?_)
      intro v2 g2 w4 ha3 hm3 hg3 hz3
      have hl4 := f2.lt
      have f3 := hl2.keepG hm3 (by omega)
      have hE4 := Ext.thenG hE3 hm3 (by omega)
      have hs4 := hm3.size
      refine OL.q (Q1.assign rfl) rfl rfl ?_
      refine OL.nil ?_
      refine r_inBlock ?_
      refine r_region ?_
      refine OL.q (Q1.move rfl) rfl rfl ?_
      refine OL.q (Q1.subI ((i - 1)) rfl rfl (by omega)) rfl rfl ?_
      refine OL.q (Q1.assign rfl) rfl rfl ?_
      refine OL.nil ?_
      exact (ih1 _ _ _ ⟨(v2 : Value), (g2 : Nat), ((out ++ [(byN (((IntKind.u64.wrap n) / 2 ^ (((8 * i)).toNat))))]) : List UInt8), ((i - 1) : Int), rfl, rfl, hE4, (by omega), ha3, (by omega), (by first | exact put_down ho (by omega) (by omega) | (exfalso; omega)), (by first | (simp only [List.length_append, List.length_cons, List.length_nil]; omega) | (exfalso; omega)), (by first | omega | (exfalso; omega))⟩ (by omega)).sub ⟨rfl, rfl, rfl, trivial⟩
    | false =>
      replace hb1 := of_decide_eq_false hb1.symm
      refine r_cond_f rfl ?_
      refine r_exit rfl ?_
      refine r_seq ?_
      refine r_region ?_
      refine OL.q (Q1.move rfl) rfl rfl ?_
      refine OL.q (Q1.assign rfl) rfl rfl ?_
      refine OL.nil ?_
      refine r_ret1 Tryz.func75 rfl rfl ?_
      exact Ret.mk ⟨⟨_, Acc.cast ha2 (by first | (rw [ho, List.take_of_length_le (by rw [putN_len]; omega)]) | (exfalso; omega)), by omega⟩, hE2⟩
set_option maxRecDepth 20000 in
set_option maxHeartbeats 4000000 in
theorem turned_c {w0 : World}  {v_b : Value} {b : List UInt8} (at_ : Int) (x : Int) (h_b : Sl encB w0 (Iv 0 w0.heap.size) v_b b) (h_at_ : I64 at_) (h_x : I64 x) (hb1 : 1 ≤ b.length) (hbl : b.length ≤ 4000000) :
    Calls Tryz.prog 32 #[v_b, .int .i64 at_, .int .i64 x] w0 (Ret fun rv w1 => (∃ gr, Acc encB 5 1 w1 gr rv (turnB b at_ x) ∧ (gr = 0 ∨ w0.heap.size < gr)) ∧ Ext w0 w1) := by
  have hE0 : Ext w0 w0 := Mod.refl _ _
  have hle1 := h_b.le
  refine calls_enter Tryz.func32 rfl Tryz.ntmps32 rfl ?_
  refine r_seq ?_
  refine r_region ?_
  refine OL.q (Q1.assign rfl) rfl rfl ?_
  refine OL.nil ?_
  refine r_seq ?_
  refine r_region ?_
  refine OL.q (Q1.move rfl) rfl rfl ?_
  refine OL.act rfl rfl (AW.append (Acc.nil (enc := encB) (e := 5) (sz := 1) (w := w0)) Tryz.underlying47 ti5 rfl encB_len encB_one rfl rfl (h_b) (by first | omega | (simp only [List.length_append, List.length_cons, List.length_nil]; omega) | (simp; omega)) (by unfold maxLen; first | omega | (simp only [List.length_append, List.length_cons, List.length_nil]; omega) | (simp; omega)) ?_)
  intro v1 g1 w1 ha1 hm1 hg1 hz1
  replace hm1 := hm1.toExt
  have f1 := h_b.ext hm1
  have hE1 := hE0.ext hm1
  have hs1 := hm1.size
  refine OL.q (Q1.assign rfl) rfl rfl ?_
  refine OL.nil ?_
  refine r_seq ?_
  refine r_region ?_
  refine OL.q (Q1.move rfl) rfl rfl ?_
  refine OL.q (Q1.convI (by kernel_rfl) Tryz.underlying75 rfl) rfl rfl ?_
  have hx64 := Ml.u64_range at_
  refine OL.q (Q1.move rfl) rfl rfl ?_
  refine OL.q (Q1.lenSl Tryz.underlying47 (f1) rfl) rfl rfl ?_
  refine OL.q (Q1.convN (by kernel_rfl) Tryz.underlying75 rfl (IntWalk.u64_in _ (by omega))) rfl rfl ?_
  have := Int.emod_nonneg ((IntKind.u64.wrap at_) : Int) (by omega : (((b.length : Nat) : Int) : Int) ≠ 0)
  have := Int.emod_lt_of_pos ((IntKind.u64.wrap at_) : Int) (by omega : (0 : Int) < ((b.length : Nat) : Int))
  refine OL.q (Q1.remI (((IntKind.u64.wrap at_) % (((b.length : Nat) : Int)))) rfl rfl ⟨by omega, by omega, rfl⟩) rfl rfl ?_
  have hlow := Ml.low_range at_ (b.length : Int) (by omega)
  unfold Ml.lowM at hlow
  have hlt0 : ((IntKind.u64.wrap at_) % (((b.length : Nat) : Int))).toNat < b.length := turnAt_lt (by omega) at_
  refine OL.q (Q1.convN (by kernel_rfl) Tryz.underlying3 rfl (IntWalk.i64_in _ (by omega))) rfl rfl ?_
  refine OL.q (Q1.assign rfl) rfl rfl ?_
  refine OL.nil ?_
  refine r_seq ?_
  refine r_region ?_
  refine OL.q (Q1.move rfl) rfl rfl ?_
  refine OL.q (Q1.move rfl) rfl rfl ?_
  refine OL.q (Q1.move rfl) rfl rfl ?_
  refine OL.q (Q1.move rfl) rfl rfl ?_
  obtain ⟨x1, b1, o1, hx1, hr1, hl1, hu1, hw1⟩ := Sl.at' (P := Tryz.prog) ha1.sl Tryz.underlying47 ti5 encB_len (k := .i64) (n := ((IntKind.u64.wrap at_) % (((b.length : Nat) : Int)))) ((((IntKind.u64.wrap at_) % (((b.length : Nat) : Int)))).toNat) (by omega) (by first | assumption | omega)
  refine OL.q (Q1.indexAddr rfl rfl hr1) rfl rfl ?_
  refine OL.q (Q1.load1 ti5 rfl (fun _ e => e ▸ hw1)) rfl rfl ?_
  refine OL.q (Q1.move rfl) rfl rfl ?_
  refine OL.q (Q1.convI (by kernel_rfl) Tryz.underlying75 rfl) rfl rfl ?_
  have hy64 := Ml.u64_range x
  have := Int.emod_nonneg ((IntKind.u64.wrap x) : Int) (by omega : (255 : Int) ≠ 0)
  have := Int.emod_lt_of_pos ((IntKind.u64.wrap x) : Int) (by omega : (0 : Int) < 255)
  refine OL.q (Q1.remI (((IntKind.u64.wrap x) % 255)) rfl rfl ⟨by omega, by omega, rfl⟩) rfl rfl ?_
  refine OL.q (Q1.addU ((1 + (((IntKind.u64.wrap x) % 255)))) rfl rfl (by omega)) rfl rfl ?_
  refine OL.q (Q1.convB (by kernel_rfl) Tryz.underlying5 rfl) rfl rfl ?_
  refine OL.q (Q1.xor8 (a := x1) (b := (byN ((1 + (((IntKind.u64.wrap x) % 255)))))) rfl rfl) rfl rfl ?_
  obtain ⟨hr2, x2, hx2⟩ := Acc.at (P := Tryz.prog) ha1 Tryz.underlying47 ti5 (k := .i64) (n := ((IntKind.u64.wrap at_) % (((b.length : Nat) : Int)))) ((((IntKind.u64.wrap at_) % (((b.length : Nat) : Int)))).toNat) (by omega) (by first | assumption | omega | (simp; done))
  refine OL.q (Q1.indexAddr rfl rfl hr2) rfl rfl ?_
  have hl3 := ha1.lt
  refine OL.act rfl rfl (AW.storeA ha1 encB_len (i := ((((IntKind.u64.wrap at_) % (((b.length : Nat) : Int)))).toNat)) (o := 0) hx2 ((x1 ^^^ (byN ((1 + (((IntKind.u64.wrap x) % 255))))))) ti5 rfl (by omega) rfl rfl rfl rfl (by decide) (by first | rfl | simp [encB]) ?_)
  intro w2 hm2 hz2 ha2
  have hl4 := ha1.lt
  have f2 := f1.keepG hm2 (by omega)
  have hE2 := Ext.thenG hE1 hm2 (by omega)
  have hs2 := hm2.size
  have hl2 : ((([] ++ b)).set ((((IntKind.u64.wrap at_) % (((b.length : Nat) : Int)))).toNat) ((x1 ^^^ (byN ((1 + (((IntKind.u64.wrap x) % 255)))))))).length = (([] ++ b)).length := List.length_set
  refine OL.nil ?_
  refine r_seq ?_
  refine r_region ?_
  refine OL.q (Q1.move rfl) rfl rfl ?_
  refine OL.q (Q1.assign rfl) rfl rfl ?_
  refine OL.nil ?_
  refine r_ret1 Tryz.func32 rfl rfl ?_
  exact Ret.mk ⟨⟨_, Acc.cast ha2 (by first | exact (turnB_yes hx1).symm | (exfalso; omega)), by omega⟩, hE2⟩
end Go.Proofs
