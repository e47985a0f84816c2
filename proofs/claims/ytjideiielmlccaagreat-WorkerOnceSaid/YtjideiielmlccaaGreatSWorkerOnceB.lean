/-
  What the law WorkerOnce needs, part 2 of 7: theory, and walks through the code.
-/
import Derived.Test.YtjideiielmlccaaGreatSWorkerOnceA
set_option linter.unusedVariables false
set_option linter.unusedSimpArgs false
namespace Go.Ml
open Go.Ik
def NoFF (s : Str) : Prop := (255 : UInt8) ∉ s
theorem by8_ne {n : Nat} (h : n % 256 ≠ 255) : by8 n ≠ 255 := fun e => by
  have := congrArg UInt8.toNat e
  rw [by8_toNat] at this
  exact h this
theorem encL_noff {c : Nat} (h : goodN c) : NoFF (encL c) := by
  obtain ⟨h1, h2, h3⟩ := h
  unfold NoFF encL
  repeat' split
  all_goals simp only [List.mem_cons, List.not_mem_nil, or_false, not_or]
  · exact fun e => by8_ne (by omega) e.symm
  · exact ⟨fun e => by8_ne (by omega) e.symm, fun e => by8_ne (by omega) e.symm⟩
  · exact ⟨fun e => by8_ne (by omega) e.symm, fun e => by8_ne (by omega) e.symm, fun e => by8_ne (by omega) e.symm⟩
  · exact ⟨fun e => by8_ne (by omega) e.symm, fun e => by8_ne (by omega) e.symm, fun e => by8_ne (by omega) e.symm, fun e => by8_ne (by omega) e.symm⟩
theorem fine_noff : ∀ s, Fine s → NoFF s :=
  fine_ind (by simp [NoFF]) fun c t hc _ ih => by
    have := encL_noff hc
    unfold NoFF at *
    rw [List.mem_append, not_or]; exact ⟨this, ih⟩
def joinS (l : List Str) : Str := Lib.join l [255]
theorem joinS_cons (x : Str) (r : List Str) : joinS (x :: r) = x ++ Lib.joinTail [255] r := Lib.join_cons x r [255]
theorem tail_cons (x : Str) (r : List Str) : Lib.joinTail [255] (x :: r) = 255 :: (x ++ Lib.joinTail [255] r) := by simp [Lib.joinTail]
theorem tail_nil : Lib.joinTail [255] [] = [] := rfl
theorem split_ff : ∀ (x y u v : Str), NoFF x → NoFF y → (u = [] ∨ ∃ u', u = 255 :: u') → (v = [] ∨ ∃ v', v = 255 :: v') → x ++ u = y ++ v → x = y ∧ u = v
  | [], [], u, v, _, _, _, _, h => ⟨rfl, h⟩
  | [], b :: y, u, v, _, hy, hu, _, h => by
    simp only [List.nil_append, List.cons_append] at h
    rcases hu with rfl | ⟨u', rfl⟩
    · cases h
    · simp only [List.cons.injEq] at h
      exact absurd (by simp [h.1]) hy
  | a :: x, [], u, v, hx, _, _, hv, h => by
    simp only [List.nil_append, List.cons_append] at h
    rcases hv with rfl | ⟨v', rfl⟩
    · cases h
    · simp only [List.cons.injEq] at h
      exact absurd (by simp [h.1]) hx
  | a :: x, b :: y, u, v, hx, hy, hu, hv, h => by
    simp only [List.cons_append, List.cons.injEq] at h
    have := split_ff x y u v (fun e => hx (by simp [e])) (fun e => hy (by simp [e])) hu hv h.2
    exact ⟨by rw [h.1, this.1], this.2⟩
theorem tail_shape (r : List Str) : Lib.joinTail [255] r = [] ∨ ∃ u, Lib.joinTail [255] r = 255 :: u := by
  cases r with
  | nil => exact .inl rfl
  | cons x r => exact .inr ⟨_, tail_cons x r⟩
theorem tail_inj : ∀ (r s : List Str), (∀ x ∈ r, NoFF x) → (∀ x ∈ s, NoFF x) → Lib.joinTail [255] r = Lib.joinTail [255] s → r = s
  | [], [], _, _, _ => rfl
  | [], y :: s, _, _, h => by rw [tail_nil, tail_cons] at h; cases h
  | x :: r, [], _, _, h => by rw [tail_nil, tail_cons] at h; cases h
  | x :: r, y :: s, hr, hs, h => by
    rw [tail_cons, tail_cons] at h
    simp only [List.cons.injEq, true_and] at h
    have := split_ff x y _ _ (hr x (by simp)) (hs y (by simp)) (tail_shape r) (tail_shape s) h
    rw [this.1, tail_inj r s (fun x hx => hr x (by simp [hx])) (fun x hx => hs x (by simp [hx])) this.2]
theorem joinS_inj {l m : List Str} (hl : ∀ x ∈ l, NoFF x) (hm : ∀ x ∈ m, NoFF x) (h1 : l ≠ []) (h2 : m ≠ []) (h : joinS l = joinS m) : l = m := by
  cases l with
  | nil => exact absurd rfl h1
  | cons x r =>
    cases m with
    | nil => exact absurd rfl h2
    | cons y s =>
      rw [joinS_cons, joinS_cons] at h
      have := split_ff x y _ _ (hl x (by simp)) (hm y (by simp)) (tail_shape r) (tail_shape s) h
      rw [this.1, tail_inj r s (fun x hx => hl x (by simp [hx])) (fun x hx => hm x (by simp [hx])) this.2]
theorem GoodR.noff {l : List Str} (h : GoodR l) : ∀ x ∈ l, NoFF x := fun x hx => fine_noff x (h.fine x hx)
def sumLen (l : List Str) : Nat := (l.map List.length).sum
theorem joinS_len (l : List Str) : (joinS l).length ≤ sumLen l + l.length := by
  cases l with
  | nil => simp [joinS, Lib.join, sumLen]
  | cons x r =>
    rw [joinS_cons]
    have : ∀ r : List Str, (Lib.joinTail [255] r).length ≤ sumLen r + r.length := by
      intro r
      induction r with
      | nil => simp [tail_nil]
      | cons y r ih => rw [tail_cons]; simp only [sumLen, List.map_cons, List.sum_cons, List.length_cons, List.length_append] at *; omega
    have := this r
    simp only [sumLen, List.map_cons, List.sum_cons, List.length_cons, List.length_append] at *; omega
/-- the map of a graph's names -/
def mapK (s : GS) : List (Str × Int) := s.mapIdx fun i x => (joinS x.1, (i : Int))
theorem mapK_snoc (s : GS) (x : List Str × List Ed) : mapK (s ++ [x]) = mapK s ++ [(joinS x.1, (s.length : Int))] := by
  unfold mapK; rw [List.mapIdx_concat]
theorem mapK_names {s t : GS} (h : names s = names t) : mapK s = mapK t := by
  unfold mapK
  have hl : s.length = t.length := by simpa [names] using congrArg List.length h
  refine List.ext_getElem (by simp [hl]) fun i h1 h2 => ?_
  simp only [List.length_mapIdx] at h1 h2
  simp only [List.getElem_mapIdx, Prod.mk.injEq, and_true]
  have : (names s)[i]'(by simpa [names] using h1) = (names t)[i]'(by simpa [names] using h2) := by simp only [h]
  simp only [names, List.getElem_map] at this
  rw [this]
/-- names that may be -/
def NamesOk (s : GS) : Prop := ∀ x ∈ s, x.1 ≠ [] ∧ ∀ t ∈ x.1, NoFF t
theorem asc_mapK {r : List Str} (hr : ∀ t ∈ r, NoFF t) (hne : r ≠ []) : ∀ (s : GS), NamesOk s → asc (mapK s) (joinS r) = (s.findIdx? fun x => x.1 == r).map fun i : Nat => (i : Int) := by
  intro s hs
  have key : ∀ (s : GS) (k : Nat), NamesOk s → asc (s.mapIdx fun i x => (joinS x.1, ((i + k : Nat) : Int))) (joinS r) = (s.findIdx? fun x => x.1 == r).map fun i : Nat => ((i + k : Nat) : Int) := by
    intro s
    induction s with
    | nil => intro k _; rfl
    | cons x s ih =>
      intro k h
      rw [List.mapIdx_cons, List.findIdx?_cons]
      by_cases hx : x.1 = r
      · simp [asc, hx]
      · have hj : joinS x.1 ≠ joinS r := fun e => hx (joinS_inj (h x (by simp)).2 hr (h x (by simp)).1 hne e)
        have := ih (k + 1) (fun y hy => h y (by simp [hy]))
        unfold asc at this ⊢
        rw [List.find?_cons]
        simp only [decide_eq_false hj]
        have e1 : (fun (i : Nat) (x : List Str × List Ed) => (joinS x.1, ((i + 1 + k : Nat) : Int))) = fun (i : Nat) (x : List Str × List Ed) => (joinS x.1, ((i + (k + 1) : Nat) : Int)) := by
          funext i x; congr 2; omega
        rw [e1, this]
        have hxb : (x.1 == r) = false := by simp [hx]
        simp only [hxb, Bool.false_eq_true, if_false, Option.map_map]
        cases s.findIdx? fun x => x.1 == r with
        | none => rfl
        | some i => simp only [Option.map_some, Function.comp_apply, Option.some.injEq]; omega
  exact key s 0 hs
def finB (r : List Str) : Bool := decide (r.head? = some [])
/-- where an edge leads -/
def nextM (es : List Ed) (r : Int) : Option Int := (es.find? fun e => e.rune == r).map Ed.to
def eachF {σ : Type} (f : σ → Str → σ × Bool) : σ → List Str → σ × Bool
  | s, [] => (s, true)
  | s, x :: r => if (f s x).2 = true then eachF f (f s x).1 r else ((f s x).1, false)
theorem rests_all {x : List Str × List Ed} (h : GoodR x.1) : x.1 = (if finB x.1 = true then [[]] else []) ++ (groups (dropE x.1)).flatMap fun g => g.2.map (encL g.1 ++ ·) := by
  have hd := dropE_good h
  have ok := groups_ok _ _ (Nat.le_refl _) hd.1 hd.2
  rw [ok.all]
  unfold finB
  cases hx : x.1 with
  | nil => simp [dropE]
  | cons a r =>
    cases a with
    | nil => simp [dropE]
    | cons y a => simp [dropE]
theorem RunInv.step {s : Str} {p : Nat} {l : List Int} (h : RunInv s p l) (he : s.drop p ≠ []) (hd : ((dec (s.drop p)).1 : Int) ≠ 65533) : RunInv s (p + (dec (s.drop p)).2) (l ++ [((dec (s.drop p)).1 : Int)]) := by
  obtain ⟨pre, h1, h2, h3⟩ := h.ex
  refine ⟨⟨_, h1.next he, by rw [h2, List.map_append]; rfl, ?_⟩⟩
  simp only [List.mem_append, List.mem_singleton, not_or]
  exact ⟨h3, fun e => hd (by omega)⟩
theorem RunInv.odd {s : Str} {p : Nat} {l : List Int} (h : RunInv s p l) (he : s.drop p ≠ []) (hd : ((dec (s.drop p)).1 : Int) = 65533) : false = fineT s := by
  obtain ⟨pre, h1, h2, h3⟩ := h.ex
  have := h1.mem he
  have e : (dec (s.drop p)).1 = 65533 := by omega
  rw [e] at this
  unfold fineT; simp [this]
theorem RunInv.done {s : Str} {p : Nat} {l : List Int} (h : RunInv s p l) (he : s.drop p = []) : l = runesI s ∧ true = fineT s := by
  obtain ⟨pre, h1, h2, h3⟩ := h.ex
  have := h1.done he
  refine ⟨by rw [h2, runesI, this], ?_⟩
  unfold fineT; rw [this]; simp [h3]
theorem RunInv.pos {s : Str} {p : Nat} {l : List Int} (h : RunInv s p l) : p ≤ s.length := by
  obtain ⟨pre, h1, _⟩ := h.ex
  exact h1.le
theorem runesM_len (s : Str) : (runesM s).length ≤ s.length := by
  unfold runesM
  split
  · unfold runesI; rw [List.length_map]; exact runes_length s
  · simp
def FirstInv (s : Str) (p : Nat) (hd : Int) : Prop := (p = 0 ∧ hd = 0) ∨ (0 < p ∧ p = wdN s ∧ hd = (hdN s : Int))
theorem FirstInv.next {s : Str} {p : Nat} {hd : Int} (h : FirstInv s p hd) (he : s.drop p ≠ []) (h0 : p = 0) : FirstInv s (p + (dec (s.drop p)).2) ((dec (s.drop p)).1 : Int) := by
  subst h0
  simp only [List.drop_zero, Nat.zero_add] at he ⊢
  have := dec_pos s he
  exact .inr ⟨by omega, rfl, rfl⟩
theorem FirstInv.ret {s : Str} {p : Nat} {hd : Int} (h : FirstInv s p hd) (h0 : 0 < p) : hd = (hdN s : Int) ∧ ((p : Nat) : Int) = ((wdN s : Nat) : Int) := by
  rcases h with h | h
  · omega
  · exact ⟨h.2.2, by rw [h.2.1]⟩
theorem FirstInv.fin {s : Str} {p : Nat} {hd : Int} (h : FirstInv s p hd) (hne : s ≠ []) (he : s.drop p = []) : hd = (hdN s : Int) ∧ ((s.length : Nat) : Int) = ((wdN s : Nat) : Int) := by
  rcases h with ⟨rfl, _⟩ | ⟨h1, h2, h3⟩
  · exact absurd (by simpa using he) hne
  · refine ⟨h3, ?_⟩
    have hl := dec_le s hne
    have := congrArg List.length he
    simp only [List.length_drop, List.length_nil] at this
    unfold wdN at *
    omega
theorem wdN_le (s : Str) : s ≠ [] → 1 ≤ wdN s ∧ wdN s ≤ s.length := fun h => ⟨dec_pos s h, dec_le s h⟩
theorem hdN_le (s : Str) : hdN s ≤ 1114111 := dec_rune s
theorem hp_yes {s p : Str} {b : Bool} (hl : ((s.length : Nat) : Int) ≥ ((p.length : Nat) : Int)) (hb : b = (s.take p.length == p)) : b = p.isPrefixOf s := by
  rw [hb, Bool.eq_iff_iff, List.isPrefixOf_iff_prefix, beq_iff_eq]
  constructor
  · intro h; rw [← h]; exact List.take_prefix _ _
  · rintro ⟨t, rfl⟩; simp
theorem hp_no {s p : Str} (hl : ¬ ((s.length : Nat) : Int) ≥ ((p.length : Nat) : Int)) : false = p.isPrefixOf s := by
  cases h : p.isPrefixOf s with
  | false => rfl
  | true =>
    rw [List.isPrefixOf_iff_prefix] at h
    have := h.length_le
    omega
structure NextInv (es : List Ed) (r : Int) (k : Nat) : Prop where
  no : ∀ e ∈ es.take k, e.rune ≠ r
theorem NextInv.none {es : List Ed} {r : Int} {k : Nat} (h : NextInv es r k) (hk : es.length ≤ k) : (0 : Int) = (nextM es r).getD 0 ∧ false = (nextM es r).isSome := by
  have hn := h.no
  rw [List.take_of_length_le hk] at hn
  have : es.find? (fun e => e.rune == r) = Option.none := by
    rw [List.find?_eq_none]
    intro e he; simp [hn e he]
  unfold nextM
  rw [this]
  exact ⟨rfl, rfl⟩
end Go.Ml
set_option linter.unusedSectionVars false
namespace Go.Ik
open Go
theorem Q1.eqNilSl {P : Program} {E : Env} {C : World → Prop} {d : Option Tmp} {ty : TypeId} {pos : String} {af : Array Edge} {gd : Option (Nat × Bool)} {xt yt e : TypeId} {x y : Operand} {a : Option Addr} {n c : Nat} (hu : P.underlying xt = some (.slice e)) (hx : ev E x = some (.slice a n c)) (hy : ev E y = some (.slice none 0 0)) :
    Q1 P ⟨d, .binOp .eql xt x y yt, ty, pos, af, gd⟩ E C (.bool a.isNone) := fun s ha w _ => by
  have h : (Op.equal xt (.slice a n c) (.slice none 0 0)).run P w = .ok a.isNone w := by
    have key : ∀ k, (Op.equalIn (k + 1) xt (.slice a n c) (.slice none 0 0)).run P w = .ok a.isNone w := fun k => by
      cases a <;> simp [Op.equalIn, run_underlying hu]
    exact key 9999
  have hg : (eqGuard .eql xt x y (.slice a n c) (.slice none 0 0)).run P w = .ok () w := by
    unfold eqGuard; split <;> simp
  simp [execOp, ha.ev hx, ha.ev hy, hg, Go.binOp, h]
theorem Sl.isNil {α : Type} {enc : α → List Value} {w : World} {F : Nat → Prop} {v : Value} {l : List α} (h : Sl enc w F v l) : ∃ a c, v = .slice a l.length c ∧ (a.isNone = true → l = []) := by
  obtain ⟨a, c, h1, h2, h3, h4⟩ := h
  refine ⟨a, c, h1, fun hn => ?_⟩
  rcases h4 with h4 | ⟨b, off, h5, _⟩
  · exact h4
  · subst h5; cases hn
structure RNode where
  fin : Bool
  e : SH
def encN (x : RNode) : List Value := [.bool x.fin, x.e.val]
theorem encN_len (x : RNode) : (encN x).length = 2 := rfl
theorem encN_one (x : RNode) : (encN x).all (·.oneCell') = true := rfl
abbrev GN := Bool × List Ml.Ed
def NRel (w : World) (F : Nat → Prop) (nds : List RNode) (N : List GN) : Prop := All2 (fun r n => r.fin = n.1 ∧ Sl Ml.encE w F r.e.val n.2) nds N
theorem NRel.keep {M : Nat → Prop} {w w' : World} {F : Nat → Prop} {nds : List RNode} {N : List GN} (h : NRel w F nds N) (hm : Mod M w w') (hF : ∀ b, F b → ¬ M b) : NRel w' F nds N :=
  All2.imp (fun r n ⟨h1, h2⟩ => ⟨h1, h2.keep hm hF⟩) h
theorem NRel.ext {w w' : World} {F : Nat → Prop} {nds : List RNode} {N : List GN} (h : NRel w F nds N) (hm : Ext w w') : NRel w' F nds N := h.keep hm (fun _ _ x => x)
theorem NRel.mono {w : World} {F F' : Nat → Prop} {nds : List RNode} {N : List GN} (h : NRel w F nds N) (hF : ∀ b, F b → F' b) : NRel w F' nds N :=
  All2.imp (fun r n ⟨h1, h2⟩ => ⟨h1, h2.mono hF⟩) h
theorem NRel.at {w : World} {F : Nat → Prop} {nds : List RNode} {N : List GN} (h : NRel w F nds N) {i : Nat} {r : RNode} (hr : nds[i]? = some r) : ∃ n, N[i]? = some n ∧ r.fin = n.1 ∧ Sl Ml.encE w F r.e.val n.2 := by
  have hg := h.get
  have hlt := (List.getElem?_eq_some_iff.1 hr).1
  have hx : N[i]? = some (N[i]'(by rw [← hg.1]; exact hlt)) := by simp
  exact ⟨_, hx, hg.2 i _ _ hr hx⟩
/-- a graph: nil (then it has no nodes) or one that has some -/
def Gr (gt : TypeId) (w : World) (lo hi : Nat) (v : Value) (N : List GN) : Prop :=
  (v = .pointer none ∧ N = []) ∨ ∃ b vn nds, v = ptr b 0 ∧ N ≠ [] ∧ Rw w lo hi b [vn] ∧ Sl encN w (Iv lo hi) vn nds ∧ NRel w (Iv lo hi) nds N
theorem Gr.ext {gt : TypeId} {w w' : World} {lo hi : Nat} {v : Value} {N : List GN} (h : Gr gt w lo hi v N) (hm : Ext w w') : Gr gt w' lo hi v N := by
  rcases h with h | ⟨b, vn, nds, h1, h2, h3, h4, h5⟩
  · exact .inl h
  · exact .inr ⟨b, vn, nds, h1, h2, h3.ext hm, h4.ext hm, h5.ext hm⟩
theorem Gr.keepG {gt : TypeId} {w w' : World} {lo hi g : Nat} {v : Value} {N : List GN} (h : Gr gt w lo hi v N) (hm : Mod (Mg g) w w') (hg : g ≤ lo ∨ hi < g) : Gr gt w' lo hi v N := by
  rcases h with h | ⟨b, vn, nds, h1, h2, h3, h4, h5⟩
  · exact .inl h
  · exact .inr ⟨b, vn, nds, h1, h2, h3.keepG hm hg, h4.keepG hm hg, h5.keep hm fun b hb hx => by unfold Iv Mg at *; omega⟩
/-- a graph's nodes out of its names -/
def gnOf (s : Ml.GS) : List GN := s.map fun x => (Ml.finB x.1, x.2)
def nodeAt (N : List GN) (n : Int) : GN := if 0 ≤ n then N[n.toNat]?.getD (false, []) else (false, [])
theorem nodeAt_no {N : List GN} {n : Int} (h : n < 0 ∨ (N.length : Int) ≤ n) : nodeAt N n = (false, []) := by
  unfold nodeAt
  split
  · have : N[n.toNat]? = none := List.getElem?_eq_none (by omega)
    rw [this]; rfl
  · rfl
theorem nodeAt_yes {N : List GN} {n : Int} {x : GN} (h : 0 ≤ n) (hx : N[n.toNat]? = some x) : nodeAt N n = x := by
  unfold nodeAt; rw [if_pos h, hx]; rfl
theorem NRel.keepG {w w' : World} {lo hi g : Nat} {nds : List RNode} {N : List GN} (h : NRel w (Iv lo hi) nds N) (hm : Mod (Mg g) w w') (hg : g ≤ lo ∨ hi < g) : NRel w' (Iv lo hi) nds N := h.keep hm fun b hb hx => by unfold Iv Mg at *; omega
theorem Gr.pos {gt : TypeId} {w : World} {lo hi : Nat} {v : Value} {N : List GN} (h : Gr gt w lo hi v N) (hn : 0 < N.length) : ∃ b vn nds, v = ptr b 0 ∧ N ≠ [] ∧ Rw w lo hi b [vn] ∧ Sl encN w (Iv lo hi) vn nds ∧ NRel w (Iv lo hi) nds N := by
  rcases h with ⟨_, h⟩ | h
  · subst h; simp at hn
  · exact h
theorem nodeAt_len {N : List GN} (h : ∀ x ∈ N, x.2.length ≤ 1000000) (n : Int) : (nodeAt N n).2.length ≤ 1000000 := by
  unfold nodeAt
  split
  · cases hx : N[n.toNat]? with
    | none => simp
    | some x => exact h x (List.mem_of_getElem? hx)
  · simp
theorem ModF.thenF {F F' : Nat → Prop} {w0 w w' : World} (h : Mod F w0 w) (k : Mod F' w w') (hF : ∀ b, F' b → F b ∨ w0.heap.size ≤ b) : Mod F w0 w' := h.then k (fun i hi hl => (hF i hi).resolve_right (by omega))
/-- all that is handed on may be -/
def OkAll {σ : Type} (ok : σ → Str → Prop) (f : σ → Str → σ × Bool) : σ → List Str → Prop
  | _, [] => True
  | s, x :: r => ok s x ∧ ((f s x).2 = true → OkAll ok f (f s x).1 r)
open Ml in
/-- what stands behind the first 'k' groups -/
def restL (ahead : Str) (r : List Str) (k : Nat) : List Str := ((groups (dropE r)).drop k).flatMap fun g => g.2.map fun t => ahead ++ (encL g.1 ++ t)
open Ml in
theorem map_rests {ahead : Str} {r : List Str} (h : GoodR r) : r.map (ahead ++ ·) = (if finB r = true then [ahead] else []) ++ restL ahead r 0 := by
  have ha := rests_all (x := (r, [])) h
  simp only at ha
  unfold restL
  conv => lhs; rw [ha]
  rw [List.map_append, List.drop_zero, List.map_flatMap]
  congr 1
  · split <;> simp
  · simp [List.map_map, Function.comp_def]
open Ml in
open Ml in
open Ml in
open Ml in
open Ml in
theorem each_first {σ : Type} {f : σ → Str → σ × Bool} {s : σ} {a : Str} {r : List Str} (h : (f s a).2 = true) : eachF f s ([a] ++ r) = eachF f (f s a).1 r := by
  simp [eachF, h]
open Ml in
theorem each_first_no {σ : Type} {f : σ → Str → σ × Bool} {s : σ} {a : Str} {r : List Str} (h : (f s a).2 = false) : eachF f s ([a] ++ r) = ((f s a).1, false) := by
  simp [eachF, h]
open Ml in
open Ml in
theorem edge_at {s : GS} {x : List Str × List Ed} (hc : Corr s x) (hgd : GoodR x.1) {k : Nat} {e : Ed} (he : x.2[k]? = some e) : ∃ (g : Nat × List Str) (j : Nat) (es : List Ed), (groups (dropE x.1))[k]? = some g ∧ e.rune = (g.1 : Int) ∧ e.to = (j : Int) ∧ s[j]? = some (g.2, es) ∧ goodN g.1 ∧ g.2 ≠ [] := by
  have hg := All2.get hc
  have hlt := (List.getElem?_eq_some_iff.1 he).1
  have hx : (groups (dropE x.1))[k]? = some ((groups (dropE x.1))[k]'(by rw [hg.1]; exact hlt)) := by simp
  obtain ⟨h1, j, es, h2, h3⟩ := hg.2 k _ _ hx he
  have hd := dropE_good hgd
  have ok := groups_ok _ _ (Nat.le_refl _) hd.1 hd.2
  have hok := ok.good _ (List.mem_of_getElem? hx)
  exact ⟨_, j, es, hx, h1, h2, h3, hok.1, hok.2.1⟩
open Ml in
theorem deep_edge {l : List Str} (hg : GoodR l) {d k : Nat} {g : Nat × List Str} (h : Deep d l) (hk : (groups (dropE l))[k]? = some g) : ∃ e, d = e + 1 ∧ Deep e g.2 := by
  have hgm := List.mem_of_getElem? hk
  cases d with
  | zero =>
    exfalso
    have hd := dropE_good hg
    have ok := groups_ok _ _ (Nat.le_refl _) hd.1 hd.2
    obtain ⟨t, ht⟩ : ∃ t, t ∈ g.2 := by
      cases hg2 : g.2 with
      | nil => exact absurd hg2 (ok.good g hgm).2.1
      | cons t _ => exact ⟨t, by simp⟩
    have hm : encL g.1 ++ t ∈ dropE l := by
      rw [← ok.all]
      exact List.mem_flatMap.2 ⟨g, hgm, List.mem_map.2 ⟨t, ht, rfl⟩⟩
    have := h _ (dropE_mem hm)
    rw [runes_app (ok.good g hgm).1] at this
    simp at this
  | succ e => exact ⟨e, rfl, deep_groups hg h g hgm⟩
open Ml in
theorem gnOf_at {s : GS} {n : Nat} {x : List Str × List Ed} (h : s[n]? = some x) : nodeAt (gnOf s) (n : Int) = (finB x.1, x.2) := by
  refine nodeAt_yes (by omega) ?_
  simp [gnOf, h]
theorem gnOf_len (s : Ml.GS) : (gnOf s).length = s.length := by simp [gnOf]
theorem encL_len4 (c : Nat) : (Ml.encL c).length ≤ 4 := by
  unfold Ml.encL; repeat' split
  all_goals simp
/-- a graph and the words it holds: none (of nil), or as they were built -/
structure GOk (N : List GN) (s : Ml.GS) (words : List Str) : Prop where
  nodes : N = gnOf s
  root : ∃ es, nodeAt N 0 = (Ml.finB words, es) ∧ Ml.Corr s (words, es)
  good : Ml.GoodR words
  deep : Ml.Deep 12 words
  node : ∀ y ∈ s, Ml.Corr s y ∧ Ml.GoodR y.1 ∧ Ml.Deep 12 y.1
  size : s.length ≤ 1000000
  elen : ∀ y ∈ s, y.2.length ≤ 1000000
theorem GOk.of {s : Ml.GS} {words : List Str} (h : Ml.WFG s words) (hs : s.length ≤ 1000000) (he' : ∀ y ∈ s, y.2.length ≤ 1000000) : GOk (gnOf s) s words := by
  obtain ⟨es, he⟩ := h.root
  have hn := h.node _ (List.mem_of_getElem? he)
  exact ⟨rfl, ⟨es, gnOf_at he, hn.corr⟩, hn.good, hn.deep, fun y hy => ⟨(h.node y hy).corr, (h.node y hy).good, (h.node y hy).deep⟩, hs, he'⟩
theorem GOk.empty : GOk [(false, [])] [([], [])] [] := ⟨rfl, ⟨[], rfl, .nil⟩, ⟨List.Pairwise.nil, by simp⟩, by simp [Ml.Deep], by
  intro y hy
  simp only [List.mem_singleton] at hy
  subst hy
  exact ⟨.nil, ⟨List.Pairwise.nil, by simp⟩, by simp [Ml.Deep]⟩, by simp, by simp⟩
def BoxAcc (te e : TypeId) (bl B : Nat) (l : List Str) (F : Nat → Prop) (w : World) : Prop :=
  ∃ v g, Bk w bl [v] te ∧ Acc encS e 1 w g v l ∧ bl + 1 ≠ g ∧ B ≤ bl ∧ (g = 0 ∨ B < g) ∧ ∀ b, F b ↔ b = bl ∨ b + 1 = g
theorem BoxAcc.go {te e : TypeId} {bl B : Nat} {l' : List Str} {F : Nat → Prop} {w w' : World} {v' : Value} {g g' : Nat} (h6 : ∀ b, F b ↔ b = bl ∨ b + 1 = g) (hB : B ≤ bl) (h5 : g = 0 ∨ B < g) (hne : bl + 1 ≠ g) (hb : bl < w.heap.size) (k1 : Bk w' bl [v'] te) (k2 : Acc encS e 1 w' g' v' l') (k3 : g' = g ∨ w.heap.size < g') :
    ∃ F', BoxAcc te e bl B l' F' w' ∧ ∀ b, F' b → F b ∨ w.heap.size ≤ b :=
  ⟨fun b => b = bl ∨ b + 1 = g', ⟨v', g', k1, k2, by omega, hB, by omega, fun b => Iff.rfl⟩, fun b hb' => by
    rcases hb' with e | e
    · exact .inl ((h6 b).2 (.inl e))
    · rcases k3 with k3 | k3
      · exact .inl ((h6 b).2 (.inr (by omega)))
      · exact .inr (by omega)⟩
theorem drop_el' {α : Type} {l : List α} {k : Nat} {x : α} (hx : l[k]? = some x) : l.drop k = x :: l.drop (k + 1) := by
  obtain ⟨h, rfl⟩ := List.getElem?_eq_some_iff.1 hx
  exact List.drop_eq_getElem_cons h
open Ml in
open Ml in
open Ml in
open Ml in
open Ml in
open Ml in
open Ml in
theorem GOk.edges {N : List GN} {s : GS} {words : List Str} (h : GOk N s words) : (∀ x ∈ N, ∀ e ∈ x.2, I64 e.to ∧ -2147483648 ≤ e.rune ∧ e.rune ≤ 2147483647) ∧ N.length ≤ 1000000 ∧ ∀ x ∈ N, x.2.length ≤ 1000000 := by
  rw [h.nodes]
  refine ⟨fun x hx e he => ?_, by rw [gnOf_len]; exact h.size, fun x hx => ?_⟩
  · obtain ⟨y, hy, rfl⟩ := List.mem_map.1 hx
    obtain ⟨k, hk⟩ := List.mem_iff_getElem?.1 he
    obtain ⟨g, j, es, h1, h2, h3, h4, h5, h6⟩ := edge_at (h.node y hy).1 (h.node y hy).2.1 hk
    have := (List.getElem?_eq_some_iff.1 h4).1
    have := h.size
    obtain ⟨h7, _⟩ := h5
    unfold I64; omega
  · obtain ⟨y, hy, rfl⟩ := List.mem_map.1 hx
    exact h.elen y hy
end Go.Ik
namespace Go.Ik
open Go Go.Proofs
theorem flat_encJ (l : List Str) : l.flatMap encS = l.map strV := by
  induction l with
  | nil => rfl
  | cons a l ih => simp [encS, ih]
theorem join_own {P : Program} {ρ : Go.Shelf.Ren} (L : Lays.n156 P ρ) (X : Builder.Extra P ρ) {w0 : World} {F : Nat → Prop} {v : Value} {l : List Str} (h : Sl encS w0 F v l) (hne : l ≠ []) (hb : ∀ b, F b → b < w0.heap.size) (hlen : Ml.sumLen l + l.length ≤ 100000000) :
    Calls P (ρ.f 156) #[v, strV [255]] w0 (Ret fun rv w1 => rv = strV (Ml.joinS l) ∧ Ext w0 w1) := by
  obtain ⟨a, cap, rfl, h2, h3, h4⟩ := h
  rcases h4 with h4 | ⟨b, off, rfl, hF, hr⟩
  · exact absurd h4 hne
  · have hj := Ml.joinS_len l
    have hmap : (l.map fun s : Str => (⟨s.toArray⟩ : ByteArray)).map (·.data.toList) = l := by
      rw [List.map_map]
      conv => rhs; rw [← List.map_id l]
      exact List.map_congr_left fun s _ => by simp
    have hc := Any.strings_Join_48 L X b off cap (l.map fun s : Str => (⟨s.toArray⟩ : ByteArray)) ⟨#[255]⟩ w0 (fun j x hx => by
      rw [List.getElem?_map] at hx
      obtain ⟨s, hs, rfl⟩ := Option.map_eq_some_iff.1 hx
      have := hr j (strV s) (by rw [flat_encJ, List.getElem?_map, hs]; rfl)
      exact this) (hb b hF) (by rw [List.length_map]; omega) (by rw [List.length_map]; exact h2) (by
      rw [hmap]
      have : (Ml.joinS l).length ≤ 281474976710656 := by omega
      exact this)
    rw [List.length_map, hmap] at hc
    refine Calls.mono hc ?_
    rintro e w' ⟨rfl, hw⟩
    exact ⟨_, rfl, rfl, Mod.of_below hw⟩
end Go.Ik
set_option linter.unusedSectionVars false
namespace Go.Ik
open Go
/-- what is said of some blocks, and of blocks 'R' that nobody writes -/
structure Res (R : Nat → Prop) where
  p : (Nat → Prop) → World → Prop
  keep : ∀ {F : Nat → Prop} {w w' : World} {M : Nat → Prop}, p F w → Mod M w w' → (∀ b, F b → ¬ M b) → (∀ b, R b → ¬ M b) → p F w'
/-- resources that lie apart within blocks 'U' -/
def Sep {R : Nat → Prop} (L : List (Res R)) (U : Nat → Prop) (w : World) : Prop :=
  ∃ Fs : Nat → Nat → Prop, (∀ (i : Nat) (A : Res R), L[i]? = some A → A.p (Fs i) w) ∧ (∀ i b, Fs i b → (U b ∧ ¬ R b) ∧ b < w.heap.size) ∧ ∀ i j b, i ≠ j → Fs i b → ¬ Fs j b
section
variable {R : Nat → Prop} {L : List (Res R)} {U : Nat → Prop} {w w' : World}
theorem Sep.keep {M : Nat → Prop} (h : Sep L U w) (hm : Mod M w w') (hU : ∀ b, U b → b < w.heap.size → ¬ M b) (hR : ∀ b, R b → ¬ M b) : Sep L U w' := by
  obtain ⟨Fs, h1, h2, h3⟩ := h
  exact ⟨Fs, fun i A hA => A.keep (h1 i A hA) hm (fun b hb => hU b (h2 i b hb).1.1 (h2 i b hb).2) hR, fun i b hb => ⟨(h2 i b hb).1, Nat.lt_of_lt_of_le (h2 i b hb).2 hm.size⟩, h3⟩
theorem Sep.act {i : Nat} {A : Res R} (h : Sep L U w) (hR : ∀ b, R b → b < w.heap.size) (hi : L[i]? = some A) : ∃ F, A.p F w ∧ (∀ b, F b → (U b ∧ ¬ R b) ∧ b < w.heap.size) ∧ ∀ (w' : World) (F' : Nat → Prop) (A' : Res R), Mod F w w' → A'.p F' w' → (∀ b, F' b → b < w'.heap.size ∧ (F b ∨ (w.heap.size ≤ b ∧ U b))) → Sep (L.set i A') U w' := by
  obtain ⟨Fs, h1, h2, h3⟩ := h
  refine ⟨Fs i, h1 i A hi, h2 i, fun w' F' A' hm hA' hF' => ⟨fun k => if k = i then F' else Fs k, fun k B hB => ?_, fun k b hb => ?_, fun j k b hjk hj hk => ?_⟩⟩
  · by_cases hk : k = i
    · subst hk
      rw [List.getElem?_set_self (List.getElem?_eq_some_iff.1 hi).1] at hB
      simp only [if_true]
      cases hB; exact hA'
    · rw [List.getElem?_set_ne (fun e => hk e.symm)] at hB
      simp only [if_neg hk]
      exact B.keep (h1 k B hB) hm (fun b hb hx => h3 k i b hk hb hx) fun b hb hx => (h2 i b hx).1.2 hb
  · by_cases hk : k = i
    · subst hk
      simp only [if_true] at hb
      obtain ⟨h4, h5⟩ := hF' b hb
      exact ⟨h5.elim (fun h => (h2 k b h).1) (fun h => ⟨h.2, fun hr => by have := hR b hr; omega⟩), h4⟩
    · simp only [if_neg hk] at hb
      exact ⟨(h2 k b hb).1, Nat.lt_of_lt_of_le (h2 k b hb).2 hm.size⟩
  · by_cases hji : j = i
    · have hki : k ≠ i := fun e => hjk (hji.trans e.symm)
      simp only [if_pos hji] at hj
      simp only [if_neg hki] at hk
      rcases (hF' b hj).2 with h5 | h5
      · exact h3 i k b (fun e => hki e.symm) h5 hk
      · have := (h2 k b hk).2; omega
    · simp only [if_neg hji] at hj
      by_cases hki : k = i
      · simp only [if_pos hki] at hk
        rcases (hF' b hk).2 with h5 | h5
        · exact h3 j i b hji hj h5
        · have := (h2 j b hj).2; omega
      · simp only [if_neg hki] at hk
        exact h3 j k b hjk hj hk
theorem Sep.new {A : Res R} {F : Nat → Prop} (h : Sep L U w) (hR : ∀ b, R b → b < w.heap.size) (hm : Ext w w') (hA : A.p F w') (hF : ∀ b, F b → U b ∧ w.heap.size ≤ b ∧ b < w'.heap.size) : Sep (L ++ [A]) U w' := by
  obtain ⟨Fs, h1, h2, h3⟩ := h
  refine ⟨fun k => if k = L.length then F else Fs k, fun k B hB => ?_, fun k b hb => ?_, fun j k b hjk hj hk => ?_⟩
  · by_cases hk : k = L.length
    · subst hk
      rw [List.getElem?_append_right (Nat.le_refl _)] at hB
      simp only [Nat.sub_self, List.getElem?_cons_zero, Option.some.injEq] at hB
      subst hB
      simp only [if_true]; exact hA
    · simp only [if_neg hk]
      have hlt := (List.getElem?_eq_some_iff.1 hB).1
      simp only [List.length_append, List.length_cons, List.length_nil] at hlt
      rw [List.getElem?_append_left (by omega)] at hB
      exact B.keep (h1 k B hB) hm (fun b hb hx => hx) fun _ _ hx => hx
  · by_cases hk : k = L.length
    · simp only [if_pos hk] at hb
      exact ⟨⟨(hF b hb).1, fun hr => by have := hR b hr; have := (hF b hb).2.1; omega⟩, (hF b hb).2.2⟩
    · simp only [if_neg hk] at hb
      exact ⟨(h2 k b hb).1, Nat.lt_of_lt_of_le (h2 k b hb).2 hm.size⟩
  · by_cases hji : j = L.length
    · have hki : k ≠ L.length := fun e => hjk (hji.trans e.symm)
      simp only [if_pos hji] at hj
      simp only [if_neg hki] at hk
      have := (h2 k b hk).2; have := (hF b hj).2.1; omega
    · simp only [if_neg hji] at hj
      by_cases hki : k = L.length
      · simp only [if_pos hki] at hk
        have := (h2 j b hj).2; have := (hF b hk).2.1; omega
      · simp only [if_neg hki] at hk
        exact h3 j k b hjk hj hk
theorem sel_at {α : Type} {L : List α} : ∀ (is : List Nat) (k : Nat), (∀ i ∈ is, i < L.length) → (is.filterMap fun i => L[i]?)[k]? = (is[k]?).bind fun i => L[i]?
  | [], k, _ => by simp
  | i :: is, 0, h => by
    have := h i (by simp)
    simp [List.getElem?_eq_getElem this]
  | i :: is, k + 1, h => by
    have := h i (by simp)
    rw [List.filterMap_cons, List.getElem?_eq_getElem this]
    simp only [List.getElem?_cons_succ]
    exact sel_at is k fun j hj => h j (by simp [hj])
theorem Sep.sel (is : List Nat) (h : Sep L U w) (hl : (is.all fun i => decide (i < L.length)) = true) (hn : is.Nodup) : Sep (is.filterMap fun i => L[i]?) U w := by
  obtain ⟨Fs, h1, h2, h3⟩ := h
  have hl' : ∀ i ∈ is, i < L.length := fun i hi => of_decide_eq_true (List.all_eq_true.1 hl i hi)
  refine ⟨fun k b => ∃ i, is[k]? = some i ∧ Fs i b, fun k B hB => ?_, fun k b hb => ?_, fun j k b hjk hj hk => ?_⟩
  · rw [sel_at is k hl'] at hB
    obtain ⟨i, hi, hB⟩ := Option.bind_eq_some_iff.1 hB
    have e : (fun b => ∃ i, is[k]? = some i ∧ Fs i b) = Fs i := by
      funext b
      rw [hi]
      exact propext ⟨fun ⟨j, hj, hb⟩ => by cases hj; exact hb, fun hb => ⟨i, rfl, hb⟩⟩
    show B.p (fun b => ∃ i, is[k]? = some i ∧ Fs i b) w
    rw [e]; exact h1 i B hB
  · obtain ⟨i, _, hb⟩ := hb
    exact h2 i b hb
  · obtain ⟨i, hi, hbi⟩ := hj
    obtain ⟨i', hi', hbi'⟩ := hk
    refine h3 i i' b (fun e => ?_) hbi hbi'
    subst e
    obtain ⟨q1, q2⟩ := List.getElem?_eq_some_iff.1 hi
    obtain ⟨q3, q4⟩ := List.getElem?_eq_some_iff.1 hi'
    exact hjk ((List.getElem_inj hn).1 (q2.trans q4.symm))
theorem Sep.imp {i : Nat} {A A' : Res R} (h : Sep L U w) (hR : ∀ b, R b → b < w.heap.size) (hi : L[i]? = some A) (hA : ∀ F, A.p F w → A'.p F w) : Sep (L.set i A') U w := by
  obtain ⟨F, h1, h2, k⟩ := h.act hR hi
  exact k w F A' (Mod.refl _ _) (hA F h1) fun b hb => ⟨(h2 b hb).2, .inl hb⟩
theorem Sep.two {i j : Nat} {A B : Res R} (h : Sep L U w) (hi : L[i]? = some A) (hj : L[j]? = some B) (hn : i ≠ j) : ∃ F G, A.p F w ∧ B.p G w ∧ (∀ b, G b → ¬ F b) := by
  obtain ⟨Fs, h1, h2, h3⟩ := h
  exact ⟨Fs i, Fs j, h1 i A hi, h1 j B hj, fun b hb hx => h3 i j b hn hx hb⟩
end
/-- several as one -/
def boxR {R : Nat → Prop} (L : List (Res R)) : Res R := ⟨fun F w => Sep L F w, fun h hm hF hR => h.keep hm (fun b hb _ => hF b hb) hR⟩
theorem Sep.close {R : Nat → Prop} {L1 L2 : List (Res R)} {U : Nat → Prop} {w : World} (h : Sep (L1 ++ L2) U w) : Sep (L1 ++ [boxR L2]) U w := by
  obtain ⟨Fs, h1, h2, h3⟩ := h
  refine ⟨fun k b => if k < L1.length then Fs k b else k = L1.length ∧ ∃ j, Fs (L1.length + j) b, fun k B hB => ?_, fun k b hb => ?_, fun j k b hjk hj hk => ?_⟩
  · by_cases hk : k < L1.length
    · simp only [if_pos hk]
      rw [List.getElem?_append_left hk] at hB
      exact h1 k B (by rw [List.getElem?_append_left hk]; exact hB)
    · have hlt := (List.getElem?_eq_some_iff.1 hB).1
      simp only [List.length_append, List.length_cons, List.length_nil] at hlt
      have hk' : k = L1.length := by omega
      subst hk'
      rw [List.getElem?_append_right (Nat.le_refl _)] at hB
      simp only [Nat.sub_self, List.getElem?_cons_zero, Option.some.injEq] at hB
      subst hB
      simp only [Nat.lt_irrefl, if_false, true_and]
      exact ⟨fun j => Fs (L1.length + j), fun j A hA => h1 _ A (by rw [List.getElem?_append_right (by omega), Nat.add_sub_cancel_left]; exact hA), fun j b hb => ⟨⟨⟨j, hb⟩, (h2 _ b hb).1.2⟩, (h2 _ b hb).2⟩, fun i j b hij => h3 _ _ b (by omega)⟩
  · by_cases hk : k < L1.length
    · simp only [if_pos hk] at hb; exact h2 k b hb
    · simp only [if_neg hk] at hb
      obtain ⟨_, j, hb⟩ := hb
      exact h2 _ b hb
  · by_cases hj' : j < L1.length
    · simp only [if_pos hj'] at hj
      by_cases hk' : k < L1.length
      · simp only [if_pos hk'] at hk; exact h3 j k b hjk hj hk
      · simp only [if_neg hk'] at hk
        obtain ⟨_, m, hk⟩ := hk
        exact h3 j _ b (by omega) hj hk
    · simp only [if_neg hj'] at hj
      obtain ⟨e, m, hj⟩ := hj
      by_cases hk' : k < L1.length
      · simp only [if_pos hk'] at hk
        exact h3 _ k b (by omega) hj hk
      · simp only [if_neg hk'] at hk
        exact hjk (e.trans hk.1.symm)
theorem Sep.open {R : Nat → Prop} {L1 L2 : List (Res R)} {U : Nat → Prop} {w : World} (h : Sep (L1 ++ [boxR L2]) U w) : Sep (L1 ++ L2) U w := by
  obtain ⟨Fs, h1, h2, h3⟩ := h
  obtain ⟨Gs, g1, g2, g3⟩ := h1 L1.length (boxR L2) (by rw [List.getElem?_append_right (Nat.le_refl _)]; simp)
  refine ⟨fun k => if k < L1.length then Fs k else Gs (k - L1.length), fun k B hB => ?_, fun k b hb => ?_, fun j k b hjk hj hk => ?_⟩
  · by_cases hk : k < L1.length
    · simp only [if_pos hk]
      rw [List.getElem?_append_left hk] at hB
      exact h1 k B (by rw [List.getElem?_append_left hk]; exact hB)
    · simp only [if_neg hk]
      rw [List.getElem?_append_right (by omega)] at hB
      exact g1 _ B hB
  · by_cases hk : k < L1.length
    · simp only [if_pos hk] at hb; exact h2 k b hb
    · simp only [if_neg hk] at hb
      exact ⟨(h2 _ b (g2 _ b hb).1.1).1, (g2 _ b hb).2⟩
  · by_cases hj' : j < L1.length
    · simp only [if_pos hj'] at hj
      by_cases hk' : k < L1.length
      · simp only [if_pos hk'] at hk; exact h3 j k b hjk hj hk
      · simp only [if_neg hk'] at hk
        exact h3 j L1.length b (by omega) hj (g2 _ b hk).1.1
    · simp only [if_neg hj'] at hj
      by_cases hk' : k < L1.length
      · simp only [if_pos hk'] at hk
        exact h3 L1.length k b (by omega) (g2 _ b hj).1.1 hk
      · simp only [if_neg hk'] at hk
        exact g3 _ _ b (by omega) hj hk
section
variable {R : Nat → Prop}
def bkR (b : Nat) (cs : List Value) (e : TypeId) : Res R := ⟨fun F w => Bk w b cs e ∧ F b, fun h hm hF _ => ⟨h.1.keep hm (hF b h.2), h.2⟩⟩
def accR {α : Type} (enc : α → List Value) (e : TypeId) (sz : Nat) (v : Value) (l : List α) : Res R :=
  ⟨fun F w => ∃ g, Acc enc e sz w g v l ∧ ∀ b, b + 1 = g → F b, fun ⟨g, h1, h2⟩ hm hF _ => ⟨g, h1.keep hm fun b hb => hF b (h2 b hb.symm), h2⟩⟩
/-- slices that are read only, in blocks of one's own or in those that nobody writes -/
def slR {α : Type} (enc : α → List Value) (vs : List (Value × List α)) : Res R :=
  ⟨fun F w => ∀ x ∈ vs, Sl enc w (fun b => F b ∨ R b) x.1 x.2, fun h hm hF hR x hx => (h x hx).keep hm fun b hb => hb.elim (hF b) (hR b)⟩
def mapR {α β : Type} [DecidableEq α] (key : α → Value) (val : β → Value) (b : Nat) (m : List (α × β)) : Res R :=
  ⟨fun F w => MapO key val w b m ∧ F b, fun {F w w' M} h hm hF _ => ⟨by
    obtain ⟨⟨es, c, h1, h2⟩, hb⟩ := h
    exact ⟨es, c, hm.keep _ _ h1 (hF b hb), h2⟩, h.2⟩⟩
def exR {α : Type} (A : α → Res R) : Res R := ⟨fun F w => ∃ a, (A a).p F w, fun ⟨a, h⟩ hm hF hR => ⟨a, (A a).keep h hm hF hR⟩⟩
def andR (P : Prop) (A : Res R) : Res R := ⟨fun F w => P ∧ A.p F w, fun h hm hF hR => ⟨h.1, A.keep h.2 hm hF hR⟩⟩
end
theorem mg_weaken {F : Nat → Prop} {b : Nat} {w w' : World} (hm : Mod (Mg (b + 1)) w w') (hb : F b) : Mod F w w' := hm.weaken fun b' hb' _ => by
  have e : b' = b := by unfold Mg at hb'; omega
  rw [e]; exact hb
/-- where a walk stands: what may have been written since the call began; what is held -/
structure St (R F0 : Nat → Prop) (w0 w : World) (L : List (Res R)) : Prop where
  mod : Mod F0 w0 w
  far : ∀ b, R b → b < w0.heap.size ∧ ¬ F0 b
  sep : Sep L (fun b => F0 b ∨ w0.heap.size ≤ b) w
section
variable {R F0 : Nat → Prop} {w0 w w' : World} {L : List (Res R)} {i j : Nat} {A B : Res R}
theorem St.rlt (h : St R F0 w0 w L) : ∀ b, R b → b < w.heap.size := fun b hb => Nat.lt_of_lt_of_le (h.far b hb).1 h.mod.size
theorem St.start (w0 : World) (hR : ∀ b, R b → b < w0.heap.size) : St R (fun _ => False) w0 w0 [] := ⟨Mod.refl _ _, fun b hb => ⟨hR b hb, id⟩, ⟨fun _ _ => False, fun i A h => by simp at h, fun _ _ h => h.elim, fun _ _ _ _ h => h.elim⟩⟩
theorem St.start0 (w0 : World) : St (fun _ => False) (fun _ => False) w0 w0 [] := St.start w0 fun _ h => h.elim
theorem St.start1 {F : Nat → Prop} (hA : A.p F w0) (hF : ∀ b, F b → b < w0.heap.size ∧ ¬ R b) (hR : ∀ b, R b → b < w0.heap.size) : St R F w0 w0 [A] := ⟨Mod.refl _ _, fun b hb => ⟨hR b hb, fun h => (hF b h).2 hb⟩, ⟨fun i b => i = 0 ∧ F b, fun i B h => by
    cases i with
    | zero =>
      simp only [List.getElem?_cons_zero, Option.some.injEq] at h
      subst h
      simpa using hA
    | succ i => simp at h, fun i b h => ⟨⟨.inl h.2, (hF b h.2).2⟩, (hF b h.2).1⟩, fun i j b hij h1 h2 => hij (h1.1.trans h2.1.symm)⟩⟩
theorem St.ext (h : St R F0 w0 w L) (hm : Ext w w') : St R F0 w0 w' L := ⟨h.mod.ext hm, h.far, h.sep.keep hm (fun _ _ _ x => x) fun _ _ x => x⟩
theorem St.get (h : St R F0 w0 w L) (hi : L[i]? = some A) : ∃ F, A.p F w ∧ ∀ b, F b → b < w.heap.size := by
  obtain ⟨Fs, h1, h2, _⟩ := h.sep
  exact ⟨Fs i, h1 i A hi, fun b hb => (h2 i b hb).2⟩
theorem St.act (h : St R F0 w0 w L) (hi : L[i]? = some A) : ∃ F, A.p F w ∧ (∀ b, F b → ((F0 b ∨ w0.heap.size ≤ b) ∧ ¬ R b) ∧ b < w.heap.size) ∧ ∀ (w' : World) (F' : Nat → Prop) (A' : Res R), Mod F w w' → A'.p F' w' → (∀ b, F' b → b < w'.heap.size ∧ (F b ∨ w.heap.size ≤ b)) → St R F0 w0 w' (L.set i A') := by
  obtain ⟨F, h1, h2, k⟩ := h.sep.act h.rlt hi
  refine ⟨F, h1, h2, fun w' F' A' hm hA' hF' => ⟨h.mod.then hm fun b hb hl => (h2 b hb).1.1.resolve_right (by omega), h.far, k w' F' A' hm hA' fun b hb => ⟨(hF' b hb).1, (hF' b hb).2.imp id fun hb => ⟨hb, .inr (Nat.le_trans h.mod.size hb)⟩⟩⟩⟩
theorem St.act2 (h : St R F0 w0 w L) (hi : L[i]? = some A) (hj : L[j]? = some B) (hn : i ≠ j) : ∃ F G, A.p F w ∧ B.p G w ∧ (∀ b, G b → ¬ F b) ∧ (∀ b, F b → ((F0 b ∨ w0.heap.size ≤ b) ∧ ¬ R b) ∧ b < w.heap.size) ∧ (∀ b, G b → b < w.heap.size) ∧ ∀ (w' : World) (F' : Nat → Prop) (A' : Res R), Mod F w w' → A'.p F' w' → (∀ b, F' b → b < w'.heap.size ∧ (F b ∨ w.heap.size ≤ b)) → St R F0 w0 w' (L.set i A') := by
  obtain ⟨Fs, h1, h2, h3⟩ := h.sep
  let U : Nat → Prop := fun b => F0 b ∨ w0.heap.size ≤ b
  have hS : Sep L U w := ⟨Fs, h1, h2, h3⟩
  refine ⟨Fs i, Fs j, h1 i A hi, h1 j B hj, fun b hb hx => h3 i j b hn hx hb, h2 i, fun b hb => (h2 j b hb).2, fun w' F' A' hm hA' hF' => ⟨h.mod.then hm fun b hb hl => (h2 i b hb).1.1.resolve_right (by omega), h.far, ?_⟩⟩
  refine ⟨fun k => if k = i then F' else Fs k, fun k B hB => ?_, fun k b hb => ?_, fun j k b hjk hj hk => ?_⟩
  · by_cases hk : k = i
    · subst hk
      rw [List.getElem?_set_self (List.getElem?_eq_some_iff.1 hi).1] at hB
      simp only [if_true]
      cases hB; exact hA'
    · rw [List.getElem?_set_ne (fun e => hk e.symm)] at hB
      simp only [if_neg hk]
      exact B.keep (h1 k B hB) hm (fun b hb hx => h3 k i b hk hb hx) fun b hb hx => (h2 i b hx).1.2 hb
  · by_cases hk : k = i
    · subst hk
      simp only [if_true] at hb
      obtain ⟨h4, h5⟩ := hF' b hb
      exact ⟨h5.elim (fun h => (h2 k b h).1) (fun hb => ⟨.inr (Nat.le_trans h.mod.size hb), fun hr => by have := h.rlt b hr; omega⟩), h4⟩
    · simp only [if_neg hk] at hb
      exact ⟨(h2 k b hb).1, Nat.lt_of_lt_of_le (h2 k b hb).2 hm.size⟩
  · by_cases hji : j = i
    · have hki : k ≠ i := fun e => hjk (hji.trans e.symm)
      simp only [if_pos hji] at hj
      simp only [if_neg hki] at hk
      rcases (hF' b hj).2 with h5 | h5
      · exact h3 i k b (fun e => hki e.symm) h5 hk
      · have := (h2 k b hk).2; omega
    · simp only [if_neg hji] at hj
      by_cases hki : k = i
      · simp only [if_pos hki] at hk
        rcases (hF' b hk).2 with h5 | h5
        · exact h3 j i b hji hj h5
        · have := (h2 j b hj).2; omega
      · simp only [if_neg hki] at hk
        exact h3 j k b hjk hj hk
theorem St.new {F : Nat → Prop} (h : St R F0 w0 w L) (hm : Ext w w') (hA : A.p F w') (hF : ∀ b, F b → w.heap.size ≤ b ∧ b < w'.heap.size) : St R F0 w0 w' (L ++ [A]) :=
  ⟨h.mod.ext hm, h.far, h.sep.new h.rlt hm hA fun b hb => ⟨.inr (Nat.le_trans h.mod.size (hF b hb).1), hF b hb⟩⟩
theorem St.sel (is : List Nat) (h : St R F0 w0 w L) (hl : (is.all fun i => decide (i < L.length)) = true) (hn : is.Nodup) : St R F0 w0 w (is.filterMap fun i => L[i]?) := ⟨h.mod, h.far, h.sep.sel is hl hn⟩
theorem St.imp {A' : Res R} (h : St R F0 w0 w L) (hi : L[i]? = some A) (hA : ∀ F, A.p F w → A'.p F w) : St R F0 w0 w (L.set i A') := ⟨h.mod, h.far, h.sep.imp h.rlt hi hA⟩
theorem St.close {L1 L2 : List (Res R)} (h : St R F0 w0 w (L1 ++ L2)) : St R F0 w0 w (L1 ++ [boxR L2]) := ⟨h.mod, h.far, h.sep.close⟩
theorem St.open {L1 L2 : List (Res R)} (h : St R F0 w0 w (L1 ++ [boxR L2])) : St R F0 w0 w (L1 ++ L2) := ⟨h.mod, h.far, h.sep.open⟩
theorem St.fin (h : St R F0 w0 w [A]) : Mod F0 w0 w ∧ ∃ F', A.p F' w ∧ ∀ b, F' b → b < w.heap.size ∧ (F0 b ∨ w0.heap.size ≤ b) := by
  obtain ⟨Fs, h1, h2, _⟩ := h.sep
  exact ⟨h.mod, Fs 0, h1 0 A rfl, fun b hb => ⟨(h2 0 b hb).2, (h2 0 b hb).1.1⟩⟩
theorem St.exo {α : Type} {A : α → Res R} (h : St R F0 w0 w L) (hi : L[i]? = some (exR A)) : ∃ a, St R F0 w0 w (L.set i (A a)) := by
  obtain ⟨F, ⟨a, ha⟩, h2, k⟩ := h.act hi
  exact ⟨a, k w F (A a) (Mod.refl _ _) ha fun b hb => ⟨(h2 b hb).2, .inl hb⟩⟩
theorem St.exi {α : Type} {A : α → Res R} (h : St R F0 w0 w L) (a : α) (hi : L[i]? = some (A a)) : St R F0 w0 w (L.set i (exR A)) := h.imp hi fun F x => ⟨a, x⟩
theorem St.bk {b : Nat} {cs : List Value} {e : TypeId} (h : St R F0 w0 w L) (hi : L[i]? = some (bkR b cs e)) : Bk w b cs e := by
  obtain ⟨F, h1, _⟩ := h.get hi; exact h1.1
theorem St.bkK {b : Nat} {cs cs' : List Value} {e : TypeId} (h : St R F0 w0 w L) (hi : L[i]? = some (bkR b cs e)) (hm : Mod (Mg (b + 1)) w w') (hk : Bk w' b cs' e) : St R F0 w0 w' (L.set i (bkR b cs' e)) := by
  obtain ⟨F, h1, h2, k⟩ := h.act hi
  exact k w' F _ (mg_weaken hm h1.2) ⟨hk, h1.2⟩ fun b hb => ⟨Nat.lt_of_lt_of_le (h2 b hb).2 hm.size, .inl hb⟩
theorem St.newBk {b : Nat} {cs : List Value} {e : TypeId} (h : St R F0 w0 w L) (hm : Ext w w') (hb : b = w.heap.size) (hk : Bk w' b cs e) : St R F0 w0 w' (L ++ [bkR b cs e]) :=
  h.new (F := fun x => x = b) hm ⟨hk, rfl⟩ fun x hx => by have := hk.lt; omega
theorem St.map {α β : Type} [DecidableEq α] {key : α → Value} {val : β → Value} {b : Nat} {m : List (α × β)} (h : St R F0 w0 w L) (hi : L[i]? = some (mapR key val b m)) : MapO key val w b m := by
  obtain ⟨F, h1, _⟩ := h.get hi; exact h1.1
theorem St.mapK {α β : Type} [DecidableEq α] {key : α → Value} {val : β → Value} {b : Nat} {m m' : List (α × β)} (h : St R F0 w0 w L) (hi : L[i]? = some (mapR key val b m)) (hm : Mod (Mg (b + 1)) w w') (hk : MapO key val w' b m') : St R F0 w0 w' (L.set i (mapR key val b m')) := by
  obtain ⟨F, h1, h2, k⟩ := h.act hi
  exact k w' F _ (mg_weaken hm h1.2) ⟨hk, h1.2⟩ fun b hb => ⟨Nat.lt_of_lt_of_le (h2 b hb).2 hm.size, .inl hb⟩
theorem St.newMap {α β : Type} [DecidableEq α] {key : α → Value} {val : β → Value} {b : Nat} {m : List (α × β)} (h : St R F0 w0 w L) (hm : Ext w w') (hb : b = w.heap.size) (hk : MapO key val w' b m) : St R F0 w0 w' (L ++ [mapR key val b m]) :=
  h.new (F := fun x => x = b) hm ⟨hk, rfl⟩ fun x hx => by have := hk.lt; omega
section
variable {α : Type} {enc : α → List Value} {e : TypeId} {sz : Nat} {v : Value} {l : List α}
theorem Acc.uniq {g g' : Nat} {w' : World} (h : Acc enc e sz w g v l) {e' : TypeId} {sz' : Nat} {l' : List α} (h' : Acc enc e' sz' w' g' v l') : g = g' := by
  rcases h with ⟨h1, _, h2⟩ | ⟨b, cap, cur, h0, h1, _⟩ <;> rcases h' with ⟨k1, _, k2⟩ | ⟨b', cap', cur', k0, k1, _⟩
  · omega
  · rw [h1] at k1; simp at k1
  · rw [h1] at k1; simp at k1
  · rw [h1] at k1
    simp only [Value.slice.injEq, Option.some.injEq, Addr.mk.injEq] at k1
    omega
theorem St.accK (h : St R F0 w0 w L) (hi : L[i]? = some (accR enc e sz v l)) : ∃ g, Acc enc e sz w g v l ∧ g ≤ w.heap.size ∧ ∀ (w' : World) (g' : Nat) (v' : Value) (l' : List α), Mod (Mg g) w w' → Acc enc e sz w' g' v' l' → (g' = g ∨ w.heap.size < g') → St R F0 w0 w' (L.set i (accR enc e sz v' l')) := by
  obtain ⟨F, ⟨g, h1, h3⟩, h2, k⟩ := h.act hi
  refine ⟨g, h1, h1.lt, fun w' g' v' l' hm ha hg => k w' (fun b => b + 1 = g') _ (hm.weaken fun b hb _ => h3 b hb) ⟨g', ha, fun b hb => hb⟩ fun b hb => ⟨?_, ?_⟩⟩
  · have := ha.lt; omega
  · rcases hg with hg | hg
    · exact .inl (h3 b (by omega))
    · exact .inr (by omega)
theorem St.newAcc {g : Nat} (h : St R F0 w0 w L) (hm : Ext w w') (ha : Acc enc e sz w' g v l) (hg : g = 0 ∨ w.heap.size < g) : St R F0 w0 w' (L ++ [accR enc e sz v l]) :=
  h.new (F := fun b => b + 1 = g) hm ⟨g, ha, fun b hb => hb⟩ fun b hb => by have := ha.lt; omega
theorem St.ne {b g : Nat} {cs : List Value} {e' : TypeId} (h : St R F0 w0 w L) (hi : L[i]? = some (accR enc e sz v l)) (hj : L[j]? = some (bkR b cs e')) (hij : i ≠ j) (ha : Acc enc e sz w g v l) : b + 1 ≠ g := by
  obtain ⟨F, G, ⟨g', h1, h2⟩, h3, h4⟩ := h.sep.two hi hj hij
  have := ha.uniq h1
  subst this
  intro e
  exact h4 b h3.2 (h2 b e)
theorem St.sl {vs : List (Value × List α)} {k : Nat} (h : St R F0 w0 w L) (hi : L[i]? = some (slR enc vs)) (hk : vs[k]? = some (v, l)) : Sl enc w (Iv 0 w.heap.size) v l := by
  obtain ⟨F, h1, h2⟩ := h.get hi
  exact (h1 _ (List.mem_of_getElem? hk)).mono fun b hb => ⟨Nat.zero_le _, hb.elim (h2 b) (h.rlt b)⟩
theorem St.newSl (h : St R F0 w0 w L) (hm : Ext w w') (hs : Sl enc w' (Iv w.heap.size w'.heap.size) v l) : St R F0 w0 w' (L ++ [slR enc [(v, l)]]) :=
  h.new (F := Iv w.heap.size w'.heap.size) hm (fun x hx => by simp only [List.mem_singleton] at hx; subst hx; exact hs.mono fun b hb => .inl hb) fun b hb => hb
theorem St.newSlB {b : Nat} (h : St R F0 w0 w L) (hm : Ext w w') (hb : b = w.heap.size) (hz : w'.heap.size = w.heap.size + 1) (hs : Sl enc w' (Iv b (b + 1)) v l) : St R F0 w0 w' (L ++ [slR enc [(v, l)]]) :=
  h.newSl hm (hs.mono fun x hx => by unfold Iv at *; omega)
theorem Sl.atF {F : Nat → Prop} (h : Sl enc w F v l) {P : Program} {t : TypeId} {by_ : Nat} {g : Bool} {z : List Value} (ht : P.underlying t = some (.slice e)) (he : tyI P e = some (g, sz, by_, z)) (hsz : ∀ x, (enc x).length = sz) {k : IntKind} {n : Int} (i : Nat) (hn : n = (i : Int)) (hi : i < l.length) :
    ∃ x b off, l[i]? = some x ∧ (∀ w, (Instr.indexAt t v (.int k n)).run P w = .ok (ptr b off) w) ∧ F b ∧ Row w b off (enc x) := by
  obtain ⟨b, off, h1, h2, h3⟩ := h.at ht he hsz (k := k) i hn hi
  exact ⟨l[i], b, off, by simp, h1, h2, h3⟩
/-- an own slice that is read only from now on -/
theorem St.freeze (h : St R F0 w0 w L) (hi : L[i]? = some (accR enc e sz v l)) : St R F0 w0 w (L.set i (slR enc [(v, l)])) :=
  h.imp hi fun F hx x hx' => by
    obtain ⟨g, h1, h2⟩ := hx
    simp only [List.mem_singleton] at hx'
    subst hx'
    refine h1.sl.mono fun b hb => ?_
    rcases h1 with ⟨_, _, h4⟩ | ⟨b', cap, cur, h0, _⟩
    · unfold Iv at hb; omega
    · exact .inl (h2 b (by unfold Iv at hb; omega))
end
end
section
variable {w0 w : World} {R : Nat → Prop} {L0 : List (Res (fun _ => False))} {L : List (Res R)} {i : Nat} {α : Type} {enc : α → List Value} {e : TypeId} {sz : Nat} {v : Value} {l : List α}
theorem St.slOut {vs : List (Value × List α)} {k : Nat} (h : St (fun _ => False) (fun _ => False) w0 w L0) (hi : L0[i]? = some (slR enc vs)) (hk : vs[k]? = some (v, l)) : Sl enc w (Iv w0.heap.size w.heap.size) v l := by
  obtain ⟨F, h1, h2, _⟩ := h.act hi
  exact (h1 _ (List.mem_of_getElem? hk)).mono fun b hb => ⟨(h2 b (hb.resolve_right id)).1.1.resolve_left fun x => x, (h2 b (hb.resolve_right id)).2⟩
theorem St.accOut (h : St R (fun _ => False) w0 w L) (hi : L[i]? = some (accR enc e sz v l)) : ∃ g, Acc enc e sz w g v l ∧ (g = 0 ∨ w0.heap.size < g) := by
  obtain ⟨F, ⟨g, h1, h3⟩, h2, _⟩ := h.act hi
  refine ⟨g, h1, ?_⟩
  rcases (by omega : g = 0 ∨ 0 < g) with hg | hg
  · exact .inl hg
  · have := (h2 (g - 1) (h3 _ (by omega))).1.1.resolve_left fun x => x
    exact .inr (by omega)
theorem St.accSl (h : St R (fun _ => False) w0 w L) (hi : L[i]? = some (accR enc e sz v l)) : Sl enc w (Iv w0.heap.size w.heap.size) v l := by
  obtain ⟨g, h1, h2⟩ := h.accOut hi
  exact h1.fresh h2
end
/-- what lies outside stays -/
theorem St.out {R F0 G : Nat → Prop} {w0 w : World} {L : List (Res R)} {α : Type} {enc : α → List Value} {v : Value} {l : List α} (h : St R F0 w0 w L) (hs : Sl enc w0 G v l) (hG : ∀ b, G b → ¬ F0 b) : Sl enc w G v l := hs.keep h.mod hG
end Go.Ik
namespace Go.Ik
open Go
/-- a list in a cell of its own -/
def tbR {R : Nat → Prop} {α : Type} (te e : TypeId) (sz : Nat) (enc : α → List Value) (bl : Nat) (l : List α) : Res R := exR fun v : Value => boxR [bkR bl [v] te, accR enc e sz v l]
end Go.Ik
set_option linter.unusedSectionVars false
namespace Go.Ik
open Go
section
variable {P : Program} {E : Env} {C : World → Prop} {d : Option Tmp} {ty : TypeId} {pos : String} {af : Array Edge} {gd : Option (Nat × Bool)} {w : World} {K : Value → World → Prop}
theorem row_byte {b off : Nat} {l : Str} (hr : Row w b off (l.flatMap encB)) (j : Nat) (hj : j < l.length) : w.cell? ((⟨b, off, none⟩ : Addr).add j) = some (.int .u8 (l[j].toNat : Int)) := by
  have hf : l.flatMap encB = l.map fun c => Value.int .u8 (c.toNat : Int) := by
    clear hr hj
    induction l with
    | nil => rfl
    | cons a l ih => simp [encB, ih]
  rw [add_lit]
  exact hr.cell j _ (by rw [hf, List.getElem?_map, List.getElem?_eq_getElem hj]; rfl)
theorem AW.bytesStr {s t e : TypeId} {x : Operand} {v : Value} {F : Nat → Prop} {l : Str} (hs : P.underlying s = some (.slice e)) (he : P.underlying e = some (.int .u8)) (ht : P.underlying t = some .string) (hx : ev E x = some v) (h : Sl encB w F v l) (hK : K (strV l) w) :
    AW P ⟨d, .convert s t x, ty, pos, af, gd⟩ E w K := fun a ha => by
  obtain ⟨ad, cap, rfl, h2, h3, h4⟩ := h
  have hr : (convert s t (.slice ad l.length cap)).run P w = .ok (strV l) w := by
    rcases h4 with rfl | ⟨b, off, rfl, _, hr⟩
    · show (convert s t (.slice ad 0 cap)).run P w = _
      rw [run_convert_bytes_string w s t e ad 0 cap hs he ht]
      cases ad <;> simp [Conv.bytesToString, loadCells, loadCellsFrom, strV] <;> rfl
    · exact run_convert_bytes_back w s t e _ cap l hs he ht (row_byte hr)
  simp [execOp, ha.ev hx, hr, out]
  exact hK
end
end Go.Ik
namespace Go.Ik
open Go
/-- a byte out of a number -/
def byN (n : Int) : UInt8 := UInt8.ofNat (n % 256).toNat
theorem byN_toNat (n : Int) : ((byN n).toNat : Int) = n % 256 := by
  have h0 := Int.emod_nonneg n (by omega : (256 : Int) ≠ 0)
  have h1 := Int.emod_lt_of_pos n (by omega : (0 : Int) < 256)
  unfold byN
  rw [UInt8.toNat_ofNat']
  omega
section
variable {P : Program} {E : Env} {C : World → Prop} {d : Option Tmp} {ty : TypeId} {pos : String} {af : Array Edge} {gd : Option (Nat × Bool)} {w : World} {K : Value → World → Prop}
theorem Q1.convB {s t : TypeId} {x : Operand} {k : IntKind} {p : Int} (hs : (P.underlying s).isSome = true) (ht : P.underlying t = some (.int .u8)) (hx : ev E x = some (.int k p)) : Q1 P ⟨d, .convert s t x, ty, pos, af, gd⟩ E C (.int .u8 ((byN p).toNat : Int)) := by
  have h := Q1.convI (P := P) (C := C) (d := d) (ty := ty) (pos := pos) (af := af) (gd := gd) hs ht hx
  have e : IntKind.u8.wrap p = ((byN p).toNat : Int) := by rw [byN_toNat, IntKind.wrap_u8]
  rw [e] at h; exact h
end
end Go.Ik
namespace Go.Ik
open Go
theorem xor_lt32 {a b : Nat} (ha : a < 4294967296) (hb : b < 4294967296) : a ^^^ b < 4294967296 := Nat.xor_lt_two_pow (n := 32) ha hb
theorem not32 {a : Nat} (ha : a < 4294967296) : 4294967295 ^^^ a = 4294967295 - a := by
  have h : (4294967295 ^^^ a) = (BitVec.ofNat 32 4294967295 ^^^ BitVec.ofNat 32 a).toNat := by
    rw [BitVec.toNat_xor, BitVec.toNat_ofNat, BitVec.toNat_ofNat, Nat.mod_eq_of_lt (by omega : a < 2 ^ 32)]
  have h2 : BitVec.ofNat 32 4294967295 = BitVec.allOnes 32 := rfl
  rw [h, h2, BitVec.allOnes_xor, BitVec.toNat_not, BitVec.toNat_ofNat, Nat.mod_eq_of_lt (by omega : a < 2 ^ 32)]
theorem or_byte {a b : Nat} (hb : b < 256) : a * 256 ||| b = a * 256 + b := by
  have := Nat.shiftLeft_add_eq_or_of_lt (i := 8) (b := b) (by omega) a
  rw [Nat.shiftLeft_eq] at this
  exact this.symm
section
variable {P : Program} {E : Env} {C : World → Prop} {d : Option Tmp} {ty : TypeId} {pos : String} {af : Array Edge} {gd : Option (Nat × Bool)} {xt yt : TypeId} {x y : Operand}
theorem Q1.xor32 {a b : Nat} (hx : ev E x = some (.int .u32 (a : Int))) (hy : ev E y = some (.int .u32 (b : Int))) (ha : a < 4294967296) (hb : b < 4294967296) : Q1 P ⟨d, .binOp .xor xt x y yt, ty, pos, af, gd⟩ E C (.int .u32 ((a ^^^ b : Nat) : Int)) := fun s hs w _ => by
  have h := u32_xor_nat a b ha hb
  simp [execOp, hs.ev hx, hs.ev hy, eqGuard, Go.binOp, intBits_xor, h]
theorem Q1.and1 {a : Nat} (hx : ev E x = some (.int .u32 (a : Int))) (hy : ev E y = some (.int .u32 1)) (ha : a < 4294967296) : Q1 P ⟨d, .binOp .and xt x y yt, ty, pos, af, gd⟩ E C (.int .u32 ((a % 2 : Nat) : Int)) := fun s hs w _ => by
  have h := u32_and_nat a 1 ha (by omega)
  rw [Nat.and_one_is_mod] at h
  have h' : bits .and .u32 (a : Int) 1 = ((a % 2 : Nat) : Int) := h
  simp [execOp, hs.ev hx, hs.ev hy, eqGuard, Go.binOp, intBits_and, h']
theorem Q1.orB {a b : Nat} (hx : ev E x = some (.int .u64 ((a * 256 : Nat) : Int))) (hy : ev E y = some (.int .u64 (b : Int))) (ha : a * 256 < 18446744073709551616) (hb : b < 256) : Q1 P ⟨d, .binOp .or xt x y yt, ty, pos, af, gd⟩ E C (.int .u64 ((a * 256 + b : Nat) : Int)) := fun s hs w _ => by
  have h := u64_or_nat (a * 256) b ha (by omega)
  rw [or_byte hb] at h
  simp [execOp, hs.ev hx, hs.ev hy, eqGuard, Go.binOp, intBits_or]
  simpa using h
theorem Q1.not32 {a : Nat} (hx : ev E x = some (.int .u32 (a : Int))) (ha : a < 4294967296) : Q1 P ⟨d, .unOp .xor xt x, ty, pos, af, gd⟩ E C (.int .u32 ((4294967295 - a : Nat) : Int)) := fun s hs w _ => by
  have h := u32_xor_nat 4294967295 a (by omega) ha
  rw [Ik.not32 ha] at h
  have h' : bits .xor .u32 4294967295 (a : Int) = ((4294967295 - a : Nat) : Int) := h
  simp [execOp, hs.ev hx, Op.unary, intBits_xor, IntKind.signed, IntKind.max]
  exact h'
theorem Q1.shrN {k k' : IntKind} {p m : Int} (n : Nat) (hx : ev E x = some (.int k p)) (hy : ev E y = some (.int k' m)) (hm : m = (n : Int)) (hn : n ≤ k.bits) : Q1 P ⟨d, .binOp .shr xt x y yt, ty, pos, af, gd⟩ E C (.int k (p / 2 ^ n)) := fun s hs w _ => by
  subst hm
  have h := shift_shr k k' p (n : Int) (by omega) (by omega)
  simp [execOp, hs.ev hx, hs.ev hy, eqGuard, Go.binOp, h]
theorem Q1.shl8 {k' : IntKind} {a : Nat} (hx : ev E x = some (.int .u64 (a : Int))) (hy : ev E y = some (.int k' 8)) (ha : a * 256 < 18446744073709551616) : Q1 P ⟨d, .binOp .shl xt x y yt, ty, pos, af, gd⟩ E C (.int .u64 ((a * 256 : Nat) : Int)) := fun s hs w _ => by
  have h := shift_shl .u64 k' (a : Int) 8 (by omega) (by decide)
  have e : IntKind.u64.wrap ((a : Int) * 2 ^ (8 : Int).toNat) = ((a * 256 : Nat) : Int) := by
    rw [IntKind.wrap_u64]
    have : ((a : Int) * 2 ^ (8 : Int).toNat) = ((a * 256 : Nat) : Int) := by simp
    rw [this]; omega
  rw [e] at h
  simp [execOp, hs.ev hx, hs.ev hy, eqGuard, Go.binOp, h]
end
end Go.Ik
namespace Go.Ik
open Go
section
variable {P : Program} {E : Env} {d : Option Tmp} {ty : TypeId} {pos : String} {af : Array Edge} {gd : Option (Nat × Bool)} {w : World} {K : Value → World → Prop}
/-- bytes taken for bytes of their own type: their block bears a mark from now on -/
theorem AW.convSl {s e e' : TypeId} {x : Operand} {b n c : Nat} {cs : List Value} (hs : P.underlying s = some (.slice e)) (he : P.underlying e = some (.int .u8)) (hx : ev E x = some (.slice (some ⟨b, 0, none⟩) n c)) (hb : Bk w b cs e')
    (hK : ∀ w', Mod (Mg (b + 1)) w w' → w'.heap.size = w.heap.size → Row w' b 0 cs → K (.slice (some ⟨b, 0, none⟩) n c) w') : AW P ⟨d, .convert s s x, ty, pos, af, gd⟩ E w K := fun a ha => by
  have hsh : w.shape? b = some (e', cs.length) := by
    unfold World.shape?
    rw [show w.heap[b]? = some (.cells cs.toArray e' (0, 0)) from hb]
    simp
  have hr : (convert s s (.slice (some ⟨b, 0, none⟩) n c)).run P w = .ok (.slice (some ⟨b, 0, none⟩) n c) (w.freeze ⟨b, cs.length, none⟩ 1) := by
    simp [convert, run_underlying hs, run_underlying he, markStringish, hsh]
  have hh : (w.freeze ⟨b, cs.length, none⟩ 1).heap[b]? = some (.cells cs.toArray e' (cs.length, cs.length + 1)) := by
    unfold World.freeze
    rw [if_neg (by decide)]
    simp only [Array.getElem?_modify, if_true]
    rw [show w.heap[b]? = some (.cells cs.toArray e' (0, 0)) from hb]
    rfl
  simp [execOp, ha.ev hx, hr, out]
  refine hK _ ⟨rfl, rfl, rfl, ?_, ?_⟩ ?_ ?_
  · unfold World.freeze
    rw [if_neg (by decide)]
    simp
  · intro b' o ho hn
    unfold World.freeze
    rw [if_neg (by decide)]
    simp only [Array.getElem?_modify]
    rw [if_neg (fun e => hn (by unfold Mg; omega))]
    exact ho
  · unfold World.freeze
    rw [if_neg (by decide)]
    simp
  · intro i v hv
    unfold World.cell?
    simp only [Option.isSome_none, Bool.false_eq_true, if_false]
    rw [hh]
    simpa using hv
end
theorem Sl.of_row {α : Type} {enc : α → List Value} {w : World} {b : Nat} {l : List α} (h : Row w b 0 (l.flatMap enc)) (n : Nat) (hn : n = l.length) (hm : n ≤ maxLen) : Sl enc w (Iv b (b + 1)) (.slice (some ⟨b, 0, none⟩) n n) l :=
  ⟨some ⟨b, 0, none⟩, n, by rw [hn], by omega, hm, .inr ⟨b, 0, rfl, ⟨Nat.le_refl _, by omega⟩, h⟩⟩
end Go.Ik
namespace Go.Ml
open Go.Ik
theorem sumLen_cons (s : Str) (l : List Str) : sumLen (s :: l) = s.length + sumLen l := by simp [sumLen]
theorem sumLen_app (a b : List Str) : sumLen (a ++ b) = sumLen a + sumLen b := by simp [sumLen]
theorem sumLen_map (p : Str) (l : List Str) : sumLen (l.map (p ++ ·)) = l.length * p.length + sumLen l := by
  induction l with
  | nil => simp [sumLen]
  | cons s l ih => simp only [List.map_cons, sumLen_cons, ih, List.length_append, List.length_cons, Nat.add_mul, Nat.one_mul]; omega
/-- a group's rests are shorter by its beginning -/
theorem strip_sum {p : Str} (hp : 1 ≤ p.length) (l : List Str) : sumLen (stripP p l) + (stripP p l).length + sumLen (moreP p l) ≤ sumLen l := by
  have h := congrArg sumLen (strip_app p l)
  rw [sumLen_app, sumLen_map] at h
  have := Nat.mul_le_mul_left (stripP p l).length hp
  omega
theorem strip_len (p : Str) (l : List Str) : (stripP p l).length + (moreP p l).length = l.length := by
  have h := congrArg List.length (strip_app p l)
  rw [List.length_append, List.length_map] at h; exact h
theorem sumLen_dropE (l : List Str) : sumLen (dropE l) = sumLen l := by
  cases l with
  | nil => rfl
  | cons a r => cases a <;> simp [dropE, sumLen]
theorem dropE_len (l : List Str) : (dropE l).length ≤ l.length := by
  cases l with
  | nil => simp [dropE]
  | cons a r => cases a <;> simp [dropE]
def gsum (gs : List (Nat × List Str)) : Nat := (gs.map fun g => sumLen g.2 + 1).sum
theorem gsum_groups : ∀ (n : Nat) (l : List Str), l.length ≤ n → GoodR l → (∀ s ∈ l, s ≠ []) → gsum (groups l) ≤ sumLen l
  | _, [], _, _, _ => by simp [groups_nil, gsum]
  | 0, s :: r, h, _, _ => by simp at h
  | n + 1, s :: r, hn, h, hne => by
    have hl := more_len s r
    simp only [List.length_cons] at hn
    have hs := hne s (by simp)
    have hf := h.fine s (by simp)
    have hp : pfx s = encL (hdN s) := (enc_dec hs ((fine_cons hs).1 hf).1).2.symm
    have ih := gsum_groups n (moreP (pfx s) (s :: r)) (by omega) (h.more _) (fun t ht => hne t ((List.dropWhile_suffix _).subset ht))
    have h1 := strip_sum (p := pfx s) (by rw [hp]; exact encL_pos _) (s :: r)
    have h2 : 1 ≤ (stripP (pfx s) (s :: r)).length := by
      unfold stripP
      rw [List.takeWhile_cons, if_pos (pfx_is s)]; simp
    rw [groups_cons]
    unfold gsum at ih ⊢
    simp only [List.map_cons, List.sum_cons]
    omega
theorem edgesM_len {add : GS → List Str → GS × Nat} : ∀ (gs : List (Nat × List Str)) (s : GS), (∀ g ∈ gs, ∀ s, (add s g.2).1.length ≤ s.length + 1 + sumLen g.2) → (edgesM add s gs).1.length ≤ s.length + gsum gs
  | [], s, _ => by simp [edgesM, gsum]
  | g :: gs, s, h => by
    have h1 := h g (by simp) s
    have h2 := edgesM_len gs (add s g.2).1 (fun g' hg' => h g' (by simp [hg']))
    show (edgesM add (add s g.2).1 gs).1.length ≤ _
    unfold gsum at h2 ⊢
    simp only [List.map_cons, List.sum_cons]
    omega
theorem addM_len : ∀ (f : Nat) (s : GS) (rests : List Str), GoodR rests → (addM f s rests).1.length ≤ s.length + 1 + sumLen rests
  | 0, s, rests, _ => by simp [addM]; omega
  | f + 1, s, rests, hg => by
    unfold addM
    cases hi : s.findIdx? fun x => x.1 == rests with
    | some i => simp; omega
    | none =>
      simp only [List.length_set]
      have hd := dropE_good hg
      have ok := groups_ok _ _ (Nat.le_refl _) hd.1 hd.2
      have h1 := edgesM_len (add := addM f) (groups (dropE rests)) (s ++ [(rests, [])]) (fun g hgm s' => addM_len f s' g.2 (ok.good g hgm).2.2)
      have h2 := gsum_groups _ _ (Nat.le_refl _) hd.1 hd.2
      rw [sumLen_dropE] at h2
      simp only [List.length_append, List.length_cons, List.length_nil] at h1
      omega
theorem addM_names {f : Nat} {s : GS} {rests : List Str} (hd : Deep f rests) (hg : GoodR rests) (hne : rests ≠ []) (hn : (names s).Nodup) (hok : NamesOk s) : NamesOk (addM (f + 1) s rests).1 ∧ (names (addM (f + 1) s rests).1).Nodup := by
  have h := addM_ok f s rests hd hg hne hn
  obtain ⟨t, e, k⟩ := h.tail
  refine ⟨fun x hx => ?_, h.apart⟩
  rw [e] at hx
  rcases List.mem_append.1 hx with hx | hx
  · exact hok x hx
  · exact ⟨(k x hx).ne, (k x hx).good.noff⟩
theorem addM_lt {f : Nat} {s : GS} {rests : List Str} (hd : Deep f rests) (hg : GoodR rests) (hne : rests ≠ []) (hn : (names s).Nodup) : (addM (f + 1) s rests).2 < (addM (f + 1) s rests).1.length := by
  obtain ⟨es, h⟩ := (addM_ok f s rests hd hg hne hn).here
  exact (List.getElem?_eq_some_iff.1 h).1
/-- how far the edges of a node have come -/
def EInv (f : Nat) (S0 : GS) (gs0 : List (Nat × List Str)) (sc : GS) (ES : List Ed) (r1 : List Str) : Prop :=
  edgesM (addM f) S0 gs0 = ((edgesM (addM f) sc (groups r1)).1, ES ++ (edgesM (addM f) sc (groups r1)).2)
theorem EInv.start (f : Nat) (S0 : GS) (r : List Str) : EInv f S0 (groups r) S0 [] r := by unfold EInv; simp
theorem EInv.next {f : Nat} {S0 : GS} {gs0 : List (Nat × List Str)} {sc : GS} {ES : List Ed} {s : Str} {r : List Str} (h : EInv f S0 gs0 sc ES (s :: r)) :
    EInv f S0 gs0 (addM f sc (stripP (pfx s) (s :: r))).1 (ES ++ [⟨(hdN s : Int), ((addM f sc (stripP (pfx s) (s :: r))).2 : Int)⟩]) (moreP (pfx s) (s :: r)) := by
  unfold EInv at h ⊢
  rw [h, groups_cons]
  simp only [edgesM, List.append_assoc, List.cons_append, List.nil_append]
theorem EInv.fin {f : Nat} {S0 : GS} {gs0 : List (Nat × List Str)} {sc : GS} {ES : List Ed} (h : EInv f S0 gs0 sc ES []) : edgesM (addM f) S0 gs0 = (sc, ES) := by
  unfold EInv at h; rw [h, groups_nil]; simp [edgesM]
theorem addM_hit {f : Nat} {s : GS} {rests : List Str} {i : Nat} (h : (s.findIdx? fun x => x.1 == rests) = some i) : addM (f + 1) s rests = (s, i) := by
  unfold addM; rw [h]
theorem addM_miss {f : Nat} {s xs : GS} {rests : List Str} {ES : List Ed} (h : (s.findIdx? fun x => x.1 == rests) = none) (he : edgesM (addM f) (s ++ [(rests, [])]) (groups (dropE rests)) = (s ++ (rests, []) :: xs, ES)) : addM (f + 1) s rests = (s ++ (rests, ES) :: xs, s.length) := by
  unfold addM; rw [h]
  simp only [he]
  rw [List.set_append_right _ _ (Nat.le_refl _)]
  simp
theorem EInv.cast {f : Nat} {S0 sc sc' : GS} {gs0 : List (Nat × List Str)} {ES : List Ed} {r r' : List Str} (h : EInv f S0 gs0 sc ES r) (e1 : sc = sc') (e2 : r = r') : EInv f S0 gs0 sc' ES r' := by subst e1 e2; exact h
theorem EInv.next2 {f : Nat} {S0 : GS} {gs0 : List (Nat × List Str)} {sc : GS} {ES : List Ed} {x : Str} {r1 : List Str} (hx : r1[0]? = some x) (h : EInv f S0 gs0 sc ES r1) :
    EInv f S0 gs0 (addM f sc (stripP (pfx x) r1)).1 (ES ++ [⟨(hdN x : Int), ((addM f sc (stripP (pfx x) r1)).2 : Int)⟩]) (moreP (pfx x) r1) := by
  rw [head_cons hx] at h ⊢
  exact h.next
theorem names_put {s : GS} {rests : List Str} (hf : (s.findIdx? fun x => x.1 == rests) = none) (hnd : (names s).Nodup) (hok : NamesOk s) (hne : rests ≠ []) (hr : ∀ t ∈ rests, NoFF t) : NamesOk (s ++ (rests, []) :: []) ∧ (names (s ++ (rests, []) :: [])).Nodup := by
  have hno := findIdx_none hf
  refine ⟨fun x hx => ?_, ?_⟩
  · rcases List.mem_append.1 hx with hx | hx
    · exact hok x hx
    · simp only [List.mem_singleton] at hx
      subst hx; exact ⟨hne, hr⟩
  · unfold names
    rw [List.map_append, List.nodup_append]
    refine ⟨hnd, by simp, fun a ha b hb => ?_⟩
    simp only [List.map_cons, List.map_nil, List.mem_singleton] at hb
    subst hb
    exact fun e => hno (by rw [← e]; exact ha)
theorem strip_facts {r1 : List Str} {x : Str} {f : Nat} (hx : r1[0]? = some x) (hr : GoodR r1 ∧ (∀ t ∈ r1, t ≠ []) ∧ Deep (f + 1) r1) :
    GoodR (stripP (pfx x) r1) ∧ stripP (pfx x) r1 ≠ [] ∧ Deep f (stripP (pfx x) r1) ∧ sumLen (stripP (pfx x) r1) + (stripP (pfx x) r1).length + sumLen (moreP (pfx x) r1) ≤ sumLen r1 ∧ (stripP (pfx x) r1).length + (moreP (pfx x) r1).length = r1.length ∧ 1 ≤ (stripP (pfx x) r1).length := by
  obtain ⟨hg, hn, hd⟩ := hr
  have hxm := List.mem_of_getElem? hx
  have hxn := hn x hxm
  have hp : pfx x = encL (hdN x) := (enc_dec hxn ((fine_cons hxn).1 (hg.fine x hxm)).1).2.symm
  have hgn := ((hg.fine x hxm).split hxn).1
  have h1 : 1 ≤ (stripP (pfx x) r1).length := by
    rw [head_cons hx]
    unfold stripP
    rw [List.takeWhile_cons, if_pos (pfx_is x)]; simp
  refine ⟨?_, ?_, fun t ht => ?_, strip_sum (by rw [hp]; exact encL_pos _) _, strip_len _ _, h1⟩
  · rw [head_cons hx] at hg ⊢
    exact strip_good hg hxn
  · intro e; rw [e] at h1; simp at h1
  · have hm := hd _ (strip_mem ht)
    rw [hp] at hm
    have h2 := runes_app (c := hdN x) hgn t
    unfold hdN at hm h2
    rw [h2] at hm
    simp only [List.length_cons] at hm
    omega
theorem deep_succ {f : Nat} {r1 : List Str} {x : Str} (hd : Deep f r1) (hx : x ∈ r1) (hn : x ≠ []) : ∃ f2, f = f2 + 1 := by
  have := hd x hx
  rw [runes_cons hn] at this
  simp only [List.length_cons] at this
  exact ⟨f - 1, by omega⟩
theorem sum_mem {l : List Str} {x : Str} (h : x ∈ l) : x.length ≤ sumLen l := by
  induction l with
  | nil => simp at h
  | cons a l ih =>
    rw [sumLen_cons]
    rcases List.mem_cons.1 h with rfl | h
    · omega
    · have := ih h; omega
theorem dropE_nil {l : List Str} {x : Str} (hx : l[0]? = some x) (h : x = []) : dropE l = l.drop 1 ∧ finB l = true := by
  rw [head_cons hx, h]; simp [dropE, finB]
theorem dropE_cons {l : List Str} {x : Str} (hx : l[0]? = some x) (h : x ≠ []) : dropE l = l ∧ finB l = false := by
  have hl := head_cons hx
  cases x with
  | nil => exact absurd rfl h
  | cons a x =>
    constructor
    · rw [hl]; rfl
    · rw [hl]; simp [finB]
theorem mapK_es (s xs : GS) (r : List Str) (es es' : List Ed) : mapK (s ++ (r, es) :: xs) = mapK (s ++ (r, es') :: xs) := mapK_names (by simp [names])
/-- a group, as it is gone through: 'k' of them have the beginning -/
structure SpanInv (p : Str) (l : List Str) (k : Nat) (b : List Str) : Prop where
  is : b = (l.take k).map fun t => t.drop p.length
  all : ∀ t ∈ l.take k, p.isPrefixOf t = true
theorem SpanInv.start (p : Str) (l : List Str) : SpanInv p l 0 [] := ⟨by simp, by simp⟩
theorem SpanInv.next {p : Str} {l : List Str} {k : Nat} {b : List Str} {t : Str} (h : SpanInv p l k b) (ht : l[k]? = some t) (hp : p.isPrefixOf t = true) : SpanInv p l (k + 1) (b ++ [t.drop p.length]) := by
  refine ⟨by rw [h.is, List.take_add_one, ht]; simp, fun u hu => ?_⟩
  rw [List.take_add_one, ht] at hu
  simp only [Option.toList_some, List.mem_append, List.mem_singleton] at hu
  rcases hu with hu | rfl
  · exact h.all u hu
  · exact hp
theorem SpanInv.nxt {p : Str} {l : List Str} {k m : Nat} {b : List Str} {t : Str} (h : SpanInv p l k b) (hm : p.length = m) (ht : l[k]? = some t) (hp : p.isPrefixOf t = true) : SpanInv p l (k + 1) (b ++ [t.drop m]) := by rw [← hm]; exact h.next ht hp
theorem takeWhile_take {α : Type} {p : α → Bool} {l : List α} {k : Nat} (h1 : ∀ t ∈ l.take k, p t = true) (h2 : ∀ t, l[k]? = some t → p t = false) : l.takeWhile p = l.take k ∧ l.dropWhile p = l.drop k := by
  have e : l = l.take k ++ l.drop k := (List.take_append_drop k l).symm
  have h3 : (l.drop k).takeWhile p = [] ∧ (l.drop k).dropWhile p = l.drop k := by
    cases hd : l.drop k with
    | nil => simp
    | cons t r =>
      have : l[k]? = some t := by rw [← List.head?_drop, hd]; rfl
      have := h2 t this
      simp [List.takeWhile_cons, List.dropWhile_cons, this]
  constructor
  · conv => lhs; rw [e]
    rw [List.takeWhile_append_of_pos h1, h3.1, List.append_nil]
  · conv => lhs; rw [e]
    rw [List.dropWhile_append_of_pos h1, h3.2]
theorem SpanInv.fin {p : Str} {l : List Str} {k : Nat} {b : List Str} (h : SpanInv p l k b) (he : l.length ≤ k ∨ ∃ t, l[k]? = some t ∧ p.isPrefixOf t = false) : b = stripP p l ∧ l.drop k = moreP p l := by
  have := takeWhile_take h.all (fun t ht => by
    rcases he with he | ⟨u, hu, hp⟩
    · rw [List.getElem?_eq_none he] at ht; cases ht
    · rw [hu] at ht; cases ht; exact hp)
  unfold stripP moreP
  rw [this.1, this.2]
  exact ⟨h.is, rfl⟩
theorem hp_le {p t : Str} {n : Nat} (h : p.isPrefixOf t = true) (hn : p.length = n) : n ≤ t.length := by
  have := congrArg List.length (prefix_drop h)
  rw [List.length_append] at this; omega
theorem pfx_len {s : Str} (hs : s ≠ []) : (pfx s).length = wdN s := by
  have := dec_le s hs
  unfold pfx wdN
  rw [List.length_take]; omega
end Go.Ml
namespace Go.Ik
open Go
def NR (w : World) (F : Nat → Prop) (t : List RNode) (xs : Ml.GS) : Prop := All2 (fun r x => r.fin = Ml.finB x.1 ∧ Sl Ml.encE w F r.e.val x.2) t xs
/-- blocks of an interval but one, but two -/
def Ivx (lo hi x : Nat) : Nat → Prop := fun b => lo ≤ b ∧ b < hi ∧ b + 1 ≠ x
def Ivy (lo hi x y : Nat) : Nat → Prop := fun b => lo ≤ b ∧ b < hi ∧ b + 1 ≠ x ∧ b + 1 ≠ y
theorem NR.keep {M : Nat → Prop} {w w' : World} {F : Nat → Prop} {t : List RNode} {xs : Ml.GS} (h : NR w F t xs) (hm : Mod M w w') (hF : ∀ b, F b → ¬ M b) : NR w' F t xs := All2.imp (fun r n ⟨h1, h2⟩ => ⟨h1, h2.keep hm hF⟩) h
theorem NR.mono {w : World} {F F' : Nat → Prop} {t : List RNode} {xs : Ml.GS} (h : NR w F t xs) (hF : ∀ b, F b → F' b) : NR w F' t xs := All2.imp (fun r n ⟨h1, h2⟩ => ⟨h1, h2.mono hF⟩) h
theorem NR.len {w : World} {F : Nat → Prop} {t : List RNode} {xs : Ml.GS} (h : NR w F t xs) : t.length = xs.length := (All2.get h).1
def NRy (w : World) (lo hi x y : Nat) (t : List RNode) (xs : Ml.GS) : Prop := NR w (Ivy lo hi x y) t xs
theorem NRy.out {w : World} {lo hi hi2 x y : Nat} {t : List RNode} {xs : Ml.GS} (h : NRy w lo hi x y t xs) (hh : hi ≤ hi2) : NR w (Ivx lo hi2 y) t xs := NR.mono h fun b hb => by unfold Ivy at hb; unfold Ivx; omega
theorem mapO_cast {w : World} {b : Nat} {m m' : List (Str × Int)} (h : MapO strV intV w b m) (e : m = m') : MapO strV intV w b m' := e ▸ h
theorem Q1.lookupHit {P : Program} {E : Env} {C : World → Prop} {d : Option Tmp} {ty : TypeId} {pos : String} {af : Array Edge} {gd : Option (Nat × Bool)} {α β : Type} [DecidableEq α] {key : α → Value} {val : β → Value} {t kt et : TypeId} {x y : Operand} {b : Nat} {m : List (α × β)} {a : α} {z : Value} {u : β} (hk : KeyOk P kt key) (ht : P.underlying t = some (.map kt et)) (hz : ∀ w, (zeroValue et).run P w = .ok z w) (hx : ev E x = some (.map (some b))) (hy : ev E y = some (key a)) (hm : ∀ w, C w → MapO key val w b m) (hu : asc m a = some u) :
    Q1 P ⟨d, .lookup t x y true, ty, pos, af, gd⟩ E C (.tuple #[val u, .bool true]) := by
  have h := Q1.lookupOk (d := d) (ty := ty) (pos := pos) (af := af) (gd := gd) (g := true) (n := 0) (by_ := 0) hk ht hz hx hy hm
  rw [hu] at h; exact h
theorem Q1.lookupMiss {P : Program} {E : Env} {C : World → Prop} {d : Option Tmp} {ty : TypeId} {pos : String} {af : Array Edge} {gd : Option (Nat × Bool)} {α β : Type} [DecidableEq α] {key : α → Value} {val : β → Value} {t kt et : TypeId} {x y : Operand} {b : Nat} {m : List (α × β)} {a : α} {z : Value} (hk : KeyOk P kt key) (ht : P.underlying t = some (.map kt et)) (hz : ∀ w, (zeroValue et).run P w = .ok z w) (hx : ev E x = some (.map (some b))) (hy : ev E y = some (key a)) (hm : ∀ w, C w → MapO key val w b m) (hu : asc m a = none) :
    Q1 P ⟨d, .lookup t x y true, ty, pos, af, gd⟩ E C (.tuple #[z, .bool false]) := by
  have h := Q1.lookupOk (d := d) (ty := ty) (pos := pos) (af := af) (gd := gd) (g := true) (n := 0) (by_ := 0) hk ht hz hx hy hm
  rw [hu] at h; exact h
end Go.Ik
namespace Go.Ml
open Go.Ik
theorem encT_len : ∀ rs : List Nat, (encT rs).length ≤ 4 * rs.length
  | [] => by simp [encT]
  | c :: rs => by
    have h := encT_len rs
    have h4 := encL_len4 c
    have e : encT (c :: rs) = encL c ++ encT rs := rfl
    rw [e, List.length_append, List.length_cons]; omega
theorem word_short {w : Str} (h : word w = true) : w.length ≤ 48 := by
  unfold word at h
  rw [Bool.and_eq_true, decide_eq_true_eq, decide_eq_true_eq] at h
  have hf : Fine w := by
    intro hm
    unfold lenT at h; rw [if_pos hm] at h; omega
  have hl := lenT_fine hf
  have he := encT_len (runes w)
  rw [(encT_runes w hf).1] at he
  omega
theorem sum_le {l : List Str} {m : Nat} (h : ∀ x ∈ l, x.length ≤ m) : sumLen l ≤ l.length * m := by
  induction l with
  | nil => simp [sumLen]
  | cons a l ih =>
    rw [sumLen_cons, List.length_cons, Nat.add_mul]
    have := h a (by simp)
    have := ih fun x hx => h x (by simp [hx])
    omega
theorem good_sum {l : List Str} (h : goodL l = 0) : l.length ≤ 60 ∧ sumLen l ≤ 2880 := by
  obtain ⟨h1, h2, _⟩ := good_words h
  have := sum_le (l := l) (m := 48) fun x hx => word_short (h2 x hx)
  omega
/-- nodes of words as they are built -/
def graphB (words : List Str) : GS := if words = [] then [([], [])] else graphM words
def gnodes (words : List Str) : List GN := if goodL words = 0 then gnOf (graphB words) else []
theorem gnodes_no {words : List Str} (h : goodL words ≠ 0) : gnodes words = [] := by unfold gnodes; rw [if_neg h]
theorem gnodes_yes {words : List Str} (h : goodL words = 0) : gnodes words = gnOf (graphB words) := by unfold gnodes; rw [if_pos h]
theorem gnodes_nil {words : List Str} (h : words = []) : gnodes words = [(false, [])] := by subst h; decide
theorem graphM_len {words : List Str} (h : goodL words = 0) : (graphM words).length ≤ 2881 := by
  have h1 := addM_len 13 [] words (good_deep h).1
  have h2 := (good_sum h).2
  unfold graphM
  simp only [List.length_nil] at h1
  omega
theorem all2_len {α β : Type} {R : α → β → Prop} {a : List α} {b : List β} (h : All2 R a b) : a.length = b.length := (All2.get h).1
theorem groups_count : ∀ (n : Nat) (l : List Str), l.length ≤ n → (groups l).length ≤ l.length
  | _, [], _ => by simp [groups_nil]
  | 0, _ :: _, h => by simp at h
  | n + 1, s :: r, h => by
    rw [groups_cons]
    have hm := more_len s r
    have := groups_count n (moreP (pfx s) (s :: r)) (by simp only [List.length_cons] at h; omega)
    simp only [List.length_cons]; omega
theorem strip_le (p : Str) (l : List Str) : (stripP p l).length ≤ l.length := by have := strip_len p l; omega
theorem groups_sub : ∀ (n : Nat) (l : List Str), l.length ≤ n → ∀ g ∈ groups l, g.2.length ≤ l.length
  | _, [], _, g, hg => by simp [groups_nil] at hg
  | 0, _ :: _, h, _, _ => by simp at h
  | n + 1, s :: r, h, g, hg => by
    rw [groups_cons] at hg
    have hm := more_len s r
    rcases List.mem_cons.1 hg with rfl | hg
    · exact strip_le _ _
    · have := groups_sub n (moreP (pfx s) (s :: r)) (by simp only [List.length_cons] at h; omega) g hg
      simp only [List.length_cons]; omega
theorem edgesM_names {add : GS → List Str → GS × Nat} {L : Nat} : ∀ (gs : List (Nat × List Str)) (s : GS), (∀ g ∈ gs, ∀ s, (∀ y ∈ s, y.1.length ≤ L) → ∀ y ∈ (add s g.2).1, y.1.length ≤ L) → (∀ y ∈ s, y.1.length ≤ L) → ∀ y ∈ (edgesM add s gs).1, y.1.length ≤ L
  | [], s, _, hs => hs
  | g :: gs, s, h, hs => by
    show ∀ y ∈ (edgesM add (add s g.2).1 gs).1, _
    exact edgesM_names gs _ (fun g' hg' => h g' (by simp [hg'])) (h g (by simp) s hs)
theorem addM_short {L : Nat} : ∀ (f : Nat) (s : GS) (rests : List Str), (∀ y ∈ s, y.1.length ≤ L) → rests.length ≤ L → ∀ y ∈ (addM f s rests).1, y.1.length ≤ L
  | 0, s, rests, hs, _ => hs
  | f + 1, s, rests, hs, hr => by
    unfold addM
    cases hi : s.findIdx? fun x => x.1 == rests with
    | some i => exact hs
    | none =>
      have h1 := edgesM_names (add := addM f) (L := L) (groups (dropE rests)) (s ++ [(rests, [])]) (fun g hgm s' hs' => addM_short f s' g.2 hs' (by
        have := groups_sub _ (dropE rests) (Nat.le_refl _) g hgm
        have := dropE_len rests
        omega)) (fun y hy => by
          rcases List.mem_append.1 hy with hy | hy
          · exact hs y hy
          · simp only [List.mem_singleton] at hy; subst hy; exact hr)
      intro y hy
      rcases List.mem_or_eq_of_mem_set hy with hy | rfl
      · exact h1 y hy
      · exact hr
theorem gok_of {words : List Str} (h : goodL words = 0) : GOk (gnodes words) (graphB words) words := by
  rw [gnodes_yes h]
  unfold graphB
  split
  · rename_i he; subst he; exact GOk.empty
  · rename_i he
    have hw := graphM_ok (good_deep h).2 (good_deep h).1 he
    have hl := graphM_len h
    refine GOk.of hw (by omega) fun y hy => ?_
    have hc := all2_len (hw.node y hy).corr
    have hg := groups_count _ (dropE y.1) (Nat.le_refl _)
    have hd := dropE_len y.1
    have hyl : y.1.length ≤ 60 := addM_short 13 [] words (by simp) (good_sum h).1 y hy
    omega
end Go.Ml
namespace Go.Ik
open Go
theorem nr_rel {w : World} {F : Nat → Prop} : ∀ {t : List RNode} {xs : Ml.GS}, NR w F t xs → NRel w F t (gnOf xs)
  | _, _, .nil => .nil
  | _, _, .cons h r => .cons h (nr_rel r)
end Go.Ik
namespace Go.Ml
open Go.Ik
def crcS (c : Nat) : Nat := if c % 2 = 1 then (c / 2) ^^^ 3988292384 else c / 2
def crcK : Nat → Nat → Nat
  | 0, c => c
  | k + 1, c => crcS (crcK k c)
def turnN (c b : Nat) : Nat := crcK 8 (c ^^^ b)
def crcF (c : Nat) (l : List UInt8) : Nat := l.foldl (fun c x => turnN c x.toNat) c
def sumF (c : Nat) (l : List UInt8) : Nat := 4294967295 - crcF (4294967295 - c) l
def sumN (l : List UInt8) : Nat := sumF 0 l
theorem crcS_lt {c : Nat} (h : c < 4294967296) : crcS c < 4294967296 := by
  unfold crcS
  split
  · exact xor_lt32 (by omega) (by omega)
  · omega
theorem crcK_lt {c : Nat} (h : c < 4294967296) : ∀ k, crcK k c < 4294967296
  | 0 => h
  | k + 1 => crcS_lt (crcK_lt h k)
theorem turnN_lt {c b : Nat} (h : c < 4294967296) (hb : b < 256) : turnN c b < 4294967296 := crcK_lt (xor_lt32 h (by omega)) 8
theorem turnN_ltE (c : Nat) (b : UInt8) (h : c < 4294967296) : turnN c b.toNat < 4294967296 := turnN_lt h b.toNat_lt
theorem crcF_lt : ∀ (l : List UInt8) {c : Nat}, c < 4294967296 → crcF c l < 4294967296
  | [], c, h => h
  | x :: l, c, h => crcF_lt l (turnN_lt h x.toNat_lt)
theorem crcF_take {c : Nat} {l : List UInt8} {k : Nat} {x : UInt8} (hx : l[k]? = some x) : crcF c (l.take (k + 1)) = turnN (crcF c (l.take k)) x.toNat := by
  unfold crcF
  rw [List.take_add_one, hx, List.foldl_append]; rfl
theorem sumF_lt (c : Nat) (l : List UInt8) : sumF c l < 4294967296 := by unfold sumF; omega
theorem crc_one {c c0 : Nat} {k : Nat} (h : c = crcK k c0) (h1 : c % 2 = 1) : (c / 2) ^^^ 3988292384 = crcK (k + 1) c0 := by
  show _ = crcS (crcK k c0)
  rw [← h]; unfold crcS; rw [if_pos h1]
theorem crc_nil {c c0 : Nat} {k : Nat} (h : c = crcK k c0) (h1 : ¬ c % 2 = 1) : c / 2 = crcK (k + 1) c0 := by
  show _ = crcS (crcK k c0)
  rw [← h]; unfold crcS; rw [if_neg h1]
def putN (n : Int) (size : Nat) : List UInt8 := (List.range size).map fun i => byN (IntKind.u64.wrap n / 2 ^ (8 * (size - 1 - i)))
theorem putN_len (n : Int) (size : Nat) : (putN n size).length = size := by simp [putN]
theorem putN_take {n : Int} {size i : Nat} {b out : List UInt8} {x : UInt8} (h : out = b ++ (putN n size).take i) (hi : i < size) (hx : x = byN (IntKind.u64.wrap n / 2 ^ (8 * (size - 1 - i)))) : out ++ [x] = b ++ (putN n size).take (i + 1) := by
  rw [h, List.append_assoc]
  congr 1
  rw [List.take_add_one]
  congr 1
  unfold putN
  rw [List.getElem?_map, List.getElem?_range hi, hx]; rfl
def numN (l : List UInt8) : Nat := l.foldl (fun n x => n * 256 + x.toNat) 0
theorem numN_lt : ∀ (l : List UInt8) (n : Nat), l.foldl (fun n x => n * 256 + x.toNat) n < (n + 1) * 256 ^ l.length
  | [], n => by simp
  | x :: l, n => by
    have := numN_lt l (n * 256 + x.toNat)
    have hx := x.toNat_lt
    rw [List.foldl_cons, List.length_cons, Nat.pow_succ]
    calc _ < (n * 256 + x.toNat + 1) * 256 ^ l.length := this
      _ ≤ ((n + 1) * 256) * 256 ^ l.length := Nat.mul_le_mul_right _ (by omega)
      _ = _ := by rw [Nat.mul_assoc, Nat.mul_comm 256]
theorem numN_take {l : List UInt8} {k : Nat} {x : UInt8} (hx : l[k]? = some x) : numN (l.take (k + 1)) = numN (l.take k) * 256 + x.toNat := by
  unfold numN
  rw [List.take_add_one, hx, List.foldl_append]; rfl
/-- may a number be read? -/
def numOk (b : List UInt8) (at_ size : Int) : Bool := decide (1 ≤ size ∧ size ≤ 8 ∧ 0 ≤ at_ ∧ at_ ≤ b.length ∧ size ≤ b.length - at_)
def numV (b : List UInt8) (at_ size : Int) : Int := if numOk b at_ size = true then (numN ((b.drop at_.toNat).take size.toNat) : Int) else 0
theorem numV_no {b : List UInt8} {at_ size : Int} (h : ¬ (1 ≤ size ∧ size ≤ 8 ∧ 0 ≤ at_ ∧ at_ ≤ b.length ∧ size ≤ b.length - at_)) : (0 : Int) = numV b at_ size ∧ false = numOk b at_ size := by
  have : numOk b at_ size = false := decide_eq_false h
  unfold numV; rw [this]; exact ⟨rfl, rfl⟩
theorem numV_yes {b : List UInt8} {at_ size : Int} (h : 1 ≤ size ∧ size ≤ 8 ∧ 0 ≤ at_ ∧ at_ ≤ b.length ∧ size ≤ b.length - at_) : (numN ((b.drop at_.toNat).take size.toNat) : Int) = numV b at_ size ∧ true = numOk b at_ size := by
  have : numOk b at_ size = true := decide_eq_true h
  unfold numV; rw [this]; exact ⟨rfl, rfl⟩
theorem numN_pow {l : List UInt8} : numN l < 256 ^ l.length := by
  have := numN_lt l 0
  unfold numN; simpa using this
def edgeB (e : Ed) : List UInt8 := putN e.rune 4 ++ putN e.to 2
def nodeB (x : GN) : List UInt8 := putN (if x.1 = true then 1 else 0) 1 ++ putN x.2.length 2 ++ x.2.flatMap edgeB
def bodyB (N : List GN) : List UInt8 := [73, 78, 75, 49] ++ putN N.length 2 ++ N.flatMap nodeB
def sealB (b : List UInt8) : List UInt8 := b ++ putN (sumN b) 4
def encB_ (N : List GN) : List UInt8 := sealB (bodyB N)
end Go.Ml
namespace Go.Ml
open Go.Ik
theorem num_small {l : List UInt8} {i : Nat} (h : i ≤ 4) : numN (l.take i) < 4294967296 := by
  have h1 := numN_pow (l := l.take i)
  have h2 : (l.take i).length ≤ 4 := by rw [List.length_take]; omega
  have h3 : 256 ^ (l.take i).length ≤ 256 ^ 4 := Nat.pow_le_pow_right (by omega) h2
  omega
theorem num_step {at_ : Int} {b : List UInt8} {m i : Nat} {x : UInt8} (h : m = numN ((b.drop at_.toNat).take i)) (hx : b[(at_ + (i : Int)).toNat]? = some x) (h0 : 0 ≤ at_) : m * 256 + x.toNat = numN ((b.drop at_.toNat).take (i + 1)) := by
  rw [h]
  symm
  refine numN_take ?_
  rw [List.getElem?_drop, ← hx]
  congr 1; omega
theorem numV_rng (b : List UInt8) (at_ : Int) (size : Nat) : 0 ≤ numV b at_ size := by unfold numV; split <;> omega
end Go.Ml
namespace Go.Ml
open Go.Ik
theorem nodeAt_some {g : List GN} {i : Nat} (h : i < g.length) : g[i]? = some (nodeAt g (i : Int)) := by
  rw [nodeAt_yes (by omega) (List.getElem?_eq_getElem h)]
  exact List.getElem?_eq_getElem h
theorem enc_start (g : List GN) : [73, 78, 75, 49] ++ putN (g.length : Int) 2 ++ (g.drop 0).flatMap nodeB = bodyB g := rfl
theorem enc_node {g : List GN} {B out : List UInt8} {i : Nat} {x : GN} {f : Int} (h : out ++ (g.drop i).flatMap nodeB = B) (hx : g[i]? = some x) (hf : f = if x.1 = true then 1 else 0) : out ++ putN f 1 ++ putN (x.2.length : Int) 2 ++ ((x.2.drop 0).flatMap edgeB ++ (g.drop (i + 1)).flatMap nodeB) = B := by
  rw [← h, drop_el' hx, List.flatMap_cons, hf]
  unfold nodeB
  simp
theorem enc_edge {B out : List UInt8} {es : List Ed} {R : List UInt8} {k : Nat} {e : Ed} (h : out ++ ((es.drop k).flatMap edgeB ++ R) = B) (hx : es[k]? = some e) : out ++ putN e.rune 4 ++ putN e.to 2 ++ ((es.drop (k + 1)).flatMap edgeB ++ R) = B := by
  rw [← h, drop_el' hx, List.flatMap_cons]
  unfold edgeB
  simp
theorem enc_next {B out : List UInt8} {es : List Ed} {R : List UInt8} {k : Nat} (h : out ++ ((es.drop k).flatMap edgeB ++ R) = B) (hk : es.length ≤ k) : out ++ R = B := by
  rw [List.drop_of_length_le hk] at h
  simpa using h
theorem enc_len {B out R : List UInt8} (h : out ++ R = B) : out.length ≤ B.length := by rw [← h, List.length_append]; omega
theorem enc_len4 {B out R : List UInt8} {es : List Ed} {k : Nat} {e : Ed} (h : out ++ ((es.drop k).flatMap edgeB ++ R) = B) (hx : es[k]? = some e) : out.length + 6 ≤ B.length := by
  have := enc_len (enc_edge h hx)
  simp only [List.length_append, putN_len] at this; omega
theorem enc_lenN {g : List GN} {B out : List UInt8} {i : Nat} {x : GN} (h : out ++ (g.drop i).flatMap nodeB = B) (hx : g[i]? = some x) : out.length + 3 ≤ B.length := by
  have := enc_len (enc_node (f := if x.1 = true then 1 else 0) h hx rfl)
  simp only [List.length_append, putN_len] at this; omega
theorem enc_fin {g : List GN} {out : List UInt8} {i : Nat} (h : out ++ (g.drop i).flatMap nodeB = bodyB g) (hi : g.length ≤ i) : out = bodyB g := by
  rw [List.drop_of_length_le hi] at h
  simpa using h
def encA (g : List GN) : List UInt8 := if g.isEmpty = true then [] else encB_ g
theorem encA_no {g : List GN} (h : g = []) : encA g = [] := by subst h; rfl
theorem encA_yes {g : List GN} (h : g ≠ []) : encA g = encB_ g := by
  unfold encA; rw [if_neg]; cases g <;> simp at *
def errA (g : List GN) : Int := if g.isEmpty = true then 2 else 0
theorem errA_yes {g : List GN} (h : g ≠ []) : (0 : Int) = errA g := by
  unfold errA; rw [if_neg]; cases g <;> simp at *
def imgM (words : List Str) : List UInt8 := if goodL words = 0 then encB_ (gnodes words) else []
theorem imgM_no {words : List Str} (h : goodL words ≠ 0) : ([] : List UInt8) = imgM words := by unfold imgM; rw [if_neg h]
end Go.Ml
namespace Go.Ml
open Go.Ik
theorem edges_flat (es : List Ed) : (es.flatMap edgeB).length = 6 * es.length := by
  induction es with
  | nil => rfl
  | cons e es ih => rw [List.flatMap_cons, List.length_append, ih, List.length_cons]; unfold edgeB; rw [List.length_append, putN_len, putN_len]; omega
def edgeCount (N : List GN) : Nat := (N.map fun x => x.2.length).sum
theorem nodes_flat (N : List GN) : (N.flatMap nodeB).length = 3 * N.length + 6 * edgeCount N := by
  unfold edgeCount
  induction N with
  | nil => rfl
  | cons x N ih =>
    rw [List.flatMap_cons, List.length_append, ih, List.length_cons, List.map_cons, List.sum_cons]
    unfold nodeB
    rw [List.length_append, List.length_append, putN_len, putN_len, edges_flat]; omega
theorem bodyB_len (N : List GN) : (bodyB N).length = 6 + 3 * N.length + 6 * edgeCount N := by
  unfold bodyB
  rw [List.length_append, List.length_append, putN_len, nodes_flat]
  simp only [List.length_cons, List.length_nil]; omega
theorem encB_len (N : List GN) : (encB_ N).length = 10 + 3 * N.length + 6 * edgeCount N := by
  unfold encB_ sealB
  rw [List.length_append, putN_len, bodyB_len]; omega
theorem edgeCount_le {N : List GN} {m : Nat} (h : ∀ x ∈ N, x.2.length ≤ m) : edgeCount N ≤ N.length * m := by
  unfold edgeCount
  induction N with
  | nil => simp
  | cons x N ih =>
    have h1 := h x (by simp)
    have h2 := ih fun y hy => h y (by simp [hy])
    rw [List.map_cons, List.sum_cons, List.length_cons, Nat.succ_mul]; omega
end Go.Ml
namespace Go.Ik
open Go Go.Ml
def nrR {R : Nat → Prop} (t : List RNode) (xs : GS) : Res R := ⟨fun F w => NR w F t xs, fun h hm hF _ => NR.keep h hm hF⟩
abbrev No : Nat → Prop := fun _ => False
/-- the builder in block 'bB': the graph, what is found by name, the nodes -/
def bldR (bT gT nT : TypeId) (bB : Nat) (s : GS) (nds : List RNode) : Res No :=
  exR fun x : Nat × Nat × Value => boxR [bkR bB [ptr x.1 0, .map (some x.2.1)] bT, bkR x.1 [x.2.2] gT, mapR strV intV x.2.1 (mapK s), accR encN nT 2 x.2.2 nds]
theorem sep_pair {R : Nat → Prop} {A B : Res R} {F : Nat → Prop} {w : World} (h : (boxR [A, B]).p F w) : ∃ F1 F2, A.p F1 w ∧ B.p F2 w ∧ (∀ b, F1 b → F b) ∧ (∀ b, F2 b → F b) := by
  obtain ⟨Fs, h1, h2, h3⟩ := h
  exact ⟨Fs 0, Fs 1, h1 0 A rfl, h1 1 B rfl, fun b hb => (h2 0 b hb).1.1, fun b hb => (h2 1 b hb).1.1⟩
theorem nr_app {t t2 : List RNode} {xs xs2 : GS} {F : Nat → Prop} {w : World} {R : Nat → Prop} (h : (boxR (R := R) [nrR t xs, nrR t2 xs2]).p F w) : (nrR (R := R) (t ++ t2) (xs ++ xs2)).p F w := by
  obtain ⟨F1, F2, h1, h2, h3, h4⟩ := sep_pair h
  exact All2.app (NR.mono h1 h3) (NR.mono h2 h4)
theorem acc_sl {α : Type} {enc : α → List Value} {e : TypeId} {sz : Nat} {v : Value} {l : List α} {F : Nat → Prop} {w : World} {R : Nat → Prop} (h : (accR (R := R) enc e sz v l).p F w) : Sl enc w F v l := by
  obtain ⟨g, h1, h2⟩ := h
  refine h1.sl.mono fun b hb => ?_
  rcases h1 with ⟨_, _, h4⟩ | ⟨b', cap, cur, h0, _⟩
  · unfold Iv at hb; omega
  · exact h2 b (by unfold Iv at hb; omega)
theorem slR_one {α : Type} {enc : α → List Value} {v : Value} {l : List α} {F : Nat → Prop} {w : World} {R : Nat → Prop} (h : (slR (R := R) enc [(v, l)]).p F w) : Sl enc w (fun b => F b ∨ R b) v l := h (v, l) (List.mem_singleton_self _)
theorem slR_no {α : Type} {enc : α → List Value} {v : Value} {l : List α} {F : Nat → Prop} {w : World} (h : (slR (R := No) enc [(v, l)]).p F w) : Sl enc w F v l := (slR_one h).mono fun b hb => hb.resolve_right id
theorem nr_len {R : Nat → Prop} {A : Res R} {t : List RNode} {xs : GS} {F : Nat → Prop} {w : World} (h : (boxR [A, nrR t xs]).p F w) : t.length = xs.length := by
  obtain ⟨F1, F2, h1, h2, h3, h4⟩ := sep_pair h
  exact NR.len h2
theorem nr_cons {e : TypeId} {v : Value} {es : List Ed} {t : List RNode} {xs : GS} {x : List Str} {r : RNode} {F : Nat → Prop} {w : World} (hv : v = r.e.val) (hf : r.fin = finB x) {R : Nat → Prop} (h : (boxR (R := R) [accR encE e 2 v es, nrR t xs]).p F w) : (nrR (R := R) (r :: t) ((x, es) :: xs)).p F w := by
  obtain ⟨F1, F2, h1, h2, h3, h4⟩ := sep_pair h
  exact .cons ⟨hf, hv ▸ (acc_sl h1).mono h3⟩ (NR.mono h2 h4)
end Go.Ik
namespace Go.Ik
open Go Go.Ml
theorem St.gr {w0 w : World} {bG : Nat} {gT nT : TypeId} {vN : Value} {t : List RNode} {xs : GS} (h : St No No w0 w [bkR bG [vN] gT, accR encN nT 2 vN t, nrR t xs]) (hne : xs ≠ []) : Gr 0 w w0.heap.size w.heap.size (ptr bG 0) (gnOf xs) := by
  obtain ⟨F, h1, h2, _⟩ := h.act (i := 0) rfl
  have hs := h.accSl (i := 1) rfl
  obtain ⟨F3, h3, h4, _⟩ := h.act (i := 2) rfl
  have hb := h2 bG h1.2
  exact .inr ⟨bG, vN, t, rfl, by simpa [gnOf] using hne, ⟨hb.1.1.resolve_left id, hb.2, h1.1.row⟩, hs, nr_rel (NR.mono h3 fun b hb => ⟨(h4 b hb).1.1.resolve_left id, (h4 b hb).2⟩)⟩
theorem St.gr1 {w0 w : World} {bG : Nat} {gT : TypeId} {vN : Value} (h : St No No w0 w [bkR bG [vN] gT, slR encN [(vN, [RNode.mk false (SH.mk none 0 0)])]]) : Gr 0 w w0.heap.size w.heap.size (ptr bG 0) [(false, [])] := by
  obtain ⟨F, h1, h2, _⟩ := h.act (i := 0) rfl
  have hs := h.slOut (i := 1) (k := 0) rfl rfl
  have hb := h2 bG h1.2
  exact .inr ⟨bG, vN, _, rfl, by simp, ⟨hb.1.1.resolve_left id, hb.2, h1.1.row⟩, hs, .cons ⟨rfl, Sl.nil⟩ .nil⟩
theorem far_iv {F0 F : Nat → Prop} {w0 : World} (h : ∀ b, F b → ((False ∨ w0.heap.size ≤ b) ∧ ¬ False) ∧ F0 b) : ∀ b, Iv 0 w0.heap.size b → ¬ F b := fun b hb hf => by
  have := (h b hf).1.1.resolve_left id
  unfold Iv at hb; omega
end Go.Ik
namespace Go.Ml
open Go.Ik
theorem sorted_at {l : List Str} (hs : Sorted l) {i j : Nat} {x y : Str} (hx : l[i]? = some x) (hy : l[j]? = some y) (h : i < j) : ltT x y := by
  obtain ⟨h1, rfl⟩ := List.getElem?_eq_some_iff.1 hx
  obtain ⟨h2, rfl⟩ := List.getElem?_eq_some_iff.1 hy
  exact List.pairwise_iff_getElem.1 hs _ _ h1 h2 h
structure BsInv (l : List Str) (w : Str) (i j : Nat) : Prop where
  lo : ∀ k x, k < i → l[k]? = some x → ltT x w
  hi : ∀ k x, j ≤ k → l[k]? = some x → ¬ ltT x w
theorem lt_ne {x w : Str} (h : ltT x w) : x ≠ w := fun e => by subst e; exact lt_irrefl x h
theorem BsInv.yes {l : List Str} {w x : Str} {i : Nat} (hx : l[i]? = some x) (hc : Lib.compareBytes x w = 0) : true = l.contains w := by
  have := cmp_eq hc
  subst this
  exact (List.contains_iff_mem.2 (List.mem_of_getElem? hx)).symm
theorem BsInv.no {l : List Str} {w x : Str} {i j : Nat} (hb : BsInv l w i j) (hs : Sorted l) (hij : i = j) (hx : l[i]? = some x) (hc : Lib.compareBytes x w ≠ 0) : false = l.contains w := by
  subst hij
  cases h : l.contains w with
  | false => rfl
  | true =>
    obtain ⟨k, hk⟩ := List.mem_iff_getElem?.1 (List.contains_iff_mem.1 h)
    rcases Nat.lt_or_ge k i with hl | hl
    · exact absurd (hb.lo k w hl hk) (lt_irrefl w)
    · rcases Nat.lt_or_ge i k with h2 | h2
      · exact absurd (sorted_at hs hx hk h2) (hb.hi i x (Nat.le_refl _) hx)
      · have : k = i := by omega
        subst this
        rw [hx] at hk; cases hk
        exact absurd (cmp_refl _) hc
theorem BsInv.none {l : List Str} {w : Str} {i j : Nat} (hb : BsInv l w i j) (hi : l.length ≤ i) : false = l.contains w := by
  cases h : l.contains w with
  | false => rfl
  | true =>
    obtain ⟨k, hk⟩ := List.mem_iff_getElem?.1 (List.contains_iff_mem.1 h)
    have := (List.getElem?_eq_some_iff.1 hk).1
    exact absurd (hb.lo k w (by omega) hk) (lt_irrefl w)
theorem BsInv.at {l : List Str} {w x : Str} {i j : Nat} {b : Bool} (hb : BsInv l w i j) (hs : Sorted l) (hij : i = j) (hx : l[i]? = some x) (h : b = (Lib.compareBytes x w == 0)) : b = l.contains w := by
  rw [h]
  by_cases hc : Lib.compareBytes x w = 0
  · rw [← BsInv.yes hx hc]; simp [hc]
  · rw [← hb.no hs hij hx hc]; simp [hc]
theorem sorted_nodup {l : List Str} (h : Sorted l) : l.Nodup := h.imp fun h => lt_ne h
theorem good_sorted {l : List Str} (h : goodL l = 0) : Sorted l := (good_words h).2.2
end Go.Ml
namespace Go.Ml
open Go.Ik
theorem find_step {s : GS} {r : List Str} {k : Nat} {x : List Str × List Ed} (hno : ∀ y ∈ s.take k, y.1 ≠ r) (hx : s[k]? = some x) (he : x.1 ≠ r) : ∀ y ∈ s.take (k + 1), y.1 ≠ r := by
  intro y hy
  rw [List.take_add_one, hx] at hy
  simp only [Option.toList_some, List.mem_append, List.mem_singleton] at hy
  rcases hy with hy | rfl
  · exact hno y hy
  · exact he
end Go.Ml
namespace Go.Ml
open Go.Ik
theorem gnodes_ne {words : List Str} (h : goodL words = 0) : gnodes words ≠ [] := by
  rw [gnodes_yes h]
  unfold graphB gnOf
  split
  · simp
  · rename_i hne
    obtain ⟨es, he⟩ := (graphM_ok (good_deep h).2 (good_deep h).1 hne).root
    intro e
    rw [List.map_eq_nil_iff] at e
    rw [e] at he; simp at he
theorem encT_cons (c : Nat) (cs : List Nat) : encT (c :: cs) = encL c ++ encT cs := rfl
end Go.Ml
namespace Go.Ik
open Go Go.Ml
structure RNd where
  r : SH
  e : SH
section
variable {R : Nat → Prop}
def RR (w : World) (F : Nat → Prop) (nds : List RNd) (s : GS) : Prop := All2 (fun n x => Sl encS w F n.r.val x.1 ∧ Sl encE w F n.e.val x.2) nds s
theorem RR.at {w : World} {F : Nat → Prop} {nds : List RNd} {s : GS} (h : RR w F nds s) {k : Nat} {n : RNd} (hn : nds[k]? = some n) : ∃ x, s[k]? = some x ∧ Sl encS w F n.r.val x.1 ∧ Sl encE w F n.e.val x.2 := by
  have hg := All2.get h
  have hlt := (List.getElem?_eq_some_iff.1 hn).1
  have hx : s[k]? = some (s[k]'(by rw [← hg.1]; exact hlt)) := by simp
  exact ⟨_, hx, hg.2 k _ _ hn hx⟩
theorem St.and {F0 : Nat → Prop} {w0 w : World} {L : List (Res R)} {i : Nat} {P : Prop} {A : Res R} (h : St R F0 w0 w L) (hi : L[i]? = some (andR P A)) : P ∧ St R F0 w0 w (L.set i A) := by
  obtain ⟨F, h1, _⟩ := h.get hi
  exact ⟨h1.1, h.imp hi fun F hF => hF.2⟩
end
end Go.Ik
namespace Go.Ik
open Go
theorem r_retC2 {P : Program} {f : FuncId} {R : Ending → World → Prop} {n : Nat} {E : Env} {k : List Item} {w : World} {fn : Func} {t u : Tmp} {ty : TypeId} {b off sz by_ : Nat} {z cs : List Value} {v2 : Value} (hf : P.funcs[f]? = some fn) (hres : fn.results = #[.cell t ty, .tmp u])
    (hv : lk t E = some (ptr b off)) (ht : tyI P ty = some (true, sz, by_, z)) (hr : Row w b off cs) (hn : cs.length = sz) (h2 : lk u E = some v2) (hR : R (.returned (.tuple #[.agg cs.toArray, v2])) w) : RunE P f R n E (.code .ret :: k) w := fun a ha b' hb hk cs' =>
  ⟨_, w, { b'.at a (.code .ret :: k) with mode := .returning }, hR, .one step_ret, hb, leave_ret ha hf hb hk (by
    have hg : a.tmps[t]?.getD undef = .pointer (some ⟨b, off, none⟩) := by have := ha.has t _ hv; simpa [ptr] using this
    have hg2 : a.tmps[u]?.getD undef = v2 := by simpa using ha.has u _ h2
    simp [results, hres, hg, hg2, asAddr, Sem.run_bind, Result.andThen, run_loadVar_agg ht hr hn])⟩
end Go.Ik
namespace Go.Ml
open Go.Ik
theorem graphB_len {words : List Str} (h : goodL words = 0) : 1 ≤ (graphB words).length ∧ (graphB words).length ≤ 2881 := by
  unfold graphB
  split
  · simp
  · rename_i hne
    obtain ⟨es, he⟩ := (graphM_ok (good_deep h).2 (good_deep h).1 hne).root
    have := (List.getElem?_eq_some_iff.1 he).1
    have := graphM_len h
    omega
theorem graphB_short {words : List Str} (h : goodL words = 0) : ∀ y ∈ graphB words, y.1.length ≤ 60 := by
  unfold graphB
  split
  · simp
  · exact addM_short 13 [] words (by simp) (good_sum h).1
end Go.Ml
namespace Go.Ik
open Go Go.Ml
/-- a graph that is held -/
def grR {R : Nat → Prop} (v : Value) (N : List GN) : Res R := ⟨fun F w => ∃ lo hi, Gr 0 w lo hi v N ∧ hi ≤ w.heap.size ∧ ∀ b, lo ≤ b → b < hi → F b, fun ⟨lo, hi, h1, h3, h2⟩ hm hF _ => ⟨lo, hi, by
  rcases h1 with h1 | ⟨b, vn, nds, k1, k2, ⟨k3, k4, k5⟩, k6, k7⟩
  · exact .inl h1
  · exact .inr ⟨b, vn, nds, k1, k2, ⟨k3, k4, k5.keep hm (hF b (h2 b k3 k4))⟩, k6.keep hm fun b hb => hF b (h2 b hb.1 hb.2), k7.keep hm fun b hb => hF b (h2 b hb.1 hb.2)⟩, Nat.le_trans h3 hm.size, h2⟩⟩
theorem St.grAt {R F0 : Nat → Prop} {w0 w : World} {L : List (Res R)} {i : Nat} {v : Value} {N : List GN} (h : St R F0 w0 w L) (hi : L[i]? = some (grR v N)) : ∃ lo up, Gr 0 w lo up v N ∧ up ≤ w.heap.size := by
  obtain ⟨F, ⟨lo, up, h1, h2, _⟩, _⟩ := h.get hi
  exact ⟨lo, up, h1, h2⟩
theorem St.newGr {R F0 : Nat → Prop} {w0 w w' : World} {L : List (Res R)} {lo hi : Nat} {v : Value} {N : List GN} (h : St R F0 w0 w L) (hm : Ext w w') (hg : Gr 0 w' lo hi v N) (h1 : w.heap.size ≤ lo) (h2 : hi ≤ w'.heap.size) : St R F0 w0 w' (L ++ [grR v N]) :=
  h.new (F := Iv lo hi) hm ⟨lo, hi, hg, h2, fun b q1 q2 => ⟨q1, q2⟩⟩ fun b hb => ⟨Nat.le_trans h1 hb.1, Nat.lt_of_lt_of_le hb.2 h2⟩
end Go.Ik
namespace Go.Ml
open Go.Ik
theorem gnodes_edges {words : List Str} (h : goodL words = 0) : ∀ x ∈ gnodes words, x.2.length ≤ 60 := by
  have hok := gok_of h
  intro x hx
  rw [gnodes_yes h] at hx
  obtain ⟨y, hy, rfl⟩ := List.mem_map.1 hx
  have h1 := (All2.get (hok.node y hy).1).1
  have h2 := groups_count _ (dropE y.1) (Nat.le_refl _)
  have h3 := dropE_len y.1
  have h4 := graphB_short h y hy
  simp only; omega
theorem gnodes_len {words : List Str} (h : goodL words = 0) : 1 ≤ (gnodes words).length ∧ (gnodes words).length ≤ 2881 := by
  rw [gnodes_yes h, gnOf_len]; exact graphB_len h
theorem body_len {words : List Str} (h : goodL words = 0) : (bodyB (gnodes words)).length ≤ 3000000 := by
  have h1 := edgeCount_le (gnodes_edges h)
  have h2 := (gnodes_len h).2
  have h3 : (gnodes words).length * 60 ≤ 2881 * 60 := Nat.mul_le_mul_right _ h2
  rw [bodyB_len]; omega
theorem encA_len {g : List GN} (h : (bodyB g).length ≤ 3000000) : (encA g).length ≤ 3000010 := by
  unfold encA
  split
  · simp
  · rw [encB_len]; rw [bodyB_len] at h; omega
theorem encA_lenE (g : List GN) (h : (bodyB g).length ≤ 3000000) : (encA g).length ≤ 3000010 := encA_len h
theorem gnodes_nn {words : List Str} (h : goodL words = 0) : gnodes words ≠ [] := by
  intro e
  have := (gnodes_len h).1
  rw [e] at this; simp at this
theorem encA_img {words : List Str} (h : goodL words = 0) : encA (gnodes words) = imgM words := by
  unfold imgM; rw [if_pos h, encA_yes (gnodes_nn h)]
theorem errA_img {words : List Str} (h : goodL words = 0) : errA (gnodes words) = goodL words := by
  rw [h]; exact (errA_yes (gnodes_nn h)).symm
theorem imgM_len (words : List Str) : (imgM words).length ≤ 3000010 := by
  unfold imgM
  split
  · rename_i h
    rw [← encA_yes (gnodes_nn h)]; exact encA_len (body_len h)
  · simp
theorem enc_img {words : List Str} (h : goodL words = 0) : encB_ (gnodes words) = imgM words := by unfold imgM; rw [if_pos h]
end Go.Ml
namespace Go.Ml
open Go.Ik
def SOk (l : List Str) : Prop := ∀ s ∈ l, s.length ≤ 1000000000
theorem SOk.at {l : List Str} (h : SOk l) {k : Nat} {x : Str} (hx : l[k]? = some x) : x.length ≤ 1000000000 := h x (List.mem_of_getElem? hx)
end Go.Ml
namespace Go.Ml
open Go.Ik
theorem slice_len (cuts : List Key) (words : List Str) (shard : Int) : (sliceM cuts words shard).length ≤ words.length := List.length_filter_le _ _
theorem slice_lok {cuts : List Key} {words : List Str} {shard : Int} (h : LOk words) : LOk (sliceM cuts words shard) := fun s hs => h s (List.mem_filter.1 hs).1
theorem copies_inj {W s : Int} {i j : Nat} (hW : (i : Int) < W) (hj : (j : Int) < W) (h : (s + (i : Int)) % W = (s + (j : Int)) % W) : i = j := by
  have h1 := Int.emod_add_mul_ediv (s + (i : Int)) W
  have h2 := Int.emod_add_mul_ediv (s + (j : Int)) W
  rw [h] at h1
  have h3 : W * ((s + i) / W - (s + j) / W) = (i : Int) - j := by rw [Int.mul_sub]; omega
  by_cases hq : (s + (i : Int)) / W - (s + (j : Int)) / W = 0
  · rw [hq] at h3; omega
  · exfalso
    rcases Int.lt_or_gt_of_ne hq with h4 | h4
    · have : W * ((s + i) / W - (s + j) / W) ≤ W * (-1) := Int.mul_le_mul_of_nonneg_left (by omega) (by omega)
      omega
    · have : W * 1 ≤ W * ((s + i) / W - (s + j) / W) := Int.mul_le_mul_of_nonneg_left (by omega) (by omega)
      omega
theorem copies_count (c : Cfg) (shard : Int) (x : Int) : (copiesM c shard).count x = if (copiesM c shard).contains x = true then 1 else 0 := by
  have hn : (copiesM c shard).Nodup := by
    unfold copiesM
    split
    · rename_i hw
      have hs := within_true hw
      have hm := may_bounds (may_of_shards (c := c) (by omega))
      rw [List.Nodup, List.pairwise_map]
      refine List.Pairwise.imp_of_mem (R := fun a b => a ≠ b) (fun {a b} ha hb hab e => ?_) (List.nodup_range (n := c.copies.toNat))
      have h1 := List.mem_range.1 ha
      have h2 := List.mem_range.1 hb
      exact hab (copies_inj (W := c.workers) (s := shard) (by omega) (by omega) (by omega))
    · simp
  by_cases h : x ∈ copiesM c shard
  · rw [if_pos (by simpa using h)]
    have h1 := List.nodup_iff_count.1 hn x
    have h2 := List.count_pos_iff.2 h
    omega
  · rw [if_neg (by simpa using h)]
    exact List.count_eq_zero.2 h
def wordsR (c : Cfg) (shard : Int) : List Str := if 0 ≤ shard ∧ shard < (shards c : Int) then sliceM c.cuts c.words shard else []
theorem wordsR_no {c : Cfg} {shard : Int} (h : shard < 0 ∨ (shards c : Int) ≤ shard) : [] = wordsR c shard := by unfold wordsR; rw [if_neg (by omega)]
def imgC (c : Cfg) (shard : Int) : List UInt8 := if 0 ≤ shard ∧ shard < (shards c : Int) then imgM (sliceM c.cuts c.words shard) else []
def errC (c : Cfg) (shard : Int) : Int := if 0 ≤ shard ∧ shard < (shards c : Int) then goodL (sliceM c.cuts c.words shard) else 4
theorem imgC_no {c : Cfg} {shard : Int} (h : shard < 0 ∨ (shards c : Int) ≤ shard) : ([] : List UInt8) = imgC c shard ∧ (4 : Int) = errC c shard := by unfold imgC errC; rw [if_neg (by omega), if_neg (by omega)]; exact ⟨rfl, rfl⟩
theorem imgC_yes {c : Cfg} {shard : Int} (h : 0 ≤ shard) (h2 : shard < (shards c : Int)) : imgM (sliceM c.cuts c.words shard) = imgC c shard ∧ goodL (sliceM c.cuts c.words shard) = errC c shard := by unfold imgC errC; rw [if_pos ⟨h, h2⟩, if_pos ⟨h, h2⟩]; exact ⟨rfl, rfl⟩
theorem imgC_len (c : Cfg) (shard : Int) : (imgC c shard).length ≤ 3000010 := by
  unfold imgC; split
  · exact imgM_len _
  · simp
theorem copies_len (c : Cfg) (shard : Int) : (copiesM c shard).length ≤ 3 := by
  unfold copiesM
  split
  · rename_i hw
    have hs := within_true hw
    have hm := may_bounds (may_of_shards (c := c) (by omega))
    simp; omega
  · simp
theorem keeps_len (c : Cfg) (worker : Int) : (keepsM c worker).length ≤ 6 := by
  unfold keepsM
  rw [List.length_map]
  have h1 := List.length_filter_le (fun s : Nat => (copiesM c (s : Int)).contains worker) (List.range (shards c))
  have h2 := shards_le c
  rw [List.length_range] at h1; omega
end Go.Ml
theorem Go.Ml.errC_rng (c : Go.Ml.Cfg) (shard : Int) : 0 ≤ Go.Ml.errC c shard ∧ Go.Ml.errC c shard ≤ 100 := by
  unfold Go.Ml.errC; split
  · have := Go.Ml.goodL_range (Go.Ml.sliceM c.cuts c.words shard); omega
  · omega
namespace Go.Ml
open Go.Ik
/-- a number more: what it is, the place and whether it went wrong -/
def numR (b : List UInt8) (size : Nat) (s : Int × Bool) : Int × (Int × Bool) := if numOk b s.1 size = true then (numV b s.1 size, (s.1 + size, s.2)) else (0, (s.1, true))
theorem numR_no {b : List UInt8} {size : Nat} {a : Int} {q : Bool} (h : numOk b a size = false) : numR b size (a, q) = (0, (a, true)) := by unfold numR; rw [if_neg (by simp [h])]
theorem numR_yes {b : List UInt8} {size : Nat} {a : Int} {q : Bool} (h : numOk b a size = true) : numR b size (a, q) = (numV b a size, (a + size, q)) := by unfold numR; rw [if_pos h]
theorem numV_lt {b : List UInt8} {a : Int} {size : Nat} (h : size ≤ 4) : numV b a size < 4294967296 := by
  unfold numV
  split
  · have := num_small (i := size) (l := b.drop a.toNat) h
    simp only [Int.toNat_natCast]; omega
  · omega
theorem numR_rng {b : List UInt8} {size : Nat} {a f a2 : Int} {q q2 : Bool} (hs : size ≤ 4) (ha : 0 ≤ a ∧ a ≤ b.length) (h : numR b size (a, q) = (f, (a2, q2))) : 0 ≤ f ∧ f < 4294967296 ∧ a ≤ a2 ∧ a2 ≤ b.length ∧ a2 ≤ a + size ∧ (q = true → q2 = true) ∧ (q2 = false → a2 = a + size) := by
  have h0 := numV_rng b a size
  have h1 := numV_lt (b := b) (a := a) hs
  cases hok : numOk b a size with
  | false =>
    rw [numR_no hok] at h
    simp only [Prod.mk.injEq] at h
    obtain ⟨rfl, rfl, rfl⟩ := h
    exact ⟨by omega, by omega, by omega, by omega, by omega, fun _ => rfl, fun h => by cases h⟩
  | true =>
    rw [numR_yes hok] at h
    simp only [Prod.mk.injEq] at h
    obtain ⟨rfl, rfl, rfl⟩ := h
    unfold numOk at hok
    have := of_decide_eq_true hok
    exact ⟨h0, h1, by omega, by omega, by omega, id, fun _ => rfl⟩
theorem numR_byte {b : List UInt8} {a f a2 : Int} {q q2 : Bool} {size : Nat} (h : numR b size (a, q) = (f, (a2, q2))) (hs : size ≤ 2) : f < 65536 := by
  cases hok : numOk b a size with
  | false =>
    rw [numR_no hok] at h
    simp only [Prod.mk.injEq] at h; omega
  | true =>
    rw [numR_yes hok] at h
    simp only [Prod.mk.injEq] at h
    rw [← h.1]
    unfold numV
    rw [if_pos hok]
    have h1 := numN_pow (l := (b.drop a.toNat).take size)
    have h2 : ((b.drop a.toNat).take size).length ≤ 2 := by rw [List.length_take]; omega
    have h3 : 256 ^ ((b.drop a.toNat).take size).length ≤ 256 ^ 2 := Nat.pow_le_pow_right (by omega) h2
    simp only [Int.toNat_natCast]; omega
/-- an edge, edges, a node, nodes -/
def edgeR (b : List UInt8) (s : Int × Bool) : Ed × (Int × Bool) :=
  let r := numR b 4 s
  let t := numR b 2 (r.2.1, r.2.2 || decide (r.1 > 1114111))
  (Ed.mk (IntKind.i32.wrap r.1) t.1, t.2)
def edgesR (b : List UInt8) : Nat → Int × Bool → List Ed × (Int × Bool)
  | 0, s => ([], s)
  | n + 1, s => if s.2 = true then ([], s) else ((edgeR b s).1 :: (edgesR b n (edgeR b s).2).1, (edgesR b n (edgeR b s).2).2)
def nodeR (b : List UInt8) (s : Int × Bool) : GN × (Int × Bool) :=
  let f := numR b 1 s
  let c := numR b 2 (f.2.1, f.2.2 || decide (f.1 > 1))
  let r := edgesR b c.1.toNat c.2
  ((decide (f.1 = 1), r.1), r.2)
def nodesR (b : List UInt8) : Nat → Int × Bool → List GN × (Int × Bool)
  | 0, s => ([], s)
  | n + 1, s => if s.2 = true then ([], s) else ((nodeR b s).1 :: (nodesR b n (nodeR b s).2).1, (nodesR b n (nodeR b s).2).2)
/-- going over edges: those that were read, those that come -/
def EdsR (b : List UInt8) (n : Nat) (s0 : Int × Bool) (i : Nat) (es : List Ed) (s : Int × Bool) : Prop := edgesR b n s0 = (es ++ (edgesR b (n - i) s).1, (edgesR b (n - i) s).2)
theorem EdsR.start (b : List UInt8) (n : Nat) (s : Int × Bool) : EdsR b n s 0 [] s := by unfold EdsR; simp
theorem EdsR.step {b : List UInt8} {n i : Nat} {s0 : Int × Bool} {a : Int} {es : List Ed} {e : Ed} {s' : Int × Bool} (h : EdsR b n s0 i es (a, false)) (hi : i < n) (he : edgeR b (a, false) = (e, s')) : EdsR b n s0 (i + 1) (es ++ [e]) s' := by
  unfold EdsR at *
  rw [h]
  obtain ⟨m, hm⟩ : ∃ m, n - i = m + 1 := ⟨n - i - 1, by omega⟩
  rw [hm, show n - (i + 1) = m from by omega]
  conv => lhs; unfold edgesR
  rw [if_neg (by simp), he]
  simp
theorem EdsR.bad {b : List UInt8} {n i : Nat} {s0 : Int × Bool} {a : Int} {es : List Ed} (h : EdsR b n s0 i es (a, true)) : edgesR b n s0 = (es, (a, true)) := by
  unfold EdsR at h
  rw [h]
  cases n - i with
  | zero => simp [edgesR]
  | succ m => unfold edgesR; simp
theorem EdsR.fin {b : List UInt8} {n i : Nat} {s0 : Int × Bool} {es : List Ed} {s : Int × Bool} (h : EdsR b n s0 i es s) (hi : n ≤ i) : edgesR b n s0 = (es, s) := by
  unfold EdsR at h
  rw [show n - i = 0 from by omega] at h
  rw [h]; simp [edgesR]
end Go.Ml
namespace Go.Ml
open Go.Ik
theorem edge_eq {b : List UInt8} {s : Int × Bool} {f a1 t a2 : Int} {q1 X q2 : Bool} (h1 : (f, a1, q1) = numR b 4 s) (hX : X = (q1 || decide (f > 1114111))) (h2 : (t, a2, q2) = numR b 2 (a1, X)) : edgeR b s = (Ed.mk (IntKind.i32.wrap f) t, (a2, q2)) := by
  unfold edgeR
  simp only [← h1, ← hX, ← h2]
theorem node_eq {b : List UInt8} {a : Int} {q : Bool} {f a1 c a2 a3 : Int} {q1 X q2 q3 fin : Bool} {es : List Ed} (h1 : (f, a1, q1) = numR b 1 (a, q)) (hX : X = (q1 || decide (f > 1))) (h2 : (c, a2, q2) = numR b 2 (a1, X)) (h3 : edgesR b c.toNat (a2, q2) = (es, (a3, q3))) (hf : fin = (f == 1)) : nodeR b (a, q) = ((fin, es), (a3, q3)) := by
  unfold nodeR
  simp only [← h1, ← hX, ← h2, h3, hf]
  rfl
end Go.Ml
namespace Go.Ik
open Go Go.Ml
/-- a node that is read: its cell and its edges -/
def nbR {R : Nat → Prop} (nT eT : TypeId) (b : Nat) (fin : Bool) (es : List Ed) : Res R := exR fun v : Value => boxR [bkR b [.bool fin, v] nT, accR encE eT 2 v es]
end Go.Ik
namespace Go.Ml
open Go.Ik
/-- edge by edge, until it says no -/
def eachW {σ : Type} (g : σ → Ed → Bool × σ) : σ → List Ed → Bool × σ
  | s, [] => (true, s)
  | s, e :: r => if (g s e).1 = true then eachW g (g s e).2 r else (false, (g s e).2)
theorem eachW_step {σ : Type} {g : σ → Ed → Bool × σ} {s : σ} {l : List Ed} {k : Nat} {e : Ed} {R : Bool × σ} (h : R = eachW g s (l.drop k)) (hx : l[k]? = some e) (hg : (g s e).1 = true) : R = eachW g (g s e).2 (l.drop (k + 1)) := by
  rw [h, drop_el' hx]
  conv => lhs; unfold eachW
  rw [if_pos hg]
theorem eachW_stop {σ : Type} {g : σ → Ed → Bool × σ} {s : σ} {l : List Ed} {k : Nat} {e : Ed} {R : Bool × σ} (h : R = eachW g s (l.drop k)) (hx : l[k]? = some e) (hg : (g s e).1 = false) : R = (false, (g s e).2) := by
  rw [h, drop_el' hx]
  conv => lhs; unfold eachW
  rw [if_neg (by simp [hg])]
theorem eachW_end {σ : Type} {g : σ → Ed → Bool × σ} {s : σ} {l : List Ed} {k : Nat} {R : Bool × σ} (h : R = eachW g s (l.drop k)) (hk : l.length ≤ k) : R = (true, s) := by
  rw [h, List.drop_of_length_le hk]; rfl
/-- does a node lead to ends, and none of those behind it to itself? what is known of nodes: 1 under way, 2 done -/
def goesW (N : List GN) : Nat → Nat → Int → List Int → Bool × List Int
  | 0, _, _, st => (false, st)
  | f + 1, n, d, st => match N[n]? with
    | none => (false, st)
    | some x => if st[n]? = some 2 then (true, st) else if st[n]? = some 1 ∨ d > 12 ∨ (x.1 = false ∧ x.2 = []) then (false, st) else
      if (eachW (fun st e => goesW N f e.to.toNat (d + 1) st) (st.set n 1) x.2).1 = true then (true, (eachW (fun st e => goesW N f e.to.toNat (d + 1) st) (st.set n 1) x.2).2.set n 2) else (false, (eachW (fun st e => goesW N f e.to.toNat (d + 1) st) (st.set n 1) x.2).2)
section
variable {N : List GN} {f n : Nat} {d : Int} {st : List Int} {x : GN} {y : Int}
theorem goesW_done (hx : N[n]? = some x) (hy : st[n]? = some y) (h : y = 2) : goesW N (f + 1) n d st = (true, st) := by
  subst h; unfold goesW; rw [hx]; simp only; rw [hy, if_pos rfl]
theorem goesW_no (hx : N[n]? = some x) (hy : st[n]? = some y) (h : ¬ y = 2) (h2 : y = 1 ∨ d > 12 ∨ (x.1 = false ∧ x.2 = [])) : goesW N (f + 1) n d st = (false, st) := by
  unfold goesW; rw [hx]; simp only; rw [hy, if_neg (by simpa using h), if_pos (by simpa using h2)]
theorem goesW_go (hx : N[n]? = some x) (hy : st[n]? = some y) (h : ¬ y = 2) (h2 : ¬ (y = 1 ∨ d > 12 ∨ (x.1 = false ∧ x.2 = []))) {R : Bool × List Int} (hR : R = eachW (fun st e => goesW N f e.to.toNat (d + 1) st) (st.set n 1) x.2) : goesW N (f + 1) n d st = if R.1 = true then (true, R.2.set n 2) else (false, R.2) := by
  subst hR
  conv => lhs; unfold goesW
  rw [hx]; simp only; rw [hy, if_neg (by simpa using h), if_neg (by simpa using h2)]
end
theorem goesW_goF {N : List GN} {f n : Nat} {d : Int} {st s' : List Int} {x : GN} {y : Int} (hx : N[n]? = some x) (hy : st[n]? = some y) (h : ¬ y = 2) (h2 : ¬ (y = 1 ∨ d > 12 ∨ (x.1 = false ∧ x.2 = []))) (hR : eachW (fun st e => goesW N f e.to.toNat (d + 1) st) (st.set n 1) x.2 = (false, s')) : goesW N (f + 1) n d st = (false, s') := by
  rw [goesW_go hx hy h h2 hR.symm]; simp
theorem goesW_goT {N : List GN} {f n : Nat} {d : Int} {st s' : List Int} {x : GN} {y : Int} (hx : N[n]? = some x) (hy : st[n]? = some y) (h : ¬ y = 2) (h2 : ¬ (y = 1 ∨ d > 12 ∨ (x.1 = false ∧ x.2 = []))) (hR : eachW (fun st e => goesW N f e.to.toNat (d + 1) st) (st.set n 1) x.2 = (true, s')) : goesW N (f + 1) n d st = (true, s'.set n 2) := by
  rw [goesW_go hx hy h h2 hR.symm]; simp
theorem eachW_len {g : List Int → Ed → Bool × List Int} {m : Nat} (hg : ∀ s e, s.length = m → (g s e).2.length = m) : ∀ (l : List Ed) (s : List Int), s.length = m → (eachW g s l).2.length = m
  | [], s, h => h
  | e :: l, s, h => by
    unfold eachW
    split
    · exact eachW_len hg l _ (hg s e h)
    · exact hg s e h
theorem goesW_len (N : List GN) : ∀ (f n : Nat) (d : Int) (st : List Int), (goesW N f n d st).2.length = st.length
  | 0, _, _, _ => rfl
  | f + 1, n, d, st => by
    unfold goesW
    split
    · rfl
    · split
      · rfl
      · split
        · rfl
        · have := eachW_len (g := fun st e => goesW N f e.to.toNat (d + 1) st) (m := st.length) (fun s e h => (goesW_len N f _ _ s).trans h) (‹GN›.2) (st.set n 1) (by simp)
          split
          · simp only [List.length_set]; exact this
          · exact this
/-- is it whole? -/
def wholeM (N : List GN) : Bool := (decide (N.length = 1) && decide ((N[0]?.map (·.2.length)) = some 0)) || (goesW N 14 0 0 (List.replicate N.length 0)).1
theorem wholeM_one {N : List GN} {x : GN} (h : N.length = 1) (hx : N[0]? = some x) (h2 : x.2.length = 0) : wholeM N = true := by
  unfold wholeM; rw [hx]; simp [h, h2]
theorem wholeM_far {N : List GN} {b : Bool} (hb : (goesW N 14 0 0 (List.replicate N.length 0)).1 = b) (h : N.length ≠ 1 ∨ ∃ x, N[0]? = some x ∧ x.2.length ≠ 0) : wholeM N = b := by
  subst hb
  unfold wholeM
  rcases h with h | ⟨x, hx, h2⟩
  · simp [h]
  · rw [hx]; simp [h2]
theorem encR_le (r : Int) : (encR r).length ≤ 4 := by
  unfold encR Utf8.encode
  simp only
  repeat' split
  all_goals first | (simp; done) | (simp only [ByteArray.data_mk, List.toArray_toList]; decide) | rfl | decide | simp
theorem fold_step {σ : Type} {g : σ → Ed → σ} {s : σ} {l : List Ed} {k : Nat} {e : Ed} {R : σ} (h : R = (l.drop k).foldl g s) (hx : l[k]? = some e) : R = (l.drop (k + 1)).foldl g (g s e) := by
  rw [h, drop_el' hx]; rfl
theorem fold_end {σ : Type} {g : σ → Ed → σ} {s : σ} {l : List Ed} {k : Nat} {R : σ} (h : R = (l.drop k).foldl g s) (hk : l.length ≤ k) : R = s := by
  rw [h, List.drop_of_length_le hk]; rfl
/-- the words that nodes tell, in depth-first order; false: too many or too long -/
def goesS (N : List GN) : Nat → Nat → Str → Int → List Str × Bool → List Str × Bool
  | 0, _, _, _, s => (s.1, false)
  | f + 1, n, a, d, s => if s.2 = false ∨ s.1.length > 60 ∨ d > 12 then (s.1, false) else match N[n]? with
    | none => (s.1, false)
    | some x => x.2.foldl (fun s e => goesS N f e.to.toNat (a ++ encR e.rune) (d + 1) s) (if x.1 = true then (s.1 ++ [a], s.2) else s)
section
variable {N : List GN} {f n : Nat} {d : Int} {a : Str} {l : List Str} {ok : Bool} {x : GN}
theorem goesS_no (h : ok = false ∨ l.length > 60 ∨ d > 12) : goesS N (f + 1) n a d (l, ok) = (l, false) := by
  unfold goesS; rw [if_pos h]
theorem goesS_go (h : ¬ (ok = false ∨ l.length > 60 ∨ d > 12)) (hx : N[n]? = some x) {R s0 : List Str × Bool} (h0 : s0 = if x.1 = true then (l ++ [a], ok) else (l, ok)) (hR : x.2.foldl (fun s e => goesS N f e.to.toNat (a ++ encR e.rune) (d + 1) s) s0 = R) : goesS N (f + 1) n a d (l, ok) = R := by
  conv => lhs; unfold goesS
  rw [if_neg h, hx]; simp only
  rw [← hR, h0]
end
theorem foldS_len {g : List Str × Bool → Ed → List Str × Bool} (hg : ∀ s e, s.1.length ≤ 61 → (g s e).1.length ≤ 61) : ∀ (l : List Ed) (s : List Str × Bool), s.1.length ≤ 61 → (l.foldl g s).1.length ≤ 61
  | [], s, h => h
  | e :: l, s, h => foldS_len hg l _ (hg s e h)
theorem goesS_len (N : List GN) : ∀ (f n : Nat) (a : Str) (d : Int) (s : List Str × Bool), s.1.length ≤ 61 → (goesS N f n a d s).1.length ≤ 61
  | 0, _, _, _, s, h => h
  | f + 1, n, a, d, s, h => by
    unfold goesS
    split
    · exact h
    · next hn =>
      split
      · exact h
      · refine foldS_len (fun s e h => goesS_len N f _ _ _ s h) _ _ ?_
        have : ¬ s.1.length > 60 := fun h => hn (.inr (.inl h))
        split
        · simp only [List.length_append, List.length_cons, List.length_nil]; omega
        · exact h
/-- all words, are they so many as may be? -/
def someM (N : List GN) : List Str × Bool :=
  let r := goesS N 14 0 [] 0 ([], true)
  (r.1, r.2 && decide (r.1.length ≤ 60))
theorem someM_eq {N : List GN} {l : List Str} {ok v : Bool} (h : (l, ok) = goesS N 14 0 [] 0 ([], true)) (hv : v = (ok && decide (l.length ≤ 60))) : someM N = (l, v) := by
  unfold someM; simp only [← h, hv]
theorem foldS_short {g : List Str × Bool → Ed → List Str × Bool} (hg : ∀ s e, (∀ t ∈ s.1, t.length ≤ 1000) → ∀ t ∈ (g s e).1, t.length ≤ 1000) : ∀ (l : List Ed) (s : List Str × Bool), (∀ t ∈ s.1, t.length ≤ 1000) → ∀ t ∈ (l.foldl g s).1, t.length ≤ 1000
  | [], s, h => h
  | e :: l, s, h => foldS_short hg l _ (hg s e h)
theorem goesS_short (N : List GN) : ∀ (f n : Nat) (a : Str) (d : Int) (s : List Str × Bool), (a.length : Int) ≤ 4 * d → (∀ t ∈ s.1, t.length ≤ 1000) → ∀ t ∈ (goesS N f n a d s).1, t.length ≤ 1000
  | 0, _, _, _, s, _, h => h
  | f + 1, n, a, d, s, ha, h => by
    unfold goesS
    split
    · exact h
    · next hn =>
      split
      · exact h
      · refine foldS_short (fun s e h => goesS_short N f _ _ _ s (by have := encR_le e.rune; simp only [List.length_append]; omega) h) _ _ ?_
        have : ¬ d > 12 := fun h => hn (.inr (.inr h))
        split
        · intro t ht
          rcases List.mem_append.1 ht with ht | ht
          · exact h t ht
          · simp only [List.mem_singleton] at ht; subst ht; omega
        · exact h
theorem someM_short (N : List GN) : ∀ t ∈ (someM N).1, t.length ≤ 1000 := goesS_short N 14 0 [] 0 ([], true) (by simp) (fun t ht => by cases ht)
theorem someM_ok (N : List GN) : LOk (someM N).1 := fun t ht => by have := someM_short N t ht; omega
theorem someM_len (N : List GN) : (someM N).1.length ≤ 61 := goesS_len N 14 0 [] 0 ([], true) (by simp)
/-- are edges told of nodes that are there? -/
def rightE (N : List GN) : Bool := N.all fun x => x.2.all fun e => decide (1 ≤ e.to ∧ e.to < (N.length : Int))
/-- the words of a graph that was made of nodes -/
def madeM (N : List GN) : Option (List Str) :=
  if rightE N = true ∧ N.length ≠ 0 ∧ N.length ≤ 721 ∧ wholeM N = true ∧ (someM N).2 = true ∧ goodL (someM N).1 = 0 ∧ gnodes (someM N).1 = N then some (someM N).1 else none
def madeG (N : List GN) : List GN := match madeM N with
  | none => []
  | some l => gnodes l
theorem madeG_no {N : List GN} (h : ¬ (rightE N = true ∧ N.length ≠ 0 ∧ N.length ≤ 721 ∧ wholeM N = true ∧ (someM N).2 = true ∧ goodL (someM N).1 = 0 ∧ gnodes (someM N).1 = N)) : madeG N = [] := by
  unfold madeG madeM; rw [if_neg h]
theorem madeG_yes {N : List GN} (h : rightE N = true ∧ N.length ≠ 0 ∧ N.length ≤ 721 ∧ wholeM N = true ∧ (someM N).2 = true ∧ goodL (someM N).1 = 0 ∧ gnodes (someM N).1 = N) : madeG N = gnodes (someM N).1 := by
  unfold madeG madeM; rw [if_pos h]
theorem rightE_iff {N : List GN} : rightE N = true ↔ ∀ x ∈ N, ∀ e ∈ x.2, 1 ≤ e.to ∧ e.to < (N.length : Int) := by
  unfold rightE; simp
theorem rightE_no {N : List GN} {k i : Nat} {x : GN} {e : Ed} (hx : N[k]? = some x) (he : x.2[i]? = some e) (h : ¬ (1 ≤ e.to ∧ e.to < (N.length : Int))) : ¬ rightE N = true := fun hr => h (rightE_iff.1 hr x (List.mem_of_getElem? hx) e (List.mem_of_getElem? he))
/-- two graphs' nodes, one by one -/
theorem like_len {N M : List GN} (h : N.length ≠ M.length) : decide (N = M) = false := decide_eq_false fun e => h (by rw [e])
theorem like_no {N M : List GN} {k : Nat} {a b : GN} (ha : N[k]? = some a) (hb : M[k]? = some b) (h : a ≠ b) : decide (N = M) = false := decide_eq_false fun e => h (by subst e; exact Option.some.inj (ha.symm.trans hb))
theorem like_edge {N M : List GN} {k i : Nat} {a b : GN} {x y : Ed} (ha : N[k]? = some a) (hb : M[k]? = some b) (hx : a.2[i]? = some x) (hy : b.2[i]? = some y) (h : x ≠ y) : decide (N = M) = false := like_no ha hb fun e => h (by subst e; exact Option.some.inj (hx.symm.trans hy))
theorem take_step {α : Type} {N M : List α} {k : Nat} {a : α} (h : N.take k = M.take k) (ha : N[k]? = some a) (hb : M[k]? = some a) : N.take (k + 1) = M.take (k + 1) := by
  rw [List.take_add_one, List.take_add_one, h, ha, hb]
theorem take_all {α : Type} {N M : List α} {k : Nat} (h : N.take k = M.take k) (h1 : N.length ≤ k) (h2 : M.length ≤ k) : N = M := by
  rwa [List.take_of_length_le h1, List.take_of_length_le h2] at h
theorem gn_eq {a b : GN} (h1 : a.1 = b.1) (h2 : a.2 = b.2) : a = b := Prod.ext h1 h2
end Go.Ml
namespace Go.Ik
open Go Go.Ml
/-- a graph that one holds, told for a call that only reads -/
theorem gr_held {w : World} {bG g : Nat} {e tn : TypeId} {v : Value} {nds : List RNode} {N : List GN} {G : Nat → Prop} (hb : Bk w bG [v] e) (ha : Acc encN tn 2 w g v nds) (hg : g ≤ w.heap.size) (hr : NRel w G nds N) (hG : ∀ b, G b → b < w.heap.size) :
    Row w bG 0 [v] ∧ bG < w.heap.size ∧ Sl encN w (fun b => b < w.heap.size) v nds ∧ NRel w (fun b => b < w.heap.size) nds N :=
  ⟨hb.row, hb.lt, ha.sl.mono fun b h => Nat.lt_of_lt_of_le h.2 hg, hr.mono hG⟩
theorem gr_told {w : World} {lo hi : Nat} {v : Value} {N : List GN} (h : Gr 0 w lo hi v N) (hN : N ≠ []) (hh : hi ≤ w.heap.size) :
    ∃ b vn nds, v = ptr b 0 ∧ Row w b 0 [vn] ∧ b < w.heap.size ∧ Sl encN w (fun b => b < w.heap.size) vn nds ∧ NRel w (fun b => b < w.heap.size) nds N := by
  rcases h with ⟨_, h⟩ | ⟨b, vn, nds, h1, h2, h3, h4, h5⟩
  · exact absurd h hN
  · exact ⟨b, vn, nds, h1, h3.2.2, Nat.lt_of_lt_of_le h3.2.1 hh, h4.mono fun b q => Nat.lt_of_lt_of_le q.2 hh, h5.mono fun b q => Nat.lt_of_lt_of_le q.2 hh⟩
theorem St.grOut {R : Nat → Prop} {w0 w : World} {L : List (Res R)} {i : Nat} {v : Value} {N : List GN} (h : St R (fun _ => False) w0 w L) (hi : L[i]? = some (grR v N)) (hN : N ≠ []) : ∃ lo up, Gr 0 w lo up v N ∧ w0.heap.size ≤ lo ∧ up ≤ w.heap.size := by
  obtain ⟨F, ⟨lo, up, h1, h2, h4⟩, h3, _⟩ := h.act hi
  refine ⟨lo, up, h1, ?_, h2⟩
  rcases h1 with ⟨_, h1⟩ | ⟨b, vn, nds, k1, k2, ⟨k3, k4, k5⟩, k6, k7⟩
  · exact absurd h1 hN
  · exact (h3 lo (h4 lo (Nat.le_refl _) (by omega))).1.1.resolve_left id
end Go.Ik
namespace Go.Ik
open Go Go.Ml
/-- what the words' gatherer holds -/
def smR {R : Nat → Prop} (tO tl tG tF te fk : Nat) (bok bl bga bfn bG : Nat) (s : List Str × Bool) : Res R := boxR [bkR bok [.bool s.2] tO, tbR tl te 1 encS bl s.1, bkR bga [ptr bG 0] tG, bkR bfn [.func (.func fk) #[] #[ptr bok 0, ptr bl 0, ptr bga 0, ptr bfn 0]] tF]
/-- what 'goes' holds: the graph's box, the states', its own -/
def whR {R : Nat → Prop} (t1 t3 tI t4 fk : Nat) (b1 b3 b4 bG : Nat) (vS : Value) (st : List Int) : Res R := boxR [bkR b1 [ptr bG 0] t1, bkR b3 [vS] t3, accR Ik.encI tI 1 vS st, bkR b4 [.func (.func fk) #[] #[ptr b1 0, ptr b3 0, ptr b4 0]] t4]
end Go.Ik
namespace Go.Ik
open Go
theorem toArgs {P : Program} {f : FuncId} {r : List Value} {w : World} {K : Ending → World → Prop} {n : Nat} {m : Int} (h : Calls P f (.int .i64 (n : Int) :: r).toArray w K) (hn : m = (n : Int)) : Calls P f (.int .i64 m :: r).toArray w K := by subst hn; exact h
end Go.Ik
namespace Go.Ml
open Go.Ik
/-- going over nodes: those that were read, those that come -/
def NdsR (b : List UInt8) (n : Nat) (s0 : Int × Bool) (i : Nat) (N : List GN) (s : Int × Bool) : Prop := nodesR b n s0 = (N ++ (nodesR b (n - i) s).1, (nodesR b (n - i) s).2)
theorem NdsR.start (b : List UInt8) (n : Nat) (s : Int × Bool) : NdsR b n s 0 [] s := by unfold NdsR; simp
theorem NdsR.step {b : List UInt8} {n i : Nat} {s0 : Int × Bool} {a : Int} {N : List GN} {e : GN} {s' : Int × Bool} (h : NdsR b n s0 i N (a, false)) (hi : i < n) (he : (e, s') = nodeR b (a, false)) : NdsR b n s0 (i + 1) (N ++ [e]) s' := by
  unfold NdsR at *
  rw [h]
  obtain ⟨m, hm⟩ : ∃ m, n - i = m + 1 := ⟨n - i - 1, by omega⟩
  rw [hm, show n - (i + 1) = m from by omega]
  conv => lhs; unfold nodesR
  rw [if_neg (by simp), ← he]
  simp
theorem NdsR.bad {b : List UInt8} {n i : Nat} {s0 : Int × Bool} {a : Int} {N : List GN} (h : NdsR b n s0 i N (a, true)) : nodesR b n s0 = (N, (a, true)) := by
  unfold NdsR at h
  rw [h]
  cases n - i with
  | zero => simp [nodesR]
  | succ m => unfold nodesR; simp
theorem NdsR.fin {b : List UInt8} {n i : Nat} {s0 : Int × Bool} {N : List GN} {s : Int × Bool} (h : NdsR b n s0 i N s) (hi : n ≤ i) : nodesR b n s0 = (N, s) := by
  unfold NdsR at h
  rw [show n - i = 0 from by omega] at h
  rw [h]; simp [nodesR]
theorem edgesR_len (b : List UInt8) : ∀ (n : Nat) (s : Int × Bool), (edgesR b n s).1.length ≤ n
  | 0, s => by simp [edgesR]
  | n + 1, s => by
    unfold edgesR
    split
    · simp
    · simp only [List.length_cons]; have := edgesR_len b n (edgeR b s).2; omega
theorem nodeR_len (b : List UInt8) (s : Int × Bool) : (nodeR b s).1.2.length ≤ 65535 := by
  unfold nodeR
  simp only
  generalize hz : numR b 2 ((numR b 1 s).2.1, (numR b 1 s).2.2 || decide ((numR b 1 s).1 > 1)) = z
  obtain ⟨z1, z2, z3⟩ := z
  have h2 := numR_byte hz (by omega)
  have h1 := edgesR_len b z1.toNat (z2, z3)
  simp only
  omega
theorem numR_at {b : List UInt8} {size : Nat} {s : Int × Bool} (hs : size ≤ 4) (ha : 0 ≤ s.1 ∧ s.1 ≤ b.length) : 0 ≤ (numR b size s).2.1 ∧ (numR b size s).2.1 ≤ b.length := by
  have := numR_rng (a := s.1) (q := s.2) hs ha (f := (numR b size s).1) (a2 := (numR b size s).2.1) (q2 := (numR b size s).2.2) rfl
  omega
theorem edgeR_at {b : List UInt8} {s : Int × Bool} (ha : 0 ≤ s.1 ∧ s.1 ≤ b.length) : 0 ≤ (edgeR b s).2.1 ∧ (edgeR b s).2.1 ≤ b.length := by
  unfold edgeR
  exact numR_at (by omega) (numR_at (by omega) ha)
theorem edgesR_at {b : List UInt8} : ∀ (n : Nat) (s : Int × Bool), 0 ≤ s.1 ∧ s.1 ≤ b.length → 0 ≤ (edgesR b n s).2.1 ∧ (edgesR b n s).2.1 ≤ b.length
  | 0, s, ha => ha
  | n + 1, s, ha => by
    unfold edgesR
    split
    · exact ha
    · exact edgesR_at n _ (edgeR_at ha)
theorem nodeR_at {b : List UInt8} {a a2 : Int} {q q2 : Bool} {x : GN} (ha : 0 ≤ a ∧ a ≤ b.length) (h : (x, (a2, q2)) = nodeR b (a, q)) : 0 ≤ a2 ∧ a2 ≤ b.length := by
  have : (nodeR b (a, q)).2.1 = a2 := by rw [← h]
  rw [← this]
  unfold nodeR
  exact edgesR_at _ _ (numR_at (s := (_, _)) (by omega) (numR_at (s := (_, _)) (by omega) ha))
/-- the graph that an image tells, and what is wrong -/
def decG (b : List UInt8) : List GN × Int :=
  if b.length < 4 then ([], 9) else
  if ¬ numV b ((b.length : Int) - 4) 4 = (sumN (b.take (b.length - 4)) : Int) then ([], 9) else
  if b.length - 4 < 4 ∨ ¬ b.take 4 = [73, 78, 75, 49] then ([], 8) else
  if (nodesR (b.take (b.length - 4)) (numR (b.take (b.length - 4)) 2 (4, false)).1.toNat (numR (b.take (b.length - 4)) 2 (4, false)).2).2.2 = true ∨ ¬ (nodesR (b.take (b.length - 4)) (numR (b.take (b.length - 4)) 2 (4, false)).1.toNat (numR (b.take (b.length - 4)) 2 (4, false)).2).2.1 = (b.length : Int) - 4 then ([], 8) else
  if madeG (nodesR (b.take (b.length - 4)) (numR (b.take (b.length - 4)) 2 (4, false)).1.toNat (numR (b.take (b.length - 4)) 2 (4, false)).2).1 = [] then ([], 8) else
  (madeG (nodesR (b.take (b.length - 4)) (numR (b.take (b.length - 4)) 2 (4, false)).1.toNat (numR (b.take (b.length - 4)) 2 (4, false)).2).1, 0)
section
variable {b : List UInt8}
theorem decG_short (h : b.length < 4) : decG b = ([], 9) := by unfold decG; rw [if_pos h]
theorem decG_sum (h1 : ¬ b.length < 4) (h2 : ¬ numV b ((b.length : Int) - 4) 4 = (sumN (b.take (b.length - 4)) : Int)) : decG b = ([], 9) := by unfold decG; rw [if_neg h1, if_pos h2]
theorem decG_head (h1 : ¬ b.length < 4) (h2 : numV b ((b.length : Int) - 4) 4 = (sumN (b.take (b.length - 4)) : Int)) (h3 : b.length - 4 < 4 ∨ ¬ b.take 4 = [73, 78, 75, 49]) : decG b = ([], 8) := by unfold decG; rw [if_neg h1, if_neg (fun k => k h2), if_pos h3]
variable {N : List GN} {a c a0 : Int} {q q0 : Bool}
theorem decG_form (h1 : ¬ b.length < 4) (h2 : numV b ((b.length : Int) - 4) 4 = (sumN (b.take (b.length - 4)) : Int)) (h3 : ¬ (b.length - 4 < 4 ∨ ¬ b.take 4 = [73, 78, 75, 49])) (h4 : (c, (a0, q0)) = numR (b.take (b.length - 4)) 2 (4, false)) (h5 : nodesR (b.take (b.length - 4)) c.toNat (a0, q0) = (N, (a, q))) (h6 : q = true ∨ ¬ a = (b.length : Int) - 4) : decG b = ([], 8) := by
  unfold decG; rw [if_neg h1, if_neg (fun k => k h2), if_neg h3, ← h4]; simp only [h5]; rw [if_pos h6]
theorem decG_none (h1 : ¬ b.length < 4) (h2 : numV b ((b.length : Int) - 4) 4 = (sumN (b.take (b.length - 4)) : Int)) (h3 : ¬ (b.length - 4 < 4 ∨ ¬ b.take 4 = [73, 78, 75, 49])) (h4 : (c, (a0, q0)) = numR (b.take (b.length - 4)) 2 (4, false)) (h5 : nodesR (b.take (b.length - 4)) c.toNat (a0, q0) = (N, (a, q))) (h6 : ¬ (q = true ∨ ¬ a = (b.length : Int) - 4)) (h7 : madeG N = []) : decG b = ([], 8) := by
  unfold decG; rw [if_neg h1, if_neg (fun k => k h2), if_neg h3, ← h4]; simp only [h5]; rw [if_neg h6, if_pos h7]
theorem decG_yes (h1 : ¬ b.length < 4) (h2 : numV b ((b.length : Int) - 4) 4 = (sumN (b.take (b.length - 4)) : Int)) (h3 : ¬ (b.length - 4 < 4 ∨ ¬ b.take 4 = [73, 78, 75, 49])) (h4 : (c, (a0, q0)) = numR (b.take (b.length - 4)) 2 (4, false)) (h5 : nodesR (b.take (b.length - 4)) c.toNat (a0, q0) = (N, (a, q))) (h6 : ¬ (q = true ∨ ¬ a = (b.length : Int) - 4)) (h7 : madeG N ≠ []) : decG b = (madeG N, 0) := by
  unfold decG; rw [if_neg h1, if_neg (fun k => k h2), if_neg h3, ← h4]; simp only [h5]; rw [if_neg h6, if_neg h7]
end
end Go.Ml
namespace Go.Ik
open Go Go.Ml
/-- nodes' edges -/
def relR {R : Nat → Prop} (nds : List RNode) (N : List GN) : Res R := ⟨fun F w => NRel w F nds N, fun h hm hF _ => h.keep hm hF⟩
theorem rel_push {R F : Nat → Prop} {w : World} {e : TypeId} {nds : List RNode} {N : List GN} {x : RNode} {n : GN} {v : Value} {es : List Ed} (hv : v = x.e.val) (hf : x.fin = n.1) (hn : es = n.2) (h : (boxR (R := R) [relR nds N, accR encE e 2 v es]).p F w) : (relR (R := R) (nds ++ [x]) (N ++ [n])).p F w := by
  obtain ⟨F1, F2, h1, h2, h3, h4⟩ := sep_pair h
  exact All2.app (NRel.mono h1 h3) (.cons ⟨hf, hv ▸ hn ▸ (acc_sl h2).mono h4⟩ .nil)
end Go.Ik
namespace Go.Ml
open Go.Ik
theorem wrap_small {x : Int} (h0 : 0 ≤ x) (h : x < 4294967296) : IntKind.u64.wrap x = x := by
  have : (IntKind.u64.wrap x) = x % 18446744073709551616 := by unfold IntKind.wrap; rfl
  rw [this]; omega
theorem put1 {x : Int} (h0 : 0 ≤ x) (h : x < 256) : putN x 1 = [byN x] := by
  unfold putN
  rw [wrap_small h0 (by omega)]
  simp [List.range_succ]
theorem put2 {x : Int} (h0 : 0 ≤ x) (h : x < 65536) : putN x 2 = [byN (x / 256), byN x] := by
  unfold putN
  rw [wrap_small h0 (by omega)]
  simp [List.range_succ]
theorem put4 {x : Int} (h0 : 0 ≤ x) (h : x < 4294967296) : putN x 4 = [byN (x / 16777216), byN (x / 65536), byN (x / 256), byN x] := by
  unfold putN
  rw [wrap_small h0 (by omega)]
  simp [List.range_succ]
theorem num1 {x : Int} (h0 : 0 ≤ x) (h : x < 256) : (numN (putN x 1) : Int) = x := by
  rw [put1 h0 h]
  have h1 := byN_toNat x
  simp only [numN, List.foldl_cons, List.foldl_nil]; omega
theorem num2 {x : Int} (h0 : 0 ≤ x) (h : x < 65536) : (numN (putN x 2) : Int) = x := by
  rw [put2 h0 h]
  have h1 := byN_toNat x
  have h2 := byN_toNat (x / 256)
  simp only [numN, List.foldl_cons, List.foldl_nil]; omega
theorem num4 {x : Int} (h0 : 0 ≤ x) (h : x < 4294967296) : (numN (putN x 4) : Int) = x := by
  rw [put4 h0 h]
  have h1 := byN_toNat x
  have h2 := byN_toNat (x / 256)
  have h3 := byN_toNat (x / 65536)
  have h4 := byN_toNat (x / 16777216)
  simp only [numN, List.foldl_cons, List.foldl_nil]; omega
theorem byN_eq {n : Int} {b : UInt8} (h : n % 256 = (b.toNat : Int)) : byN n = b := by
  apply UInt8.toNat_inj.1
  have := byN_toNat n; omega
theorem back1 {l : List UInt8} (h : l.length = 1) : putN (numN l) 1 = l := by
  match l, h with
  | [a], _ =>
    have ha := a.toNat_lt
    have hn : (numN [a] : Int) = a.toNat := by simp only [numN, List.foldl_cons, List.foldl_nil]; omega
    rw [put1 (by omega) (by omega), hn, byN_eq (b := a) (by omega)]
theorem back2 {l : List UInt8} (h : l.length = 2) : putN (numN l) 2 = l := by
  match l, h with
  | [a, b], _ =>
    have ha := a.toNat_lt
    have hb := b.toNat_lt
    have hn : (numN [a, b] : Int) = a.toNat * 256 + b.toNat := by simp only [numN, List.foldl_cons, List.foldl_nil]; omega
    rw [put2 (by omega) (by omega), hn, byN_eq (b := a) (by omega), byN_eq (b := b) (by omega)]
theorem back4 {l : List UInt8} (h : l.length = 4) : putN (numN l) 4 = l := by
  match l, h with
  | [a, b, c, d], _ =>
    have ha := a.toNat_lt
    have hb := b.toNat_lt
    have hc := c.toNat_lt
    have hd := d.toNat_lt
    have hn : (numN [a, b, c, d] : Int) = ((a.toNat * 256 + b.toNat) * 256 + c.toNat) * 256 + d.toNat := by simp only [numN, List.foldl_cons, List.foldl_nil]; omega
    rw [put4 (by omega) (by omega), hn, byN_eq (b := a) (by omega), byN_eq (b := b) (by omega), byN_eq (b := c) (by omega), byN_eq (b := d) (by omega)]
/-- sizes that are read -/
def sz124 (n : Nat) : Prop := n = 1 ∨ n = 2 ∨ n = 4
theorem num_put {x : Int} {n : Nat} (hn : sz124 n) (h0 : 0 ≤ x) (h : x < 256 ^ n) : (numN (putN x n) : Int) = x := by
  rcases hn with rfl | rfl | rfl
  · exact num1 h0 (by omega)
  · exact num2 h0 (by omega)
  · exact num4 h0 (by omega)
theorem put_num {l : List UInt8} {n : Nat} (hn : sz124 n) (h : l.length = n) : putN (numN l) n = l := by
  rcases hn with rfl | rfl | rfl
  · exact back1 h
  · exact back2 h
  · exact back4 h
theorem drop_len {b p r : List UInt8} {a : Nat} (h : b.drop a = p ++ r) : b.drop (a + p.length) = r := by
  rw [← List.drop_drop, h]; simp
theorem drop_le {b p r : List UInt8} {a : Nat} (h : b.drop a = p ++ r) (hp : p ≠ []) : a + p.length ≤ b.length := by
  have h1 := congrArg List.length h
  rw [List.length_drop, List.length_append] at h1
  have : 0 < p.length := List.length_pos_iff.2 hp
  omega
theorem numR_put {b r : List UInt8} {a n : Nat} {x : Int} {q : Bool} (h : b.drop a = putN x n ++ r) (hn : sz124 n) (h0 : 0 ≤ x) (hx : x < 256 ^ n) : numR b n ((a : Int), q) = (x, (((a + n : Nat) : Int), q)) := by
  have hl := putN_len x n
  have h1 : a + n ≤ b.length := by
    have := drop_le h (by intro e; rw [e] at hl; unfold sz124 at hn; simp at hl; omega)
    rwa [hl] at this
  have hok : numOk b (a : Int) (n : Int) = true := by unfold numOk; unfold sz124 at hn; exact decide_eq_true ⟨by omega, by omega, by omega, by omega, by omega⟩
  rw [numR_yes hok]
  have hv : numV b (a : Int) (n : Int) = x := by
    unfold numV
    rw [if_pos hok]
    simp only [Int.toNat_natCast]
    rw [h, List.take_left' hl]
    exact num_put hn h0 hx
  rw [hv]; rfl
/-- edges that may be laid -/
def edOk (e : Ed) : Prop := 0 ≤ e.rune ∧ e.rune ≤ 1114111 ∧ 0 ≤ e.to ∧ e.to < 65536
theorem wrap32 {x : Int} (h0 : 0 ≤ x) (h : x ≤ 1114111) : IntKind.i32.wrap x = x := by
  have hm : x % 4294967296 = x := by omega
  have hb : (2 : Int) ^ IntKind.i32.bits = 4294967296 := rfl
  have hs : (2 : Int) ^ (IntKind.i32.bits - 1) = 2147483648 := rfl
  unfold IntKind.wrap
  simp only [hb, hs, hm]
  rw [if_neg]
  simp only [Bool.and_eq_true, decide_eq_true_eq]
  omega
theorem edgeB_len (e : Ed) : (edgeB e).length = 6 := by unfold edgeB; simp [putN_len]
theorem edgeR_put {b r : List UInt8} {a : Nat} {e : Ed} (h : b.drop a = edgeB e ++ r) (he : edOk e) : edgeR b ((a : Int), false) = (e, (((a + 6 : Nat) : Int), false)) := by
  obtain ⟨h1, h2, h3, h4⟩ := he
  unfold edgeB at h
  rw [List.append_assoc] at h
  have k1 := numR_put (q := false) h (.inr (.inr rfl)) h1 (by omega)
  have k2 := drop_len h
  rw [putN_len] at k2
  have k3 := numR_put (q := false) k2 (.inr (.inl rfl)) h3 (by omega)
  unfold edgeR
  simp only [k1]
  rw [show (false || decide (e.rune > 1114111)) = false from by simp; omega]
  simp only [k3]
  rw [wrap32 h1 h2]
theorem edgesR_put {b : List UInt8} : ∀ (es : List Ed) (a : Nat) (r : List UInt8), b.drop a = es.flatMap edgeB ++ r → (∀ e ∈ es, edOk e) → edgesR b es.length ((a : Int), false) = (es, (((a + 6 * es.length : Nat) : Int), false))
  | [], a, r, h, _ => by simp [edgesR]
  | e :: es, a, r, h, he => by
    rw [List.flatMap_cons, List.append_assoc] at h
    have k1 := edgeR_put h (he e (by simp))
    have k2 := drop_len h
    rw [edgeB_len] at k2
    have k3 := edgesR_put es (a + 6) r k2 (fun e h => he e (by simp [h]))
    rw [List.length_cons]
    conv => lhs; unfold edgesR
    rw [if_neg (by simp), k1]
    simp only [k3]
    rw [show a + 6 + 6 * es.length = a + 6 * (es.length + 1) from by omega]
/-- nodes that may be laid -/
def gnOk (x : GN) : Prop := x.2.length < 65536 ∧ ∀ e ∈ x.2, edOk e
def ndLen (x : GN) : Nat := 3 + 6 * x.2.length
theorem flat6 : ∀ es : List Ed, (es.flatMap edgeB).length = 6 * es.length
  | [] => rfl
  | e :: es => by rw [List.flatMap_cons, List.length_append, flat6 es, edgeB_len, List.length_cons]; omega
theorem nodeB_len2 (x : GN) : (nodeB x).length = ndLen x := by unfold nodeB ndLen; simp only [List.length_append, putN_len, flat6]
theorem nodeR_put {b r : List UInt8} {a : Nat} {x : GN} (h : b.drop a = nodeB x ++ r) (hx : gnOk x) : nodeR b ((a : Int), false) = (x, (((a + ndLen x : Nat) : Int), false)) := by
  obtain ⟨h1, h2⟩ := hx
  unfold nodeB at h
  rw [List.append_assoc, List.append_assoc] at h
  have hb : (0 : Int) ≤ (if x.1 = true then 1 else 0) ∧ (if x.1 = true then 1 else 0 : Int) ≤ 1 := by split <;> omega
  have k1 := numR_put (q := false) h (.inl rfl) hb.1 (by omega)
  have k2 := drop_len h
  rw [putN_len] at k2
  have k3 := numR_put (q := false) k2 (.inr (.inl rfl)) (by omega) (by omega)
  have k4 := drop_len k2
  rw [putN_len] at k4
  have k5 := edgesR_put x.2 _ _ k4 h2
  unfold nodeR
  simp only [k1]
  rw [show (false || decide ((if x.1 = true then 1 else 0 : Int) > 1)) = false from by rw [Bool.false_or]; exact decide_eq_false (by omega)]
  simp only [k3, Int.toNat_natCast, k5]
  rw [show a + 1 + 2 + 6 * x.2.length = a + ndLen x from by unfold ndLen; omega]
  have : decide ((if x.1 = true then 1 else 0 : Int) = 1) = x.1 := by cases x.1 <;> decide
  rw [this]
def ndsLen (N : List GN) : Nat := (N.map ndLen).sum
theorem nodesR_put {b : List UInt8} : ∀ (N : List GN) (a : Nat) (r : List UInt8), b.drop a = N.flatMap nodeB ++ r → (∀ x ∈ N, gnOk x) → nodesR b N.length ((a : Int), false) = (N, (((a + ndsLen N : Nat) : Int), false))
  | [], a, r, h, _ => by simp [nodesR, ndsLen]
  | x :: N, a, r, h, hx => by
    rw [List.flatMap_cons, List.append_assoc] at h
    have k1 := nodeR_put h (hx x (by simp))
    have k2 := drop_len h
    rw [nodeB_len2] at k2
    have k3 := nodesR_put N (a + ndLen x) r k2 (fun e h => hx e (by simp [h]))
    rw [List.length_cons]
    conv => lhs; unfold nodesR
    rw [if_neg (by simp), k1]
    simp only [k3]
    rw [show a + ndLen x + ndsLen N = a + ndsLen (x :: N) from by unfold ndsLen; simp only [List.map_cons, List.sum_cons]; omega]
theorem nodesB_len : ∀ N : List GN, (N.flatMap nodeB).length = ndsLen N
  | [] => rfl
  | x :: N => by rw [List.flatMap_cons, List.length_append, nodesB_len N, nodeB_len2]; unfold ndsLen; simp only [List.map_cons, List.sum_cons]
theorem body_len2 (N : List GN) : (bodyB N).length = 6 + ndsLen N := by
  unfold bodyB; simp only [List.length_append, putN_len, nodesB_len, List.length_cons, List.length_nil]
/-- what is laid of nodes is read as them -/
theorem dec_body {N : List GN} (hl : N.length < 65536) (hN : ∀ x ∈ N, gnOk x) (hm : madeG N ≠ []) : decG (encB_ N) = (madeG N, 0) := by
  have hb : (encB_ N).length = (bodyB N).length + 4 := by unfold encB_ sealB; rw [List.length_append, putN_len]
  have hbl := body_len2 N
  have ht : (encB_ N).take ((encB_ N).length - 4) = bodyB N := by rw [hb]; unfold encB_ sealB; simp
  have hn4 : (4 : Int) = ((4 : Nat) : Int) := rfl
  have hs := sumF_lt 0 (bodyB N)
  have h2 : numV (encB_ N) (((encB_ N).length : Int) - 4) 4 = (sumN ((encB_ N).take ((encB_ N).length - 4)) : Int) := by
    rw [ht]
    have hd : (encB_ N).drop (bodyB N).length = putN (sumN (bodyB N)) 4 ++ [] := by unfold encB_ sealB; simp
    have := numR_put (q := false) hd (.inr (.inr rfl)) (by omega) (by change (sumF 0 (bodyB N) : Int) < _; omega)
    rw [show ((encB_ N).length : Int) - 4 = ((bodyB N).length : Int) from by omega]
    have hok : numOk (encB_ N) ((bodyB N).length : Int) 4 = true := by unfold numOk; exact decide_eq_true ⟨by omega, by omega, by omega, by omega, by omega⟩
    rw [show (4 : Nat) = 4 from rfl, numR_yes hok] at this
    exact congrArg Prod.fst this
  have h3 : ¬ ((encB_ N).length - 4 < 4 ∨ ¬ (encB_ N).take 4 = [73, 78, 75, 49]) := by
    intro h
    rcases h with h | h
    · omega
    · exact h (by unfold encB_ sealB bodyB; simp)
  have hd4 : (bodyB N).drop 4 = putN N.length 2 ++ N.flatMap nodeB := by unfold bodyB; simp
  have h4 := numR_put (q := false) hd4 (.inr (.inl rfl)) (by omega) (by omega)
  have hd6 := drop_len hd4
  rw [putN_len] at hd6
  have h5 := nodesR_put N 6 [] (by rw [hd6]; simp) hN
  have e1 : numR ((encB_ N).take ((encB_ N).length - 4)) 2 (4, false) = ((N.length : Int), (((6 : Nat) : Int), false)) := by rw [ht]; exact h4
  refine decG_yes (c := N.length) (a0 := ((6 : Nat) : Int)) (q0 := false) (a := ((6 + ndsLen N : Nat) : Int)) (q := false) (by omega) h2 h3 e1.symm (by rw [ht, Int.toNat_natCast]; exact h5) (fun h => ?_) hm
  rcases h with h | h
  · cases h
  · exact h (by omega)
end Go.Ml
namespace Go.Ml
open Go.Ik
def dpL : List Str → Nat
  | [] => 0
  | t :: r => max (runes t).length (dpL r)
theorem mem_dpL : ∀ {l : List Str} {t : Str}, t ∈ l → (runes t).length ≤ dpL l
  | a :: r, t, h => by
    unfold dpL
    rcases List.mem_cons.1 h with rfl | h
    · omega
    · have := mem_dpL h; omega
theorem dpL_at : ∀ {l : List Str}, l ≠ [] → ∃ t ∈ l, (runes t).length = dpL l
  | [a], _ => ⟨a, by simp, by unfold dpL dpL; omega⟩
  | a :: b :: r, _ => by
    obtain ⟨t, h1, h2⟩ := dpL_at (l := b :: r) (by simp)
    have e : dpL (a :: b :: r) = max (runes a).length (dpL (b :: r)) := by rw [dpL]
    rcases Nat.le_total (runes a).length (dpL (b :: r)) with h | h
    · exact ⟨t, by simp [List.mem_cons.1 h1], by rw [h2, e]; omega⟩
    · exact ⟨a, by simp, by rw [e]; omega⟩
theorem dpL_le {l : List Str} {n : Nat} (h : Deep n l) : dpL l ≤ n := by
  by_cases hl : l = []
  · subst hl; exact Nat.zero_le _
  · obtain ⟨t, h1, h2⟩ := dpL_at hl
    rw [← h2]; exact h t h1
theorem mem_group {r : List Str} (hr : GoodR r) {g : Nat × List Str} (hg : g ∈ groups (dropE r)) : goodN g.1 ∧ g.2 ≠ [] ∧ GoodR g.2 ∧ ∀ t ∈ g.2, encL g.1 ++ t ∈ r := by
  have hd := dropE_good hr
  have ok := groups_ok _ _ (Nat.le_refl _) hd.1 hd.2
  have h1 := ok.good g hg
  refine ⟨h1.1, h1.2.1, h1.2.2, fun t ht => dropE_mem ?_⟩
  rw [← ok.all]
  exact List.mem_flatMap.2 ⟨g, hg, List.mem_map.2 ⟨t, ht, rfl⟩⟩
theorem dpL_group {r : List Str} (hr : GoodR r) {g : Nat × List Str} (hg : g ∈ groups (dropE r)) : dpL g.2 + 1 ≤ dpL r := by
  obtain ⟨h1, h2, _, h4⟩ := mem_group hr hg
  obtain ⟨t, k1, k2⟩ := dpL_at h2
  have := mem_dpL (h4 t k1)
  rw [runes_app h1] at this
  simp only [List.length_cons] at this
  omega
theorem edgesM_pred {P : List Str → Prop} {add : GS → List Str → GS × Nat} : ∀ (gs : List (Nat × List Str)) (s : GS), (∀ g ∈ gs, ∀ s, (∀ y ∈ s, P y.1) → ∀ y ∈ (add s g.2).1, P y.1) → (∀ y ∈ s, P y.1) → ∀ y ∈ (edgesM add s gs).1, P y.1
  | [], s, _, hs => hs
  | g :: gs, s, h, hs => by
    show ∀ y ∈ (edgesM add (add s g.2).1 gs).1, _
    exact edgesM_pred gs _ (fun g' hg' => h g' (by simp [hg'])) (h g (by simp) s hs)
theorem addM_pred {P : List Str → Prop} (hP : ∀ r, P r → ∀ g ∈ groups (dropE r), P g.2) : ∀ (f : Nat) (s : GS) (rests : List Str), (∀ y ∈ s, P y.1) → P rests → ∀ y ∈ (addM f s rests).1, P y.1
  | 0, s, rests, hs, _ => hs
  | f + 1, s, rests, hs, hr => by
    unfold addM
    cases hi : s.findIdx? fun x => x.1 == rests with
    | some i => exact hs
    | none =>
      have h1 := edgesM_pred (add := addM f) (P := P) (groups (dropE rests)) (s ++ [(rests, [])]) (fun g hgm s' hs' => addM_pred hP f s' g.2 hs' (hP _ hr g hgm)) (fun y hy => by
          rcases List.mem_append.1 hy with hy | hy
          · exact hs y hy
          · simp only [List.mem_singleton] at hy; subst hy; exact hr)
      intro y hy
      rcases List.mem_or_eq_of_mem_set hy with hy | rfl
      · exact h1 y hy
      · exact hr
/-- no node has more runes to come than the root -/
theorem graph_dp {words : List Str} (h : goodL words = 0) : ∀ y ∈ graphM words, dpL y.1 ≤ dpL words := by
  have hg := good_deep h
  have := addM_pred (P := fun r => GoodR r ∧ dpL r ≤ dpL words) (fun r hr g hgm => ⟨(mem_group hr.1 hgm).2.2.1, by have := dpL_group hr.1 hgm; omega⟩) 13 [] words (by simp) ⟨hg.1, Nat.le_refl _⟩
  exact fun y hy => (this y hy).2
def sumR (l : List Str) : Nat := (l.map fun t => (runes t).length).sum
theorem sumR_app (a b : List Str) : sumR (a ++ b) = sumR a + sumR b := by unfold sumR; simp
theorem sumR_pre {c : Nat} (hc : goodN c) : ∀ l : List Str, sumR (l.map (encL c ++ ·)) = l.length + sumR l
  | [] => rfl
  | t :: l => by
    have := sumR_pre hc l
    unfold sumR at *
    simp only [List.map_cons, List.sum_cons, List.length_cons] at *
    rw [runes_app hc, this]
    simp only [List.length_cons]; omega
def gsumR (gs : List (Nat × List Str)) : Nat := (gs.map fun g => sumR g.2 + 1).sum
theorem gsumR_le : ∀ (gs : List (Nat × List Str)), (∀ g ∈ gs, goodN g.1 ∧ g.2 ≠ []) → gsumR gs ≤ sumR (gs.flatMap fun g => g.2.map (encL g.1 ++ ·))
  | [], _ => by simp [gsumR]
  | g :: gs, h => by
    have h1 := gsumR_le gs (fun g' hg => h g' (by simp [hg]))
    have h2 := h g (by simp)
    have h3 := List.length_pos_iff.2 h2.2
    rw [List.flatMap_cons, sumR_app, sumR_pre h2.1]
    unfold gsumR at *
    simp only [List.map_cons, List.sum_cons]; omega
theorem sumR_dropE (l : List Str) : sumR (dropE l) ≤ sumR l := by
  cases l with
  | nil => exact Nat.le_refl _
  | cons a r => cases a <;> simp [dropE, sumR]
theorem edgesM_lenR {add : GS → List Str → GS × Nat} : ∀ (gs : List (Nat × List Str)) (s : GS), (∀ g ∈ gs, ∀ s, (add s g.2).1.length ≤ s.length + 1 + sumR g.2) → (edgesM add s gs).1.length ≤ s.length + gsumR gs
  | [], s, _ => by simp [edgesM, gsumR]
  | g :: gs, s, h => by
    have h1 := h g (by simp) s
    have h2 := edgesM_lenR gs (add s g.2).1 (fun g' hg' => h g' (by simp [hg']))
    show (edgesM add (add s g.2).1 gs).1.length ≤ _
    unfold gsumR at h2 ⊢
    simp only [List.map_cons, List.sum_cons]
    omega
theorem addM_lenR : ∀ (f : Nat) (s : GS) (rests : List Str), GoodR rests → (addM f s rests).1.length ≤ s.length + 1 + sumR rests
  | 0, s, rests, _ => by simp [addM]; omega
  | f + 1, s, rests, hg => by
    unfold addM
    cases hi : s.findIdx? fun x => x.1 == rests with
    | some i => simp; omega
    | none =>
      simp only [List.length_set]
      have hd := dropE_good hg
      have ok := groups_ok _ _ (Nat.le_refl _) hd.1 hd.2
      have h1 := edgesM_lenR (add := addM f) (groups (dropE rests)) (s ++ [(rests, [])]) (fun g hgm s' => addM_lenR f s' g.2 (ok.good g hgm).2.2)
      have h2 := gsumR_le (groups (dropE rests)) (fun g hgm => ⟨(ok.good g hgm).1, (ok.good g hgm).2.1⟩)
      rw [ok.all] at h2
      have h3 := sumR_dropE rests
      simp only [List.length_append, List.length_cons, List.length_nil] at h1
      omega
theorem sumR_le {l : List Str} {m : Nat} (h : ∀ x ∈ l, (runes x).length ≤ m) : sumR l ≤ l.length * m := by
  induction l with
  | nil => simp [sumR]
  | cons a l ih =>
    have h1 := h a (by simp)
    have h2 := ih fun x hx => h x (by simp [hx])
    unfold sumR at *
    rw [List.map_cons, List.sum_cons, List.length_cons, Nat.add_mul]
    omega
theorem gnodes_721 {words : List Str} (h : goodL words = 0) : (gnodes words).length ≤ 721 := by
  rw [gnodes_yes h, gnOf_len]
  unfold graphB
  split
  · simp
  · obtain ⟨h1, h2, _⟩ := good_words h
    have h3 := addM_lenR 13 [] words (good_deep h).1
    have h4 := sumR_le (l := words) (m := 12) fun x hx => (fine_of_word (h2 x hx)).2.2
    unfold graphM
    simp only [List.length_nil] at h3
    omega
theorem all2_ind {α β : Type} {R : α → β → Prop} {a : List α} {b : List β} (h : All2 R a b) : ∀ y ∈ b, ∃ x ∈ a, R x y := by
  intro y hy
  obtain ⟨k, hk⟩ := List.mem_iff_getElem?.1 hy
  have hg := All2.get h
  have hlt := (List.getElem?_eq_some_iff.1 hk).1
  have hx : a[k]? = some (a[k]'(by rw [hg.1]; exact hlt)) := by simp
  exact ⟨_, List.mem_of_getElem? hx, hg.2 k _ _ hx hk⟩
theorem eachW_all {g : List Int → Ed → Bool × List Int} {Inv : List Int → Prop} : ∀ (l : List Ed) (s : List Int), Inv s → (∀ e ∈ l, ∀ s, Inv s → (g s e).1 = true ∧ Inv (g s e).2) → (eachW g s l).1 = true ∧ Inv (eachW g s l).2
  | [], s, h, _ => ⟨rfl, h⟩
  | e :: l, s, h, hg => by
    obtain ⟨h1, h2⟩ := hg e (by simp) s h
    unfold eachW
    rw [if_pos h1]
    exact eachW_all l _ h2 fun e' he => hg e' (by simp [he])
section
variable {s : GS}
theorem gnOf_get' {n : Nat} {y : List Str × List Ed} (h : s[n]? = some y) : (gnOf s)[n]? = some (finB y.1, y.2) := by simp [gnOf, h]
theorem goesW_ok (hnode : ∀ y ∈ s, Corr s y ∧ GoodR y.1 ∧ y.1 ≠ []) : ∀ (f n : Nat) (d : Int) (st : List Int) (y : List Str × List Ed), s[n]? = some y → 0 ≤ d → d + dpL y.1 ≤ 12 → 13 ≤ d + f → st.length = s.length →
    (∀ (m : Nat) (z : List Str × List Ed), st[m]? = some 1 → s[m]? = some z → dpL y.1 < dpL z.1) →
    (goesW (gnOf s) (f + 1) n d st).1 = true ∧ ∀ m : Nat, (goesW (gnOf s) (f + 1) n d st).2[m]? = some 1 → st[m]? = some 1 := by
  intro f
  induction f with
  | zero => intro n d st y hn h0 h1 h2 _ _; omega
  | succ f ih =>
    intro n d st y hn h0 h1 h2 hl hu
    obtain ⟨hc, hg, hne⟩ := hnode y (List.mem_of_getElem? hn)
    have hlt := (List.getElem?_eq_some_iff.1 hn).1
    obtain ⟨v, hv⟩ : ∃ v, st[n]? = some v := ⟨_, List.getElem?_eq_getElem (by omega)⟩
    by_cases hv2 : v = 2
    · rw [goesW_done (gnOf_get' hn) hv hv2]
      exact ⟨rfl, fun m h => h⟩
    · have hno : ¬ (v = 1 ∨ d > 12 ∨ ((finB y.1, y.2).1 = false ∧ (finB y.1, y.2).2 = [])) := by
        rintro (h | h | ⟨h3, h4⟩)
        · subst h
          have := hu n y hv hn
          omega
        · omega
        · apply hne
          simp only at h3 h4
          have hgr : groups (dropE y.1) = [] := List.eq_nil_of_length_eq_zero (by rw [(All2.get hc).1, h4]; rfl)
          have := rests_all (x := y) hg
          rw [h3, hgr] at this
          simpa using this
      have key := eachW_all (g := fun st e => goesW (gnOf s) (f + 1) e.to.toNat (d + 1) st) (Inv := fun st' => st'.length = s.length ∧ ∀ m : Nat, st'[m]? = some 1 → st[m]? = some 1 ∨ m = n) y.2 (st.set n 1) ⟨by rw [List.length_set]; exact hl, fun m h => by
          rw [List.getElem?_set] at h
          split at h
          · right; omega
          · left; exact h⟩ (fun e he st' ⟨hl', hu'⟩ => by
        obtain ⟨g, hgm, h3, j, es, h4, h5⟩ := all2_ind hc e he
        have hdp := dpL_group hg hgm
        have hj : e.to.toNat = j := by omega
        have := ih j (d + 1) st' (g.2, es) h5 (by omega) (by simp only; omega) (by omega) hl' (fun m z hm hz => by
          rcases hu' m hm with h | h
          · have := hu m z h hz; simp only; omega
          · subst h
            obtain rfl : y = z := Option.some.inj (hn.symm.trans hz)
            simp only; omega)
        simp only [hj]
        refine ⟨this.1, by rw [goesW_len]; exact hl', fun m hm => hu' m (this.2 m hm)⟩)
      obtain ⟨k1, k2, k3⟩ := key
      rw [goesW_go (gnOf_get' hn) hv hv2 hno rfl]
      simp only
      rw [if_pos k1]
      refine ⟨rfl, fun m hm => ?_⟩
      simp only at hm
      rw [List.getElem?_set] at hm
      split at hm
      · split at hm
        · simp at hm
        · cases hm
      · rename_i hne'
        rcases k3 m hm with h | h
        · exact h
        · omega
/-- from a node on the words come that are its rests -/
theorem foldS_all {a : Str} {d : Int} {f : Nat} (hih : ∀ (n : Nat) (a : Str) (l : List Str) (y : List Str × List Ed), s[n]? = some y → d + 1 + dpL y.1 ≤ 12 → l.length + y.1.length ≤ 60 → goesS (gnOf s) f n a (d + 1) (l, true) = (l ++ y.1.map (a ++ ·), true)) :
    ∀ {gs : List (Nat × List Str)} {es : List Ed}, All2 (fun g e => e.rune = (g.1 : Int) ∧ ∃ (j : Nat) (es : List Ed), e.to = (j : Int) ∧ s[j]? = some (g.2, es)) gs es → (∀ g ∈ gs, goodN g.1 ∧ d + 1 + dpL g.2 ≤ 12) → ∀ l : List Str, l.length + (gs.flatMap fun g => g.2.map (encL g.1 ++ ·)).length ≤ 60 →
      es.foldl (fun s' e => goesS (gnOf s) f e.to.toNat (a ++ encR e.rune) (d + 1) s') (l, true) = (l ++ (gs.flatMap fun g => g.2.map (encL g.1 ++ ·)).map (a ++ ·), true) := by
  intro gs es h
  induction h with
  | nil => intro _ l _; simp
  | @cons g e gs es hge hr ih2 =>
    intro hg l hl
    obtain ⟨h1, j, es', h2, h3⟩ := hge
    obtain ⟨k1, k2⟩ := hg g (by simp)
    rw [List.flatMap_cons, List.length_append, List.length_map] at hl
    rw [List.foldl_cons, show e.to.toNat = j from by omega, h1, encR_L k1, hih j _ l (g.2, es') h3 k2 (by simp only; omega), ih2 (fun g' hg' => hg g' (by simp [hg'])) _ (by simp only [List.length_append, List.length_map]; omega)]
    rw [List.flatMap_cons, List.map_append, List.map_map, List.append_assoc]
    congr 3
    apply List.map_congr_left
    intro t _
    simp
theorem goesS_ok (hnode : ∀ y ∈ s, Corr s y ∧ GoodR y.1) : ∀ (f n : Nat) (a : Str) (d : Int) (l : List Str) (y : List Str × List Ed), s[n]? = some y → 0 ≤ d → d + dpL y.1 ≤ 12 → 13 ≤ d + f → l.length + y.1.length ≤ 60 → goesS (gnOf s) (f + 1) n a d (l, true) = (l ++ y.1.map (a ++ ·), true) := by
  intro f
  induction f with
  | zero => intro n a d l y hn h0 h1 h2 _; omega
  | succ f ih =>
    intro n a d l y hn h0 h1 h2 hl
    obtain ⟨hc, hg⟩ := hnode y (List.mem_of_getElem? hn)
    have hall := rests_all (x := y) hg
    refine goesS_go (by rintro (h | h | h); cases h; omega; omega) (gnOf_get' hn) rfl ?_
    simp only
    have hlen := congrArg List.length hall
    rw [List.length_append] at hlen
    have key := fun l0 hl0 => foldS_all (s := s) (a := a) (d := d) (f := f + 1) (fun n a l y hn hd hl => ih n a (d + 1) l y hn (by omega) hd (by omega) hl) hc (fun g hgm => ⟨(mem_group hg hgm).1, by have := dpL_group hg hgm; omega⟩) l0 hl0
    cases hf : finB y.1 with
    | true =>
      rw [hf, if_pos rfl] at hall
      rw [hf, if_pos rfl] at hlen
      rw [if_pos rfl, key _ (by simp only [List.length_append, List.length_cons, List.length_nil] at hlen ⊢; omega)]
      conv => rhs; rw [hall]
      simp
    | false =>
      rw [hf, if_neg (by decide)] at hall
      rw [hf, if_neg (by decide)] at hlen
      rw [if_neg (by decide), key _ (by simp only [List.length_nil] at hlen ⊢; omega)]
      conv => rhs; rw [hall]
      simp
end
/-- a graph of words is the one that is made of its nodes -/
theorem made_self {words : List Str} (h : goodL words = 0) : madeM (gnodes words) = some words := by
  by_cases hw : words = []
  · subst hw
    rw [gnodes_nil rfl]
    have hs : someM [(false, [])] = ([], true) := by decide
    unfold madeM
    rw [hs]
    rw [if_pos ⟨by decide, by decide, by decide, by decide, rfl, by decide, gnodes_nil rfl⟩]
  · have hgd := good_deep h
    have hok := graphM_ok hgd.2 hgd.1 hw
    have hB : graphB words = graphM words := by unfold graphB; rw [if_neg hw]
    have hN := gnodes_yes h
    rw [hB] at hN
    obtain ⟨es0, h0⟩ := hok.root
    have hdw := dpL_le hgd.2
    have hsz := gnodes_len h
    have hsm : someM (gnodes words) = (words, true) := by
      have := goesS_ok (s := graphM words) (fun y hy => ⟨(hok.node y hy).corr, (hok.node y hy).good⟩) 13 0 [] 0 [] (words, es0) h0 (by omega) (by simp only; omega) (by omega) (by have := (good_words h).1; simp only [List.length_nil]; omega)
      unfold someM
      rw [hN, this]
      have h60 := (good_words h).1
      simp; exact h60
    unfold madeM
    rw [hsm]
    refine if_pos ⟨?_, by omega, gnodes_721 h, ?_, rfl, h, rfl⟩
    · rw [rightE_iff]
      intro x hx e he
      rw [hN] at hx
      obtain ⟨y, hy, rfl⟩ := List.mem_map.1 hx
      obtain ⟨g, hgm, h3, j, es, h4, h5⟩ := all2_ind (hok.node y hy).corr e he
      have hj := (List.getElem?_eq_some_iff.1 h5).1
      have hdp := dpL_group (hok.node y hy).good hgm
      have hdy := graph_dp h y hy
      rw [hN, gnOf_len]
      refine ⟨?_, by omega⟩
      rcases Nat.eq_zero_or_pos j with hz | hz
      · subst hz
        have : g.2 = words := congrArg Prod.fst (Option.some.inj (h5.symm.trans h0))
        rw [this] at hdp; omega
      · omega
    · unfold wholeM
      have := goesW_ok (s := graphM words) (fun y hy => ⟨(hok.node y hy).corr, (hok.node y hy).good, (hok.node y hy).ne⟩) 13 0 0 (List.replicate (gnodes words).length 0) (words, es0) h0 (by omega) (by simp only; omega) (by omega) (by rw [List.length_replicate, hN, gnOf_len]) (fun m z hm _ => by
        rw [List.getElem?_replicate] at hm
        split at hm <;> simp at hm)
      rw [Bool.or_eq_true]
      right
      rw [hN] at this ⊢
      exact this.1
theorem madeG_self {words : List Str} (h : goodL words = 0) : madeG (gnodes words) = gnodes words := by unfold madeG; rw [made_self h]
theorem gnodes_ok {words : List Str} (h : goodL words = 0) : ∀ x ∈ gnodes words, gnOk x := by
  have hsz := (gnodes_len h).2
  intro x hx
  refine ⟨by have := gnodes_edges h x hx; omega, fun e he => ?_⟩
  have hok := gok_of h
  rw [gnodes_yes h] at hx hsz
  rw [gnOf_len] at hsz
  obtain ⟨y, hy, rfl⟩ := List.mem_map.1 hx
  obtain ⟨g, hgm, h3, j, es, h4, h5⟩ := all2_ind (hok.node y hy).1 e he
  have hj := (List.getElem?_eq_some_iff.1 h5).1
  have hgn := (mem_group (hok.node y hy).2.1 hgm).1
  unfold goodN at hgn
  exact ⟨by omega, by omega, by omega, by omega⟩
/-- an image of words is read as their graph -/
theorem dec_img {words : List Str} (h : goodL words = 0) : decG (imgM words) = (gnodes words, 0) := by
  rw [← enc_img h, dec_body (by have := (gnodes_len h).2; omega) (gnodes_ok h) (by rw [madeG_self h]; exact gnodes_nn h), madeG_self h]
end Go.Ml
