import Derived.Test.YtajedfbogchkcaaLibB
import Derived.Lib.Join
import Derived.Room.Shelf.Join48
import Derived.Shelf.SlSortCmp.NoneTotal
import Derived.Shelf.SlicesE.Compact
import Derived.Laws.BytesArg
import Derived.Laws.IdiomStrings
import Derived.Laws.Cover4
import Derived.Laws.BitsAllLaws
/-
  Chapter 8: names of nodes as keys of a map, ways along runes; no program in sight.
-/
set_option linter.unusedVariables false
set_option linter.unusedSimpArgs false
namespace Go.Ml
open Go.Ik

/-! names joined by a byte that no text has -/
def NoFF (s : Str) : Prop := (255 : UInt8) ∉ s
theorem by8_ne {n : Nat} (h : n % 256 ≠ 255) : by8 n ≠ 255 := fun e => by
  have := congrArg UInt8.toNat e
  rw [by8_toNat] at this
  exact h this
theorem encL_noff {c : Nat} (h : goodN c) : NoFF (encL c) := by
  obtain ⟨h1, h2, h3⟩ := h
  unfold NoFF encL
  repeat' split
  all_goals simp only [List.mem_cons, List.not_mem_nil, or_false, not_or]
  · exact fun e => by8_ne (by omega) e.symm
  · exact ⟨fun e => by8_ne (by omega) e.symm, fun e => by8_ne (by omega) e.symm⟩
  · exact ⟨fun e => by8_ne (by omega) e.symm, fun e => by8_ne (by omega) e.symm, fun e => by8_ne (by omega) e.symm⟩
  · exact ⟨fun e => by8_ne (by omega) e.symm, fun e => by8_ne (by omega) e.symm, fun e => by8_ne (by omega) e.symm, fun e => by8_ne (by omega) e.symm⟩
theorem fine_noff : ∀ s, Fine s → NoFF s :=
  fine_ind (by simp [NoFF]) fun c t hc _ ih => by
    have := encL_noff hc
    unfold NoFF at *
    rw [List.mem_append, not_or]; exact ⟨this, ih⟩
def joinS (l : List Str) : Str := Lib.join l [255]
theorem joinS_cons (x : Str) (r : List Str) : joinS (x :: r) = x ++ Lib.joinTail [255] r := Lib.join_cons x r [255]
theorem tail_cons (x : Str) (r : List Str) : Lib.joinTail [255] (x :: r) = 255 :: (x ++ Lib.joinTail [255] r) := by simp [Lib.joinTail]
theorem tail_nil : Lib.joinTail [255] [] = [] := rfl
theorem split_ff : ∀ (x y u v : Str), NoFF x → NoFF y → (u = [] ∨ ∃ u', u = 255 :: u') → (v = [] ∨ ∃ v', v = 255 :: v') → x ++ u = y ++ v → x = y ∧ u = v
  | [], [], u, v, _, _, _, _, h => ⟨rfl, h⟩
  | [], b :: y, u, v, _, hy, hu, _, h => by
    simp only [List.nil_append, List.cons_append] at h
    rcases hu with rfl | ⟨u', rfl⟩
    · cases h
    · simp only [List.cons.injEq] at h
      exact absurd (by simp [h.1]) hy
  | a :: x, [], u, v, hx, _, _, hv, h => by
    simp only [List.nil_append, List.cons_append] at h
    rcases hv with rfl | ⟨v', rfl⟩
    · cases h
    · simp only [List.cons.injEq] at h
      exact absurd (by simp [h.1]) hx
  | a :: x, b :: y, u, v, hx, hy, hu, hv, h => by
    simp only [List.cons_append, List.cons.injEq] at h
    have := split_ff x y u v (fun e => hx (by simp [e])) (fun e => hy (by simp [e])) hu hv h.2
    exact ⟨by rw [h.1, this.1], this.2⟩
theorem tail_shape (r : List Str) : Lib.joinTail [255] r = [] ∨ ∃ u, Lib.joinTail [255] r = 255 :: u := by
  cases r with
  | nil => exact .inl rfl
  | cons x r => exact .inr ⟨_, tail_cons x r⟩
theorem tail_inj : ∀ (r s : List Str), (∀ x ∈ r, NoFF x) → (∀ x ∈ s, NoFF x) → Lib.joinTail [255] r = Lib.joinTail [255] s → r = s
  | [], [], _, _, _ => rfl
  | [], y :: s, _, _, h => by rw [tail_nil, tail_cons] at h; cases h
  | x :: r, [], _, _, h => by rw [tail_nil, tail_cons] at h; cases h
  | x :: r, y :: s, hr, hs, h => by
    rw [tail_cons, tail_cons] at h
    simp only [List.cons.injEq, true_and] at h
    have := split_ff x y _ _ (hr x (by simp)) (hs y (by simp)) (tail_shape r) (tail_shape s) h
    rw [this.1, tail_inj r s (fun x hx => hr x (by simp [hx])) (fun x hx => hs x (by simp [hx])) this.2]
theorem joinS_inj {l m : List Str} (hl : ∀ x ∈ l, NoFF x) (hm : ∀ x ∈ m, NoFF x) (h1 : l ≠ []) (h2 : m ≠ []) (h : joinS l = joinS m) : l = m := by
  cases l with
  | nil => exact absurd rfl h1
  | cons x r =>
    cases m with
    | nil => exact absurd rfl h2
    | cons y s =>
      rw [joinS_cons, joinS_cons] at h
      have := split_ff x y _ _ (hl x (by simp)) (hm y (by simp)) (tail_shape r) (tail_shape s) h
      rw [this.1, tail_inj r s (fun x hx => hl x (by simp [hx])) (fun x hx => hm x (by simp [hx])) this.2]
theorem GoodR.noff {l : List Str} (h : GoodR l) : ∀ x ∈ l, NoFF x := fun x hx => fine_noff x (h.fine x hx)
def sumLen (l : List Str) : Nat := (l.map List.length).sum
theorem joinS_len (l : List Str) : (joinS l).length ≤ sumLen l + l.length := by
  cases l with
  | nil => simp [joinS, Lib.join, sumLen]
  | cons x r =>
    rw [joinS_cons]
    have : ∀ r : List Str, (Lib.joinTail [255] r).length ≤ sumLen r + r.length := by
      intro r
      induction r with
      | nil => simp [tail_nil]
      | cons y r ih => rw [tail_cons]; simp only [sumLen, List.map_cons, List.sum_cons, List.length_cons, List.length_append] at *; omega
    have := this r
    simp only [sumLen, List.map_cons, List.sum_cons, List.length_cons, List.length_append] at *; omega

/-- the map of a graph's names -/
def mapK (s : GS) : List (Str × Int) := s.mapIdx fun i x => (joinS x.1, (i : Int))
theorem mapK_snoc (s : GS) (x : List Str × List Ed) : mapK (s ++ [x]) = mapK s ++ [(joinS x.1, (s.length : Int))] := by
  unfold mapK; rw [List.mapIdx_concat]
theorem mapK_names {s t : GS} (h : names s = names t) : mapK s = mapK t := by
  unfold mapK
  have hl : s.length = t.length := by simpa [names] using congrArg List.length h
  refine List.ext_getElem (by simp [hl]) fun i h1 h2 => ?_
  simp only [List.length_mapIdx] at h1 h2
  simp only [List.getElem_mapIdx, Prod.mk.injEq, and_true]
  have : (names s)[i]'(by simpa [names] using h1) = (names t)[i]'(by simpa [names] using h2) := by simp only [h]
  simp only [names, List.getElem_map] at this
  rw [this]
/-- names that may be -/
def NamesOk (s : GS) : Prop := ∀ x ∈ s, x.1 ≠ [] ∧ ∀ t ∈ x.1, NoFF t
theorem asc_mapK {r : List Str} (hr : ∀ t ∈ r, NoFF t) (hne : r ≠ []) : ∀ (s : GS), NamesOk s → asc (mapK s) (joinS r) = (s.findIdx? fun x => x.1 == r).map fun i : Nat => (i : Int) := by
  intro s hs
  have key : ∀ (s : GS) (k : Nat), NamesOk s → asc (s.mapIdx fun i x => (joinS x.1, ((i + k : Nat) : Int))) (joinS r) = (s.findIdx? fun x => x.1 == r).map fun i : Nat => ((i + k : Nat) : Int) := by
    intro s
    induction s with
    | nil => intro k _; rfl
    | cons x s ih =>
      intro k h
      rw [List.mapIdx_cons, List.findIdx?_cons]
      by_cases hx : x.1 = r
      · simp [asc, hx]
      · have hj : joinS x.1 ≠ joinS r := fun e => hx (joinS_inj (h x (by simp)).2 hr (h x (by simp)).1 hne e)
        have := ih (k + 1) (fun y hy => h y (by simp [hy]))
        unfold asc at this ⊢
        rw [List.find?_cons]
        simp only [decide_eq_false hj]
        have e1 : (fun (i : Nat) (x : List Str × List Ed) => (joinS x.1, ((i + 1 + k : Nat) : Int))) = fun (i : Nat) (x : List Str × List Ed) => (joinS x.1, ((i + (k + 1) : Nat) : Int)) := by
          funext i x; congr 2; omega
        rw [e1, this]
        have hxb : (x.1 == r) = false := by simp [hx]
        simp only [hxb, Bool.false_eq_true, if_false, Option.map_map]
        cases s.findIdx? fun x => x.1 == r with
        | none => rfl
        | some i => simp only [Option.map_some, Function.comp_apply, Option.some.injEq]; omega
  exact key s 0 hs

/-! ways along runes -/
def finB (r : List Str) : Bool := decide (r.head? = some [])
theorem fin_mem {r : List Str} (h : GoodR r) : finB r = true ↔ [] ∈ r := by
  unfold finB
  rw [decide_eq_true_iff]
  cases r with
  | nil => simp
  | cons a r =>
    constructor
    · intro e; simp only [List.head?_cons, Option.some.injEq] at e; simp [e]
    · intro hm
      rcases List.mem_cons.1 hm with e | hm
      · simp [e]
      · have := (List.pairwise_cons.1 h.sorted).1 _ hm
        cases a <;> simp [ltT, Lib.compareBytes] at this
/-- along an edge: the rests that begin with its rune -/
theorem step_mem {r : List Str} (h : GoodR r) {c : Nat} (hc : goodN c) (t : Str) : encL c ++ t ∈ r ↔ ∃ b, (c, b) ∈ groups (dropE r) ∧ t ∈ b := by
  have hd := dropE_good h
  have ok := groups_ok _ _ (Nat.le_refl _) hd.1 hd.2
  constructor
  · intro hm
    have hm2 : encL c ++ t ∈ dropE r := by
      cases r with
      | nil => exact hm
      | cons a r =>
        cases a with
        | nil =>
          rcases List.mem_cons.1 hm with e | hm
          · exact absurd (List.append_eq_nil_iff.1 e).1 (encL_ne c)
          · exact hm
        | cons x a => exact hm
    rw [← ok.all] at hm2
    obtain ⟨g, hg, hgt⟩ := List.mem_flatMap.1 hm2
    obtain ⟨u, hu, he⟩ := List.mem_map.1 hgt
    have := encL_inj (ok.good g hg).1 hc he
    exact ⟨g.2, by rw [← this.1]; exact hg, by rw [← this.2]; exact hu⟩
  · rintro ⟨b, hb, ht⟩
    refine dropE_mem ?_
    rw [← ok.all]
    exact List.mem_flatMap.2 ⟨(c, b), hb, List.mem_map.2 ⟨t, ht, rfl⟩⟩
/-- where an edge leads -/
def nextM (es : List Ed) (r : Int) : Option Int := (es.find? fun e => e.rune == r).map Ed.to
theorem forall2_find {P : Nat × List Str → Ed → Prop} {c : Nat} : ∀ {gs : List (Nat × List Str)} {es : List Ed}, All2 (fun g e => e.rune = (g.1 : Int) ∧ P g e) gs es →
    ((es.find? fun e => e.rune == (c : Int)) = none → ∀ g ∈ gs, g.1 ≠ c) ∧ (∀ e, (es.find? fun e => e.rune == (c : Int)) = some e → ∃ g ∈ gs, g.1 = c ∧ P g e)
  | [], [], .nil => ⟨by simp, by simp⟩
  | g :: gs, e :: es, .cons h1 h2 => by
    have ih := forall2_find (c := c) h2
    rw [List.find?_cons]
    by_cases hc : g.1 = c
    · have : (e.rune == (c : Int)) = true := by rw [h1.1, hc]; simp
      rw [this]
      exact ⟨(fun h => by cases h), (fun e' he => by simp only [Option.some.injEq] at he; subst he; exact ⟨g, by simp, hc, h1.2⟩)⟩
    · have : (e.rune == (c : Int)) = false := by rw [h1.1]; simp; omega
      rw [this]
      refine ⟨fun h g' hg' => ?_, fun e' he => ?_⟩
      · rcases List.mem_cons.1 hg' with rfl | hg'
        · exact hc
        · exact ih.1 h g' hg'
      · obtain ⟨g', hg', k⟩ := ih.2 e' he
        exact ⟨g', by simp [hg'], k⟩
theorem group_unique {gs : List (Nat × List Str)} (h : gs.Pairwise fun a b => a.1 ≠ b.1) {a b : Nat × List Str} (ha : a ∈ gs) (hb : b ∈ gs) (e : a.1 = b.1) : a = b := by
  induction gs with
  | nil => simp at ha
  | cons g gs ih =>
    have hp := List.pairwise_cons.1 h
    rcases List.mem_cons.1 ha with ha1 | ha1
    · rcases List.mem_cons.1 hb with hb1 | hb1
      · rw [ha1, hb1]
      · exact absurd (by rw [← e, ha1]) (hp.1 b hb1)
    · rcases List.mem_cons.1 hb with hb1 | hb1
      · exact absurd (by rw [e, hb1]) (hp.1 a ha1)
      · exact ih hp.2 ha1 hb1
/-- one step: the rests behind it -/
theorem next_ok {s : GS} {n : Nat} {x : List Str × List Ed} (h : NodeOk s n x) {c : Nat} (hc : goodN c) :
    (nextM x.2 (c : Int) = none → ∀ t, encL c ++ t ∉ x.1) ∧ (∀ j, nextM x.2 (c : Int) = some j → ∃ (k : Nat) (b : List Str) (es : List Ed), j = (k : Int) ∧ s[k]? = some (b, es) ∧ ∀ t, encL c ++ t ∈ x.1 ↔ t ∈ b) := by
  have hd := dropE_good h.good
  have ok := groups_ok _ _ (Nat.le_refl _) hd.1 hd.2
  have hf := forall2_find (c := c) h.corr
  unfold nextM
  constructor
  · intro hn t hm
    rw [Option.map_eq_none_iff] at hn
    obtain ⟨b, hb, _⟩ := (step_mem h.good hc t).1 hm
    exact hf.1 hn _ hb rfl
  · intro j hj
    obtain ⟨e, he, rfl⟩ := Option.map_eq_some_iff.1 hj
    obtain ⟨g, hg, hgc, k, es, h1, h2⟩ := hf.2 e he
    refine ⟨k, g.2, es, h1, h2, fun t => ?_⟩
    rw [step_mem h.good hc]
    constructor
    · rintro ⟨b, hb, ht⟩
      have := group_unique ok.part hg hb hgc
      rw [this]; exact ht
    · intro ht
      exact ⟨g.2, by rw [← hgc]; exact hg, ht⟩

/-! one after the other, as long as it is told to -/
def eachF {σ : Type} (f : σ → Str → σ × Bool) : σ → List Str → σ × Bool
  | s, [] => (s, true)
  | s, x :: r => if (f s x).2 = true then eachF f (f s x).1 r else ((f s x).1, false)
theorem eachF_app {σ : Type} (f : σ → Str → σ × Bool) : ∀ (a b : List Str) (s : σ), eachF f s (a ++ b) = if (eachF f s a).2 = true then eachF f (eachF f s a).1 b else eachF f s a
  | [], b, s => by simp [eachF]
  | x :: a, b, s => by
    simp only [List.cons_append, eachF]
    split
    · rw [eachF_app f a b]
    · simp
theorem rests_all {x : List Str × List Ed} (h : GoodR x.1) : x.1 = (if finB x.1 = true then [[]] else []) ++ (groups (dropE x.1)).flatMap fun g => g.2.map (encL g.1 ++ ·) := by
  have hd := dropE_good h
  have ok := groups_ok _ _ (Nat.le_refl _) hd.1 hd.2
  rw [ok.all]
  unfold finB
  cases hx : x.1 with
  | nil => simp [dropE]
  | cons a r =>
    cases a with
    | nil => simp [dropE]
    | cons y a => simp [dropE]

/-! what the walks ask -/
theorem RunInv.step {s : Str} {p : Nat} {l : List Int} (h : RunInv s p l) (he : s.drop p ≠ []) (hd : ((dec (s.drop p)).1 : Int) ≠ 65533) : RunInv s (p + (dec (s.drop p)).2) (l ++ [((dec (s.drop p)).1 : Int)]) := by
  obtain ⟨pre, h1, h2, h3⟩ := h.ex
  refine ⟨⟨_, h1.next he, by rw [h2, List.map_append]; rfl, ?_⟩⟩
  simp only [List.mem_append, List.mem_singleton, not_or]
  exact ⟨h3, fun e => hd (by omega)⟩
theorem RunInv.odd {s : Str} {p : Nat} {l : List Int} (h : RunInv s p l) (he : s.drop p ≠ []) (hd : ((dec (s.drop p)).1 : Int) = 65533) : false = fineT s := by
  obtain ⟨pre, h1, h2, h3⟩ := h.ex
  have := h1.mem he
  have e : (dec (s.drop p)).1 = 65533 := by omega
  rw [e] at this
  unfold fineT; simp [this]
theorem RunInv.done {s : Str} {p : Nat} {l : List Int} (h : RunInv s p l) (he : s.drop p = []) : l = runesI s ∧ true = fineT s := by
  obtain ⟨pre, h1, h2, h3⟩ := h.ex
  have := h1.done he
  refine ⟨by rw [h2, runesI, this], ?_⟩
  unfold fineT; rw [this]; simp [h3]
theorem RunInv.pos {s : Str} {p : Nat} {l : List Int} (h : RunInv s p l) : p ≤ s.length := by
  obtain ⟨pre, h1, _⟩ := h.ex
  exact h1.le
theorem runesM_len (s : Str) : (runesM s).length ≤ s.length := by
  unfold runesM
  split
  · unfold runesI; rw [List.length_map]; exact runes_length s
  · simp
def FirstInv (s : Str) (p : Nat) (hd : Int) : Prop := (p = 0 ∧ hd = 0) ∨ (0 < p ∧ p = wdN s ∧ hd = (hdN s : Int))
theorem FirstInv.next {s : Str} {p : Nat} {hd : Int} (h : FirstInv s p hd) (he : s.drop p ≠ []) (h0 : p = 0) : FirstInv s (p + (dec (s.drop p)).2) ((dec (s.drop p)).1 : Int) := by
  subst h0
  simp only [List.drop_zero, Nat.zero_add] at he ⊢
  have := dec_pos s he
  exact .inr ⟨by omega, rfl, rfl⟩
theorem FirstInv.ret {s : Str} {p : Nat} {hd : Int} (h : FirstInv s p hd) (h0 : 0 < p) : hd = (hdN s : Int) ∧ ((p : Nat) : Int) = ((wdN s : Nat) : Int) := by
  rcases h with h | h
  · omega
  · exact ⟨h.2.2, by rw [h.2.1]⟩
theorem FirstInv.fin {s : Str} {p : Nat} {hd : Int} (h : FirstInv s p hd) (hne : s ≠ []) (he : s.drop p = []) : hd = (hdN s : Int) ∧ ((s.length : Nat) : Int) = ((wdN s : Nat) : Int) := by
  rcases h with ⟨rfl, _⟩ | ⟨h1, h2, h3⟩
  · exact absurd (by simpa using he) hne
  · refine ⟨h3, ?_⟩
    have hl := dec_le s hne
    have := congrArg List.length he
    simp only [List.length_drop, List.length_nil] at this
    unfold wdN at *
    omega
theorem wdN_le (s : Str) : s ≠ [] → 1 ≤ wdN s ∧ wdN s ≤ s.length := fun h => ⟨dec_pos s h, dec_le s h⟩
theorem hdN_le (s : Str) : hdN s ≤ 1114111 := dec_rune s
theorem hp_yes {s p : Str} {b : Bool} (hl : ((s.length : Nat) : Int) ≥ ((p.length : Nat) : Int)) (hb : b = (s.take p.length == p)) : b = p.isPrefixOf s := by
  rw [hb, Bool.eq_iff_iff, List.isPrefixOf_iff_prefix, beq_iff_eq]
  constructor
  · intro h; rw [← h]; exact List.take_prefix _ _
  · rintro ⟨t, rfl⟩; simp
theorem hp_no {s p : Str} (hl : ¬ ((s.length : Nat) : Int) ≥ ((p.length : Nat) : Int)) : false = p.isPrefixOf s := by
  cases h : p.isPrefixOf s with
  | false => rfl
  | true =>
    rw [List.isPrefixOf_iff_prefix] at h
    have := h.length_le
    omega
structure NextInv (es : List Ed) (r : Int) (k : Nat) : Prop where
  no : ∀ e ∈ es.take k, e.rune ≠ r
theorem NextInv.start (es : List Ed) (r : Int) : NextInv es r 0 := ⟨by simp⟩
theorem NextInv.next {es : List Ed} {r : Int} {k : Nat} {e : Ed} (h : NextInv es r k) (hx : es[k]? = some e) (hn : e.rune ≠ r) : NextInv es r (k + 1) := ⟨by
  intro y hy
  rw [List.take_add_one, hx] at hy
  simp only [Option.toList_some, List.mem_append, List.mem_singleton] at hy
  rcases hy with hy | rfl
  · exact h.no y hy
  · exact hn⟩
theorem NextInv.found {es : List Ed} {r : Int} {k : Nat} {e : Ed} (h : NextInv es r k) (hx : es[k]? = some e) (he : e.rune = r) : e.to = (nextM es r).getD 0 ∧ true = (nextM es r).isSome := by
  have : es.find? (fun e => e.rune == r) = some e := by
    obtain ⟨hk, rfl⟩ := List.getElem?_eq_some_iff.1 hx
    rw [List.find?_eq_some_iff_getElem]
    refine ⟨by simp [he], k, hk, rfl, fun j hj => ?_⟩
    have := h.no es[j] (List.mem_take_iff_getElem.2 ⟨j, by omega, rfl⟩)
    simp [this]
  unfold nextM
  rw [this]
  exact ⟨rfl, rfl⟩
theorem NextInv.none {es : List Ed} {r : Int} {k : Nat} (h : NextInv es r k) (hk : es.length ≤ k) : (0 : Int) = (nextM es r).getD 0 ∧ false = (nextM es r).isSome := by
  have hn := h.no
  rw [List.take_of_length_le hk] at hn
  have : es.find? (fun e => e.rune == r) = Option.none := by
    rw [List.find?_eq_none]
    intro e he; simp [hn e he]
  unfold nextM
  rw [this]
  exact ⟨rfl, rfl⟩
end Go.Ml
/-
  Graphs in memory; functions handed in; results in a cell.
-/
set_option linter.unusedVariables false
set_option linter.unusedSimpArgs false
set_option linter.unusedSectionVars false
namespace Go.Ik
open Go

/-! results in a cell -/
theorem r_retC1 {P : Program} {f : FuncId} {R : Ending → World → Prop} {n : Nat} {E : Env} {k : List Item} {w : World} {fn : Func} {t : Tmp} {ty : TypeId} {b off sz by_ : Nat} {z cs : List Value} (hf : P.funcs[f]? = some fn) (hres : fn.results = #[.cell t ty])
    (hv : lk t E = some (ptr b off)) (ht : tyI P ty = some (true, sz, by_, z)) (hr : Row w b off cs) (hn : cs.length = sz) (hR : R (.returned (.agg cs.toArray)) w) : RunE P f R n E (.code .ret :: k) w := fun a ha b' hb hk cs' =>
  ⟨_, w, { b'.at a (.code .ret :: k) with mode := .returning }, hR, .one step_ret, hb, leave_ret ha hf hb hk (by
    have hg : a.tmps[t]?.getD undef = .pointer (some ⟨b, off, none⟩) := by have := ha.has t _ hv; simpa [ptr] using this
    simp [results, hres, hg, asAddr, Sem.run_bind, Result.andThen, run_loadVar_agg ht hr hn])⟩

/-! blocks from 'B' on -/
def Ge (B : Nat) : Nat → Prop := fun b => B ≤ b
theorem Ext.thenGe {B : Nat} {w0 w w' : World} (h : Ext w0 w) (k : Mod (Ge B) w w') (hB : w0.heap.size ≤ B) : Ext w0 w' := h.then k (fun i hi hl => by unfold Ge at hi; omega)
theorem Mod.thenGe {B : Nat} {w0 w w' : World} (h : Mod (Ge B) w0 w) (k : Mod (Ge B) w w') : Mod (Ge B) w0 w' := h.trans k
theorem Mod.ofG {B g : Nat} {w w' : World} (k : Mod (Mg g) w w') (hg : g = 0 ∨ B < g) : Mod (Ge B) w w' := k.weaken (fun i hi _ => by unfold Mg at hi; unfold Ge; omega)
theorem Sl.keepB {α : Type} {enc : α → List Value} {w w' : World} {lo hi B : Nat} {v : Value} {l : List α} (h : Sl enc w (Iv lo hi) v l) (hm : Mod (Ge B) w w') (hg : hi ≤ B) : Sl enc w' (Iv lo hi) v l :=
  h.keep hm fun b hb hx => by unfold Iv Ge at *; omega
theorem Bk.keepB {w w' : World} {b B : Nat} {cs : List Value} {e : TypeId} (h : Bk w b cs e) (hm : Mod (Ge B) w w') (hg : b < B) : Bk w' b cs e := h.keep hm fun hx => by unfold Ge at hx; omega
theorem Acc.keepB {α : Type} {enc : α → List Value} {e : TypeId} {sz B g : Nat} {w w' : World} {v : Value} {l : List α} (h : Acc enc e sz w g v l) (hm : Mod (Ge B) w w') (hg : g ≤ B) : Acc enc e sz w' g v l := h.keep hm fun b hb hx => by unfold Ge at hx; omega
theorem Rw.keepB {w w' : World} {lo hi b B : Nat} {cs : List Value} (h : Rw w lo hi b cs) (hm : Mod (Ge B) w w') (hg : hi ≤ B) : Rw w' lo hi b cs := ⟨h.1, h.2.1, h.2.2.keep hm fun hx => by have := h.2.1; unfold Ge at hx; omega⟩
theorem It.keepB {w w' : World} {b B : Nat} {s : Str} {pos : Nat} (h : It w b s pos) (hm : Mod (Ge B) w w') (hg : b < B) : It w' b s pos := hm.keep _ _ h fun hx => by unfold Ge at hx; omega

/-! a slice compared with nil -/
theorem Q1.eqNilSl {P : Program} {E : Env} {C : World → Prop} {d : Option Tmp} {ty : TypeId} {pos : String} {af : Array Edge} {gd : Option (Nat × Bool)} {xt yt e : TypeId} {x y : Operand} {a : Option Addr} {n c : Nat} (hu : P.underlying xt = some (.slice e)) (hx : ev E x = some (.slice a n c)) (hy : ev E y = some (.slice none 0 0)) :
    Q1 P ⟨d, .binOp .eql xt x y yt, ty, pos, af, gd⟩ E C (.bool a.isNone) := fun s ha w _ => by
  have h : (Op.equal xt (.slice a n c) (.slice none 0 0)).run P w = .ok a.isNone w := by
    have key : ∀ k, (Op.equalIn (k + 1) xt (.slice a n c) (.slice none 0 0)).run P w = .ok a.isNone w := fun k => by
      cases a <;> simp [Op.equalIn, run_underlying hu]
    exact key 9999
  have hg : (eqGuard .eql xt x y (.slice a n c) (.slice none 0 0)).run P w = .ok () w := by
    unfold eqGuard; split <;> simp
  simp [execOp, ha.ev hx, ha.ev hy, hg, Go.binOp, h]
theorem Sl.isNil {α : Type} {enc : α → List Value} {w : World} {F : Nat → Prop} {v : Value} {l : List α} (h : Sl enc w F v l) : ∃ a c, v = .slice a l.length c ∧ (a.isNone = true → l = []) := by
  obtain ⟨a, c, h1, h2, h3, h4⟩ := h
  refine ⟨a, c, h1, fun hn => ?_⟩
  rcases h4 with h4 | ⟨b, off, h5, _⟩
  · exact h4
  · subst h5; cases hn

/-! graphs -/
structure RNode where
  fin : Bool
  e : SH
def encN (x : RNode) : List Value := [.bool x.fin, x.e.val]
theorem encN_len (x : RNode) : (encN x).length = 2 := rfl
theorem encN_one (x : RNode) : (encN x).all (·.oneCell') = true := rfl
abbrev GN := Bool × List Ml.Ed
def NRel (w : World) (F : Nat → Prop) (nds : List RNode) (N : List GN) : Prop := All2 (fun r n => r.fin = n.1 ∧ Sl Ml.encE w F r.e.val n.2) nds N
theorem NRel.keep {M : Nat → Prop} {w w' : World} {F : Nat → Prop} {nds : List RNode} {N : List GN} (h : NRel w F nds N) (hm : Mod M w w') (hF : ∀ b, F b → ¬ M b) : NRel w' F nds N :=
  All2.imp (fun r n ⟨h1, h2⟩ => ⟨h1, h2.keep hm hF⟩) h
theorem NRel.ext {w w' : World} {F : Nat → Prop} {nds : List RNode} {N : List GN} (h : NRel w F nds N) (hm : Ext w w') : NRel w' F nds N := h.keep hm (fun _ _ x => x)
theorem NRel.mono {w : World} {F F' : Nat → Prop} {nds : List RNode} {N : List GN} (h : NRel w F nds N) (hF : ∀ b, F b → F' b) : NRel w F' nds N :=
  All2.imp (fun r n ⟨h1, h2⟩ => ⟨h1, h2.mono hF⟩) h
theorem NRel.at {w : World} {F : Nat → Prop} {nds : List RNode} {N : List GN} (h : NRel w F nds N) {i : Nat} {r : RNode} (hr : nds[i]? = some r) : ∃ n, N[i]? = some n ∧ r.fin = n.1 ∧ Sl Ml.encE w F r.e.val n.2 := by
  have hg := h.get
  have hlt := (List.getElem?_eq_some_iff.1 hr).1
  have hx : N[i]? = some (N[i]'(by rw [← hg.1]; exact hlt)) := by simp
  exact ⟨_, hx, hg.2 i _ _ hr hx⟩
/-- a graph: nil (then it has no nodes) or one that has some -/
def Gr (gt : TypeId) (w : World) (lo hi : Nat) (v : Value) (N : List GN) : Prop :=
  (v = .pointer none ∧ N = []) ∨ ∃ b vn nds, v = ptr b 0 ∧ N ≠ [] ∧ Rw w lo hi b [vn] ∧ Sl encN w (Iv lo hi) vn nds ∧ NRel w (Iv lo hi) nds N
theorem Gr.ext {gt : TypeId} {w w' : World} {lo hi : Nat} {v : Value} {N : List GN} (h : Gr gt w lo hi v N) (hm : Ext w w') : Gr gt w' lo hi v N := by
  rcases h with h | ⟨b, vn, nds, h1, h2, h3, h4, h5⟩
  · exact .inl h
  · exact .inr ⟨b, vn, nds, h1, h2, h3.ext hm, h4.ext hm, h5.ext hm⟩
theorem Gr.keepG {gt : TypeId} {w w' : World} {lo hi g : Nat} {v : Value} {N : List GN} (h : Gr gt w lo hi v N) (hm : Mod (Mg g) w w') (hg : g ≤ lo ∨ hi < g) : Gr gt w' lo hi v N := by
  rcases h with h | ⟨b, vn, nds, h1, h2, h3, h4, h5⟩
  · exact .inl h
  · exact .inr ⟨b, vn, nds, h1, h2, h3.keepG hm hg, h4.keepG hm hg, h5.keep hm fun b hb hx => by unfold Iv Mg at *; omega⟩
theorem Gr.keepB {gt : TypeId} {w w' : World} {lo hi B : Nat} {v : Value} {N : List GN} (h : Gr gt w lo hi v N) (hm : Mod (Ge B) w w') (hg : hi ≤ B) : Gr gt w' lo hi v N := by
  rcases h with h | ⟨b, vn, nds, h1, h2, h3, h4, h5⟩
  · exact .inl h
  · exact .inr ⟨b, vn, nds, h1, h2, h3.keepB hm hg, h4.keepB hm hg, h5.keep hm fun b hb hx => by unfold Iv Ge at *; omega⟩
theorem Gr.iv {gt : TypeId} {w : World} {lo hi lo' hi' : Nat} {v : Value} {N : List GN} (h : Gr gt w lo hi v N) (h1 : lo' ≤ lo) (h2 : hi ≤ hi') : Gr gt w lo' hi' v N := by
  rcases h with h | ⟨b, vn, nds, k1, k2, ⟨k3, k4, k5⟩, k6, k7⟩
  · exact .inl h
  · exact .inr ⟨b, vn, nds, k1, k2, ⟨by omega, by omega, k5⟩, k6.iv h1 h2, k7.mono fun b hb => by unfold Iv at *; omega⟩
/-- a graph's nodes out of its names -/
def gnOf (s : Ml.GS) : List GN := s.map fun x => (Ml.finB x.1, x.2)
def nodeAt (N : List GN) (n : Int) : GN := if 0 ≤ n then N[n.toNat]?.getD (false, []) else (false, [])
theorem nodeAt_no {N : List GN} {n : Int} (h : n < 0 ∨ (N.length : Int) ≤ n) : nodeAt N n = (false, []) := by
  unfold nodeAt
  split
  · have : N[n.toNat]? = none := List.getElem?_eq_none (by omega)
    rw [this]; rfl
  · rfl
theorem nodeAt_yes {N : List GN} {n : Int} {x : GN} (h : 0 ≤ n) (hx : N[n.toNat]? = some x) : nodeAt N n = x := by
  unfold nodeAt; rw [if_pos h, hx]; rfl

theorem NRel.keepG {w w' : World} {lo hi g : Nat} {nds : List RNode} {N : List GN} (h : NRel w (Iv lo hi) nds N) (hm : Mod (Mg g) w w') (hg : g ≤ lo ∨ hi < g) : NRel w' (Iv lo hi) nds N := h.keep hm fun b hb hx => by unfold Iv Mg at *; omega
theorem NRel.keepB {w w' : World} {lo hi B : Nat} {nds : List RNode} {N : List GN} (h : NRel w (Iv lo hi) nds N) (hm : Mod (Ge B) w w') (hg : hi ≤ B) : NRel w' (Iv lo hi) nds N := h.keep hm fun b hb hx => by unfold Iv Ge at *; omega
theorem Gr.pos {gt : TypeId} {w : World} {lo hi : Nat} {v : Value} {N : List GN} (h : Gr gt w lo hi v N) (hn : 0 < N.length) : ∃ b vn nds, v = ptr b 0 ∧ N ≠ [] ∧ Rw w lo hi b [vn] ∧ Sl encN w (Iv lo hi) vn nds ∧ NRel w (Iv lo hi) nds N := by
  rcases h with ⟨_, h⟩ | h
  · subst h; simp at hn
  · exact h
theorem nodeAt_len {N : List GN} (h : ∀ x ∈ N, x.2.length ≤ 1000000) (n : Int) : (nodeAt N n).2.length ≤ 1000000 := by
  unfold nodeAt
  split
  · cases hx : N[n.toNat]? with
    | none => simp
    | some x => exact h x (List.mem_of_getElem? hx)
  · simp
theorem Ge.ext {B : Nat} {w0 w w' : World} (h : Mod (Ge B) w0 w) (k : Ext w w') : Mod (Ge B) w0 w' := Mod.ext h k
theorem Ge.thenG {B g : Nat} {w0 w w' : World} (h : Mod (Ge B) w0 w) (k : Mod (Mg g) w w') (hg : g = 0 ∨ B < g) : Mod (Ge B) w0 w' := h.trans (k.ofG hg)
theorem Ge.thenB {B B' : Nat} {w0 w w' : World} (h : Mod (Ge B) w0 w) (k : Mod (Ge B') w w') (hg : B ≤ B') : Mod (Ge B) w0 w' := h.trans (k.weaken fun i hi _ => by unfold Ge at *; omega)
/-! a function that is handed in: a text more, until it says no; 'F': the blocks that are its own -/
structure Yield (P : Program) {σ : Type} (ky : FuncId) (first cap : List Value) (B : Nat) (Inv : σ → (Nat → Prop) → World → Prop) (ok : σ → Str → Prop) (f : σ → Str → σ × Bool) : Prop where
  cl : clB P ky = true
  ext : ∀ s F w w', Inv s F w → Ext w w' → Inv s F w'
  foot : ∀ s F w, Inv s F w → ∀ b, F b → B ≤ b ∧ b < w.heap.size
  call : ∀ s F w x, Inv s F w → ok s x → Calls P ky (first ++ [strV x] ++ cap).toArray w (Ret fun rv w' => rv = .bool (f s x).2 ∧ Mod F w w' ∧ ∃ F', Inv (f s x).1 F' w' ∧ ∀ b, F' b → F b ∨ w.heap.size ≤ b)
/-- blocks of 'F' are from 'B' on -/
def Far (F : Nat → Prop) (B : Nat) : Prop := ∀ b, F b → B ≤ b
theorem Far.of {P : Program} {σ : Type} {ky : FuncId} {first cap : List Value} {B : Nat} {Inv : σ → (Nat → Prop) → World → Prop} {ok : σ → Str → Prop} {f : σ → Str → σ × Bool} (hy : Yield P ky first cap B Inv ok f) {s : σ} {F : Nat → Prop} {w : World} (h : Inv s F w) : Far F B := fun b hb => (hy.foot s F w h b hb).1
theorem Sl.keepF {α : Type} {enc : α → List Value} {w w' : World} {lo hi B : Nat} {F : Nat → Prop} {v : Value} {l : List α} (h : Sl enc w (Iv lo hi) v l) (hm : Mod F w w') (hF : Far F B) (hg : hi ≤ B) : Sl enc w' (Iv lo hi) v l :=
  h.keep hm fun b hb hx => by have := hF b hx; unfold Iv at hb; omega
theorem Rw.keepF {w w' : World} {lo hi b B : Nat} {F : Nat → Prop} {cs : List Value} (h : Rw w lo hi b cs) (hm : Mod F w w') (hF : Far F B) (hg : hi ≤ B) : Rw w' lo hi b cs := ⟨h.1, h.2.1, h.2.2.keep hm fun hx => by have := h.2.1; have := hF b hx; omega⟩
theorem NRel.keepF {w w' : World} {lo hi B : Nat} {F : Nat → Prop} {nds : List RNode} {N : List GN} (h : NRel w (Iv lo hi) nds N) (hm : Mod F w w') (hF : Far F B) (hg : hi ≤ B) : NRel w' (Iv lo hi) nds N := h.keep hm fun b hb hx => by have := hF b hx; unfold Iv at hb; omega
theorem Gr.keepF {gt : TypeId} {w w' : World} {lo hi B : Nat} {F : Nat → Prop} {v : Value} {N : List GN} (h : Gr gt w lo hi v N) (hm : Mod F w w') (hF : Far F B) (hg : hi ≤ B) : Gr gt w' lo hi v N := by
  rcases h with h | ⟨b, vn, nds, h1, h2, h3, h4, h5⟩
  · exact .inl h
  · exact .inr ⟨b, vn, nds, h1, h2, h3.keepF hm hF hg, h4.keepF hm hF hg, h5.keepF hm hF hg⟩
theorem ModF.thenG {F : Nat → Prop} {g : Nat} {w0 w w' : World} (h : Mod F w0 w) (k : Mod (Mg g) w w') (hg : g = 0 ∨ w0.heap.size < g) : Mod F w0 w' := h.then k (fun i hi hl => by unfold Mg at hi; omega)
theorem ModF.thenF {F F' : Nat → Prop} {w0 w w' : World} (h : Mod F w0 w) (k : Mod F' w w') (hF : ∀ b, F' b → F b ∨ w0.heap.size ≤ b) : Mod F w0 w' := h.then k (fun i hi hl => (hF i hi).resolve_right (by omega))
/-- all that is handed on may be -/
def OkAll {σ : Type} (ok : σ → Str → Prop) (f : σ → Str → σ × Bool) : σ → List Str → Prop
  | _, [] => True
  | s, x :: r => ok s x ∧ ((f s x).2 = true → OkAll ok f (f s x).1 r)
theorem OkAll.app {σ : Type} {ok : σ → Str → Prop} {f : σ → Str → σ × Bool} : ∀ {a b : List Str} {s : σ}, OkAll ok f s (a ++ b) → OkAll ok f s a ∧ ((Ml.eachF f s a).2 = true → OkAll ok f (Ml.eachF f s a).1 b)
  | [], b, s, h => ⟨trivial, fun _ => h⟩
  | x :: a, b, s, h => by
    have h1 : ok s x ∧ ((f s x).2 = true → OkAll ok f (f s x).1 (a ++ b)) := h
    constructor
    · exact ⟨h1.1, fun hx => (OkAll.app (h1.2 hx)).1⟩
    · intro he
      unfold Ml.eachF at he ⊢
      split at he
      · rename_i hx
        rw [if_pos hx]
        exact (OkAll.app (h1.2 hx)).2 he
      · cases he

/-! going over a graph -/
open Ml in
/-- what stands behind the first 'k' groups -/
def restL (ahead : Str) (r : List Str) (k : Nat) : List Str := ((groups (dropE r)).drop k).flatMap fun g => g.2.map fun t => ahead ++ (encL g.1 ++ t)
open Ml in
theorem map_rests {ahead : Str} {r : List Str} (h : GoodR r) : r.map (ahead ++ ·) = (if finB r = true then [ahead] else []) ++ restL ahead r 0 := by
  have ha := rests_all (x := (r, [])) h
  simp only at ha
  unfold restL
  conv => lhs; rw [ha]
  rw [List.map_append, List.drop_zero, List.map_flatMap]
  congr 1
  · split <;> simp
  · simp [List.map_map, Function.comp_def]
open Ml in
theorem restL_step {ahead : Str} {r : List Str} {k : Nat} {g : Nat × List Str} (hg : (groups (dropE r))[k]? = some g) : restL ahead r k = g.2.map ((ahead ++ encL g.1) ++ ·) ++ restL ahead r (k + 1) := by
  obtain ⟨hk, rfl⟩ := List.getElem?_eq_some_iff.1 hg
  unfold restL
  rw [List.drop_eq_getElem_cons hk, List.flatMap_cons]
  congr 1
  simp
open Ml in
theorem restL_end {ahead : Str} {r : List Str} {k : Nat} (h : (groups (dropE r)).length ≤ k) : restL ahead r k = [] := by
  unfold restL; rw [List.drop_of_length_le h]; rfl
open Ml in
theorem each_stop {σ : Type} {f : σ → Str → σ × Bool} {s0 sk : σ} {all rest a b : List Str} (h : eachF f s0 all = eachF f sk rest) (hr : rest = a ++ b) (hb : (eachF f sk a).2 = false) : eachF f s0 all = eachF f sk a := by
  rw [h, hr, eachF_app, if_neg (by rw [hb]; simp)]
open Ml in
theorem each_go {σ : Type} {f : σ → Str → σ × Bool} {s0 sk : σ} {all rest a b : List Str} (h : eachF f s0 all = eachF f sk rest) (hr : rest = a ++ b) (hb : (eachF f sk a).2 = true) : eachF f s0 all = eachF f (eachF f sk a).1 b := by
  rw [h, hr, eachF_app, if_pos hb]
open Ml in
theorem each_first {σ : Type} {f : σ → Str → σ × Bool} {s : σ} {a : Str} {r : List Str} (h : (f s a).2 = true) : eachF f s ([a] ++ r) = eachF f (f s a).1 r := by
  simp [eachF, h]
open Ml in
theorem each_first_no {σ : Type} {f : σ → Str → σ × Bool} {s : σ} {a : Str} {r : List Str} (h : (f s a).2 = false) : eachF f s ([a] ++ r) = ((f s a).1, false) := by
  simp [eachF, h]
open Ml in
theorem each_one {σ : Type} {f : σ → Str → σ × Bool} {s : σ} {x : Str} : eachF f s [x] = f s x := by
  unfold eachF
  split
  · rename_i h; unfold eachF; rw [← h]
  · rename_i h
    have : (f s x).2 = false := by simpa using h
    rw [← this]
open Ml in
theorem edge_at {s : GS} {x : List Str × List Ed} (hc : Corr s x) (hgd : GoodR x.1) {k : Nat} {e : Ed} (he : x.2[k]? = some e) : ∃ (g : Nat × List Str) (j : Nat) (es : List Ed), (groups (dropE x.1))[k]? = some g ∧ e.rune = (g.1 : Int) ∧ e.to = (j : Int) ∧ s[j]? = some (g.2, es) ∧ goodN g.1 ∧ g.2 ≠ [] := by
  have hg := All2.get hc
  have hlt := (List.getElem?_eq_some_iff.1 he).1
  have hx : (groups (dropE x.1))[k]? = some ((groups (dropE x.1))[k]'(by rw [hg.1]; exact hlt)) := by simp
  obtain ⟨h1, j, es, h2, h3⟩ := hg.2 k _ _ hx he
  have hd := dropE_good hgd
  have ok := groups_ok _ _ (Nat.le_refl _) hd.1 hd.2
  have hok := ok.good _ (List.mem_of_getElem? hx)
  exact ⟨_, j, es, hx, h1, h2, h3, hok.1, hok.2.1⟩
open Ml in
theorem deep_edge {l : List Str} (hg : GoodR l) {d k : Nat} {g : Nat × List Str} (h : Deep d l) (hk : (groups (dropE l))[k]? = some g) : ∃ e, d = e + 1 ∧ Deep e g.2 := by
  have hgm := List.mem_of_getElem? hk
  cases d with
  | zero =>
    exfalso
    have hd := dropE_good hg
    have ok := groups_ok _ _ (Nat.le_refl _) hd.1 hd.2
    obtain ⟨t, ht⟩ : ∃ t, t ∈ g.2 := by
      cases hg2 : g.2 with
      | nil => exact absurd hg2 (ok.good g hgm).2.1
      | cons t _ => exact ⟨t, by simp⟩
    have hm : encL g.1 ++ t ∈ dropE l := by
      rw [← ok.all]
      exact List.mem_flatMap.2 ⟨g, hgm, List.mem_map.2 ⟨t, ht, rfl⟩⟩
    have := h _ (dropE_mem hm)
    rw [runes_app (ok.good g hgm).1] at this
    simp at this
  | succ e => exact ⟨e, rfl, deep_groups hg h g hgm⟩
open Ml in
theorem gnOf_at {s : GS} {n : Nat} {x : List Str × List Ed} (h : s[n]? = some x) : nodeAt (gnOf s) (n : Int) = (finB x.1, x.2) := by
  refine nodeAt_yes (by omega) ?_
  simp [gnOf, h]
theorem gnOf_len (s : Ml.GS) : (gnOf s).length = s.length := by simp [gnOf]
theorem encL_len4 (c : Nat) : (Ml.encL c).length ≤ 4 := by
  unfold Ml.encL; repeat' split
  all_goals simp

/-- a graph and the words it holds: none (of nil), or as they were built -/
structure GOk (N : List GN) (s : Ml.GS) (words : List Str) : Prop where
  nodes : N = gnOf s
  root : ∃ es, nodeAt N 0 = (Ml.finB words, es) ∧ Ml.Corr s (words, es)
  good : Ml.GoodR words
  deep : Ml.Deep 12 words
  node : ∀ y ∈ s, Ml.Corr s y ∧ Ml.GoodR y.1 ∧ Ml.Deep 12 y.1
  size : s.length ≤ 1000000
  elen : ∀ y ∈ s, y.2.length ≤ 1000000
theorem GOk.nil : GOk [] [] [] := ⟨rfl, ⟨[], rfl, .nil⟩, ⟨List.Pairwise.nil, by simp⟩, by simp [Ml.Deep], by simp, by simp, by simp⟩
theorem GOk.of {s : Ml.GS} {words : List Str} (h : Ml.WFG s words) (hs : s.length ≤ 1000000) (he' : ∀ y ∈ s, y.2.length ≤ 1000000) : GOk (gnOf s) s words := by
  obtain ⟨es, he⟩ := h.root
  have hn := h.node _ (List.mem_of_getElem? he)
  exact ⟨rfl, ⟨es, gnOf_at he, hn.corr⟩, hn.good, hn.deep, fun y hy => ⟨(h.node y hy).corr, (h.node y hy).good, (h.node y hy).deep⟩, hs, he'⟩
theorem GOk.empty : GOk [(false, [])] [([], [])] [] := ⟨rfl, ⟨[], rfl, .nil⟩, ⟨List.Pairwise.nil, by simp⟩, by simp [Ml.Deep], by
  intro y hy
  simp only [List.mem_singleton] at hy
  subst hy
  exact ⟨.nil, ⟨List.Pairwise.nil, by simp⟩, by simp [Ml.Deep]⟩, by simp, by simp⟩

/-! a text box that grows -/
def BoxAcc (te e : TypeId) (bl B : Nat) (l : List Str) (F : Nat → Prop) (w : World) : Prop :=
  ∃ v g, Bk w bl [v] te ∧ Acc encS e 1 w g v l ∧ bl + 1 ≠ g ∧ B ≤ bl ∧ (g = 0 ∨ B < g) ∧ ∀ b, F b ↔ b = bl ∨ b + 1 = g
theorem BoxAcc.ext {te e : TypeId} {bl B : Nat} {l : List Str} {F : Nat → Prop} {w w' : World} (h : BoxAcc te e bl B l F w) (hm : Ext w w') : BoxAcc te e bl B l F w' := by
  obtain ⟨v, g, h1, h2, h3⟩ := h
  exact ⟨v, g, h1.ext hm, h2.ext hm, h3⟩
theorem BoxAcc.foot {te e : TypeId} {bl B : Nat} {l : List Str} {F : Nat → Prop} {w : World} (h : BoxAcc te e bl B l F w) : ∀ b, F b → B ≤ b ∧ b < w.heap.size := by
  obtain ⟨v, g, h1, h2, h3, h4, h5, h6⟩ := h
  intro b hb
  have hl := h1.lt
  have hg := h2.lt
  rcases (h6 b).1 hb with e | e
  · omega
  · omega
theorem BoxAcc.go {te e : TypeId} {bl B : Nat} {l' : List Str} {F : Nat → Prop} {w w' : World} {v' : Value} {g g' : Nat} (h6 : ∀ b, F b ↔ b = bl ∨ b + 1 = g) (hB : B ≤ bl) (h5 : g = 0 ∨ B < g) (hne : bl + 1 ≠ g) (hb : bl < w.heap.size) (k1 : Bk w' bl [v'] te) (k2 : Acc encS e 1 w' g' v' l') (k3 : g' = g ∨ w.heap.size < g') :
    ∃ F', BoxAcc te e bl B l' F' w' ∧ ∀ b, F' b → F b ∨ w.heap.size ≤ b :=
  ⟨fun b => b = bl ∨ b + 1 = g', ⟨v', g', k1, k2, by omega, hB, by omega, fun b => Iff.rfl⟩, fun b hb' => by
    rcases hb' with e | e
    · exact .inl ((h6 b).2 (.inl e))
    · rcases k3 with k3 | k3
      · exact .inl ((h6 b).2 (.inr (by omega)))
      · exact .inr (by omega)⟩
theorem eachF_all : ∀ (L l : List Str), Ml.eachF (fun (s : List Str) x => (s ++ [x], true)) l L = (l ++ L, true)
  | [], l => by simp [Ml.eachF]
  | x :: L, l => by
    simp only [Ml.eachF, if_true]
    rw [eachF_all L (l ++ [x])]; simp
theorem okAll_all (m : Nat) : ∀ (L l : List Str), l.length + L.length ≤ m → OkAll (fun (s : List Str) (_ : Str) => s.length ≤ m) (fun s x => (s ++ [x], true)) l L
  | [], l, _ => trivial
  | x :: L, l, h => ⟨by simp only [List.length_cons] at h; omega, fun _ => okAll_all m L (l ++ [x]) (by simp only [List.length_cons, List.length_append, List.length_nil] at h ⊢; omega)⟩
/-- from a word on, as many as are wanted -/
def fromF (w : Str) (most : Int) (s : List Str) (x : Str) : List Str × Bool :=
  let s' := if ((s.length : Nat) : Int) < most ∧ Lib.compareBytes x w ≥ 0 then s ++ [x] else s
  (s', decide (((s'.length : Nat) : Int) < most))
theorem okAll_from (w : Str) (most : Int) (m : Nat) : ∀ (L l : List Str), l.length + L.length ≤ m → OkAll (fun (s : List Str) (_ : Str) => s.length ≤ m) (fromF w most) l L
  | [], l, _ => trivial
  | x :: L, l, h => ⟨by simp only [List.length_cons] at h; omega, fun _ => okAll_from w most m L _ (by
      simp only [List.length_cons] at h
      unfold fromF
      simp only
      split
      · simp only [List.length_append, List.length_cons, List.length_nil]; omega
      · omega)⟩

/-! texts along a graph -/
theorem drop_el' {α : Type} {l : List α} {k : Nat} {x : α} (hx : l[k]? = some x) : l.drop k = x :: l.drop (k + 1) := by
  obtain ⟨h, rfl⟩ := List.getElem?_eq_some_iff.1 hx
  exact List.drop_eq_getElem_cons h
open Ml in
theorem next_c {s : GS} {x : List Str × List Ed} (hc : Corr s x) (hg : GoodR x.1) {c : Nat} (hgc : goodN c) :
    (nextM x.2 (c : Int) = none → ∀ t, encL c ++ t ∉ x.1) ∧ (∀ j, nextM x.2 (c : Int) = some j → ∃ (k : Nat) (b : List Str) (es : List Ed), j = (k : Int) ∧ s[k]? = some (b, es) ∧ ∀ t, encL c ++ t ∈ x.1 ↔ t ∈ b) := by
  have hd := dropE_good hg
  have ok := groups_ok _ _ (Nat.le_refl _) hd.1 hd.2
  have hf := forall2_find (c := c) hc
  unfold nextM
  constructor
  · intro hn t hm
    rw [Option.map_eq_none_iff] at hn
    obtain ⟨b, hb, _⟩ := (step_mem hg hgc t).1 hm
    exact hf.1 hn _ hb rfl
  · intro j hj
    obtain ⟨e, he, rfl⟩ := Option.map_eq_some_iff.1 hj
    obtain ⟨g, hgm, hgc', k, es, h1, h2⟩ := hf.2 e he
    refine ⟨k, g.2, es, h1, h2, fun t => ?_⟩
    rw [step_mem hg hgc]
    constructor
    · rintro ⟨b, hb, ht⟩
      have := group_unique ok.part hgm hb hgc'
      rw [this]; exact ht
    · intro ht
      exact ⟨g.2, by rw [← hgc']; exact hgm, ht⟩
/-- a place along a text -/
structure HasInv (N : List GN) (s : Ml.GS) (words : List Str) (w : Str) (k : Nat) (ok : Bool) (n : Int) : Prop where
  no : ok = false → words.contains w = false
  yes : ok = true → Ml.Fine w ∧ ∃ x, nodeAt N n = (Ml.finB x.1, x.2) ∧ Ml.Corr s x ∧ Ml.GoodR x.1 ∧ (w ∈ words ↔ Ml.encT ((Ml.runes w).drop k) ∈ x.1)
  n0 : 0 ≤ n ∧ n ≤ 1000000
open Ml in
theorem contains_no {l : List Str} {w : Str} (h : w ∉ l) : l.contains w = false := by
  cases hc : l.contains w with
  | false => rfl
  | true => exact absurd (List.contains_iff_mem.1 hc) h
open Ml in
theorem HasInv.start {N : List GN} {s : GS} {words : List Str} {w : Str} (h : GOk N s words) : HasInv N s words w 0 (fineT w) 0 := by
  refine ⟨fun hf => contains_no fun hm => ?_, fun hf => ?_, by omega⟩
  · have := fine_iff.2 (h.good.fine w hm)
    rw [this] at hf; cases hf
  · obtain ⟨es, h1, h2⟩ := h.root
    refine ⟨fine_iff.1 hf, (words, es), h1, h2, h.good, ?_⟩
    rw [List.drop_zero, (encT_runes w (fine_iff.1 hf)).1]
theorem HasInv.skip {N : List GN} {s : Ml.GS} {words : List Str} {w : Str} {k : Nat} {n : Int} (h : HasInv N s words w k false n) : HasInv N s words w (k + 1) false n := ⟨h.no, fun e => (by cases e), h.n0⟩
open Ml in
theorem runesM_at {w : Str} {k : Nat} {r : Int} (h : (runesM w)[k]? = some r) : Fine w ∧ ∃ c : Nat, (runes w)[k]? = some c ∧ r = (c : Int) ∧ goodN c := by
  unfold runesM at h
  split at h
  · rename_i hf
    have hf := fine_iff.1 hf
    unfold runesI at h
    rw [List.getElem?_map] at h
    obtain ⟨c, hc, rfl⟩ := Option.map_eq_some_iff.1 h
    exact ⟨hf, c, hc, rfl, (encT_runes w hf).2 c (List.mem_of_getElem? hc)⟩
  · simp at h
open Ml in
theorem HasInv.step {N : List GN} {s : GS} {words : List Str} {w : Str} {k : Nat} {n r : Int} (hN : GOk N s words) (h : HasInv N s words w k true n) (hr : (runesM w)[k]? = some r) :
    HasInv N s words w (k + 1) (nextM (nodeAt N n).2 r).isSome ((nextM (nodeAt N n).2 r).getD 0) := by
  obtain ⟨hf, x, h1, h2, h3, h4⟩ := h.yes rfl
  obtain ⟨_, c, hc, rfl, hgc⟩ := runesM_at hr
  have hn := next_c h2 h3 hgc
  have hd : (runes w).drop k = c :: (runes w).drop (k + 1) := drop_el' hc
  have he : encT ((runes w).drop k) = encL c ++ encT ((runes w).drop (k + 1)) := by rw [hd]; rfl
  rw [he] at h4
  rw [h1]
  simp only
  cases hx : nextM x.2 (c : Int) with
  | none =>
    exact ⟨fun _ => contains_no fun hm => hn.1 hx _ (h4.1 hm), fun e => (by cases e), by simp⟩
  | some j =>
    obtain ⟨m, b, es, rfl, hs, hb⟩ := hn.2 j hx
    have hy := hN.node _ (List.mem_of_getElem? hs)
    have hlt := (List.getElem?_eq_some_iff.1 hs).1
    have hsz := hN.size
    refine ⟨fun e => (by cases e), fun _ => ⟨hf, (b, es), ?_, hy.1, hy.2.1, ?_⟩, by simp only [Option.getD_some]; omega⟩
    · simp only [Option.getD_some]; rw [hN.nodes]; exact gnOf_at hs
    · rw [h4]; exact hb _
open Ml in
theorem HasInv.fin {N : List GN} {s : GS} {words : List Str} {w : Str} {k : Nat} {n : Int} (h : HasInv N s words w k true n) (hk : (runesM w).length ≤ k) : (nodeAt N n).1 = words.contains w := by
  obtain ⟨hf, x, h1, h2, h3, h4⟩ := h.yes rfl
  have hl : (runes w).length ≤ k := by
    unfold runesM at hk
    rw [if_pos (fine_iff.2 hf)] at hk
    simpa [runesI] using hk
  rw [List.drop_of_length_le hl] at h4
  have h5 : w ∈ words ↔ [] ∈ x.1 := h4
  rw [h1, Bool.eq_iff_iff, fin_mem h3, List.contains_iff_mem]
  exact h5.symm
open Ml in
theorem GOk.edges {N : List GN} {s : GS} {words : List Str} (h : GOk N s words) : (∀ x ∈ N, ∀ e ∈ x.2, I64 e.to ∧ -2147483648 ≤ e.rune ∧ e.rune ≤ 2147483647) ∧ N.length ≤ 1000000 ∧ ∀ x ∈ N, x.2.length ≤ 1000000 := by
  rw [h.nodes]
  refine ⟨fun x hx e he => ?_, by rw [gnOf_len]; exact h.size, fun x hx => ?_⟩
  · obtain ⟨y, hy, rfl⟩ := List.mem_map.1 hx
    obtain ⟨k, hk⟩ := List.mem_iff_getElem?.1 he
    obtain ⟨g, j, es, h1, h2, h3, h4, h5, h6⟩ := edge_at (h.node y hy).1 (h.node y hy).2.1 hk
    have := (List.getElem?_eq_some_iff.1 h4).1
    have := h.size
    obtain ⟨h7, _⟩ := h5
    unfold I64; omega
  · obtain ⟨y, hy, rfl⟩ := List.mem_map.1 hx
    exact h.elen y hy
def fromM (words : List Str) (w : Str) (most : Int) : List Str := (Ml.eachF (fromF w most) [] words).1
theorem fromM_eq (words : List Str) (w : Str) (most : Int) : fromM words w most = (Ml.eachF (fromF w most) [] words).1 := rfl
theorem HasInv.step' {N : List GN} {s : Ml.GS} {words : List Str} {w : Str} {k : Nat} {n r : Int} {b : Bool} (hN : GOk N s words) (h : HasInv N s words w k true n) (hr : (Ml.runesM w)[k]? = some r) (hb : b = (Ml.nextM (nodeAt N n).2 r).isSome) :
    HasInv N s words w (k + 1) b ((Ml.nextM (nodeAt N n).2 r).getD 0) := by rw [hb]; exact h.step hN hr
theorem HasInv.start' {N : List GN} {s : Ml.GS} {words : List Str} {w : Str} {b : Bool} (h : GOk N s words) (hb : b = Ml.fineT w) : HasInv N s words w 0 b 0 := by rw [hb]; exact HasInv.start h
theorem runesM_rng {w : Str} {k : Nat} {r : Int} (h : (Ml.runesM w)[k]? = some r) : 0 ≤ r ∧ r ≤ 1114111 := by
  obtain ⟨_, c, _, rfl, h1, _⟩ := runesM_at h
  omega
end Go.Ik
/-
  strings.Join at a slice that reads as a list: the kit's contract, put in this work's words.
-/
set_option linter.unusedVariables false
set_option linter.unusedSimpArgs false
namespace Go.Ik
open Go Go.Proofs

theorem flat_encJ (l : List Str) : l.flatMap encS = l.map strV := by
  induction l with
  | nil => rfl
  | cons a l ih => simp [encS, ih]
theorem join_own {P : Program} {ρ : Go.Shelf.Ren} (L : Lays.n156 P ρ) (X : Builder.Extra P ρ) {w0 : World} {F : Nat → Prop} {v : Value} {l : List Str} (h : Sl encS w0 F v l) (hne : l ≠ []) (hb : ∀ b, F b → b < w0.heap.size) (hlen : Ml.sumLen l + l.length ≤ 100000000) :
    Calls P (ρ.f 156) #[v, strV [255]] w0 (Ret fun rv w1 => rv = strV (Ml.joinS l) ∧ Ext w0 w1) := by
  obtain ⟨a, cap, rfl, h2, h3, h4⟩ := h
  rcases h4 with h4 | ⟨b, off, rfl, hF, hr⟩
  · exact absurd h4 hne
  · have hj := Ml.joinS_len l
    have hmap : (l.map fun s : Str => (⟨s.toArray⟩ : ByteArray)).map (·.data.toList) = l := by
      rw [List.map_map]
      conv => rhs; rw [← List.map_id l]
      exact List.map_congr_left fun s _ => by simp
    have hc := Any.strings_Join_48 L X b off cap (l.map fun s : Str => (⟨s.toArray⟩ : ByteArray)) ⟨#[255]⟩ w0 (fun j x hx => by
      rw [List.getElem?_map] at hx
      obtain ⟨s, hs, rfl⟩ := Option.map_eq_some_iff.1 hx
      have := hr j (strV s) (by rw [flat_encJ, List.getElem?_map, hs]; rfl)
      exact this) (hb b hF) (by rw [List.length_map]; omega) (by rw [List.length_map]; exact h2) (by
      rw [hmap]
      have : (Ml.joinS l).length ≤ 281474976710656 := by omega
      exact this)
    rw [List.length_map, hmap] at hc
    refine Calls.mono hc ?_
    rintro e w' ⟨rfl, hw⟩
    exact ⟨_, rfl, rfl, Mod.of_below hw⟩
end Go.Ik
/-
  slices.SortFunc and slices.Compact at a slice of texts of the call's own, out of the kit's contracts; what they make of it.
-/
set_option linter.unusedVariables false
set_option linter.unusedSimpArgs false
namespace Go.Ik
open Go Go.Proofs Go.Shelf Go.RowKit Go.Lib Go.Sort

theorem flat_encS : ∀ l : List Str, l.flatMap encS = l.map strV
  | [] => rfl
  | a :: l => by rw [List.flatMap_cons, flat_encS l]; rfl
theorem strV_one : OneCell strV := fun _ => rfl

/-- a row of the call's own that is laid anew -/
theorem putRow_own {w : World} {b : Nat} {cur : Array Value} {e : TypeId} (hb : w.heap[b]? = some (.cells cur e (0, 0))) (n : Nat) (os : Array Obj) (d : Array Str) :
    (grow (putRow strV (Sort.ahead w n) b 0 d) os).heap[b]? = some (.cells (putCells strV 0 d cur) e (0, 0)) ∧ Mod (Mg (b + 1)) w (grow (putRow strV (Sort.ahead w n) b 0 d) os) := by
  have hlt : b < w.heap.size := (Array.getElem?_eq_some_iff.1 hb).1
  have hh : (grow (putRow strV (Sort.ahead w n) b 0 d) os).heap = w.heap.modify b (onCells (putCells strV 0 d)) ++ os := rfl
  refine ⟨?_, rfl, rfl, rfl, ?_, ?_⟩
  · rw [hh, Array.getElem?_append_left (by simpa using hlt), Array.getElem?_modify, if_pos rfl, hb]; rfl
  · rw [hh]; simp
  · intro k o hk hn
    have hkl : k < w.heap.size := (Array.getElem?_eq_some_iff.1 hk).1
    rw [hh, Array.getElem?_append_left (by simpa using hkl), Array.getElem?_modify, if_neg (fun e => hn (by unfold Mg; omega))]
    exact hk

theorem putCells_take {d : Array Str} {cur : Array Value} (h : d.size ≤ cur.size) (m : Nat) (hm : m ≤ d.size) : (putCells strV 0 d cur).toList.take m = (d.toList.take m).map strV := by
  apply List.ext_getElem?
  intro i
  rw [List.getElem?_take, List.getElem?_map, List.getElem?_take]
  by_cases hi : i < m
  · rw [if_pos hi, if_pos hi]
    have h1 : i < d.size := by omega
    have h2 : i < cur.size := by omega
    have : (putCells strV 0 d cur)[i]? = some (strV d[i]!) := by
      unfold putCells
      rw [Array.getElem?_mapIdx, Array.getElem?_eq_getElem h2, Option.map_some, if_pos ⟨by omega, by omega⟩]; rfl
    rw [Array.getElem?_toList, this, Array.getElem?_toList, Array.getElem?_eq_getElem h1, Option.map_some, getElem!_pos d i h1]
  · rw [if_neg hi, if_neg hi]; rfl

theorem holds_own {w : World} {b : Nat} {cur : Array Value} {e : TypeId} {l : List Str} (hb : w.heap[b]? = some (.cells cur e (0, 0))) (ht : cur.toList.take l.length = l.map strV) : Holds strV w b 0 l.toArray := by
  intro j hj
  have hj' : j < l.length := by simpa using hj
  refine ⟨?_, by simp [World.frozen?, hb]⟩
  rw [cell_of_row w b (0 + j) cur e (0, 0) hb]
  have h1 : (cur.toList.take l.length)[j]? = (l.map strV)[j]? := by rw [ht]
  rw [List.getElem?_take, if_pos hj', List.getElem?_map, List.getElem?_eq_getElem hj'] at h1
  simp only [Option.map_some, Array.getElem?_toList] at h1
  rw [Nat.zero_add, h1]
  simp [hj']

def sortL (l : List Str) : List Str := l.mergeSort fun x y => !(ltOf Lib.compareBytes) y x
theorem swo_cmp : SWO (ltOf Lib.compareBytes) where
  irrefl x := by unfold ltOf; rw [Ml.cmp_refl]; rfl
  trans x y z h1 h2 := by
    unfold ltOf at *
    simp only [decide_eq_true_eq] at *
    exact Ml.lt_trans h1 h2
  ntrans x y z h1 h2 := by
    unfold ltOf at *
    simp only [decide_eq_false_iff_not] at *
    intro h
    by_cases e1 : x = y
    · subst e1; exact h2 h
    · by_cases e2 : y = z
      · subst e2; exact h1 h
      · exact h1 (Ml.lt_trans h (Ml.lt_tri h2 e2))

theorem sort_own {P : Program} {ρ : Ren} (L : SlLaysF.n6 P ρ) (g : Nat) (eg : ∀ args w, (callFunc g args).run P w = .ok (.enter g args) w)
    (hc : ∀ (w0 : World) (a b : Str), Calls P g #[strV a, strV b] w0 (Ret fun rv w1 => rv = .int .i64 (Lib.compareBytes a b) ∧ w1 = w0))
    {w0 : World} {gb : Nat} {v : Value} {l : List Str} {e : TypeId} (h : Acc encS e 1 w0 gb v l) (hlen : l.length ≤ 1000000) :
    Calls P (ρ.f 6) #[v, .func (.func g) #[] #[]] w0 (Ret fun rv w1 => rv = .tuple #[] ∧ Acc encS e 1 w1 gb v (sortL l) ∧ Mod (Mg gb) w0 w1) := by
  have hn : (sortL l).length = l.length := by unfold sortL; exact List.length_mergeSort _
  by_cases h0 : l = []
  · subst h0
    have hv : ∃ p cap, v = .slice p 0 cap := by
      rcases h with ⟨rfl, _⟩ | ⟨b, cap, cur, _, rfl, _⟩
      · exact ⟨_, _, rfl⟩
      · exact ⟨_, _, rfl⟩
    obtain ⟨p, cap, rfl⟩ := hv
    refine (AnyF.slices_SortFunc_none (P := P) (ρ := ρ) { L with } p cap (.func (.func g) #[] #[]) w0).mono ?_
    rintro e' w' ⟨rfl, rfl⟩
    exact ⟨_, rfl, rfl, by simpa [sortL] using h, Mod.refl _ _⟩
  · rcases h with ⟨_, h, _⟩ | ⟨b, cap, cur, rfl, rfl, hb, hcap, hm, hsz, ht⟩
    · exact absurd h h0
    · rw [Nat.mul_one] at hsz ht
      have ht' : cur.toList.take l.length = l.map strV := by rw [ht, flat_encS]
      have hd : l.toArray.size = l.length := by simp
      have hlay : CmpLays1 P g #[] strV Lib.compareBytes b 0 l.toArray.size w0 := by
        intro m os dk hs x y
        refine (hc _ x y).mono ?_
        rintro e' w' ⟨rv, rfl, rfl, rfl⟩
        exact ⟨rfl, 0, #[], by rw [grow_empty]; rfl⟩
      have hcon := Any.slices_SortFunc_total L strV strV_one Lib.compareBytes swo_cmp g #[] b 0 cap l.toArray w0 eg hlay (holds_own hb ht') (Array.getElem?_eq_some_iff.1 hb).1 (by simp; omega) (by
        intro x y h1 h2
        unfold ltOf at h1 h2
        simp only [decide_eq_false_iff_not] at h1 h2
        apply Classical.byContradiction
        intro hne
        exact h2 (Ml.lt_tri h1 hne))
      rw [hd] at hcon
      refine hcon.mono ?_
      rintro e' w' ⟨rfl, n, os, rfl⟩
      obtain ⟨p1, p2⟩ := putRow_own hb n os (sortL l).toArray
      refine ⟨_, rfl, rfl, .inr ⟨b, cap, _, rfl, by rw [hn], p1, by omega, hm, ?_, ?_⟩, p2⟩
      · simp [putCells, hsz]
      · rw [Nat.mul_one]
        have := putCells_take (d := (sortL l).toArray) (cur := cur) (by simp [hn]; omega) (sortL l).length (by simp)
        rw [this, flat_encS]
        simp

theorem compact_own {P : Program} {ρ : Ren} (L : SlLaysE.n43 P ρ) (v23 : ∀ w, (zeroValue (ρ.t 23)).run P w = .ok (strV []) w) 
    {w0 : World} {gb : Nat} {v : Value} {l : List Str} {e : TypeId} (h : Acc encS e 1 w0 gb v l) (hl : v ≠ .slice none 0 0) (hlen : l.length ≤ 1000000) :
    Calls P (ρ.f 43) #[v] w0 (Ret fun rv w1 => Acc encS e 1 w1 gb rv (compactUpTo l.toArray l.length) ∧ Mod (Mg gb) w0 w1) := by
  rcases h with ⟨h, _, _⟩ | ⟨b, cap, cur, rfl, rfl, hb, hcap, hm, hsz, ht⟩
  · exact absurd h hl
  · rw [Nat.mul_one] at hsz ht
    have ht' : cur.toList.take l.length = l.map strV := by rw [ht, flat_encS]
    have hd : l.toArray.size = l.length := by simp
    have hinj : ∀ x y : Str, ((⟨x.toArray⟩ : ByteArray).toList == (⟨y.toArray⟩ : ByteArray).toList) = decide (x = y) := by
      intro x y; rw [toList_mk, toList_mk]; by_cases h : x = y <;> simp [h]
    have heq : EqlAt P (ρ.t 23) strV (fun x y => decide (x = y)) := ⟨fun x y w => by
      have := (EqlAt.string P (ρ.t 23)).1 ⟨x.toArray⟩ ⟨y.toArray⟩ w
      simp only [hinj] at this; exact this, fun op a b x y w => (EqlAt.string P (ρ.t 23)).2 op a b ⟨x.toArray⟩ ⟨y.toArray⟩ w⟩
    have hne : NeqAt P (ρ.t 23) strV (fun x y => decide (x = y)) := ⟨fun x y w => by
      have := (NeqAt.string P (ρ.t 23)).1 ⟨x.toArray⟩ ⟨y.toArray⟩ w
      simp only [hinj] at this; exact this, fun op a b x y w => (NeqAt.string P (ρ.t 23)).2 op a b ⟨x.toArray⟩ ⟨y.toArray⟩ w⟩
    have hcon := AnyE.slices_Compact L strV strV_one heq hne [] v23 b 0 cap l.toArray w0 (holds_own hb ht') (by simp; omega) (by simp; omega)
    rw [hd] at hcon
    have hcl : (compactUpTo l.toArray l.length).length ≤ l.length := by
      unfold compactUpTo
      rw [List.length_map]
      exact Nat.le_trans (List.length_filter_le _ _) (by simp)
    refine hcon.mono ?_
    rintro e' w' ⟨rfl, n, rfl⟩
    obtain ⟨p1, p2⟩ := putRow_own hb n #[] (compactUpTo l.toArray l.length ++ List.replicate (l.length - (compactUpTo l.toArray l.length).length) []).toArray
    rw [grow_empty] at p1 p2
    refine ⟨_, rfl, .inr ⟨b, cap, _, rfl, rfl, p1, by omega, hm, ?_, ?_⟩, p2⟩
    · simp [putCells, hsz]
    · rw [Nat.mul_one]
      have := putCells_take (d := (compactUpTo l.toArray l.length ++ List.replicate (l.length - (compactUpTo l.toArray l.length).length) []).toArray) (cur := cur) (by simp; omega) (compactUpTo l.toArray l.length).length (by simp)
      rw [this, flat_encS]
      simp

theorem sortL_mem {l : List Str} {x : Str} : x ∈ sortL l ↔ x ∈ l := List.mem_mergeSort
theorem sortL_sorted (l : List Str) : (sortL l).Pairwise fun a b => ¬ Lib.compareBytes b a < 0 := by
  have h := List.pairwise_mergeSort (le := fun x y => !(ltOf Lib.compareBytes) y x) (fun a b c h1 h2 => by
    simp only [Bool.not_eq_true'] at *
    exact swo_cmp.ntrans _ _ _ h2 h1) (fun a b => by
    simp only [Bool.or_eq_true, Bool.not_eq_true']
    cases h : ltOf Lib.compareBytes b a with
    | false => exact .inl rfl
    | true =>
      refine .inr ?_
      cases h2 : ltOf Lib.compareBytes a b with
      | false => rfl
      | true =>
        have := swo_cmp.trans _ _ _ h h2
        rw [swo_cmp.irrefl] at this; cases this) l
  refine h.imp ?_
  intro a b hab
  unfold ltOf at hab
  simpa using hab

theorem compact_upTo {l : List Str} (hs : l.Pairwise fun a b => ¬ Lib.compareBytes b a < 0) : ∀ m, m ≤ l.length → Ml.Sorted (compactUpTo l.toArray m) ∧ (∀ x, x ∈ compactUpTo l.toArray m ↔ x ∈ l.take m) ∧
    (∀ k, m = k + 1 → ∀ x ∈ compactUpTo l.toArray m, x = l[k]! ∨ Ml.ltT x l[k]!)
  | 0, _ => ⟨by simp [compactUpTo, Ml.Sorted], by simp [compactUpTo], by intro k h; omega⟩
  | m + 1, hm => by
    obtain ⟨h1, h2, h3⟩ := compact_upTo hs m (by omega)
    have hlt : m < l.length := by omega
    have hg : l.toArray[m]! = l[m]! := by simp
    have ht : ∀ x, x ∈ l.take (m + 1) ↔ x ∈ l.take m ∨ x = l[m]! := by
      intro x
      rw [List.take_add_one, List.getElem?_eq_getElem hlt, List.mem_append, getElem!_pos l m hlt]
      simp only [Option.toList_some, List.mem_singleton]
    rw [compactUpTo_succ]
    cases hk : keeps l.toArray m with
    | true =>
      rw [if_pos rfl, hg]
      have hlow : ∀ x ∈ compactUpTo l.toArray m, Ml.ltT x l[m]! := by
        intro x hx
        cases m with
        | zero => simp [compactUpTo] at hx
        | succ k =>
          unfold keeps at hk
          simp only [decide_eq_true_eq] at hk
          have hne : l[k + 1]! ≠ l[k]! := by
            rcases hk with h | h
            · omega
            · simpa using h
          have hkl : k < l.length := by omega
          have hw : ¬ Lib.compareBytes l[k + 1]! l[k]! < 0 := by
            have := List.pairwise_iff_getElem.1 hs k (k + 1) hkl hlt (by omega)
            simpa [hkl, hlt] using this
          have hstep : Ml.ltT l[k]! l[k + 1]! := Ml.lt_tri hw hne
          rcases h3 k rfl x hx with rfl | h
          · exact hstep
          · exact Ml.lt_trans h hstep
      refine ⟨?_, ?_, ?_⟩
      · refine List.pairwise_append.2 ⟨h1, by simp, ?_⟩
        intro a ha b hb
        simp only [List.mem_singleton] at hb
        subst hb
        exact hlow a ha
      · intro x
        rw [List.mem_append, h2, ht, List.mem_singleton]
      · intro k hk2 x hx
        have : k = m := by omega
        subst this
        rcases List.mem_append.1 hx with hx | hx
        · exact .inr (hlow x hx)
        · exact .inl (by simpa using hx)
    | false =>
      rw [if_neg (by simp), List.append_nil]
      unfold keeps at hk
      simp only [decide_eq_false_iff_not, not_or] at hk
      cases m with
      | zero => exact absurd rfl hk.1
      | succ k =>
        have he : l[k + 1]! = l[k]! := by
          have := Classical.not_not.1 hk.2
          simpa using this
        have hkl : k < l.length := by omega
        have hin : l[k]! ∈ l.take (k + 1) := by
          rw [List.take_add_one, List.getElem?_eq_getElem hkl, List.mem_append, getElem!_pos l k hkl]
          simp only [Option.toList_some, List.mem_singleton, or_true]
        refine ⟨h1, ?_, ?_⟩
        · intro x
          rw [h2, ht, he]
          constructor
          · exact .inl
          · rintro (h | rfl)
            · exact h
            · exact hin
        · intro j hj x hx
          have : j = k + 1 := by omega
          subst this
          rw [he]
          exact h3 k rfl x hx
end Go.Ik
/-
  Resources that lie apart from one another, by their blocks.
-/
set_option linter.unusedVariables false
set_option linter.unusedSimpArgs false
set_option linter.unusedSectionVars false
namespace Go.Ik
open Go

/-- what is said of some blocks, and of blocks 'R' that nobody writes -/
structure Res (R : Nat → Prop) where
  p : (Nat → Prop) → World → Prop
  keep : ∀ {F : Nat → Prop} {w w' : World} {M : Nat → Prop}, p F w → Mod M w w' → (∀ b, F b → ¬ M b) → (∀ b, R b → ¬ M b) → p F w'

/-- resources that lie apart within blocks 'U' -/
def Sep {R : Nat → Prop} (L : List (Res R)) (U : Nat → Prop) (w : World) : Prop :=
  ∃ Fs : Nat → Nat → Prop, (∀ (i : Nat) (A : Res R), L[i]? = some A → A.p (Fs i) w) ∧ (∀ i b, Fs i b → (U b ∧ ¬ R b) ∧ b < w.heap.size) ∧ ∀ i j b, i ≠ j → Fs i b → ¬ Fs j b

section
variable {R : Nat → Prop} {L : List (Res R)} {U : Nat → Prop} {w w' : World}
theorem Sep.keep {M : Nat → Prop} (h : Sep L U w) (hm : Mod M w w') (hU : ∀ b, U b → b < w.heap.size → ¬ M b) (hR : ∀ b, R b → ¬ M b) : Sep L U w' := by
  obtain ⟨Fs, h1, h2, h3⟩ := h
  exact ⟨Fs, fun i A hA => A.keep (h1 i A hA) hm (fun b hb => hU b (h2 i b hb).1.1 (h2 i b hb).2) hR, fun i b hb => ⟨(h2 i b hb).1, Nat.lt_of_lt_of_le (h2 i b hb).2 hm.size⟩, h3⟩
theorem Sep.mono {U' : Nat → Prop} (h : Sep L U w) (hU : ∀ b, U b → U' b) : Sep L U' w := by
  obtain ⟨Fs, h1, h2, h3⟩ := h
  exact ⟨Fs, h1, fun i b hb => ⟨⟨hU b (h2 i b hb).1.1, (h2 i b hb).1.2⟩, (h2 i b hb).2⟩, h3⟩
theorem Sep.act {i : Nat} {A : Res R} (h : Sep L U w) (hR : ∀ b, R b → b < w.heap.size) (hi : L[i]? = some A) : ∃ F, A.p F w ∧ (∀ b, F b → (U b ∧ ¬ R b) ∧ b < w.heap.size) ∧ ∀ (w' : World) (F' : Nat → Prop) (A' : Res R), Mod F w w' → A'.p F' w' → (∀ b, F' b → b < w'.heap.size ∧ (F b ∨ (w.heap.size ≤ b ∧ U b))) → Sep (L.set i A') U w' := by
  obtain ⟨Fs, h1, h2, h3⟩ := h
  refine ⟨Fs i, h1 i A hi, h2 i, fun w' F' A' hm hA' hF' => ⟨fun k => if k = i then F' else Fs k, fun k B hB => ?_, fun k b hb => ?_, fun j k b hjk hj hk => ?_⟩⟩
  · by_cases hk : k = i
    · subst hk
      rw [List.getElem?_set_self (List.getElem?_eq_some_iff.1 hi).1] at hB
      simp only [if_true]
      cases hB; exact hA'
    · rw [List.getElem?_set_ne (fun e => hk e.symm)] at hB
      simp only [if_neg hk]
      exact B.keep (h1 k B hB) hm (fun b hb hx => h3 k i b hk hb hx) fun b hb hx => (h2 i b hx).1.2 hb
  · by_cases hk : k = i
    · subst hk
      simp only [if_true] at hb
      obtain ⟨h4, h5⟩ := hF' b hb
      exact ⟨h5.elim (fun h => (h2 k b h).1) (fun h => ⟨h.2, fun hr => by have := hR b hr; omega⟩), h4⟩
    · simp only [if_neg hk] at hb
      exact ⟨(h2 k b hb).1, Nat.lt_of_lt_of_le (h2 k b hb).2 hm.size⟩
  · by_cases hji : j = i
    · have hki : k ≠ i := fun e => hjk (hji.trans e.symm)
      simp only [if_pos hji] at hj
      simp only [if_neg hki] at hk
      rcases (hF' b hj).2 with h5 | h5
      · exact h3 i k b (fun e => hki e.symm) h5 hk
      · have := (h2 k b hk).2; omega
    · simp only [if_neg hji] at hj
      by_cases hki : k = i
      · simp only [if_pos hki] at hk
        rcases (hF' b hk).2 with h5 | h5
        · exact h3 j i b hji hj h5
        · have := (h2 j b hj).2; omega
      · simp only [if_neg hki] at hk
        exact h3 j k b hjk hj hk
theorem Sep.new {A : Res R} {F : Nat → Prop} (h : Sep L U w) (hR : ∀ b, R b → b < w.heap.size) (hm : Ext w w') (hA : A.p F w') (hF : ∀ b, F b → U b ∧ w.heap.size ≤ b ∧ b < w'.heap.size) : Sep (L ++ [A]) U w' := by
  obtain ⟨Fs, h1, h2, h3⟩ := h
  refine ⟨fun k => if k = L.length then F else Fs k, fun k B hB => ?_, fun k b hb => ?_, fun j k b hjk hj hk => ?_⟩
  · by_cases hk : k = L.length
    · subst hk
      rw [List.getElem?_append_right (Nat.le_refl _)] at hB
      simp only [Nat.sub_self, List.getElem?_cons_zero, Option.some.injEq] at hB
      subst hB
      simp only [if_true]; exact hA
    · simp only [if_neg hk]
      have hlt := (List.getElem?_eq_some_iff.1 hB).1
      simp only [List.length_append, List.length_cons, List.length_nil] at hlt
      rw [List.getElem?_append_left (by omega)] at hB
      exact B.keep (h1 k B hB) hm (fun b hb hx => hx) fun _ _ hx => hx
  · by_cases hk : k = L.length
    · simp only [if_pos hk] at hb
      exact ⟨⟨(hF b hb).1, fun hr => by have := hR b hr; have := (hF b hb).2.1; omega⟩, (hF b hb).2.2⟩
    · simp only [if_neg hk] at hb
      exact ⟨(h2 k b hb).1, Nat.lt_of_lt_of_le (h2 k b hb).2 hm.size⟩
  · by_cases hji : j = L.length
    · have hki : k ≠ L.length := fun e => hjk (hji.trans e.symm)
      simp only [if_pos hji] at hj
      simp only [if_neg hki] at hk
      have := (h2 k b hk).2; have := (hF b hj).2.1; omega
    · simp only [if_neg hji] at hj
      by_cases hki : k = L.length
      · simp only [if_pos hki] at hk
        have := (h2 j b hj).2; have := (hF b hk).2.1; omega
      · simp only [if_neg hki] at hk
        exact h3 j k b hjk hj hk
theorem sel_at {α : Type} {L : List α} : ∀ (is : List Nat) (k : Nat), (∀ i ∈ is, i < L.length) → (is.filterMap fun i => L[i]?)[k]? = (is[k]?).bind fun i => L[i]?
  | [], k, _ => by simp
  | i :: is, 0, h => by
    have := h i (by simp)
    simp [List.getElem?_eq_getElem this]
  | i :: is, k + 1, h => by
    have := h i (by simp)
    rw [List.filterMap_cons, List.getElem?_eq_getElem this]
    simp only [List.getElem?_cons_succ]
    exact sel_at is k fun j hj => h j (by simp [hj])
theorem Sep.sel (is : List Nat) (h : Sep L U w) (hl : (is.all fun i => decide (i < L.length)) = true) (hn : is.Nodup) : Sep (is.filterMap fun i => L[i]?) U w := by
  obtain ⟨Fs, h1, h2, h3⟩ := h
  have hl' : ∀ i ∈ is, i < L.length := fun i hi => of_decide_eq_true (List.all_eq_true.1 hl i hi)
  refine ⟨fun k b => ∃ i, is[k]? = some i ∧ Fs i b, fun k B hB => ?_, fun k b hb => ?_, fun j k b hjk hj hk => ?_⟩
  · rw [sel_at is k hl'] at hB
    obtain ⟨i, hi, hB⟩ := Option.bind_eq_some_iff.1 hB
    have e : (fun b => ∃ i, is[k]? = some i ∧ Fs i b) = Fs i := by
      funext b
      rw [hi]
      exact propext ⟨fun ⟨j, hj, hb⟩ => by cases hj; exact hb, fun hb => ⟨i, rfl, hb⟩⟩
    show B.p (fun b => ∃ i, is[k]? = some i ∧ Fs i b) w
    rw [e]; exact h1 i B hB
  · obtain ⟨i, _, hb⟩ := hb
    exact h2 i b hb
  · obtain ⟨i, hi, hbi⟩ := hj
    obtain ⟨i', hi', hbi'⟩ := hk
    refine h3 i i' b (fun e => ?_) hbi hbi'
    subst e
    obtain ⟨q1, q2⟩ := List.getElem?_eq_some_iff.1 hi
    obtain ⟨q3, q4⟩ := List.getElem?_eq_some_iff.1 hi'
    exact hjk ((List.getElem_inj hn).1 (q2.trans q4.symm))
theorem Sep.imp {i : Nat} {A A' : Res R} (h : Sep L U w) (hR : ∀ b, R b → b < w.heap.size) (hi : L[i]? = some A) (hA : ∀ F, A.p F w → A'.p F w) : Sep (L.set i A') U w := by
  obtain ⟨F, h1, h2, k⟩ := h.act hR hi
  exact k w F A' (Mod.refl _ _) (hA F h1) fun b hb => ⟨(h2 b hb).2, .inl hb⟩
theorem Sep.two {i j : Nat} {A B : Res R} (h : Sep L U w) (hi : L[i]? = some A) (hj : L[j]? = some B) (hn : i ≠ j) : ∃ F G, A.p F w ∧ B.p G w ∧ (∀ b, G b → ¬ F b) := by
  obtain ⟨Fs, h1, h2, h3⟩ := h
  exact ⟨Fs i, Fs j, h1 i A hi, h1 j B hj, fun b hb hx => h3 i j b hn hx hb⟩
end
/-- several as one -/
def boxR {R : Nat → Prop} (L : List (Res R)) : Res R := ⟨fun F w => Sep L F w, fun h hm hF hR => h.keep hm (fun b hb _ => hF b hb) hR⟩
theorem Sep.close {R : Nat → Prop} {L1 L2 : List (Res R)} {U : Nat → Prop} {w : World} (h : Sep (L1 ++ L2) U w) : Sep (L1 ++ [boxR L2]) U w := by
  obtain ⟨Fs, h1, h2, h3⟩ := h
  refine ⟨fun k b => if k < L1.length then Fs k b else k = L1.length ∧ ∃ j, Fs (L1.length + j) b, fun k B hB => ?_, fun k b hb => ?_, fun j k b hjk hj hk => ?_⟩
  · by_cases hk : k < L1.length
    · simp only [if_pos hk]
      rw [List.getElem?_append_left hk] at hB
      exact h1 k B (by rw [List.getElem?_append_left hk]; exact hB)
    · have hlt := (List.getElem?_eq_some_iff.1 hB).1
      simp only [List.length_append, List.length_cons, List.length_nil] at hlt
      have hk' : k = L1.length := by omega
      subst hk'
      rw [List.getElem?_append_right (Nat.le_refl _)] at hB
      simp only [Nat.sub_self, List.getElem?_cons_zero, Option.some.injEq] at hB
      subst hB
      simp only [Nat.lt_irrefl, if_false, true_and]
      exact ⟨fun j => Fs (L1.length + j), fun j A hA => h1 _ A (by rw [List.getElem?_append_right (by omega), Nat.add_sub_cancel_left]; exact hA), fun j b hb => ⟨⟨⟨j, hb⟩, (h2 _ b hb).1.2⟩, (h2 _ b hb).2⟩, fun i j b hij => h3 _ _ b (by omega)⟩
  · by_cases hk : k < L1.length
    · simp only [if_pos hk] at hb; exact h2 k b hb
    · simp only [if_neg hk] at hb
      obtain ⟨_, j, hb⟩ := hb
      exact h2 _ b hb
  · by_cases hj' : j < L1.length
    · simp only [if_pos hj'] at hj
      by_cases hk' : k < L1.length
      · simp only [if_pos hk'] at hk; exact h3 j k b hjk hj hk
      · simp only [if_neg hk'] at hk
        obtain ⟨_, m, hk⟩ := hk
        exact h3 j _ b (by omega) hj hk
    · simp only [if_neg hj'] at hj
      obtain ⟨e, m, hj⟩ := hj
      by_cases hk' : k < L1.length
      · simp only [if_pos hk'] at hk
        exact h3 _ k b (by omega) hj hk
      · simp only [if_neg hk'] at hk
        exact hjk (e.trans hk.1.symm)
theorem Sep.open {R : Nat → Prop} {L1 L2 : List (Res R)} {U : Nat → Prop} {w : World} (h : Sep (L1 ++ [boxR L2]) U w) : Sep (L1 ++ L2) U w := by
  obtain ⟨Fs, h1, h2, h3⟩ := h
  obtain ⟨Gs, g1, g2, g3⟩ := h1 L1.length (boxR L2) (by rw [List.getElem?_append_right (Nat.le_refl _)]; simp)
  refine ⟨fun k => if k < L1.length then Fs k else Gs (k - L1.length), fun k B hB => ?_, fun k b hb => ?_, fun j k b hjk hj hk => ?_⟩
  · by_cases hk : k < L1.length
    · simp only [if_pos hk]
      rw [List.getElem?_append_left hk] at hB
      exact h1 k B (by rw [List.getElem?_append_left hk]; exact hB)
    · simp only [if_neg hk]
      rw [List.getElem?_append_right (by omega)] at hB
      exact g1 _ B hB
  · by_cases hk : k < L1.length
    · simp only [if_pos hk] at hb; exact h2 k b hb
    · simp only [if_neg hk] at hb
      exact ⟨(h2 _ b (g2 _ b hb).1.1).1, (g2 _ b hb).2⟩
  · by_cases hj' : j < L1.length
    · simp only [if_pos hj'] at hj
      by_cases hk' : k < L1.length
      · simp only [if_pos hk'] at hk; exact h3 j k b hjk hj hk
      · simp only [if_neg hk'] at hk
        exact h3 j L1.length b (by omega) hj (g2 _ b hk).1.1
    · simp only [if_neg hj'] at hj
      by_cases hk' : k < L1.length
      · simp only [if_pos hk'] at hk
        exact h3 L1.length k b (by omega) (g2 _ b hj).1.1 hk
      · simp only [if_neg hk'] at hk
        exact g3 _ _ b (by omega) hj hk

/-! kinds of resources -/
section
variable {R : Nat → Prop}
def bkR (b : Nat) (cs : List Value) (e : TypeId) : Res R := ⟨fun F w => Bk w b cs e ∧ F b, fun h hm hF _ => ⟨h.1.keep hm (hF b h.2), h.2⟩⟩
def accR {α : Type} (enc : α → List Value) (e : TypeId) (sz : Nat) (v : Value) (l : List α) : Res R :=
  ⟨fun F w => ∃ g, Acc enc e sz w g v l ∧ ∀ b, b + 1 = g → F b, fun ⟨g, h1, h2⟩ hm hF _ => ⟨g, h1.keep hm fun b hb => hF b (h2 b hb.symm), h2⟩⟩
/-- slices that are read only, in blocks of one's own or in those that nobody writes -/
def slR {α : Type} (enc : α → List Value) (vs : List (Value × List α)) : Res R :=
  ⟨fun F w => ∀ x ∈ vs, Sl enc w (fun b => F b ∨ R b) x.1 x.2, fun h hm hF hR x hx => (h x hx).keep hm fun b hb => hb.elim (hF b) (hR b)⟩
def mapR {α β : Type} [DecidableEq α] (key : α → Value) (val : β → Value) (b : Nat) (m : List (α × β)) : Res R :=
  ⟨fun F w => MapO key val w b m ∧ F b, fun {F w w' M} h hm hF _ => ⟨by
    obtain ⟨⟨es, c, h1, h2⟩, hb⟩ := h
    exact ⟨es, c, hm.keep _ _ h1 (hF b hb), h2⟩, h.2⟩⟩
def itR (b : Nat) (s : Str) (pos : Nat) : Res R := ⟨fun F w => It w b s pos ∧ F b, fun h hm hF _ => ⟨hm.keep _ _ h.1 (hF b h.2), h.2⟩⟩
def lentR {α : Type} (enc : α → List Value) (e : TypeId) (b : Nat) (l r : List α) : Res R := ⟨fun F w => Lent enc e w b l r ∧ F b, fun h hm hF _ => ⟨hm.keep _ _ h.1 (hF b h.2), h.2⟩⟩
def exR {α : Type} (A : α → Res R) : Res R := ⟨fun F w => ∃ a, (A a).p F w, fun ⟨a, h⟩ hm hF hR => ⟨a, (A a).keep h hm hF hR⟩⟩
def andR (P : Prop) (A : Res R) : Res R := ⟨fun F w => P ∧ A.p F w, fun h hm hF hR => ⟨h.1, A.keep h.2 hm hF hR⟩⟩
def noR : Res R := ⟨fun _ _ => True, fun _ _ _ _ => trivial⟩
end
theorem mg_weaken {F : Nat → Prop} {b : Nat} {w w' : World} (hm : Mod (Mg (b + 1)) w w') (hb : F b) : Mod F w w' := hm.weaken fun b' hb' _ => by
  have e : b' = b := by unfold Mg at hb'; omega
  rw [e]; exact hb
/-- where a walk stands: what may have been written since the call began; what is held -/
structure St (R F0 : Nat → Prop) (w0 w : World) (L : List (Res R)) : Prop where
  mod : Mod F0 w0 w
  far : ∀ b, R b → b < w0.heap.size ∧ ¬ F0 b
  sep : Sep L (fun b => F0 b ∨ w0.heap.size ≤ b) w

section
variable {R F0 : Nat → Prop} {w0 w w' : World} {L : List (Res R)} {i j : Nat} {A B : Res R}
theorem St.rlt (h : St R F0 w0 w L) : ∀ b, R b → b < w.heap.size := fun b hb => Nat.lt_of_lt_of_le (h.far b hb).1 h.mod.size
theorem St.start (w0 : World) (hR : ∀ b, R b → b < w0.heap.size) : St R (fun _ => False) w0 w0 [] := ⟨Mod.refl _ _, fun b hb => ⟨hR b hb, id⟩, ⟨fun _ _ => False, fun i A h => by simp at h, fun _ _ h => h.elim, fun _ _ _ _ h => h.elim⟩⟩
theorem St.start0 (w0 : World) : St (fun _ => False) (fun _ => False) w0 w0 [] := St.start w0 fun _ h => h.elim
theorem St.start1 {F : Nat → Prop} (hA : A.p F w0) (hF : ∀ b, F b → b < w0.heap.size ∧ ¬ R b) (hR : ∀ b, R b → b < w0.heap.size) : St R F w0 w0 [A] := ⟨Mod.refl _ _, fun b hb => ⟨hR b hb, fun h => (hF b h).2 hb⟩, ⟨fun i b => i = 0 ∧ F b, fun i B h => by
    cases i with
    | zero =>
      simp only [List.getElem?_cons_zero, Option.some.injEq] at h
      subst h
      simpa using hA
    | succ i => simp at h, fun i b h => ⟨⟨.inl h.2, (hF b h.2).2⟩, (hF b h.2).1⟩, fun i j b hij h1 h2 => hij (h1.1.trans h2.1.symm)⟩⟩
theorem St.ext (h : St R F0 w0 w L) (hm : Ext w w') : St R F0 w0 w' L := ⟨h.mod.ext hm, h.far, h.sep.keep hm (fun _ _ _ x => x) fun _ _ x => x⟩
theorem St.get (h : St R F0 w0 w L) (hi : L[i]? = some A) : ∃ F, A.p F w ∧ ∀ b, F b → b < w.heap.size := by
  obtain ⟨Fs, h1, h2, _⟩ := h.sep
  exact ⟨Fs i, h1 i A hi, fun b hb => (h2 i b hb).2⟩
theorem St.act (h : St R F0 w0 w L) (hi : L[i]? = some A) : ∃ F, A.p F w ∧ (∀ b, F b → ((F0 b ∨ w0.heap.size ≤ b) ∧ ¬ R b) ∧ b < w.heap.size) ∧ ∀ (w' : World) (F' : Nat → Prop) (A' : Res R), Mod F w w' → A'.p F' w' → (∀ b, F' b → b < w'.heap.size ∧ (F b ∨ w.heap.size ≤ b)) → St R F0 w0 w' (L.set i A') := by
  obtain ⟨F, h1, h2, k⟩ := h.sep.act h.rlt hi
  refine ⟨F, h1, h2, fun w' F' A' hm hA' hF' => ⟨h.mod.then hm fun b hb hl => (h2 b hb).1.1.resolve_right (by omega), h.far, k w' F' A' hm hA' fun b hb => ⟨(hF' b hb).1, (hF' b hb).2.imp id fun hb => ⟨hb, .inr (Nat.le_trans h.mod.size hb)⟩⟩⟩⟩
theorem St.act2 (h : St R F0 w0 w L) (hi : L[i]? = some A) (hj : L[j]? = some B) (hn : i ≠ j) : ∃ F G, A.p F w ∧ B.p G w ∧ (∀ b, G b → ¬ F b) ∧ (∀ b, F b → ((F0 b ∨ w0.heap.size ≤ b) ∧ ¬ R b) ∧ b < w.heap.size) ∧ (∀ b, G b → b < w.heap.size) ∧ ∀ (w' : World) (F' : Nat → Prop) (A' : Res R), Mod F w w' → A'.p F' w' → (∀ b, F' b → b < w'.heap.size ∧ (F b ∨ w.heap.size ≤ b)) → St R F0 w0 w' (L.set i A') := by
  obtain ⟨Fs, h1, h2, h3⟩ := h.sep
  let U : Nat → Prop := fun b => F0 b ∨ w0.heap.size ≤ b
  have hS : Sep L U w := ⟨Fs, h1, h2, h3⟩
  refine ⟨Fs i, Fs j, h1 i A hi, h1 j B hj, fun b hb hx => h3 i j b hn hx hb, h2 i, fun b hb => (h2 j b hb).2, fun w' F' A' hm hA' hF' => ⟨h.mod.then hm fun b hb hl => (h2 i b hb).1.1.resolve_right (by omega), h.far, ?_⟩⟩
  refine ⟨fun k => if k = i then F' else Fs k, fun k B hB => ?_, fun k b hb => ?_, fun j k b hjk hj hk => ?_⟩
  · by_cases hk : k = i
    · subst hk
      rw [List.getElem?_set_self (List.getElem?_eq_some_iff.1 hi).1] at hB
      simp only [if_true]
      cases hB; exact hA'
    · rw [List.getElem?_set_ne (fun e => hk e.symm)] at hB
      simp only [if_neg hk]
      exact B.keep (h1 k B hB) hm (fun b hb hx => h3 k i b hk hb hx) fun b hb hx => (h2 i b hx).1.2 hb
  · by_cases hk : k = i
    · subst hk
      simp only [if_true] at hb
      obtain ⟨h4, h5⟩ := hF' b hb
      exact ⟨h5.elim (fun h => (h2 k b h).1) (fun hb => ⟨.inr (Nat.le_trans h.mod.size hb), fun hr => by have := h.rlt b hr; omega⟩), h4⟩
    · simp only [if_neg hk] at hb
      exact ⟨(h2 k b hb).1, Nat.lt_of_lt_of_le (h2 k b hb).2 hm.size⟩
  · by_cases hji : j = i
    · have hki : k ≠ i := fun e => hjk (hji.trans e.symm)
      simp only [if_pos hji] at hj
      simp only [if_neg hki] at hk
      rcases (hF' b hj).2 with h5 | h5
      · exact h3 i k b (fun e => hki e.symm) h5 hk
      · have := (h2 k b hk).2; omega
    · simp only [if_neg hji] at hj
      by_cases hki : k = i
      · simp only [if_pos hki] at hk
        rcases (hF' b hk).2 with h5 | h5
        · exact h3 j i b hji hj h5
        · have := (h2 j b hj).2; omega
      · simp only [if_neg hki] at hk
        exact h3 j k b hjk hj hk
theorem St.new {F : Nat → Prop} (h : St R F0 w0 w L) (hm : Ext w w') (hA : A.p F w') (hF : ∀ b, F b → w.heap.size ≤ b ∧ b < w'.heap.size) : St R F0 w0 w' (L ++ [A]) :=
  ⟨h.mod.ext hm, h.far, h.sep.new h.rlt hm hA fun b hb => ⟨.inr (Nat.le_trans h.mod.size (hF b hb).1), hF b hb⟩⟩
theorem St.sel (is : List Nat) (h : St R F0 w0 w L) (hl : (is.all fun i => decide (i < L.length)) = true) (hn : is.Nodup) : St R F0 w0 w (is.filterMap fun i => L[i]?) := ⟨h.mod, h.far, h.sep.sel is hl hn⟩
theorem St.imp {A' : Res R} (h : St R F0 w0 w L) (hi : L[i]? = some A) (hA : ∀ F, A.p F w → A'.p F w) : St R F0 w0 w (L.set i A') := ⟨h.mod, h.far, h.sep.imp h.rlt hi hA⟩
theorem St.close {L1 L2 : List (Res R)} (h : St R F0 w0 w (L1 ++ L2)) : St R F0 w0 w (L1 ++ [boxR L2]) := ⟨h.mod, h.far, h.sep.close⟩
theorem St.open {L1 L2 : List (Res R)} (h : St R F0 w0 w (L1 ++ [boxR L2])) : St R F0 w0 w (L1 ++ L2) := ⟨h.mod, h.far, h.sep.open⟩
theorem St.fin (h : St R F0 w0 w [A]) : Mod F0 w0 w ∧ ∃ F', A.p F' w ∧ ∀ b, F' b → b < w.heap.size ∧ (F0 b ∨ w0.heap.size ≤ b) := by
  obtain ⟨Fs, h1, h2, _⟩ := h.sep
  exact ⟨h.mod, Fs 0, h1 0 A rfl, fun b hb => ⟨(h2 0 b hb).2, (h2 0 b hb).1.1⟩⟩
theorem St.exo {α : Type} {A : α → Res R} (h : St R F0 w0 w L) (hi : L[i]? = some (exR A)) : ∃ a, St R F0 w0 w (L.set i (A a)) := by
  obtain ⟨F, ⟨a, ha⟩, h2, k⟩ := h.act hi
  exact ⟨a, k w F (A a) (Mod.refl _ _) ha fun b hb => ⟨(h2 b hb).2, .inl hb⟩⟩
theorem St.exi {α : Type} {A : α → Res R} (h : St R F0 w0 w L) (a : α) (hi : L[i]? = some (A a)) : St R F0 w0 w (L.set i (exR A)) := h.imp hi fun F x => ⟨a, x⟩

/-! blocks -/
theorem St.bk {b : Nat} {cs : List Value} {e : TypeId} (h : St R F0 w0 w L) (hi : L[i]? = some (bkR b cs e)) : Bk w b cs e := by
  obtain ⟨F, h1, _⟩ := h.get hi; exact h1.1
theorem St.bkK {b : Nat} {cs cs' : List Value} {e : TypeId} (h : St R F0 w0 w L) (hi : L[i]? = some (bkR b cs e)) (hm : Mod (Mg (b + 1)) w w') (hk : Bk w' b cs' e) : St R F0 w0 w' (L.set i (bkR b cs' e)) := by
  obtain ⟨F, h1, h2, k⟩ := h.act hi
  exact k w' F _ (mg_weaken hm h1.2) ⟨hk, h1.2⟩ fun b hb => ⟨Nat.lt_of_lt_of_le (h2 b hb).2 hm.size, .inl hb⟩
theorem St.newBk {b : Nat} {cs : List Value} {e : TypeId} (h : St R F0 w0 w L) (hm : Ext w w') (hb : b = w.heap.size) (hk : Bk w' b cs e) : St R F0 w0 w' (L ++ [bkR b cs e]) :=
  h.new (F := fun x => x = b) hm ⟨hk, rfl⟩ fun x hx => by have := hk.lt; omega
theorem St.map {α β : Type} [DecidableEq α] {key : α → Value} {val : β → Value} {b : Nat} {m : List (α × β)} (h : St R F0 w0 w L) (hi : L[i]? = some (mapR key val b m)) : MapO key val w b m := by
  obtain ⟨F, h1, _⟩ := h.get hi; exact h1.1
theorem St.mapK {α β : Type} [DecidableEq α] {key : α → Value} {val : β → Value} {b : Nat} {m m' : List (α × β)} (h : St R F0 w0 w L) (hi : L[i]? = some (mapR key val b m)) (hm : Mod (Mg (b + 1)) w w') (hk : MapO key val w' b m') : St R F0 w0 w' (L.set i (mapR key val b m')) := by
  obtain ⟨F, h1, h2, k⟩ := h.act hi
  exact k w' F _ (mg_weaken hm h1.2) ⟨hk, h1.2⟩ fun b hb => ⟨Nat.lt_of_lt_of_le (h2 b hb).2 hm.size, .inl hb⟩
theorem St.newMap {α β : Type} [DecidableEq α] {key : α → Value} {val : β → Value} {b : Nat} {m : List (α × β)} (h : St R F0 w0 w L) (hm : Ext w w') (hb : b = w.heap.size) (hk : MapO key val w' b m) : St R F0 w0 w' (L ++ [mapR key val b m]) :=
  h.new (F := fun x => x = b) hm ⟨hk, rfl⟩ fun x hx => by have := hk.lt; omega
theorem St.it {b : Nat} {s : Str} {pos : Nat} (h : St R F0 w0 w L) (hi : L[i]? = some (itR b s pos)) : It w b s pos := by
  obtain ⟨F, h1, _⟩ := h.get hi; exact h1.1
theorem St.itK {b : Nat} {s : Str} {pos pos' : Nat} (h : St R F0 w0 w L) (hi : L[i]? = some (itR b s pos)) (hm : Mod (Mg (b + 1)) w w') (hk : It w' b s pos') : St R F0 w0 w' (L.set i (itR b s pos')) := by
  obtain ⟨F, h1, h2, k⟩ := h.act hi
  exact k w' F _ (mg_weaken hm h1.2) ⟨hk, h1.2⟩ fun b hb => ⟨Nat.lt_of_lt_of_le (h2 b hb).2 hm.size, .inl hb⟩
theorem St.newIt {b : Nat} {s : Str} {pos : Nat} (h : St R F0 w0 w L) (hm : Ext w w') (hb : b = w.heap.size) (hk : It w' b s pos) : St R F0 w0 w' (L ++ [itR b s pos]) :=
  h.new (F := fun x => x = b) hm ⟨hk, rfl⟩ fun x hx => by have := hk.lt; omega
/-! slices -/
section
variable {α : Type} {enc : α → List Value} {e : TypeId} {sz : Nat} {v : Value} {l : List α}
theorem Acc.uniq {g g' : Nat} {w' : World} (h : Acc enc e sz w g v l) {e' : TypeId} {sz' : Nat} {l' : List α} (h' : Acc enc e' sz' w' g' v l') : g = g' := by
  rcases h with ⟨h1, _, h2⟩ | ⟨b, cap, cur, h0, h1, _⟩ <;> rcases h' with ⟨k1, _, k2⟩ | ⟨b', cap', cur', k0, k1, _⟩
  · omega
  · rw [h1] at k1; simp at k1
  · rw [h1] at k1; simp at k1
  · rw [h1] at k1
    simp only [Value.slice.injEq, Option.some.injEq, Addr.mk.injEq] at k1
    omega
theorem St.accK (h : St R F0 w0 w L) (hi : L[i]? = some (accR enc e sz v l)) : ∃ g, Acc enc e sz w g v l ∧ g ≤ w.heap.size ∧ ∀ (w' : World) (g' : Nat) (v' : Value) (l' : List α), Mod (Mg g) w w' → Acc enc e sz w' g' v' l' → (g' = g ∨ w.heap.size < g') → St R F0 w0 w' (L.set i (accR enc e sz v' l')) := by
  obtain ⟨F, ⟨g, h1, h3⟩, h2, k⟩ := h.act hi
  refine ⟨g, h1, h1.lt, fun w' g' v' l' hm ha hg => k w' (fun b => b + 1 = g') _ (hm.weaken fun b hb _ => h3 b hb) ⟨g', ha, fun b hb => hb⟩ fun b hb => ⟨?_, ?_⟩⟩
  · have := ha.lt; omega
  · rcases hg with hg | hg
    · exact .inl (h3 b (by omega))
    · exact .inr (by omega)
theorem St.acc (h : St R F0 w0 w L) (hi : L[i]? = some (accR enc e sz v l)) : ∃ g, Acc enc e sz w g v l := by
  obtain ⟨g, h1, _⟩ := h.accK hi; exact ⟨g, h1⟩
theorem St.newAcc {g : Nat} (h : St R F0 w0 w L) (hm : Ext w w') (ha : Acc enc e sz w' g v l) (hg : g = 0 ∨ w.heap.size < g) : St R F0 w0 w' (L ++ [accR enc e sz v l]) :=
  h.new (F := fun b => b + 1 = g) hm ⟨g, ha, fun b hb => hb⟩ fun b hb => by have := ha.lt; omega
theorem St.ne {b g : Nat} {cs : List Value} {e' : TypeId} (h : St R F0 w0 w L) (hi : L[i]? = some (accR enc e sz v l)) (hj : L[j]? = some (bkR b cs e')) (hij : i ≠ j) (ha : Acc enc e sz w g v l) : b + 1 ≠ g := by
  obtain ⟨F, G, ⟨g', h1, h2⟩, h3, h4⟩ := h.sep.two hi hj hij
  have := ha.uniq h1
  subst this
  intro e
  exact h4 b h3.2 (h2 b e)
theorem St.sl {vs : List (Value × List α)} {k : Nat} (h : St R F0 w0 w L) (hi : L[i]? = some (slR enc vs)) (hk : vs[k]? = some (v, l)) : Sl enc w (Iv 0 w.heap.size) v l := by
  obtain ⟨F, h1, h2⟩ := h.get hi
  exact (h1 _ (List.mem_of_getElem? hk)).mono fun b hb => ⟨Nat.zero_le _, hb.elim (h2 b) (h.rlt b)⟩
theorem St.slK {vs : List (Value × List α)} {k : Nat} (h : St R F0 w0 w L) (hi : L[i]? = some (slR enc vs)) (hk : vs[k]? = some (v, l)) : ∃ F : Nat → Prop, Sl enc w F v l ∧ ∀ v' l', Sl enc w F v' l' → St R F0 w0 w (L.set i (slR enc (vs ++ [(v', l')]))) := by
  obtain ⟨F, h1, h2, k'⟩ := h.act hi
  refine ⟨fun b => F b ∨ R b, h1 _ (List.mem_of_getElem? hk), fun v' l' hs => k' w F _ (Mod.refl _ _) (fun x hx => ?_) fun b hb => ⟨(h2 b hb).2, .inl hb⟩⟩
  rcases List.mem_append.1 hx with hx | hx
  · exact h1 x hx
  · simp only [List.mem_singleton] at hx
    subst hx; exact hs
theorem St.newSl (h : St R F0 w0 w L) (hm : Ext w w') (hs : Sl enc w' (Iv w.heap.size w'.heap.size) v l) : St R F0 w0 w' (L ++ [slR enc [(v, l)]]) :=
  h.new (F := Iv w.heap.size w'.heap.size) hm (fun x hx => by simp only [List.mem_singleton] at hx; subst hx; exact hs.mono fun b hb => .inl hb) fun b hb => hb
theorem St.newSlB {b : Nat} (h : St R F0 w0 w L) (hm : Ext w w') (hb : b = w.heap.size) (hz : w'.heap.size = w.heap.size + 1) (hs : Sl enc w' (Iv b (b + 1)) v l) : St R F0 w0 w' (L ++ [slR enc [(v, l)]]) :=
  h.newSl hm (hs.mono fun x hx => by unfold Iv at *; omega)
theorem St.view1 {vs : List (Value × List α)} {k : Nat} (h : St R F0 w0 w L) (hi : L[i]? = some (slR enc vs)) (hk : vs[k]? = some (v, l)) : St R F0 w0 w (L.set i (slR enc [(v, l)])) :=
  h.imp hi fun F hx x hx' => by
    simp only [List.mem_singleton] at hx'
    subst hx'
    exact hx _ (List.mem_of_getElem? hk)
theorem Sl.atF {F : Nat → Prop} (h : Sl enc w F v l) {P : Program} {t : TypeId} {by_ : Nat} {g : Bool} {z : List Value} (ht : P.underlying t = some (.slice e)) (he : tyI P e = some (g, sz, by_, z)) (hsz : ∀ x, (enc x).length = sz) {k : IntKind} {n : Int} (i : Nat) (hn : n = (i : Int)) (hi : i < l.length) :
    ∃ x b off, l[i]? = some x ∧ (∀ w, (Instr.indexAt t v (.int k n)).run P w = .ok (ptr b off) w) ∧ F b ∧ Row w b off (enc x) := by
  obtain ⟨b, off, h1, h2, h3⟩ := h.at ht he hsz (k := k) i hn hi
  exact ⟨l[i], b, off, by simp, h1, h2, h3⟩
/-- an element's row, wherever it was found first -/
theorem Sl.rowAt {F : Nat → Prop} (h : Sl enc w F v l) {P : Program} {t : TypeId} {by_ : Nat} {g : Bool} {z : List Value} (ht : P.underlying t = some (.slice e)) (he : tyI P e = some (g, sz, by_, z)) (hsz : ∀ x, (enc x).length = sz) {k : IntKind} {n : Int} (i : Nat) (hn : n = (i : Int)) {x : α} {b off : Nat} (hx : l[i]? = some x)
    (hr : ∀ w, (Instr.indexAt t v (.int k n)).run P w = .ok (ptr b off) w) : Row w b off (enc x) := by
  obtain ⟨x', b', off', hx', hr', _, hrow⟩ := h.atF ht he hsz (k := k) i hn (List.getElem?_eq_some_iff.1 hx).1
  have e1 := (hr w).symm.trans (hr' w)
  simp only [ptr, Result.ok.injEq, Value.pointer.injEq, Option.some.injEq, Addr.mk.injEq, and_true] at e1
  obtain ⟨rfl, rfl⟩ := e1
  rw [hx] at hx'
  cases hx'
  exact hrow
/-- an own slice that is read only from now on -/
theorem St.freeze (h : St R F0 w0 w L) (hi : L[i]? = some (accR enc e sz v l)) : St R F0 w0 w (L.set i (slR enc [(v, l)])) :=
  h.imp hi fun F hx x hx' => by
    obtain ⟨g, h1, h2⟩ := hx
    simp only [List.mem_singleton] at hx'
    subst hx'
    refine h1.sl.mono fun b hb => ?_
    rcases h1 with ⟨_, _, h4⟩ | ⟨b', cap, cur, h0, _⟩
    · unfold Iv at hb; omega
    · exact .inl (h2 b (by unfold Iv at hb; omega))
/-- what lies in blocks that nobody writes -/
theorem St.newFar {G : Nat → Prop} (h : St R F0 w0 w L) (hs : Sl enc w0 G v l) (hG : ∀ b, G b → R b) : St R F0 w0 w (L ++ [slR enc [(v, l)]]) :=
  h.new (F := fun _ => False) (Mod.refl _ _) (fun x hx => by
    simp only [List.mem_singleton] at hx
    subst hx
    exact (hs.keep h.mod fun b hb => (h.far b (hG b hb)).2).mono fun b hb => .inr (hG b hb)) fun _ hb => hb.elim
end
end
/-! what a call that holds nothing of the caller's leaves -/
section
variable {w0 w : World} {R : Nat → Prop} {L0 : List (Res (fun _ => False))} {L : List (Res R)} {i : Nat} {α : Type} {enc : α → List Value} {e : TypeId} {sz : Nat} {v : Value} {l : List α}
theorem St.slOut {vs : List (Value × List α)} {k : Nat} (h : St (fun _ => False) (fun _ => False) w0 w L0) (hi : L0[i]? = some (slR enc vs)) (hk : vs[k]? = some (v, l)) : Sl enc w (Iv w0.heap.size w.heap.size) v l := by
  obtain ⟨F, h1, h2, _⟩ := h.act hi
  exact (h1 _ (List.mem_of_getElem? hk)).mono fun b hb => ⟨(h2 b (hb.resolve_right id)).1.1.resolve_left fun x => x, (h2 b (hb.resolve_right id)).2⟩
theorem St.accOut (h : St R (fun _ => False) w0 w L) (hi : L[i]? = some (accR enc e sz v l)) : ∃ g, Acc enc e sz w g v l ∧ (g = 0 ∨ w0.heap.size < g) := by
  obtain ⟨F, ⟨g, h1, h3⟩, h2, _⟩ := h.act hi
  refine ⟨g, h1, ?_⟩
  rcases (by omega : g = 0 ∨ 0 < g) with hg | hg
  · exact .inl hg
  · have := (h2 (g - 1) (h3 _ (by omega))).1.1.resolve_left fun x => x
    exact .inr (by omega)
theorem St.accSl (h : St R (fun _ => False) w0 w L) (hi : L[i]? = some (accR enc e sz v l)) : Sl enc w (Iv w0.heap.size w.heap.size) v l := by
  obtain ⟨g, h1, h2⟩ := h.accOut hi
  exact h1.fresh h2
end
/-- what lies outside stays -/
theorem St.out {R F0 G : Nat → Prop} {w0 w : World} {L : List (Res R)} {α : Type} {enc : α → List Value} {v : Value} {l : List α} (h : St R F0 w0 w L) (hs : Sl enc w0 G v l) (hG : ∀ b, G b → ¬ F0 b) : Sl enc w G v l := hs.keep h.mod hG
end Go.Ik
namespace Go.Ik
open Go
/-- a list in a cell of its own -/
def tbR {R : Nat → Prop} {α : Type} (te e : TypeId) (sz : Nat) (enc : α → List Value) (bl : Nat) (l : List α) : Res R := exR fun v : Value => boxR [bkR bl [v] te, accR enc e sz v l]
end Go.Ik
/-
  Conversions between bytes, runes and texts; quotients of runes.
-/
set_option linter.unusedVariables false
set_option linter.unusedSimpArgs false
set_option linter.unusedSectionVars false
namespace Go.Ik
open Go

section
variable {P : Program} {E : Env} {C : World → Prop} {d : Option Tmp} {ty : TypeId} {pos : String} {af : Array Edge} {gd : Option (Nat × Bool)} {w : World} {K : Value → World → Prop}
theorem Q1.quo32 {x y : Operand} {xt yt : TypeId} {p q : Int} (r : Int) (hx : ev E x = some (.int .i32 p)) (hy : ev E y = some (.int .i32 q)) (hr : 0 ≤ p ∧ p ≤ 2147483647 ∧ 1 ≤ q ∧ p / q = r) : Q1 P ⟨d, .binOp .quo xt x y yt, ty, pos, af, gd⟩ E C (.int .i32 r) := by
  have h := Q1.quo (P := P) (C := C) (d := d) (xt := xt) (yt := yt) (ty := ty) (pos := pos) (af := af) (gd := gd) hx hy (by omega)
  have e : IntKind.i32.wrap (p.tdiv q) = r := by
    rw [Int.tdiv_eq_ediv_of_nonneg hr.1, hr.2.2.2]
    have h0 := Int.ediv_nonneg hr.1 (by omega : 0 ≤ q)
    have h1 := Int.ediv_le_self q hr.1
    exact IntWalk.i32_in _ (by omega)
  rw [e] at h; exact h
theorem row_byte {b off : Nat} {l : Str} (hr : Row w b off (l.flatMap encB)) (j : Nat) (hj : j < l.length) : w.cell? ((⟨b, off, none⟩ : Addr).add j) = some (.int .u8 (l[j].toNat : Int)) := by
  have hf : l.flatMap encB = l.map fun c => Value.int .u8 (c.toNat : Int) := by
    clear hr hj
    induction l with
    | nil => rfl
    | cons a l ih => simp [encB, ih]
  rw [add_lit]
  exact hr.cell j _ (by rw [hf, List.getElem?_map, List.getElem?_eq_getElem hj]; rfl)
theorem AW.bytesStr {s t e : TypeId} {x : Operand} {v : Value} {F : Nat → Prop} {l : Str} (hs : P.underlying s = some (.slice e)) (he : P.underlying e = some (.int .u8)) (ht : P.underlying t = some .string) (hx : ev E x = some v) (h : Sl encB w F v l) (hK : K (strV l) w) :
    AW P ⟨d, .convert s t x, ty, pos, af, gd⟩ E w K := fun a ha => by
  obtain ⟨ad, cap, rfl, h2, h3, h4⟩ := h
  have hr : (convert s t (.slice ad l.length cap)).run P w = .ok (strV l) w := by
    rcases h4 with rfl | ⟨b, off, rfl, _, hr⟩
    · show (convert s t (.slice ad 0 cap)).run P w = _
      rw [run_convert_bytes_string w s t e ad 0 cap hs he ht]
      cases ad <;> simp [Conv.bytesToString, loadCells, loadCellsFrom, strV] <;> rfl
    · exact run_convert_bytes_back w s t e _ cap l hs he ht (row_byte hr)
  simp [execOp, ha.ev hx, hr, out]
  exact hK
end
end Go.Ik
namespace Go.Ik
open Go
/-- a byte out of a number -/
def byN (n : Int) : UInt8 := UInt8.ofNat (n % 256).toNat
theorem byN_toNat (n : Int) : ((byN n).toNat : Int) = n % 256 := by
  have h0 := Int.emod_nonneg n (by omega : (256 : Int) ≠ 0)
  have h1 := Int.emod_lt_of_pos n (by omega : (0 : Int) < 256)
  unfold byN
  rw [UInt8.toNat_ofNat']
  omega
theorem byN_nat (n : Nat) : byN (n : Int) = UInt8.ofNat n := by
  apply UInt8.toNat_inj.1
  have := byN_toNat (n : Int)
  rw [UInt8.toNat_ofNat']
  omega
section
variable {P : Program} {E : Env} {C : World → Prop} {d : Option Tmp} {ty : TypeId} {pos : String} {af : Array Edge} {gd : Option (Nat × Bool)} {w : World} {K : Value → World → Prop}
theorem Q1.convB {s t : TypeId} {x : Operand} {k : IntKind} {p : Int} (hs : (P.underlying s).isSome = true) (ht : P.underlying t = some (.int .u8)) (hx : ev E x = some (.int k p)) : Q1 P ⟨d, .convert s t x, ty, pos, af, gd⟩ E C (.int .u8 ((byN p).toNat : Int)) := by
  have h := Q1.convI (P := P) (C := C) (d := d) (ty := ty) (pos := pos) (af := af) (gd := gd) hs ht hx
  have e : IntKind.u8.wrap p = ((byN p).toNat : Int) := by rw [byN_toNat, IntKind.wrap_u8]
  rw [e] at h; exact h
end
end Go.Ik
namespace Go.Ik
open Go
section
variable {P : Program} {E : Env} {C : World → Prop} {d : Option Tmp} {ty : TypeId} {pos : String} {af : Array Edge} {gd : Option (Nat × Bool)} {w : World} {K : Value → World → Prop}
theorem runes_fold : ∀ (ns : List Int) (s : ByteArray), (ns.foldl (fun r n => r ++ Utf8.encode n) s).data.toList = s.data.toList ++ ns.flatMap encR
  | [], s => by simp
  | n :: ns, s => by
    rw [List.foldl_cons, runes_fold ns]
    simp [encR, ByteArray.data_append]
theorem AW.runesStr {s t e : TypeId} {x : Operand} {v : Value} {F : Nat → Prop} {l : List Int} (hs : P.underlying s = some (.slice e)) (he : P.underlying e = some (.int .i32)) (ht : P.underlying t = some .string) (hx : ev E x = some v) (h : Sl encRn w F v l) (hK : K (strV (l.flatMap encR)) w) :
    AW P ⟨d, .convert s t x, ty, pos, af, gd⟩ E w K := fun a ha => by
  obtain ⟨ad, cap, rfl, h2, h3, h4⟩ := h
  have hr : (convert s t (.slice ad l.length cap)).run P w = .ok (strV (l.flatMap encR)) w := by
    rcases h4 with rfl | ⟨b, off, rfl, _, hr⟩
    · show (convert s t (.slice ad 0 cap)).run P w = _
      rw [run_convert_runes_string w s t e ad 0 cap hs he ht]
      cases ad <;> simp [Conv.runesToString, loadCells, loadCellsFrom, strV] <;> rfl
    · rw [run_convert_runes_string w s t e _ _ cap hs he ht]
      have hf : l.flatMap encRn = l.map (Value.int .i32) := by
        clear hr h2 hx hK
        induction l with
        | nil => rfl
        | cons a l ih => simp [encRn, ih]
      have hl := run_loadCells_list (P := P) w ⟨b, off, none⟩ (l.map (Value.int .i32)) (fun j u hu => by
        rw [add_lit]; exact hr.cell j u (by rw [hf]; exact hu))
      rw [List.length_map] at hl
      rw [run_runesToString w _ l.length cap l hl]
      congr 1
      unfold strV
      congr 1
      apply ByteArray.ext
      apply Array.ext'
      have := runes_fold l ByteArray.empty
      unfold runesBytes
      rw [this]
      simp
  simp [execOp, ha.ev hx, hr, out]
  exact hK
end
end Go.Ik
/-
  Quiet operations on bits: 32 and 64 of them.
-/
set_option linter.unusedVariables false
set_option linter.unusedSimpArgs false
namespace Go.Ik
open Go
theorem xor_lt32 {a b : Nat} (ha : a < 4294967296) (hb : b < 4294967296) : a ^^^ b < 4294967296 := Nat.xor_lt_two_pow (n := 32) ha hb
theorem not32 {a : Nat} (ha : a < 4294967296) : 4294967295 ^^^ a = 4294967295 - a := by
  have h : (4294967295 ^^^ a) = (BitVec.ofNat 32 4294967295 ^^^ BitVec.ofNat 32 a).toNat := by
    rw [BitVec.toNat_xor, BitVec.toNat_ofNat, BitVec.toNat_ofNat, Nat.mod_eq_of_lt (by omega : a < 2 ^ 32)]
  have h2 : BitVec.ofNat 32 4294967295 = BitVec.allOnes 32 := rfl
  rw [h, h2, BitVec.allOnes_xor, BitVec.toNat_not, BitVec.toNat_ofNat, Nat.mod_eq_of_lt (by omega : a < 2 ^ 32)]
theorem or_byte {a b : Nat} (hb : b < 256) : a * 256 ||| b = a * 256 + b := by
  have := Nat.shiftLeft_add_eq_or_of_lt (i := 8) (b := b) (by omega) a
  rw [Nat.shiftLeft_eq] at this
  exact this.symm
section
variable {P : Program} {E : Env} {C : World → Prop} {d : Option Tmp} {ty : TypeId} {pos : String} {af : Array Edge} {gd : Option (Nat × Bool)} {xt yt : TypeId} {x y : Operand}
theorem Q1.xor32 {a b : Nat} (hx : ev E x = some (.int .u32 (a : Int))) (hy : ev E y = some (.int .u32 (b : Int))) (ha : a < 4294967296) (hb : b < 4294967296) : Q1 P ⟨d, .binOp .xor xt x y yt, ty, pos, af, gd⟩ E C (.int .u32 ((a ^^^ b : Nat) : Int)) := fun s hs w _ => by
  have h := u32_xor_nat a b ha hb
  simp [execOp, hs.ev hx, hs.ev hy, eqGuard, Go.binOp, intBits_xor, h]
theorem Q1.xor8 {a b : UInt8} (hx : ev E x = some (.int .u8 (a.toNat : Int))) (hy : ev E y = some (.int .u8 (b.toNat : Int))) : Q1 P ⟨d, .binOp .xor xt x y yt, ty, pos, af, gd⟩ E C (.int .u8 ((a ^^^ b).toNat : Int)) := fun s hs w _ => by
  have h := u8_xor_nat a.toNat b.toNat a.toNat_lt b.toNat_lt
  rw [← UInt8.toNat_xor] at h
  simp [execOp, hs.ev hx, hs.ev hy, eqGuard, Go.binOp, intBits_xor, h]
theorem Q1.addU {p q : Int} (r : Int) (hx : ev E x = some (.int .u64 p)) (hy : ev E y = some (.int .u64 q)) (hr : p + q = r ∧ 0 ≤ r ∧ r ≤ 18446744073709551615) : Q1 P ⟨d, .binOp .add xt x y yt, ty, pos, af, gd⟩ E C (.int .u64 r) := by
  have h := Q1.add (P := P) (C := C) (d := d) (xt := xt) (yt := yt) (ty := ty) (pos := pos) (af := af) (gd := gd) hx hy
  rw [IntWalk.u64_in _ (by omega), hr.1] at h; exact h
theorem Q1.and1 {a : Nat} (hx : ev E x = some (.int .u32 (a : Int))) (hy : ev E y = some (.int .u32 1)) (ha : a < 4294967296) : Q1 P ⟨d, .binOp .and xt x y yt, ty, pos, af, gd⟩ E C (.int .u32 ((a % 2 : Nat) : Int)) := fun s hs w _ => by
  have h := u32_and_nat a 1 ha (by omega)
  rw [Nat.and_one_is_mod] at h
  have h' : bits .and .u32 (a : Int) 1 = ((a % 2 : Nat) : Int) := h
  simp [execOp, hs.ev hx, hs.ev hy, eqGuard, Go.binOp, intBits_and, h']
theorem Q1.orB {a b : Nat} (hx : ev E x = some (.int .u64 ((a * 256 : Nat) : Int))) (hy : ev E y = some (.int .u64 (b : Int))) (ha : a * 256 < 18446744073709551616) (hb : b < 256) : Q1 P ⟨d, .binOp .or xt x y yt, ty, pos, af, gd⟩ E C (.int .u64 ((a * 256 + b : Nat) : Int)) := fun s hs w _ => by
  have h := u64_or_nat (a * 256) b ha (by omega)
  rw [or_byte hb] at h
  simp [execOp, hs.ev hx, hs.ev hy, eqGuard, Go.binOp, intBits_or]
  simpa using h
theorem Q1.not32 {a : Nat} (hx : ev E x = some (.int .u32 (a : Int))) (ha : a < 4294967296) : Q1 P ⟨d, .unOp .xor xt x, ty, pos, af, gd⟩ E C (.int .u32 ((4294967295 - a : Nat) : Int)) := fun s hs w _ => by
  have h := u32_xor_nat 4294967295 a (by omega) ha
  rw [Ik.not32 ha] at h
  have h' : bits .xor .u32 4294967295 (a : Int) = ((4294967295 - a : Nat) : Int) := h
  simp [execOp, hs.ev hx, Op.unary, intBits_xor, IntKind.signed, IntKind.max]
  exact h'
theorem Q1.shrN {k k' : IntKind} {p m : Int} (n : Nat) (hx : ev E x = some (.int k p)) (hy : ev E y = some (.int k' m)) (hm : m = (n : Int)) (hn : n ≤ k.bits) : Q1 P ⟨d, .binOp .shr xt x y yt, ty, pos, af, gd⟩ E C (.int k (p / 2 ^ n)) := fun s hs w _ => by
  subst hm
  have h := shift_shr k k' p (n : Int) (by omega) (by omega)
  simp [execOp, hs.ev hx, hs.ev hy, eqGuard, Go.binOp, h]
theorem Q1.subU32 {a b : Nat} (hx : ev E x = some (.int .u32 (a : Int))) (hy : ev E y = some (.int .u32 (b : Int))) (hb : b ≤ a) (ha : a < 4294967296) : Q1 P ⟨d, .binOp .sub xt x y yt, ty, pos, af, gd⟩ E C (.int .u32 ((a - b : Nat) : Int)) := by
  have h := Q1.sub (P := P) (C := C) (d := d) (xt := xt) (yt := yt) (ty := ty) (pos := pos) (af := af) (gd := gd) hx hy
  rw [IntWalk.u32_in _ (by omega), show (a : Int) - (b : Int) = ((a - b : Nat) : Int) from by omega] at h; exact h
theorem Q1.shl8 {k' : IntKind} {a : Nat} (hx : ev E x = some (.int .u64 (a : Int))) (hy : ev E y = some (.int k' 8)) (ha : a * 256 < 18446744073709551616) : Q1 P ⟨d, .binOp .shl xt x y yt, ty, pos, af, gd⟩ E C (.int .u64 ((a * 256 : Nat) : Int)) := fun s hs w _ => by
  have h := shift_shl .u64 k' (a : Int) 8 (by omega) (by decide)
  have e : IntKind.u64.wrap ((a : Int) * 2 ^ (8 : Int).toNat) = ((a * 256 : Nat) : Int) := by
    rw [IntKind.wrap_u64]
    have : ((a : Int) * 2 ^ (8 : Int).toNat) = ((a * 256 : Nat) : Int) := by simp
    rw [this]; omega
  rw [e] at h
  simp [execOp, hs.ev hx, hs.ev hy, eqGuard, Go.binOp, h]
theorem Q1.quoU32 {a : Nat} (b : Nat) (hx : ev E x = some (.int .u32 (a : Int))) (hy : ev E y = some (.int .u32 (b : Int))) (hb : b ≠ 0) (ha : a < 4294967296) : Q1 P ⟨d, .binOp .quo xt x y yt, ty, pos, af, gd⟩ E C (.int .u32 ((a / b : Nat) : Int)) := by
  have h := Q1.quo (P := P) (C := C) (d := d) (xt := xt) (yt := yt) (ty := ty) (pos := pos) (af := af) (gd := gd) hx hy (by omega)
  have e : IntKind.u32.wrap ((a : Int).tdiv (b : Int)) = ((a / b : Nat) : Int) := by
    rw [Int.tdiv_eq_ediv_of_nonneg (by omega), ← Int.natCast_ediv]
    have := Nat.div_le_self a b
    generalize a / b = q at *
    exact IntWalk.u32_in _ (by omega)
  rw [e] at h; exact h
end
end Go.Ik
namespace Go.Ik
open Go
section
variable {P : Program} {E : Env} {d : Option Tmp} {ty : TypeId} {pos : String} {af : Array Edge} {gd : Option (Nat × Bool)} {w : World} {K : Value → World → Prop}
/-- bytes taken for bytes of their own type: their block bears a mark from now on -/
theorem AW.convSl {s e e' : TypeId} {x : Operand} {b n c : Nat} {cs : List Value} (hs : P.underlying s = some (.slice e)) (he : P.underlying e = some (.int .u8)) (hx : ev E x = some (.slice (some ⟨b, 0, none⟩) n c)) (hb : Bk w b cs e')
    (hK : ∀ w', Mod (Mg (b + 1)) w w' → w'.heap.size = w.heap.size → Row w' b 0 cs → K (.slice (some ⟨b, 0, none⟩) n c) w') : AW P ⟨d, .convert s s x, ty, pos, af, gd⟩ E w K := fun a ha => by
  have hsh : w.shape? b = some (e', cs.length) := by
    unfold World.shape?
    rw [show w.heap[b]? = some (.cells cs.toArray e' (0, 0)) from hb]
    simp
  have hr : (convert s s (.slice (some ⟨b, 0, none⟩) n c)).run P w = .ok (.slice (some ⟨b, 0, none⟩) n c) (w.freeze ⟨b, cs.length, none⟩ 1) := by
    simp [convert, run_underlying hs, run_underlying he, markStringish, hsh]
  have hh : (w.freeze ⟨b, cs.length, none⟩ 1).heap[b]? = some (.cells cs.toArray e' (cs.length, cs.length + 1)) := by
    unfold World.freeze
    rw [if_neg (by decide)]
    simp only [Array.getElem?_modify, if_true]
    rw [show w.heap[b]? = some (.cells cs.toArray e' (0, 0)) from hb]
    rfl
  simp [execOp, ha.ev hx, hr, out]
  refine hK _ ⟨rfl, rfl, rfl, ?_, ?_⟩ ?_ ?_
  · unfold World.freeze
    rw [if_neg (by decide)]
    simp
  · intro b' o ho hn
    unfold World.freeze
    rw [if_neg (by decide)]
    simp only [Array.getElem?_modify]
    rw [if_neg (fun e => hn (by unfold Mg; omega))]
    exact ho
  · unfold World.freeze
    rw [if_neg (by decide)]
    simp
  · intro i v hv
    unfold World.cell?
    simp only [Option.isSome_none, Bool.false_eq_true, if_false]
    rw [hh]
    simpa using hv
end
theorem Sl.of_row {α : Type} {enc : α → List Value} {w : World} {b : Nat} {l : List α} (h : Row w b 0 (l.flatMap enc)) (n : Nat) (hn : n = l.length) (hm : n ≤ maxLen) : Sl enc w (Iv b (b + 1)) (.slice (some ⟨b, 0, none⟩) n n) l :=
  ⟨some ⟨b, 0, none⟩, n, by rw [hn], by omega, hm, .inr ⟨b, 0, rfl, ⟨Nat.le_refl _, by omega⟩, h⟩⟩
end Go.Ik
/-
  Graphs while they are built.
-/
set_option linter.unusedVariables false
set_option linter.unusedSimpArgs false
namespace Go.Ml
open Go.Ik

theorem sumLen_cons (s : Str) (l : List Str) : sumLen (s :: l) = s.length + sumLen l := by simp [sumLen]
theorem sumLen_app (a b : List Str) : sumLen (a ++ b) = sumLen a + sumLen b := by simp [sumLen]
theorem sumLen_map (p : Str) (l : List Str) : sumLen (l.map (p ++ ·)) = l.length * p.length + sumLen l := by
  induction l with
  | nil => simp [sumLen]
  | cons s l ih => simp only [List.map_cons, sumLen_cons, ih, List.length_append, List.length_cons, Nat.add_mul, Nat.one_mul]; omega
/-- a group's rests are shorter by its beginning -/
theorem strip_sum {p : Str} (hp : 1 ≤ p.length) (l : List Str) : sumLen (stripP p l) + (stripP p l).length + sumLen (moreP p l) ≤ sumLen l := by
  have h := congrArg sumLen (strip_app p l)
  rw [sumLen_app, sumLen_map] at h
  have := Nat.mul_le_mul_left (stripP p l).length hp
  omega
theorem strip_len (p : Str) (l : List Str) : (stripP p l).length + (moreP p l).length = l.length := by
  have h := congrArg List.length (strip_app p l)
  rw [List.length_append, List.length_map] at h; exact h
theorem sumLen_dropE (l : List Str) : sumLen (dropE l) = sumLen l := by
  cases l with
  | nil => rfl
  | cons a r => cases a <;> simp [dropE, sumLen]
theorem dropE_len (l : List Str) : (dropE l).length ≤ l.length := by
  cases l with
  | nil => simp [dropE]
  | cons a r => cases a <;> simp [dropE]
def gsum (gs : List (Nat × List Str)) : Nat := (gs.map fun g => sumLen g.2 + 1).sum
theorem gsum_groups : ∀ (n : Nat) (l : List Str), l.length ≤ n → GoodR l → (∀ s ∈ l, s ≠ []) → gsum (groups l) ≤ sumLen l
  | _, [], _, _, _ => by simp [groups_nil, gsum]
  | 0, s :: r, h, _, _ => by simp at h
  | n + 1, s :: r, hn, h, hne => by
    have hl := more_len s r
    simp only [List.length_cons] at hn
    have hs := hne s (by simp)
    have hf := h.fine s (by simp)
    have hp : pfx s = encL (hdN s) := (enc_dec hs ((fine_cons hs).1 hf).1).2.symm
    have ih := gsum_groups n (moreP (pfx s) (s :: r)) (by omega) (h.more _) (fun t ht => hne t ((List.dropWhile_suffix _).subset ht))
    have h1 := strip_sum (p := pfx s) (by rw [hp]; exact encL_pos _) (s :: r)
    have h2 : 1 ≤ (stripP (pfx s) (s :: r)).length := by
      unfold stripP
      rw [List.takeWhile_cons, if_pos (pfx_is s)]; simp
    rw [groups_cons]
    unfold gsum at ih ⊢
    simp only [List.map_cons, List.sum_cons]
    omega
theorem edgesM_len {add : GS → List Str → GS × Nat} : ∀ (gs : List (Nat × List Str)) (s : GS), (∀ g ∈ gs, ∀ s, (add s g.2).1.length ≤ s.length + 1 + sumLen g.2) → (edgesM add s gs).1.length ≤ s.length + gsum gs
  | [], s, _ => by simp [edgesM, gsum]
  | g :: gs, s, h => by
    have h1 := h g (by simp) s
    have h2 := edgesM_len gs (add s g.2).1 (fun g' hg' => h g' (by simp [hg']))
    show (edgesM add (add s g.2).1 gs).1.length ≤ _
    unfold gsum at h2 ⊢
    simp only [List.map_cons, List.sum_cons]
    omega
theorem addM_len : ∀ (f : Nat) (s : GS) (rests : List Str), GoodR rests → (addM f s rests).1.length ≤ s.length + 1 + sumLen rests
  | 0, s, rests, _ => by simp [addM]; omega
  | f + 1, s, rests, hg => by
    unfold addM
    cases hi : s.findIdx? fun x => x.1 == rests with
    | some i => simp; omega
    | none =>
      simp only [List.length_set]
      have hd := dropE_good hg
      have ok := groups_ok _ _ (Nat.le_refl _) hd.1 hd.2
      have h1 := edgesM_len (add := addM f) (groups (dropE rests)) (s ++ [(rests, [])]) (fun g hgm s' => addM_len f s' g.2 (ok.good g hgm).2.2)
      have h2 := gsum_groups _ _ (Nat.le_refl _) hd.1 hd.2
      rw [sumLen_dropE] at h2
      simp only [List.length_append, List.length_cons, List.length_nil] at h1
      omega
theorem addM_names {f : Nat} {s : GS} {rests : List Str} (hd : Deep f rests) (hg : GoodR rests) (hne : rests ≠ []) (hn : (names s).Nodup) (hok : NamesOk s) : NamesOk (addM (f + 1) s rests).1 ∧ (names (addM (f + 1) s rests).1).Nodup := by
  have h := addM_ok f s rests hd hg hne hn
  obtain ⟨t, e, k⟩ := h.tail
  refine ⟨fun x hx => ?_, h.apart⟩
  rw [e] at hx
  rcases List.mem_append.1 hx with hx | hx
  · exact hok x hx
  · exact ⟨(k x hx).ne, (k x hx).good.noff⟩
theorem addM_lt {f : Nat} {s : GS} {rests : List Str} (hd : Deep f rests) (hg : GoodR rests) (hne : rests ≠ []) (hn : (names s).Nodup) : (addM (f + 1) s rests).2 < (addM (f + 1) s rests).1.length := by
  obtain ⟨es, h⟩ := (addM_ok f s rests hd hg hne hn).here
  exact (List.getElem?_eq_some_iff.1 h).1
/-- how far the edges of a node have come -/
def EInv (f : Nat) (S0 : GS) (gs0 : List (Nat × List Str)) (sc : GS) (ES : List Ed) (r1 : List Str) : Prop :=
  edgesM (addM f) S0 gs0 = ((edgesM (addM f) sc (groups r1)).1, ES ++ (edgesM (addM f) sc (groups r1)).2)
theorem EInv.start (f : Nat) (S0 : GS) (r : List Str) : EInv f S0 (groups r) S0 [] r := by unfold EInv; simp
theorem EInv.next {f : Nat} {S0 : GS} {gs0 : List (Nat × List Str)} {sc : GS} {ES : List Ed} {s : Str} {r : List Str} (h : EInv f S0 gs0 sc ES (s :: r)) :
    EInv f S0 gs0 (addM f sc (stripP (pfx s) (s :: r))).1 (ES ++ [⟨(hdN s : Int), ((addM f sc (stripP (pfx s) (s :: r))).2 : Int)⟩]) (moreP (pfx s) (s :: r)) := by
  unfold EInv at h ⊢
  rw [h, groups_cons]
  simp only [edgesM, List.append_assoc, List.cons_append, List.nil_append]
theorem EInv.fin {f : Nat} {S0 : GS} {gs0 : List (Nat × List Str)} {sc : GS} {ES : List Ed} (h : EInv f S0 gs0 sc ES []) : edgesM (addM f) S0 gs0 = (sc, ES) := by
  unfold EInv at h; rw [h, groups_nil]; simp [edgesM]
theorem addM_hit {f : Nat} {s : GS} {rests : List Str} {i : Nat} (h : (s.findIdx? fun x => x.1 == rests) = some i) : addM (f + 1) s rests = (s, i) := by
  unfold addM; rw [h]
theorem addM_miss {f : Nat} {s xs : GS} {rests : List Str} {ES : List Ed} (h : (s.findIdx? fun x => x.1 == rests) = none) (he : edgesM (addM f) (s ++ [(rests, [])]) (groups (dropE rests)) = (s ++ (rests, []) :: xs, ES)) : addM (f + 1) s rests = (s ++ (rests, ES) :: xs, s.length) := by
  unfold addM; rw [h]
  simp only [he]
  rw [List.set_append_right _ _ (Nat.le_refl _)]
  simp
theorem EInv.cast {f : Nat} {S0 sc sc' : GS} {gs0 : List (Nat × List Str)} {ES : List Ed} {r r' : List Str} (h : EInv f S0 gs0 sc ES r) (e1 : sc = sc') (e2 : r = r') : EInv f S0 gs0 sc' ES r' := by subst e1 e2; exact h
theorem EInv.next2 {f : Nat} {S0 : GS} {gs0 : List (Nat × List Str)} {sc : GS} {ES : List Ed} {x : Str} {r1 : List Str} (hx : r1[0]? = some x) (h : EInv f S0 gs0 sc ES r1) :
    EInv f S0 gs0 (addM f sc (stripP (pfx x) r1)).1 (ES ++ [⟨(hdN x : Int), ((addM f sc (stripP (pfx x) r1)).2 : Int)⟩]) (moreP (pfx x) r1) := by
  rw [head_cons hx] at h ⊢
  exact h.next
theorem names_put {s : GS} {rests : List Str} (hf : (s.findIdx? fun x => x.1 == rests) = none) (hnd : (names s).Nodup) (hok : NamesOk s) (hne : rests ≠ []) (hr : ∀ t ∈ rests, NoFF t) : NamesOk (s ++ (rests, []) :: []) ∧ (names (s ++ (rests, []) :: [])).Nodup := by
  have hno := findIdx_none hf
  refine ⟨fun x hx => ?_, ?_⟩
  · rcases List.mem_append.1 hx with hx | hx
    · exact hok x hx
    · simp only [List.mem_singleton] at hx
      subst hx; exact ⟨hne, hr⟩
  · unfold names
    rw [List.map_append, List.nodup_append]
    refine ⟨hnd, by simp, fun a ha b hb => ?_⟩
    simp only [List.map_cons, List.map_nil, List.mem_singleton] at hb
    subst hb
    exact fun e => hno (by rw [← e]; exact ha)
theorem strip_facts {r1 : List Str} {x : Str} {f : Nat} (hx : r1[0]? = some x) (hr : GoodR r1 ∧ (∀ t ∈ r1, t ≠ []) ∧ Deep (f + 1) r1) :
    GoodR (stripP (pfx x) r1) ∧ stripP (pfx x) r1 ≠ [] ∧ Deep f (stripP (pfx x) r1) ∧ sumLen (stripP (pfx x) r1) + (stripP (pfx x) r1).length + sumLen (moreP (pfx x) r1) ≤ sumLen r1 ∧ (stripP (pfx x) r1).length + (moreP (pfx x) r1).length = r1.length ∧ 1 ≤ (stripP (pfx x) r1).length := by
  obtain ⟨hg, hn, hd⟩ := hr
  have hxm := List.mem_of_getElem? hx
  have hxn := hn x hxm
  have hp : pfx x = encL (hdN x) := (enc_dec hxn ((fine_cons hxn).1 (hg.fine x hxm)).1).2.symm
  have hgn := ((hg.fine x hxm).split hxn).1
  have h1 : 1 ≤ (stripP (pfx x) r1).length := by
    rw [head_cons hx]
    unfold stripP
    rw [List.takeWhile_cons, if_pos (pfx_is x)]; simp
  refine ⟨?_, ?_, fun t ht => ?_, strip_sum (by rw [hp]; exact encL_pos _) _, strip_len _ _, h1⟩
  · rw [head_cons hx] at hg ⊢
    exact strip_good hg hxn
  · intro e; rw [e] at h1; simp at h1
  · have hm := hd _ (strip_mem ht)
    rw [hp] at hm
    have h2 := runes_app (c := hdN x) hgn t
    unfold hdN at hm h2
    rw [h2] at hm
    simp only [List.length_cons] at hm
    omega
theorem deep_succ {f : Nat} {r1 : List Str} {x : Str} (hd : Deep f r1) (hx : x ∈ r1) (hn : x ≠ []) : ∃ f2, f = f2 + 1 := by
  have := hd x hx
  rw [runes_cons hn] at this
  simp only [List.length_cons] at this
  exact ⟨f - 1, by omega⟩
theorem sum_mem {l : List Str} {x : Str} (h : x ∈ l) : x.length ≤ sumLen l := by
  induction l with
  | nil => simp at h
  | cons a l ih =>
    rw [sumLen_cons]
    rcases List.mem_cons.1 h with rfl | h
    · omega
    · have := ih h; omega
theorem dropE_nil {l : List Str} {x : Str} (hx : l[0]? = some x) (h : x = []) : dropE l = l.drop 1 ∧ finB l = true := by
  rw [head_cons hx, h]; simp [dropE, finB]
theorem dropE_cons {l : List Str} {x : Str} (hx : l[0]? = some x) (h : x ≠ []) : dropE l = l ∧ finB l = false := by
  have hl := head_cons hx
  cases x with
  | nil => exact absurd rfl h
  | cons a x =>
    constructor
    · rw [hl]; rfl
    · rw [hl]; simp [finB]
theorem mapK_es (s xs : GS) (r : List Str) (es es' : List Ed) : mapK (s ++ (r, es) :: xs) = mapK (s ++ (r, es') :: xs) := mapK_names (by simp [names])
/-- a group, as it is gone through: 'k' of them have the beginning -/
structure SpanInv (p : Str) (l : List Str) (k : Nat) (b : List Str) : Prop where
  is : b = (l.take k).map fun t => t.drop p.length
  all : ∀ t ∈ l.take k, p.isPrefixOf t = true
theorem SpanInv.start (p : Str) (l : List Str) : SpanInv p l 0 [] := ⟨by simp, by simp⟩
theorem SpanInv.next {p : Str} {l : List Str} {k : Nat} {b : List Str} {t : Str} (h : SpanInv p l k b) (ht : l[k]? = some t) (hp : p.isPrefixOf t = true) : SpanInv p l (k + 1) (b ++ [t.drop p.length]) := by
  refine ⟨by rw [h.is, List.take_add_one, ht]; simp, fun u hu => ?_⟩
  rw [List.take_add_one, ht] at hu
  simp only [Option.toList_some, List.mem_append, List.mem_singleton] at hu
  rcases hu with hu | rfl
  · exact h.all u hu
  · exact hp
theorem SpanInv.nxt {p : Str} {l : List Str} {k m : Nat} {b : List Str} {t : Str} (h : SpanInv p l k b) (hm : p.length = m) (ht : l[k]? = some t) (hp : p.isPrefixOf t = true) : SpanInv p l (k + 1) (b ++ [t.drop m]) := by rw [← hm]; exact h.next ht hp
theorem takeWhile_take {α : Type} {p : α → Bool} {l : List α} {k : Nat} (h1 : ∀ t ∈ l.take k, p t = true) (h2 : ∀ t, l[k]? = some t → p t = false) : l.takeWhile p = l.take k ∧ l.dropWhile p = l.drop k := by
  have e : l = l.take k ++ l.drop k := (List.take_append_drop k l).symm
  have h3 : (l.drop k).takeWhile p = [] ∧ (l.drop k).dropWhile p = l.drop k := by
    cases hd : l.drop k with
    | nil => simp
    | cons t r =>
      have : l[k]? = some t := by rw [← List.head?_drop, hd]; rfl
      have := h2 t this
      simp [List.takeWhile_cons, List.dropWhile_cons, this]
  constructor
  · conv => lhs; rw [e]
    rw [List.takeWhile_append_of_pos h1, h3.1, List.append_nil]
  · conv => lhs; rw [e]
    rw [List.dropWhile_append_of_pos h1, h3.2]
theorem SpanInv.fin {p : Str} {l : List Str} {k : Nat} {b : List Str} (h : SpanInv p l k b) (he : l.length ≤ k ∨ ∃ t, l[k]? = some t ∧ p.isPrefixOf t = false) : b = stripP p l ∧ l.drop k = moreP p l := by
  have := takeWhile_take h.all (fun t ht => by
    rcases he with he | ⟨u, hu, hp⟩
    · rw [List.getElem?_eq_none he] at ht; cases ht
    · rw [hu] at ht; cases ht; exact hp)
  unfold stripP moreP
  rw [this.1, this.2]
  exact ⟨h.is, rfl⟩
theorem hp_le {p t : Str} {n : Nat} (h : p.isPrefixOf t = true) (hn : p.length = n) : n ≤ t.length := by
  have := congrArg List.length (prefix_drop h)
  rw [List.length_append] at this; omega
theorem pfx_len {s : Str} (hs : s ≠ []) : (pfx s).length = wdN s := by
  have := dec_le s hs
  unfold pfx wdN
  rw [List.length_take]; omega
end Go.Ml
namespace Go.Ik
open Go

def NR (w : World) (F : Nat → Prop) (t : List RNode) (xs : Ml.GS) : Prop := All2 (fun r x => r.fin = Ml.finB x.1 ∧ Sl Ml.encE w F r.e.val x.2) t xs
/-- blocks of an interval but one, but two -/
def Ivx (lo hi x : Nat) : Nat → Prop := fun b => lo ≤ b ∧ b < hi ∧ b + 1 ≠ x
def Ivy (lo hi x y : Nat) : Nat → Prop := fun b => lo ≤ b ∧ b < hi ∧ b + 1 ≠ x ∧ b + 1 ≠ y
theorem NR.keep {M : Nat → Prop} {w w' : World} {F : Nat → Prop} {t : List RNode} {xs : Ml.GS} (h : NR w F t xs) (hm : Mod M w w') (hF : ∀ b, F b → ¬ M b) : NR w' F t xs := All2.imp (fun r n ⟨h1, h2⟩ => ⟨h1, h2.keep hm hF⟩) h
theorem NR.mono {w : World} {F F' : Nat → Prop} {t : List RNode} {xs : Ml.GS} (h : NR w F t xs) (hF : ∀ b, F b → F' b) : NR w F' t xs := All2.imp (fun r n ⟨h1, h2⟩ => ⟨h1, h2.mono hF⟩) h
theorem NR.len {w : World} {F : Nat → Prop} {t : List RNode} {xs : Ml.GS} (h : NR w F t xs) : t.length = xs.length := (All2.get h).1
theorem NR.ext {w w' : World} {F : Nat → Prop} {t : List RNode} {xs : Ml.GS} (h : NR w F t xs) (hm : Ext w w') : NR w' F t xs := h.keep hm (fun _ _ x => x)
def NRy (w : World) (lo hi x y : Nat) (t : List RNode) (xs : Ml.GS) : Prop := NR w (Ivy lo hi x y) t xs
theorem NRy.ext {w w' : World} {lo hi x y : Nat} {t : List RNode} {xs : Ml.GS} (h : NRy w lo hi x y t xs) (hm : Ext w w') : NRy w' lo hi x y t xs := NR.ext h hm
theorem NRy.keepG {w w' : World} {lo hi x y g : Nat} {t : List RNode} {xs : Ml.GS} (h : NRy w lo hi x y t xs) (hm : Mod (Mg g) w w') (hg : g ≤ lo ∨ hi < g ∨ g = x ∨ g = y) : NRy w' lo hi x y t xs := NR.keep h hm fun b hb hx => by unfold Ivy Mg at *; omega
theorem NRy.keepG3 {w w' : World} {lo hi x y g g2 g3 : Nat} {t : List RNode} {xs : Ml.GS} (h : NRy w lo hi x y t xs) (hm : Mod (Mg3 g g2 g3) w w') (hg : (g ≤ lo ∨ hi < g ∨ g = x ∨ g = y) ∧ (g2 ≤ lo ∨ hi < g2 ∨ g2 = x ∨ g2 = y) ∧ (g3 ≤ lo ∨ hi < g3 ∨ g3 = x ∨ g3 = y)) : NRy w' lo hi x y t xs := NR.keep h hm fun b hb hx => by unfold Ivy Mg3 at *; omega
theorem NRy.re {w : World} {lo hi x x' y : Nat} {t : List RNode} {xs : Ml.GS} (h : NRy w lo hi x y t xs) (hx : x' = x ∨ hi < x') : NRy w lo hi x' y t xs := NR.mono h fun b hb => by unfold Ivy at *; omega
theorem NRy.add {w : World} {lo mid hi' hi x y y2 : Nat} {t t2 : List RNode} {xs xs2 : Ml.GS} (h : NRy w lo mid x y t xs) (h2 : NR w (Ivx hi' hi y2) t2 xs2) (hm : mid ≤ hi') (hx : x ≤ hi') (hl : lo ≤ hi') (hh : hi' ≤ hi) (hy : y2 = y ∨ hi' < y2) : NRy w lo hi x y2 (t ++ t2) (xs ++ xs2) :=
  All2.app (NR.mono h fun b hb => by unfold Ivy at *; omega) (NR.mono h2 fun b hb => by unfold Ivx at hb; unfold Ivy; omega)
theorem NRy.out {w : World} {lo hi hi2 x y : Nat} {t : List RNode} {xs : Ml.GS} (h : NRy w lo hi x y t xs) (hh : hi ≤ hi2) : NR w (Ivx lo hi2 y) t xs := NR.mono h fun b hb => by unfold Ivy at hb; unfold Ivx; omega
/-! three blocks that may be written -/
section
variable {g h k : Nat} {w w' : World}
theorem Bk.keepG3 {b : Nat} {cs : List Value} {e : TypeId} (x : Bk w b cs e) (hm : Mod (Mg3 g h k) w w') (hg : b + 1 ≠ g ∧ b + 1 ≠ h ∧ b + 1 ≠ k) : Bk w' b cs e := x.keep hm (by unfold Mg3; omega)
theorem Acc.keepG3 {α : Type} {enc : α → List Value} {e : TypeId} {sz gg : Nat} {v : Value} {l : List α} (x : Acc enc e sz w gg v l) (hm : Mod (Mg3 g h k) w w') (hg : gg = 0 ∨ (gg ≠ g ∧ gg ≠ h ∧ gg ≠ k)) : Acc enc e sz w' gg v l := x.keep hm fun b hb hx => by unfold Mg3 at hx; omega
theorem Sl.keepG3 {α : Type} {enc : α → List Value} {lo hi : Nat} {v : Value} {l : List α} (x : Sl enc w (Iv lo hi) v l) (hm : Mod (Mg3 g h k) w w') (hg : (g ≤ lo ∨ hi < g) ∧ (h ≤ lo ∨ hi < h) ∧ (k ≤ lo ∨ hi < k)) : Sl enc w' (Iv lo hi) v l := x.keep hm fun b hb hx => by unfold Iv Mg3 at *; omega
theorem Ext.thenG3_0 {w0 : World} (x : Ext w0 w) (hm : Mod (Mg3 g h k) w w') (hg : (g = 0 ∨ w0.heap.size < g) ∧ (h = 0 ∨ w0.heap.size < h) ∧ (k = 0 ∨ w0.heap.size < k)) : Ext w0 w' := x.then hm (fun i hi hl => by unfold Mg3 at hi; omega)
theorem Mod.thenG3_3 {a b c : Nat} {w0 : World} (x : Mod (Mg3 a b c) w0 w) (hm : Mod (Mg3 g h k) w w') (hg : (g = 0 ∨ w0.heap.size < g ∨ g = a ∨ g = b ∨ g = c) ∧ (h = 0 ∨ w0.heap.size < h ∨ h = a ∨ h = b ∨ h = c) ∧ (k = 0 ∨ w0.heap.size < k ∨ k = a ∨ k = b ∨ k = c)) : Mod (Mg3 a b c) w0 w' := x.then hm (fun i hi hl => by unfold Mg3 at *; omega)
end
theorem mapO_cast {w : World} {b : Nat} {m m' : List (Str × Int)} (h : MapO strV intV w b m) (e : m = m') : MapO strV intV w b m' := e ▸ h
theorem Q1.lookupHit {P : Program} {E : Env} {C : World → Prop} {d : Option Tmp} {ty : TypeId} {pos : String} {af : Array Edge} {gd : Option (Nat × Bool)} {α β : Type} [DecidableEq α] {key : α → Value} {val : β → Value} {t kt et : TypeId} {x y : Operand} {b : Nat} {m : List (α × β)} {a : α} {z : Value} {u : β} (hk : KeyOk P kt key) (ht : P.underlying t = some (.map kt et)) (hz : ∀ w, (zeroValue et).run P w = .ok z w) (hx : ev E x = some (.map (some b))) (hy : ev E y = some (key a)) (hm : ∀ w, C w → MapO key val w b m) (hu : asc m a = some u) :
    Q1 P ⟨d, .lookup t x y true, ty, pos, af, gd⟩ E C (.tuple #[val u, .bool true]) := by
  have h := Q1.lookupOk (d := d) (ty := ty) (pos := pos) (af := af) (gd := gd) (g := true) (n := 0) (by_ := 0) hk ht hz hx hy hm
  rw [hu] at h; exact h
theorem Q1.lookupMiss {P : Program} {E : Env} {C : World → Prop} {d : Option Tmp} {ty : TypeId} {pos : String} {af : Array Edge} {gd : Option (Nat × Bool)} {α β : Type} [DecidableEq α] {key : α → Value} {val : β → Value} {t kt et : TypeId} {x y : Operand} {b : Nat} {m : List (α × β)} {a : α} {z : Value} (hk : KeyOk P kt key) (ht : P.underlying t = some (.map kt et)) (hz : ∀ w, (zeroValue et).run P w = .ok z w) (hx : ev E x = some (.map (some b))) (hy : ev E y = some (key a)) (hm : ∀ w, C w → MapO key val w b m) (hu : asc m a = none) :
    Q1 P ⟨d, .lookup t x y true, ty, pos, af, gd⟩ E C (.tuple #[z, .bool false]) := by
  have h := Q1.lookupOk (d := d) (ty := ty) (pos := pos) (af := af) (gd := gd) (g := true) (n := 0) (by_ := 0) hk ht hz hx hy hm
  rw [hu] at h; exact h
/-- kept out of sight -/
structure Hid (p : Prop) : Prop where
  out : p
theorem apart_now {bB bG bM gN gNc n : Nat} (hap : Hid (bB ≠ bG ∧ bB ≠ bM ∧ bB + 1 ≠ gN ∧ bG + 1 ≠ gN ∧ bM ≠ bG ∧ bM + 1 ≠ gN)) (hgn : Hid (gNc = gN ∨ n < gNc)) (h1 : bB < n) (h2 : bG < n) (h4 : bM < n) : bB ≠ bG ∧ bB ≠ bM ∧ bB + 1 ≠ gNc ∧ bG + 1 ≠ gNc ∧ bM ≠ bG ∧ bM + 1 ≠ gNc := by
  have := hap.out; have := hgn.out; omega
theorem apart_b {bB bG bM g : Nat} (h : bB ≠ bG ∧ bB ≠ bM ∧ bB + 1 ≠ g ∧ bG + 1 ≠ g ∧ bM ≠ bG ∧ bM + 1 ≠ g) : bB + 1 ≠ bG + 1 ∧ bB + 1 ≠ bM + 1 ∧ bB + 1 ≠ g := by omega
theorem far_now {bG bM gN gNc n lo hi : Nat} (hra : Hid ((bG + 1 ≤ lo ∨ hi < bG + 1) ∧ (bM + 1 ≤ lo ∨ hi < bM + 1) ∧ (gN ≤ lo ∨ hi < gN))) (hgn : Hid (gNc = gN ∨ n < gNc)) (hhi : hi ≤ n) : (bG + 1 ≤ lo ∨ hi < bG + 1) ∧ (bM + 1 ≤ lo ∨ hi < bM + 1) ∧ (gNc ≤ lo ∨ hi < gNc) := by
  have h := hra.out
  refine ⟨h.1, h.2.1, ?_⟩
  rcases hgn.out with e | e
  · rw [e]; exact h.2.2
  · exact .inr (by omega)
theorem far_new {bG bM gNc g n : Nat} (hg : g = 0 ∨ n < g) (h2 : bG < n) (h4 : bM < n) (hn : g ≠ gNc ∨ gNc = 0) : (bG + 1 ≤ g - 1 ∨ g < bG + 1) ∧ (bM + 1 ≤ g - 1 ∨ g < bM + 1) ∧ (gNc ≤ g - 1 ∨ g < gNc) := by omega
theorem acc_far {bG bM gNc g n : Nat} (hg : g = 0 ∨ n < g) (h2 : bG < n) (h4 : bM < n) (hn : g ≠ gNc ∨ g = 0) : g = 0 ∨ (g ≠ bG + 1 ∧ g ≠ bM + 1 ∧ g ≠ gNc) := by omega
theorem mods_now {bG bM gN gNc n : Nat} (hgn : Hid (gNc = gN ∨ n < gNc)) : (bG + 1 = 0 ∨ n < bG + 1 ∨ bG + 1 = bG + 1 ∨ bG + 1 = bM + 1 ∨ bG + 1 = gN) ∧ (bM + 1 = 0 ∨ n < bM + 1 ∨ bM + 1 = bG + 1 ∨ bM + 1 = bM + 1 ∨ bM + 1 = gN) ∧ (gNc = 0 ∨ n < gNc ∨ gNc = bG + 1 ∨ gNc = bM + 1 ∨ gNc = gN) := by
  refine ⟨.inr (.inr (.inl rfl)), .inr (.inr (.inr (.inl rfl))), ?_⟩
  rcases hgn.out with e | e
  · exact .inr (.inr (.inr (.inr e)))
  · exact .inr (.inl e)
theorem grow_now {gN gNc gN2 n m : Nat} (hgn : Hid (gNc = gN ∨ n < gNc)) (h : gN2 = gNc ∨ m < gN2) (hnm : n ≤ m) : Hid (gN2 = gN ∨ n < gN2) := ⟨by
  rcases h with e | e
  · rw [e]; exact hgn.out
  · exact .inr (by omega)⟩
end Go.Ik
/-
  A graph as Build answers it.
-/
set_option linter.unusedVariables false
set_option linter.unusedSimpArgs false
namespace Go.Ml
open Go.Ik

theorem encT_len : ∀ rs : List Nat, (encT rs).length ≤ 4 * rs.length
  | [] => by simp [encT]
  | c :: rs => by
    have h := encT_len rs
    have h4 := encL_len4 c
    have e : encT (c :: rs) = encL c ++ encT rs := rfl
    rw [e, List.length_append, List.length_cons]; omega
theorem word_short {w : Str} (h : word w = true) : w.length ≤ 48 := by
  unfold word at h
  rw [Bool.and_eq_true, decide_eq_true_eq, decide_eq_true_eq] at h
  have hf : Fine w := by
    intro hm
    unfold lenT at h; rw [if_pos hm] at h; omega
  have hl := lenT_fine hf
  have he := encT_len (runes w)
  rw [(encT_runes w hf).1] at he
  omega
theorem sum_le {l : List Str} {m : Nat} (h : ∀ x ∈ l, x.length ≤ m) : sumLen l ≤ l.length * m := by
  induction l with
  | nil => simp [sumLen]
  | cons a l ih =>
    rw [sumLen_cons, List.length_cons, Nat.add_mul]
    have := h a (by simp)
    have := ih fun x hx => h x (by simp [hx])
    omega
theorem good_sum {l : List Str} (h : goodL l = 0) : l.length ≤ 60 ∧ sumLen l ≤ 2880 := by
  obtain ⟨h1, h2, _⟩ := good_words h
  have := sum_le (l := l) (m := 48) fun x hx => word_short (h2 x hx)
  omega
/-- nodes of words as they are built -/
def graphB (words : List Str) : GS := if words = [] then [([], [])] else graphM words
def gnodes (words : List Str) : List GN := if goodL words = 0 then gnOf (graphB words) else []
theorem gnodes_no {words : List Str} (h : goodL words ≠ 0) : gnodes words = [] := by unfold gnodes; rw [if_neg h]
theorem gnodes_yes {words : List Str} (h : goodL words = 0) : gnodes words = gnOf (graphB words) := by unfold gnodes; rw [if_pos h]
theorem gnodes_nil {words : List Str} (h : words = []) : gnodes words = [(false, [])] := by subst h; decide
theorem graphM_len {words : List Str} (h : goodL words = 0) : (graphM words).length ≤ 2881 := by
  have h1 := addM_len 13 [] words (good_deep h).1
  have h2 := (good_sum h).2
  unfold graphM
  simp only [List.length_nil] at h1
  omega
theorem all2_len {α β : Type} {R : α → β → Prop} {a : List α} {b : List β} (h : All2 R a b) : a.length = b.length := (All2.get h).1
theorem groups_count : ∀ (n : Nat) (l : List Str), l.length ≤ n → (groups l).length ≤ l.length
  | _, [], _ => by simp [groups_nil]
  | 0, _ :: _, h => by simp at h
  | n + 1, s :: r, h => by
    rw [groups_cons]
    have hm := more_len s r
    have := groups_count n (moreP (pfx s) (s :: r)) (by simp only [List.length_cons] at h; omega)
    simp only [List.length_cons]; omega
theorem strip_le (p : Str) (l : List Str) : (stripP p l).length ≤ l.length := by have := strip_len p l; omega
theorem groups_sub : ∀ (n : Nat) (l : List Str), l.length ≤ n → ∀ g ∈ groups l, g.2.length ≤ l.length
  | _, [], _, g, hg => by simp [groups_nil] at hg
  | 0, _ :: _, h, _, _ => by simp at h
  | n + 1, s :: r, h, g, hg => by
    rw [groups_cons] at hg
    have hm := more_len s r
    rcases List.mem_cons.1 hg with rfl | hg
    · exact strip_le _ _
    · have := groups_sub n (moreP (pfx s) (s :: r)) (by simp only [List.length_cons] at h; omega) g hg
      simp only [List.length_cons]; omega
theorem edgesM_names {add : GS → List Str → GS × Nat} {L : Nat} : ∀ (gs : List (Nat × List Str)) (s : GS), (∀ g ∈ gs, ∀ s, (∀ y ∈ s, y.1.length ≤ L) → ∀ y ∈ (add s g.2).1, y.1.length ≤ L) → (∀ y ∈ s, y.1.length ≤ L) → ∀ y ∈ (edgesM add s gs).1, y.1.length ≤ L
  | [], s, _, hs => hs
  | g :: gs, s, h, hs => by
    show ∀ y ∈ (edgesM add (add s g.2).1 gs).1, _
    exact edgesM_names gs _ (fun g' hg' => h g' (by simp [hg'])) (h g (by simp) s hs)
theorem addM_short {L : Nat} : ∀ (f : Nat) (s : GS) (rests : List Str), (∀ y ∈ s, y.1.length ≤ L) → rests.length ≤ L → ∀ y ∈ (addM f s rests).1, y.1.length ≤ L
  | 0, s, rests, hs, _ => hs
  | f + 1, s, rests, hs, hr => by
    unfold addM
    cases hi : s.findIdx? fun x => x.1 == rests with
    | some i => exact hs
    | none =>
      have h1 := edgesM_names (add := addM f) (L := L) (groups (dropE rests)) (s ++ [(rests, [])]) (fun g hgm s' hs' => addM_short f s' g.2 hs' (by
        have := groups_sub _ (dropE rests) (Nat.le_refl _) g hgm
        have := dropE_len rests
        omega)) (fun y hy => by
          rcases List.mem_append.1 hy with hy | hy
          · exact hs y hy
          · simp only [List.mem_singleton] at hy; subst hy; exact hr)
      intro y hy
      rcases List.mem_or_eq_of_mem_set hy with hy | rfl
      · exact h1 y hy
      · exact hr
theorem gok_of {words : List Str} (h : goodL words = 0) : GOk (gnodes words) (graphB words) words := by
  rw [gnodes_yes h]
  unfold graphB
  split
  · rename_i he; subst he; exact GOk.empty
  · rename_i he
    have hw := graphM_ok (good_deep h).2 (good_deep h).1 he
    have hl := graphM_len h
    refine GOk.of hw (by omega) fun y hy => ?_
    have hc := all2_len (hw.node y hy).corr
    have hg := groups_count _ (dropE y.1) (Nat.le_refl _)
    have hd := dropE_len y.1
    have hyl : y.1.length ≤ 60 := addM_short 13 [] words (by simp) (good_sum h).1 y hy
    omega
end Go.Ml
namespace Go.Ik
open Go

theorem nr_rel {w : World} {F : Nat → Prop} : ∀ {t : List RNode} {xs : Ml.GS}, NR w F t xs → NRel w F t (gnOf xs)
  | _, _, .nil => .nil
  | _, _, .cons h r => .cons h (nr_rel r)
theorem gr_built {w : World} {bG gN lo n m : Nat} {vN : Value} {e nt : TypeId} {t : List RNode} {xs : Ml.GS} (hb : Bk w bG [vN] e) (hN : Acc encN nt 2 w gN vN t) (hR : NR w (Ivx n m gN) t xs) (h1 : lo ≤ bG) (h2 : lo ≤ n) (hg : gN = 0 ∨ lo < gN) (hm : m ≤ w.heap.size) (hne : xs ≠ []) :
    Gr 0 w lo w.heap.size (ptr bG 0) (gnOf xs) :=
  .inr ⟨bG, vN, t, rfl, by simpa [gnOf] using hne, ⟨h1, hb.lt, hb.row⟩, hN.fresh hg, nr_rel (NR.mono hR fun b hb => by unfold Ivx at hb; unfold Iv; omega)⟩
theorem gr_one {w : World} {bG lo lo' hi' : Nat} {vN : Value} {e : TypeId} (hb : Bk w bG [vN] e) (hs : Sl encN w (Iv lo' hi') vN [RNode.mk false (SH.mk none 0 0)]) (h1 : lo ≤ bG) (h2 : lo ≤ lo') (h3 : hi' ≤ w.heap.size) : Gr 0 w lo w.heap.size (ptr bG 0) [(false, [])] :=
  .inr ⟨bG, vN, _, rfl, by simp, ⟨h1, hb.lt, hb.row⟩, hs.iv h2 h3, .cons ⟨rfl, Sl.nil⟩ .nil⟩
end Go.Ik
/-
  Check sums, numbers laid into bytes, images of graphs, plainly.
-/
set_option linter.unusedVariables false
set_option linter.unusedSimpArgs false
namespace Go.Ml
open Go.Ik

def crcS (c : Nat) : Nat := if c % 2 = 1 then (c / 2) ^^^ 3988292384 else c / 2
def crcK : Nat → Nat → Nat
  | 0, c => c
  | k + 1, c => crcS (crcK k c)
def turnN (c b : Nat) : Nat := crcK 8 (c ^^^ b)
def crcF (c : Nat) (l : List UInt8) : Nat := l.foldl (fun c x => turnN c x.toNat) c
def sumF (c : Nat) (l : List UInt8) : Nat := 4294967295 - crcF (4294967295 - c) l
def sumN (l : List UInt8) : Nat := sumF 0 l
theorem crcS_lt {c : Nat} (h : c < 4294967296) : crcS c < 4294967296 := by
  unfold crcS
  split
  · exact xor_lt32 (by omega) (by omega)
  · omega
theorem crcK_lt {c : Nat} (h : c < 4294967296) : ∀ k, crcK k c < 4294967296
  | 0 => h
  | k + 1 => crcS_lt (crcK_lt h k)
theorem turnN_lt {c b : Nat} (h : c < 4294967296) (hb : b < 256) : turnN c b < 4294967296 := crcK_lt (xor_lt32 h (by omega)) 8
theorem turnN_ltE (c : Nat) (b : UInt8) (h : c < 4294967296) : turnN c b.toNat < 4294967296 := turnN_lt h b.toNat_lt
theorem crcF_lt : ∀ (l : List UInt8) {c : Nat}, c < 4294967296 → crcF c l < 4294967296
  | [], c, h => h
  | x :: l, c, h => crcF_lt l (turnN_lt h x.toNat_lt)
theorem crcF_take {c : Nat} {l : List UInt8} {k : Nat} {x : UInt8} (hx : l[k]? = some x) : crcF c (l.take (k + 1)) = turnN (crcF c (l.take k)) x.toNat := by
  unfold crcF
  rw [List.take_add_one, hx, List.foldl_append]; rfl
theorem sumF_lt (c : Nat) (l : List UInt8) : sumF c l < 4294967296 := by unfold sumF; omega
theorem crc_one {c c0 : Nat} {k : Nat} (h : c = crcK k c0) (h1 : c % 2 = 1) : (c / 2) ^^^ 3988292384 = crcK (k + 1) c0 := by
  show _ = crcS (crcK k c0)
  rw [← h]; unfold crcS; rw [if_pos h1]
theorem crc_nil {c c0 : Nat} {k : Nat} (h : c = crcK k c0) (h1 : ¬ c % 2 = 1) : c / 2 = crcK (k + 1) c0 := by
  show _ = crcS (crcK k c0)
  rw [← h]; unfold crcS; rw [if_neg h1]
theorem xor_half (a b : Nat) : (a ^^^ b) / 2 = (a / 2) ^^^ (b / 2) := by
  have := Nat.shiftRight_xor_distrib (a := a) (b := b) (i := 1)
  simpa [Nat.shiftRight_eq_div_pow] using this
theorem xor_low (a b : Nat) : (a ^^^ b) % 2 = (a % 2 + b % 2) % 2 := by
  have := Nat.xor_mod_two_pow (a := a) (b := b) (n := 1)
  simp only [Nat.pow_one] at this
  rw [this]
  rcases Nat.mod_two_eq_zero_or_one a with h | h <;> rcases Nat.mod_two_eq_zero_or_one b with h' | h' <;> rw [h, h'] <;> rfl
/-- the document's sum, bit by bit -/
def RefK (c0 b : Nat) (k c : Nat) : Prop := crcK k (c0 ^^^ b) = c ^^^ (b / 2 ^ k) ∧ c < 4294967296
theorem RefK.start {c0 b : Nat} (h : c0 < 4294967296) : RefK c0 b 0 c0 := ⟨by simp [crcK], h⟩
theorem refK_step {c0 b k c : Nat} (h : RefK c0 b k c) (hb : b < 256) : crcK (k + 1) (c0 ^^^ b) = (if c % 2 ≠ b / 2 ^ k % 2 then (c / 2) ^^^ 3988292384 else c / 2) ^^^ (b / 2 ^ (k + 1)) := by
  show crcS (crcK k (c0 ^^^ b)) = _
  rw [h.1]
  unfold crcS
  rw [xor_low, xor_half, Nat.pow_succ, ← Nat.div_div_eq_div_mul]
  by_cases hc : c % 2 = b / 2 ^ k % 2
  · rw [if_neg (by omega), if_neg (by omega)]
  · rw [if_pos (by omega), if_pos hc, Nat.xor_assoc, Nat.xor_comm (b / 2 ^ k / 2), ← Nat.xor_assoc]
theorem RefK.one {c0 b k c : Nat} (h : RefK c0 b k c) (hb : b < 256) (hc : c % 2 ≠ b / 2 ^ k % 2) : RefK c0 b (k + 1) ((c / 2) ^^^ 3988292384) := ⟨by rw [refK_step h hb, if_pos hc], xor_lt32 (by have := h.2; omega) (by omega)⟩
theorem RefK.nil {c0 b k c : Nat} (h : RefK c0 b k c) (hb : b < 256) (hc : c % 2 = b / 2 ^ k % 2) : RefK c0 b (k + 1) (c / 2) := ⟨by rw [refK_step h hb, if_neg (by omega)], by have := h.2; omega⟩
theorem RefK.fin {c0 b c : Nat} (h : RefK c0 b 8 c) (hb : b < 256) : c = turnN c0 b := by
  have := h.1
  rw [Nat.div_eq_of_lt (by omega : b < 2 ^ 8), Nat.xor_zero] at this
  exact this.symm
/-! numbers -/
def putN (n : Int) (size : Nat) : List UInt8 := (List.range size).map fun i => byN (IntKind.u64.wrap n / 2 ^ (8 * (size - 1 - i)))
theorem putN_len (n : Int) (size : Nat) : (putN n size).length = size := by simp [putN]
theorem putN_take {n : Int} {size i : Nat} {b out : List UInt8} {x : UInt8} (h : out = b ++ (putN n size).take i) (hi : i < size) (hx : x = byN (IntKind.u64.wrap n / 2 ^ (8 * (size - 1 - i)))) : out ++ [x] = b ++ (putN n size).take (i + 1) := by
  rw [h, List.append_assoc]
  congr 1
  rw [List.take_add_one]
  congr 1
  unfold putN
  rw [List.getElem?_map, List.getElem?_range hi, hx]; rfl
def numN (l : List UInt8) : Nat := l.foldl (fun n x => n * 256 + x.toNat) 0
theorem numN_lt : ∀ (l : List UInt8) (n : Nat), l.foldl (fun n x => n * 256 + x.toNat) n < (n + 1) * 256 ^ l.length
  | [], n => by simp
  | x :: l, n => by
    have := numN_lt l (n * 256 + x.toNat)
    have hx := x.toNat_lt
    rw [List.foldl_cons, List.length_cons, Nat.pow_succ]
    calc _ < (n * 256 + x.toNat + 1) * 256 ^ l.length := this
      _ ≤ ((n + 1) * 256) * 256 ^ l.length := Nat.mul_le_mul_right _ (by omega)
      _ = _ := by rw [Nat.mul_assoc, Nat.mul_comm 256]
theorem numN_take {l : List UInt8} {k : Nat} {x : UInt8} (hx : l[k]? = some x) : numN (l.take (k + 1)) = numN (l.take k) * 256 + x.toNat := by
  unfold numN
  rw [List.take_add_one, hx, List.foldl_append]; rfl
/-- may a number be read? -/
def numOk (b : List UInt8) (at_ size : Int) : Bool := decide (1 ≤ size ∧ size ≤ 8 ∧ 0 ≤ at_ ∧ at_ ≤ b.length ∧ size ≤ b.length - at_)
def numV (b : List UInt8) (at_ size : Int) : Int := if numOk b at_ size = true then (numN ((b.drop at_.toNat).take size.toNat) : Int) else 0
theorem numV_no {b : List UInt8} {at_ size : Int} (h : ¬ (1 ≤ size ∧ size ≤ 8 ∧ 0 ≤ at_ ∧ at_ ≤ b.length ∧ size ≤ b.length - at_)) : (0 : Int) = numV b at_ size ∧ false = numOk b at_ size := by
  have : numOk b at_ size = false := decide_eq_false h
  unfold numV; rw [this]; exact ⟨rfl, rfl⟩
theorem numV_yes {b : List UInt8} {at_ size : Int} (h : 1 ≤ size ∧ size ≤ 8 ∧ 0 ≤ at_ ∧ at_ ≤ b.length ∧ size ≤ b.length - at_) : (numN ((b.drop at_.toNat).take size.toNat) : Int) = numV b at_ size ∧ true = numOk b at_ size := by
  have : numOk b at_ size = true := decide_eq_true h
  unfold numV; rw [this]; exact ⟨rfl, rfl⟩
theorem numN_pow {l : List UInt8} : numN l < 256 ^ l.length := by
  have := numN_lt l 0
  unfold numN; simpa using this
/-! images -/
def edgeB (e : Ed) : List UInt8 := putN e.rune 4 ++ putN e.to 2
def nodeB (x : GN) : List UInt8 := putN (if x.1 = true then 1 else 0) 1 ++ putN x.2.length 2 ++ x.2.flatMap edgeB
def bodyB (N : List GN) : List UInt8 := [73, 78, 75, 49] ++ putN N.length 2 ++ N.flatMap nodeB
def sealB (b : List UInt8) : List UInt8 := b ++ putN (sumN b) 4
def encB_ (N : List GN) : List UInt8 := sealB (bodyB N)
end Go.Ml
namespace Go.Ml
open Go.Ik
theorem put_down {n i : Int} {size : Nat} {b out : List UInt8} (h : out = b ++ (putN n size).take ((size : Int) - 1 - i).toNat) (h0 : 0 ≤ i) (hi : i < (size : Int)) : out ++ [byN (IntKind.u64.wrap n / 2 ^ (8 * i).toNat)] = b ++ (putN n size).take ((size : Int) - 1 - (i - 1)).toNat := by
  have := putN_take (x := byN (IntKind.u64.wrap n / 2 ^ (8 * i).toNat)) h (by omega) (by congr 3; omega)
  rw [this]
  congr 2; omega
theorem num_small {l : List UInt8} {i : Nat} (h : i ≤ 4) : numN (l.take i) < 4294967296 := by
  have h1 := numN_pow (l := l.take i)
  have h2 : (l.take i).length ≤ 4 := by rw [List.length_take]; omega
  have h3 : 256 ^ (l.take i).length ≤ 256 ^ 4 := Nat.pow_le_pow_right (by omega) h2
  omega
theorem num_step {at_ : Int} {b : List UInt8} {m i : Nat} {x : UInt8} (h : m = numN ((b.drop at_.toNat).take i)) (hx : b[(at_ + (i : Int)).toNat]? = some x) (h0 : 0 ≤ at_) : m * 256 + x.toNat = numN ((b.drop at_.toNat).take (i + 1)) := by
  rw [h]
  symm
  refine numN_take ?_
  rw [List.getElem?_drop, ← hx]
  congr 1; omega
theorem numV_rng (b : List UInt8) (at_ : Int) (size : Nat) : 0 ≤ numV b at_ size := by unfold numV; split <;> omega
end Go.Ml
namespace Go.Ml
open Go.Ik
theorem nodeAt_some {g : List GN} {i : Nat} (h : i < g.length) : g[i]? = some (nodeAt g (i : Int)) := by
  rw [nodeAt_yes (by omega) (List.getElem?_eq_getElem h)]
  exact List.getElem?_eq_getElem h
theorem enc_start (g : List GN) : [73, 78, 75, 49] ++ putN (g.length : Int) 2 ++ (g.drop 0).flatMap nodeB = bodyB g := rfl
theorem enc_node {g : List GN} {B out : List UInt8} {i : Nat} {x : GN} {f : Int} (h : out ++ (g.drop i).flatMap nodeB = B) (hx : g[i]? = some x) (hf : f = if x.1 = true then 1 else 0) : out ++ putN f 1 ++ putN (x.2.length : Int) 2 ++ ((x.2.drop 0).flatMap edgeB ++ (g.drop (i + 1)).flatMap nodeB) = B := by
  rw [← h, drop_el' hx, List.flatMap_cons, hf]
  unfold nodeB
  simp
theorem enc_edge {B out : List UInt8} {es : List Ed} {R : List UInt8} {k : Nat} {e : Ed} (h : out ++ ((es.drop k).flatMap edgeB ++ R) = B) (hx : es[k]? = some e) : out ++ putN e.rune 4 ++ putN e.to 2 ++ ((es.drop (k + 1)).flatMap edgeB ++ R) = B := by
  rw [← h, drop_el' hx, List.flatMap_cons]
  unfold edgeB
  simp
theorem enc_next {B out : List UInt8} {es : List Ed} {R : List UInt8} {k : Nat} (h : out ++ ((es.drop k).flatMap edgeB ++ R) = B) (hk : es.length ≤ k) : out ++ R = B := by
  rw [List.drop_of_length_le hk] at h
  simpa using h
theorem enc_len {B out R : List UInt8} (h : out ++ R = B) : out.length ≤ B.length := by rw [← h, List.length_append]; omega
theorem enc_len4 {B out R : List UInt8} {es : List Ed} {k : Nat} {e : Ed} (h : out ++ ((es.drop k).flatMap edgeB ++ R) = B) (hx : es[k]? = some e) : out.length + 6 ≤ B.length := by
  have := enc_len (enc_edge h hx)
  simp only [List.length_append, putN_len] at this; omega
theorem enc_lenN {g : List GN} {B out : List UInt8} {i : Nat} {x : GN} (h : out ++ (g.drop i).flatMap nodeB = B) (hx : g[i]? = some x) : out.length + 3 ≤ B.length := by
  have := enc_len (enc_node (f := if x.1 = true then 1 else 0) h hx rfl)
  simp only [List.length_append, putN_len] at this; omega
theorem enc_fin {g : List GN} {out : List UInt8} {i : Nat} (h : out ++ (g.drop i).flatMap nodeB = bodyB g) (hi : g.length ≤ i) : out = bodyB g := by
  rw [List.drop_of_length_le hi] at h
  simpa using h
def encA (g : List GN) : List UInt8 := if g.isEmpty = true then [] else encB_ g
theorem encA_no {g : List GN} (h : g = []) : encA g = [] := by subst h; rfl
theorem encA_yes {g : List GN} (h : g ≠ []) : encA g = encB_ g := by
  unfold encA; rw [if_neg]; cases g <;> simp at *
def errA (g : List GN) : Int := if g.isEmpty = true then 2 else 0
theorem errA_yes {g : List GN} (h : g ≠ []) : (0 : Int) = errA g := by
  unfold errA; rw [if_neg]; cases g <;> simp at *
def imgM (words : List Str) : List UInt8 := if goodL words = 0 then encB_ (gnodes words) else []
theorem imgM_no {words : List Str} (h : goodL words ≠ 0) : ([] : List UInt8) = imgM words := by unfold imgM; rw [if_neg h]
theorem gnOf_get {g : GS} {i : Nat} {x : List Str × List Ed} (h : g[i]? = some x) : (gnOf g)[i]? = some (finB x.1, x.2) := by unfold gnOf; rw [List.getElem?_map, h]; rfl
end Go.Ml
namespace Go.Ml
open Go.Ik
theorem edges_flat (es : List Ed) : (es.flatMap edgeB).length = 6 * es.length := by
  induction es with
  | nil => rfl
  | cons e es ih => rw [List.flatMap_cons, List.length_append, ih, List.length_cons]; unfold edgeB; rw [List.length_append, putN_len, putN_len]; omega
def edgeCount (N : List GN) : Nat := (N.map fun x => x.2.length).sum
theorem nodes_flat (N : List GN) : (N.flatMap nodeB).length = 3 * N.length + 6 * edgeCount N := by
  unfold edgeCount
  induction N with
  | nil => rfl
  | cons x N ih =>
    rw [List.flatMap_cons, List.length_append, ih, List.length_cons, List.map_cons, List.sum_cons]
    unfold nodeB
    rw [List.length_append, List.length_append, putN_len, putN_len, edges_flat]; omega
theorem bodyB_len (N : List GN) : (bodyB N).length = 6 + 3 * N.length + 6 * edgeCount N := by
  unfold bodyB
  rw [List.length_append, List.length_append, putN_len, nodes_flat]
  simp only [List.length_cons, List.length_nil]; omega
theorem encB_len (N : List GN) : (encB_ N).length = 10 + 3 * N.length + 6 * edgeCount N := by
  unfold encB_ sealB
  rw [List.length_append, putN_len, bodyB_len]; omega
theorem edgeCount_le {N : List GN} {m : Nat} (h : ∀ x ∈ N, x.2.length ≤ m) : edgeCount N ≤ N.length * m := by
  unfold edgeCount
  induction N with
  | nil => simp
  | cons x N ih =>
    have h1 := h x (by simp)
    have h2 := ih fun y hy => h y (by simp [hy])
    rw [List.map_cons, List.sum_cons, List.length_cons, Nat.succ_mul]; omega
end Go.Ml
namespace Go.Ml
open Go.Ik
theorem enc_nodeT {g : GS} {out : List UInt8} {i : Nat} {gx : List Str × List Ed} (h : out ++ ((gnOf g).drop i).flatMap nodeB = bodyB (gnOf g)) (hx : g[i]? = some gx) (hb : (nodeAt (gnOf g) (i : Int)).1 = true) : out ++ putN 1 1 ++ putN (gx.2.length : Int) 2 ++ ((gx.2.drop 0).flatMap edgeB ++ ((gnOf g).drop (i + 1)).flatMap nodeB) = bodyB (gnOf g) := by
  rw [gnOf_at hx] at hb
  exact enc_node (x := (finB gx.1, gx.2)) h (gnOf_get hx) (by rw [if_pos hb])
theorem enc_nodeF {g : GS} {out : List UInt8} {i : Nat} {gx : List Str × List Ed} (h : out ++ ((gnOf g).drop i).flatMap nodeB = bodyB (gnOf g)) (hx : g[i]? = some gx) (hb : (nodeAt (gnOf g) (i : Int)).1 = false) : out ++ putN 0 1 ++ putN (gx.2.length : Int) 2 ++ ((gx.2.drop 0).flatMap edgeB ++ ((gnOf g).drop (i + 1)).flatMap nodeB) = bodyB (gnOf g) := by
  rw [gnOf_at hx] at hb
  have hb' : finB gx.1 = false := hb
  exact enc_node (x := (finB gx.1, gx.2)) h (gnOf_get hx) (by rw [if_neg (by simp [hb'])])
end Go.Ml
/-
  A graph's builder as what is held.
-/
set_option linter.unusedVariables false
set_option linter.unusedSimpArgs false
namespace Go.Ik
open Go Go.Ml

def nrR {R : Nat → Prop} (t : List RNode) (xs : GS) : Res R := ⟨fun F w => NR w F t xs, fun h hm hF _ => NR.keep h hm hF⟩
abbrev No : Nat → Prop := fun _ => False
/-- the builder in block 'bB': the graph, what is found by name, the nodes -/
def bldR (bT gT nT : TypeId) (bB : Nat) (s : GS) (nds : List RNode) : Res No :=
  exR fun x : Nat × Nat × Value => boxR [bkR bB [ptr x.1 0, .map (some x.2.1)] bT, bkR x.1 [x.2.2] gT, mapR strV intV x.2.1 (mapK s), accR encN nT 2 x.2.2 nds]
theorem sep_pair {R : Nat → Prop} {A B : Res R} {F : Nat → Prop} {w : World} (h : (boxR [A, B]).p F w) : ∃ F1 F2, A.p F1 w ∧ B.p F2 w ∧ (∀ b, F1 b → F b) ∧ (∀ b, F2 b → F b) := by
  obtain ⟨Fs, h1, h2, h3⟩ := h
  exact ⟨Fs 0, Fs 1, h1 0 A rfl, h1 1 B rfl, fun b hb => (h2 0 b hb).1.1, fun b hb => (h2 1 b hb).1.1⟩
theorem nr_app {t t2 : List RNode} {xs xs2 : GS} {F : Nat → Prop} {w : World} {R : Nat → Prop} (h : (boxR (R := R) [nrR t xs, nrR t2 xs2]).p F w) : (nrR (R := R) (t ++ t2) (xs ++ xs2)).p F w := by
  obtain ⟨F1, F2, h1, h2, h3, h4⟩ := sep_pair h
  exact All2.app (NR.mono h1 h3) (NR.mono h2 h4)
theorem acc_sl {α : Type} {enc : α → List Value} {e : TypeId} {sz : Nat} {v : Value} {l : List α} {F : Nat → Prop} {w : World} {R : Nat → Prop} (h : (accR (R := R) enc e sz v l).p F w) : Sl enc w F v l := by
  obtain ⟨g, h1, h2⟩ := h
  refine h1.sl.mono fun b hb => ?_
  rcases h1 with ⟨_, _, h4⟩ | ⟨b', cap, cur, h0, _⟩
  · unfold Iv at hb; omega
  · exact h2 b (by unfold Iv at hb; omega)
theorem slR_one {α : Type} {enc : α → List Value} {v : Value} {l : List α} {F : Nat → Prop} {w : World} {R : Nat → Prop} (h : (slR (R := R) enc [(v, l)]).p F w) : Sl enc w (fun b => F b ∨ R b) v l := h (v, l) (List.mem_singleton_self _)
theorem slR_no {α : Type} {enc : α → List Value} {v : Value} {l : List α} {F : Nat → Prop} {w : World} (h : (slR (R := No) enc [(v, l)]).p F w) : Sl enc w F v l := (slR_one h).mono fun b hb => hb.resolve_right id
theorem nr_len {R : Nat → Prop} {A : Res R} {t : List RNode} {xs : GS} {F : Nat → Prop} {w : World} (h : (boxR [A, nrR t xs]).p F w) : t.length = xs.length := by
  obtain ⟨F1, F2, h1, h2, h3, h4⟩ := sep_pair h
  exact NR.len h2
theorem nr_cons {e : TypeId} {v : Value} {es : List Ed} {t : List RNode} {xs : GS} {x : List Str} {r : RNode} {F : Nat → Prop} {w : World} (hv : v = r.e.val) (hf : r.fin = finB x) {R : Nat → Prop} (h : (boxR (R := R) [accR encE e 2 v es, nrR t xs]).p F w) : (nrR (R := R) (r :: t) ((x, es) :: xs)).p F w := by
  obtain ⟨F1, F2, h1, h2, h3, h4⟩ := sep_pair h
  exact .cons ⟨hf, hv ▸ (acc_sl h1).mono h3⟩ (NR.mono h2 h4)
theorem nr_cons0 {t : List RNode} {xs : GS} {x : List Str} {r : RNode} {F : Nat → Prop} {w : World} (hv : r.e.val = .slice none 0 0) (hf : r.fin = finB x) {R : Nat → Prop} (h : (nrR (R := R) t xs).p F w) : (nrR (R := R) (r :: t) ((x, []) :: xs)).p F w :=
  .cons ⟨hf, hv ▸ Sl.nil⟩ h
end Go.Ik
namespace Go.Ik
open Go Go.Ml
theorem St.gr {w0 w : World} {bG : Nat} {gT nT : TypeId} {vN : Value} {t : List RNode} {xs : GS} (h : St No No w0 w [bkR bG [vN] gT, accR encN nT 2 vN t, nrR t xs]) (hne : xs ≠ []) : Gr 0 w w0.heap.size w.heap.size (ptr bG 0) (gnOf xs) := by
  obtain ⟨F, h1, h2, _⟩ := h.act (i := 0) rfl
  have hs := h.accSl (i := 1) rfl
  obtain ⟨F3, h3, h4, _⟩ := h.act (i := 2) rfl
  have hb := h2 bG h1.2
  exact .inr ⟨bG, vN, t, rfl, by simpa [gnOf] using hne, ⟨hb.1.1.resolve_left id, hb.2, h1.1.row⟩, hs, nr_rel (NR.mono h3 fun b hb => ⟨(h4 b hb).1.1.resolve_left id, (h4 b hb).2⟩)⟩
theorem St.gr1 {w0 w : World} {bG : Nat} {gT : TypeId} {vN : Value} (h : St No No w0 w [bkR bG [vN] gT, slR encN [(vN, [RNode.mk false (SH.mk none 0 0)])]]) : Gr 0 w w0.heap.size w.heap.size (ptr bG 0) [(false, [])] := by
  obtain ⟨F, h1, h2, _⟩ := h.act (i := 0) rfl
  have hs := h.slOut (i := 1) (k := 0) rfl rfl
  have hb := h2 bG h1.2
  exact .inr ⟨bG, vN, _, rfl, by simp, ⟨hb.1.1.resolve_left id, hb.2, h1.1.row⟩, hs, .cons ⟨rfl, Sl.nil⟩ .nil⟩
theorem far_iv {F0 F : Nat → Prop} {w0 : World} (h : ∀ b, F b → ((False ∨ w0.heap.size ≤ b) ∧ ¬ False) ∧ F0 b) : ∀ b, Iv 0 w0.heap.size b → ¬ F b := fun b hb hf => by
  have := (h b hf).1.1.resolve_left id
  unfold Iv at hb; omega
end Go.Ik
