/-
  Chapter 8: names of nodes as keys of a map, ways along runes; no program in sight.
-/
import Derived.Test.YtajedfbogchkcaaPlGraph
import Derived.Test.YtajedfbogchkcaaIk9
import Derived.Lib.Join
set_option linter.unusedVariables false
set_option linter.unusedSimpArgs false
namespace Go.Ml
open Go.Ik

/-! names joined by a byte that no text has -/
def NoFF (s : Str) : Prop := (255 : UInt8) ∉ s
theorem by8_ne {n : Nat} (h : n % 256 ≠ 255) : by8 n ≠ 255 := fun e => by
  have := congrArg UInt8.toNat e
  rw [by8_toNat] at this
  exact h this
theorem encL_noff {c : Nat} (h : goodN c) : NoFF (encL c) := by
  obtain ⟨h1, h2, h3⟩ := h
  unfold NoFF encL
  repeat' split
  all_goals simp only [List.mem_cons, List.not_mem_nil, or_false, not_or]
  · exact fun e => by8_ne (by omega) e.symm
  · exact ⟨fun e => by8_ne (by omega) e.symm, fun e => by8_ne (by omega) e.symm⟩
  · exact ⟨fun e => by8_ne (by omega) e.symm, fun e => by8_ne (by omega) e.symm, fun e => by8_ne (by omega) e.symm⟩
  · exact ⟨fun e => by8_ne (by omega) e.symm, fun e => by8_ne (by omega) e.symm, fun e => by8_ne (by omega) e.symm, fun e => by8_ne (by omega) e.symm⟩
theorem fine_noff : ∀ s, Fine s → NoFF s :=
  fine_ind (by simp [NoFF]) fun c t hc _ ih => by
    have := encL_noff hc
    unfold NoFF at *
    rw [List.mem_append, not_or]; exact ⟨this, ih⟩
def joinS (l : List Str) : Str := Lib.join l [255]
theorem joinS_cons (x : Str) (r : List Str) : joinS (x :: r) = x ++ Lib.joinTail [255] r := Lib.join_cons x r [255]
theorem tail_cons (x : Str) (r : List Str) : Lib.joinTail [255] (x :: r) = 255 :: (x ++ Lib.joinTail [255] r) := by simp [Lib.joinTail]
theorem tail_nil : Lib.joinTail [255] [] = [] := rfl
theorem split_ff : ∀ (x y u v : Str), NoFF x → NoFF y → (u = [] ∨ ∃ u', u = 255 :: u') → (v = [] ∨ ∃ v', v = 255 :: v') → x ++ u = y ++ v → x = y ∧ u = v
  | [], [], u, v, _, _, _, _, h => ⟨rfl, h⟩
  | [], b :: y, u, v, _, hy, hu, _, h => by
    simp only [List.nil_append, List.cons_append] at h
    rcases hu with rfl | ⟨u', rfl⟩
    · cases h
    · simp only [List.cons.injEq] at h
      exact absurd (by simp [h.1]) hy
  | a :: x, [], u, v, hx, _, _, hv, h => by
    simp only [List.nil_append, List.cons_append] at h
    rcases hv with rfl | ⟨v', rfl⟩
    · cases h
    · simp only [List.cons.injEq] at h
      exact absurd (by simp [h.1]) hx
  | a :: x, b :: y, u, v, hx, hy, hu, hv, h => by
    simp only [List.cons_append, List.cons.injEq] at h
    have := split_ff x y u v (fun e => hx (by simp [e])) (fun e => hy (by simp [e])) hu hv h.2
    exact ⟨by rw [h.1, this.1], this.2⟩
theorem tail_shape (r : List Str) : Lib.joinTail [255] r = [] ∨ ∃ u, Lib.joinTail [255] r = 255 :: u := by
  cases r with
  | nil => exact .inl rfl
  | cons x r => exact .inr ⟨_, tail_cons x r⟩
theorem tail_inj : ∀ (r s : List Str), (∀ x ∈ r, NoFF x) → (∀ x ∈ s, NoFF x) → Lib.joinTail [255] r = Lib.joinTail [255] s → r = s
  | [], [], _, _, _ => rfl
  | [], y :: s, _, _, h => by rw [tail_nil, tail_cons] at h; cases h
  | x :: r, [], _, _, h => by rw [tail_nil, tail_cons] at h; cases h
  | x :: r, y :: s, hr, hs, h => by
    rw [tail_cons, tail_cons] at h
    simp only [List.cons.injEq, true_and] at h
    have := split_ff x y _ _ (hr x (by simp)) (hs y (by simp)) (tail_shape r) (tail_shape s) h
    rw [this.1, tail_inj r s (fun x hx => hr x (by simp [hx])) (fun x hx => hs x (by simp [hx])) this.2]
theorem joinS_inj {l m : List Str} (hl : ∀ x ∈ l, NoFF x) (hm : ∀ x ∈ m, NoFF x) (h1 : l ≠ []) (h2 : m ≠ []) (h : joinS l = joinS m) : l = m := by
  cases l with
  | nil => exact absurd rfl h1
  | cons x r =>
    cases m with
    | nil => exact absurd rfl h2
    | cons y s =>
      rw [joinS_cons, joinS_cons] at h
      have := split_ff x y _ _ (hl x (by simp)) (hm y (by simp)) (tail_shape r) (tail_shape s) h
      rw [this.1, tail_inj r s (fun x hx => hl x (by simp [hx])) (fun x hx => hm x (by simp [hx])) this.2]
theorem GoodR.noff {l : List Str} (h : GoodR l) : ∀ x ∈ l, NoFF x := fun x hx => fine_noff x (h.fine x hx)
def sumLen (l : List Str) : Nat := (l.map List.length).sum
theorem joinS_len (l : List Str) : (joinS l).length ≤ sumLen l + l.length := by
  cases l with
  | nil => simp [joinS, Lib.join, sumLen]
  | cons x r =>
    rw [joinS_cons]
    have : ∀ r : List Str, (Lib.joinTail [255] r).length ≤ sumLen r + r.length := by
      intro r
      induction r with
      | nil => simp [tail_nil]
      | cons y r ih => rw [tail_cons]; simp only [sumLen, List.map_cons, List.sum_cons, List.length_cons, List.length_append] at *; omega
    have := this r
    simp only [sumLen, List.map_cons, List.sum_cons, List.length_cons, List.length_append] at *; omega

/-- the map of a graph's names -/
def mapK (s : GS) : List (Str × Int) := s.mapIdx fun i x => (joinS x.1, (i : Int))
theorem mapK_snoc (s : GS) (x : List Str × List Ed) : mapK (s ++ [x]) = mapK s ++ [(joinS x.1, (s.length : Int))] := by
  unfold mapK; rw [List.mapIdx_concat]
theorem mapK_names {s t : GS} (h : names s = names t) : mapK s = mapK t := by
  unfold mapK
  have hl : s.length = t.length := by simpa [names] using congrArg List.length h
  refine List.ext_getElem (by simp [hl]) fun i h1 h2 => ?_
  simp only [List.length_mapIdx] at h1 h2
  simp only [List.getElem_mapIdx, Prod.mk.injEq, and_true]
  have : (names s)[i]'(by simpa [names] using h1) = (names t)[i]'(by simpa [names] using h2) := by simp only [h]
  simp only [names, List.getElem_map] at this
  rw [this]
/-- names that may be -/
def NamesOk (s : GS) : Prop := ∀ x ∈ s, x.1 ≠ [] ∧ ∀ t ∈ x.1, NoFF t
theorem asc_mapK {r : List Str} (hr : ∀ t ∈ r, NoFF t) (hne : r ≠ []) : ∀ (s : GS), NamesOk s → asc (mapK s) (joinS r) = (s.findIdx? fun x => x.1 == r).map fun i : Nat => (i : Int) := by
  intro s hs
  have key : ∀ (s : GS) (k : Nat), NamesOk s → asc (s.mapIdx fun i x => (joinS x.1, ((i + k : Nat) : Int))) (joinS r) = (s.findIdx? fun x => x.1 == r).map fun i : Nat => ((i + k : Nat) : Int) := by
    intro s
    induction s with
    | nil => intro k _; rfl
    | cons x s ih =>
      intro k h
      rw [List.mapIdx_cons, List.findIdx?_cons]
      by_cases hx : x.1 = r
      · simp [asc, hx]
      · have hj : joinS x.1 ≠ joinS r := fun e => hx (joinS_inj (h x (by simp)).2 hr (h x (by simp)).1 hne e)
        have := ih (k + 1) (fun y hy => h y (by simp [hy]))
        unfold asc at this ⊢
        rw [List.find?_cons]
        simp only [decide_eq_false hj]
        have e1 : (fun (i : Nat) (x : List Str × List Ed) => (joinS x.1, ((i + 1 + k : Nat) : Int))) = fun (i : Nat) (x : List Str × List Ed) => (joinS x.1, ((i + (k + 1) : Nat) : Int)) := by
          funext i x; congr 2; omega
        rw [e1, this]
        have hxb : (x.1 == r) = false := by simp [hx]
        simp only [hxb, Bool.false_eq_true, if_false, Option.map_map]
        cases s.findIdx? fun x => x.1 == r with
        | none => rfl
        | some i => simp only [Option.map_some, Function.comp_apply, Option.some.injEq]; omega
  exact key s 0 hs

/-! ways along runes -/
def finB (r : List Str) : Bool := decide (r.head? = some [])
theorem fin_mem {r : List Str} (h : GoodR r) : finB r = true ↔ [] ∈ r := by
  unfold finB
  rw [decide_eq_true_iff]
  cases r with
  | nil => simp
  | cons a r =>
    constructor
    · intro e; simp only [List.head?_cons, Option.some.injEq] at e; simp [e]
    · intro hm
      rcases List.mem_cons.1 hm with e | hm
      · simp [e]
      · have := (List.pairwise_cons.1 h.sorted).1 _ hm
        cases a <;> simp [ltT, Lib.compareBytes] at this
/-- along an edge: the rests that begin with its rune -/
theorem step_mem {r : List Str} (h : GoodR r) {c : Nat} (hc : goodN c) (t : Str) : encL c ++ t ∈ r ↔ ∃ b, (c, b) ∈ groups (dropE r) ∧ t ∈ b := by
  have hd := dropE_good h
  have ok := groups_ok _ _ (Nat.le_refl _) hd.1 hd.2
  constructor
  · intro hm
    have hm2 : encL c ++ t ∈ dropE r := by
      cases r with
      | nil => exact hm
      | cons a r =>
        cases a with
        | nil =>
          rcases List.mem_cons.1 hm with e | hm
          · exact absurd (List.append_eq_nil_iff.1 e).1 (encL_ne c)
          · exact hm
        | cons x a => exact hm
    rw [← ok.all] at hm2
    obtain ⟨g, hg, hgt⟩ := List.mem_flatMap.1 hm2
    obtain ⟨u, hu, he⟩ := List.mem_map.1 hgt
    have := encL_inj (ok.good g hg).1 hc he
    exact ⟨g.2, by rw [← this.1]; exact hg, by rw [← this.2]; exact hu⟩
  · rintro ⟨b, hb, ht⟩
    refine dropE_mem ?_
    rw [← ok.all]
    exact List.mem_flatMap.2 ⟨(c, b), hb, List.mem_map.2 ⟨t, ht, rfl⟩⟩
/-- where an edge leads -/
def nextM (es : List Ed) (r : Int) : Option Int := (es.find? fun e => e.rune == r).map Ed.to
theorem forall2_find {P : Nat × List Str → Ed → Prop} {c : Nat} : ∀ {gs : List (Nat × List Str)} {es : List Ed}, All2 (fun g e => e.rune = (g.1 : Int) ∧ P g e) gs es →
    ((es.find? fun e => e.rune == (c : Int)) = none → ∀ g ∈ gs, g.1 ≠ c) ∧ (∀ e, (es.find? fun e => e.rune == (c : Int)) = some e → ∃ g ∈ gs, g.1 = c ∧ P g e)
  | [], [], .nil => ⟨by simp, by simp⟩
  | g :: gs, e :: es, .cons h1 h2 => by
    have ih := forall2_find (c := c) h2
    rw [List.find?_cons]
    by_cases hc : g.1 = c
    · have : (e.rune == (c : Int)) = true := by rw [h1.1, hc]; simp
      rw [this]
      exact ⟨(fun h => by cases h), (fun e' he => by simp only [Option.some.injEq] at he; subst he; exact ⟨g, by simp, hc, h1.2⟩)⟩
    · have : (e.rune == (c : Int)) = false := by rw [h1.1]; simp; omega
      rw [this]
      refine ⟨fun h g' hg' => ?_, fun e' he => ?_⟩
      · rcases List.mem_cons.1 hg' with rfl | hg'
        · exact hc
        · exact ih.1 h g' hg'
      · obtain ⟨g', hg', k⟩ := ih.2 e' he
        exact ⟨g', by simp [hg'], k⟩
theorem group_unique {gs : List (Nat × List Str)} (h : gs.Pairwise fun a b => a.1 ≠ b.1) {a b : Nat × List Str} (ha : a ∈ gs) (hb : b ∈ gs) (e : a.1 = b.1) : a = b := by
  induction gs with
  | nil => simp at ha
  | cons g gs ih =>
    have hp := List.pairwise_cons.1 h
    rcases List.mem_cons.1 ha with ha1 | ha1
    · rcases List.mem_cons.1 hb with hb1 | hb1
      · rw [ha1, hb1]
      · exact absurd (by rw [← e, ha1]) (hp.1 b hb1)
    · rcases List.mem_cons.1 hb with hb1 | hb1
      · exact absurd (by rw [e, hb1]) (hp.1 a ha1)
      · exact ih hp.2 ha1 hb1
/-- one step: the rests behind it -/
theorem next_ok {s : GS} {n : Nat} {x : List Str × List Ed} (h : NodeOk s n x) {c : Nat} (hc : goodN c) :
    (nextM x.2 (c : Int) = none → ∀ t, encL c ++ t ∉ x.1) ∧ (∀ j, nextM x.2 (c : Int) = some j → ∃ (k : Nat) (b : List Str) (es : List Ed), j = (k : Int) ∧ s[k]? = some (b, es) ∧ ∀ t, encL c ++ t ∈ x.1 ↔ t ∈ b) := by
  have hd := dropE_good h.good
  have ok := groups_ok _ _ (Nat.le_refl _) hd.1 hd.2
  have hf := forall2_find (c := c) h.corr
  unfold nextM
  constructor
  · intro hn t hm
    rw [Option.map_eq_none_iff] at hn
    obtain ⟨b, hb, _⟩ := (step_mem h.good hc t).1 hm
    exact hf.1 hn _ hb rfl
  · intro j hj
    obtain ⟨e, he, rfl⟩ := Option.map_eq_some_iff.1 hj
    obtain ⟨g, hg, hgc, k, es, h1, h2⟩ := hf.2 e he
    refine ⟨k, g.2, es, h1, h2, fun t => ?_⟩
    rw [step_mem h.good hc]
    constructor
    · rintro ⟨b, hb, ht⟩
      have := group_unique ok.part hg hb hgc
      rw [this]; exact ht
    · intro ht
      exact ⟨g.2, by rw [← hgc]; exact hg, ht⟩

/-! one after the other, as long as it is told to -/
def eachF {σ : Type} (f : σ → Str → σ × Bool) : σ → List Str → σ × Bool
  | s, [] => (s, true)
  | s, x :: r => if (f s x).2 = true then eachF f (f s x).1 r else ((f s x).1, false)
theorem eachF_app {σ : Type} (f : σ → Str → σ × Bool) : ∀ (a b : List Str) (s : σ), eachF f s (a ++ b) = if (eachF f s a).2 = true then eachF f (eachF f s a).1 b else eachF f s a
  | [], b, s => by simp [eachF]
  | x :: a, b, s => by
    simp only [List.cons_append, eachF]
    split
    · rw [eachF_app f a b]
    · simp
theorem rests_all {x : List Str × List Ed} (h : GoodR x.1) : x.1 = (if finB x.1 = true then [[]] else []) ++ (groups (dropE x.1)).flatMap fun g => g.2.map (encL g.1 ++ ·) := by
  have hd := dropE_good h
  have ok := groups_ok _ _ (Nat.le_refl _) hd.1 hd.2
  rw [ok.all]
  unfold finB
  cases hx : x.1 with
  | nil => simp [dropE]
  | cons a r =>
    cases a with
    | nil => simp [dropE]
    | cons y a => simp [dropE]

/-! what the walks ask -/
theorem RunInv.step {s : Str} {p : Nat} {l : List Int} (h : RunInv s p l) (he : s.drop p ≠ []) (hd : ((dec (s.drop p)).1 : Int) ≠ 65533) : RunInv s (p + (dec (s.drop p)).2) (l ++ [((dec (s.drop p)).1 : Int)]) := by
  obtain ⟨pre, h1, h2, h3⟩ := h.ex
  refine ⟨⟨_, h1.next he, by rw [h2, List.map_append]; rfl, ?_⟩⟩
  simp only [List.mem_append, List.mem_singleton, not_or]
  exact ⟨h3, fun e => hd (by omega)⟩
theorem RunInv.odd {s : Str} {p : Nat} {l : List Int} (h : RunInv s p l) (he : s.drop p ≠ []) (hd : ((dec (s.drop p)).1 : Int) = 65533) : false = fineT s := by
  obtain ⟨pre, h1, h2, h3⟩ := h.ex
  have := h1.mem he
  have e : (dec (s.drop p)).1 = 65533 := by omega
  rw [e] at this
  unfold fineT; simp [this]
theorem RunInv.done {s : Str} {p : Nat} {l : List Int} (h : RunInv s p l) (he : s.drop p = []) : l = runesI s ∧ true = fineT s := by
  obtain ⟨pre, h1, h2, h3⟩ := h.ex
  have := h1.done he
  refine ⟨by rw [h2, runesI, this], ?_⟩
  unfold fineT; rw [this]; simp [h3]
theorem RunInv.pos {s : Str} {p : Nat} {l : List Int} (h : RunInv s p l) : p ≤ s.length := by
  obtain ⟨pre, h1, _⟩ := h.ex
  exact h1.le
theorem runesM_len (s : Str) : (runesM s).length ≤ s.length := by
  unfold runesM
  split
  · unfold runesI; rw [List.length_map]; exact runes_length s
  · simp
def FirstInv (s : Str) (p : Nat) (hd : Int) : Prop := (p = 0 ∧ hd = 0) ∨ (0 < p ∧ p = wdN s ∧ hd = (hdN s : Int))
theorem FirstInv.next {s : Str} {p : Nat} {hd : Int} (h : FirstInv s p hd) (he : s.drop p ≠ []) (h0 : p = 0) : FirstInv s (p + (dec (s.drop p)).2) ((dec (s.drop p)).1 : Int) := by
  subst h0
  simp only [List.drop_zero, Nat.zero_add] at he ⊢
  have := dec_pos s he
  exact .inr ⟨by omega, rfl, rfl⟩
theorem FirstInv.ret {s : Str} {p : Nat} {hd : Int} (h : FirstInv s p hd) (h0 : 0 < p) : hd = (hdN s : Int) ∧ ((p : Nat) : Int) = ((wdN s : Nat) : Int) := by
  rcases h with h | h
  · omega
  · exact ⟨h.2.2, by rw [h.2.1]⟩
theorem FirstInv.fin {s : Str} {p : Nat} {hd : Int} (h : FirstInv s p hd) (hne : s ≠ []) (he : s.drop p = []) : hd = (hdN s : Int) ∧ ((s.length : Nat) : Int) = ((wdN s : Nat) : Int) := by
  rcases h with ⟨rfl, _⟩ | ⟨h1, h2, h3⟩
  · exact absurd (by simpa using he) hne
  · refine ⟨h3, ?_⟩
    have hl := dec_le s hne
    have := congrArg List.length he
    simp only [List.length_drop, List.length_nil] at this
    unfold wdN at *
    omega
theorem wdN_le (s : Str) : s ≠ [] → 1 ≤ wdN s ∧ wdN s ≤ s.length := fun h => ⟨dec_pos s h, dec_le s h⟩
theorem hdN_le (s : Str) : hdN s ≤ 1114111 := dec_rune s
theorem hp_yes {s p : Str} {b : Bool} (hl : ((s.length : Nat) : Int) ≥ ((p.length : Nat) : Int)) (hb : b = (s.take p.length == p)) : b = p.isPrefixOf s := by
  rw [hb, Bool.eq_iff_iff, List.isPrefixOf_iff_prefix, beq_iff_eq]
  constructor
  · intro h; rw [← h]; exact List.take_prefix _ _
  · rintro ⟨t, rfl⟩; simp
theorem hp_no {s p : Str} (hl : ¬ ((s.length : Nat) : Int) ≥ ((p.length : Nat) : Int)) : false = p.isPrefixOf s := by
  cases h : p.isPrefixOf s with
  | false => rfl
  | true =>
    rw [List.isPrefixOf_iff_prefix] at h
    have := h.length_le
    omega
structure NextInv (es : List Ed) (r : Int) (k : Nat) : Prop where
  no : ∀ e ∈ es.take k, e.rune ≠ r
theorem NextInv.start (es : List Ed) (r : Int) : NextInv es r 0 := ⟨by simp⟩
theorem NextInv.next {es : List Ed} {r : Int} {k : Nat} {e : Ed} (h : NextInv es r k) (hx : es[k]? = some e) (hn : e.rune ≠ r) : NextInv es r (k + 1) := ⟨by
  intro y hy
  rw [List.take_add_one, hx] at hy
  simp only [Option.toList_some, List.mem_append, List.mem_singleton] at hy
  rcases hy with hy | rfl
  · exact h.no y hy
  · exact hn⟩
theorem NextInv.found {es : List Ed} {r : Int} {k : Nat} {e : Ed} (h : NextInv es r k) (hx : es[k]? = some e) (he : e.rune = r) : e.to = (nextM es r).getD 0 ∧ true = (nextM es r).isSome := by
  have : es.find? (fun e => e.rune == r) = some e := by
    obtain ⟨hk, rfl⟩ := List.getElem?_eq_some_iff.1 hx
    rw [List.find?_eq_some_iff_getElem]
    refine ⟨by simp [he], k, hk, rfl, fun j hj => ?_⟩
    have := h.no es[j] (List.mem_take_iff_getElem.2 ⟨j, by omega, rfl⟩)
    simp [this]
  unfold nextM
  rw [this]
  exact ⟨rfl, rfl⟩
theorem NextInv.none {es : List Ed} {r : Int} {k : Nat} (h : NextInv es r k) (hk : es.length ≤ k) : (0 : Int) = (nextM es r).getD 0 ∧ false = (nextM es r).isSome := by
  have hn := h.no
  rw [List.take_of_length_le hk] at hn
  have : es.find? (fun e => e.rune == r) = Option.none := by
    rw [List.find?_eq_none]
    intro e he; simp [hn e he]
  unfold nextM
  rw [this]
  exact ⟨rfl, rfl⟩
end Go.Ml
