/-
  Plain functions and laws of chapter 4: where a word stands, without, in order; no program in sight.
-/
import Derived.Test.YtajedfbogchkcaaIkSort
set_option linter.unusedVariables false
set_option linter.unusedSimpArgs false
namespace Go.Ml
open Go.Ik

/-! where a word stands -/
def belowW (l : List Str) (w : Str) : Nat := l.countP fun x => decide (Lib.compareBytes x w < 0)
theorem belowW_le (l : List Str) (w : Str) : belowW l w ≤ l.length := List.countP_le_length
theorem sorted_at {l : List Str} (hs : Sorted l) {i j : Nat} {x y : Str} (hx : l[i]? = some x) (hy : l[j]? = some y) (h : i < j) : ltT x y := by
  obtain ⟨h1, rfl⟩ := List.getElem?_eq_some_iff.1 hx
  obtain ⟨h2, rfl⟩ := List.getElem?_eq_some_iff.1 hy
  exact List.pairwise_iff_getElem.1 hs _ _ h1 h2 h
structure BsInv (l : List Str) (w : Str) (i j : Nat) : Prop where
  lo : ∀ k x, k < i → l[k]? = some x → ltT x w
  hi : ∀ k x, j ≤ k → l[k]? = some x → ¬ ltT x w
theorem BsInv.start (l : List Str) (w : Str) : BsInv l w 0 l.length :=
  ⟨fun k x h => by omega, fun k x h hx => by have := (List.getElem?_eq_some_iff.1 hx).1; omega⟩
theorem BsInv.up {l : List Str} {w x : Str} {i j h : Nat} (hb : BsInv l w i j) (hs : Sorted l) (hx : l[h]? = some x) (hc : Lib.compareBytes x w < 0) : BsInv l w (h + 1) j :=
  ⟨fun k y hk hy => by
    rcases Nat.lt_or_ge k h with hl | hl
    · exact lt_trans (sorted_at hs hy hx hl) hc
    · have : k = h := by omega
      subst this
      rw [hx] at hy; cases hy; exact hc, hb.hi⟩
theorem BsInv.dn {l : List Str} {w x : Str} {i j h : Nat} (hb : BsInv l w i j) (hs : Sorted l) (hx : l[h]? = some x) (hc : ¬ Lib.compareBytes x w < 0) : BsInv l w i h :=
  ⟨hb.lo, fun k y hk hy => by
    rcases Nat.lt_or_ge h k with hl | hl
    · exact fun hlt => hc (lt_trans (sorted_at hs hx hy hl) hlt)
    · have : k = h := by omega
      subst this
      rw [hx] at hy; cases hy; exact hc⟩
theorem BsInv.count {l : List Str} {w : Str} {i j : Nat} (hb : BsInv l w i j) (hij : i = j) (hi : i ≤ l.length) : belowW l w = i := by
  subst hij
  unfold belowW
  conv => lhs; rw [← List.take_append_drop i l]
  rw [List.countP_append]
  have h1 : (l.take i).countP (fun x => decide (Lib.compareBytes x w < 0)) = (l.take i).length := by
    rw [List.countP_eq_length]
    intro a ha
    obtain ⟨k, hk⟩ := List.mem_iff_getElem?.1 ha
    rw [List.getElem?_take] at hk
    split at hk
    · rename_i hlt
      exact decide_eq_true (hb.lo k a hlt hk)
    · cases hk
  have h2 : (l.drop i).countP (fun x => decide (Lib.compareBytes x w < 0)) = 0 := by
    rw [List.countP_eq_zero]
    intro a ha
    obtain ⟨k, hk⟩ := List.mem_iff_getElem?.1 ha
    rw [List.getElem?_drop] at hk
    have := hb.hi (i + k) a (by omega) hk
    simpa [ltT] using this
  rw [h1, h2, List.length_take]; omega
theorem lt_ne {x w : Str} (h : ltT x w) : x ≠ w := fun e => by subst e; exact lt_irrefl x h
theorem BsInv.yes {l : List Str} {w x : Str} {i : Nat} (hx : l[i]? = some x) (hc : Lib.compareBytes x w = 0) : true = l.contains w := by
  have := cmp_eq hc
  subst this
  exact (List.contains_iff_mem.2 (List.mem_of_getElem? hx)).symm
theorem BsInv.no {l : List Str} {w x : Str} {i j : Nat} (hb : BsInv l w i j) (hs : Sorted l) (hij : i = j) (hx : l[i]? = some x) (hc : Lib.compareBytes x w ≠ 0) : false = l.contains w := by
  subst hij
  cases h : l.contains w with
  | false => rfl
  | true =>
    obtain ⟨k, hk⟩ := List.mem_iff_getElem?.1 (List.contains_iff_mem.1 h)
    rcases Nat.lt_or_ge k i with hl | hl
    · exact absurd (hb.lo k w hl hk) (lt_irrefl w)
    · rcases Nat.lt_or_ge i k with h2 | h2
      · exact absurd (sorted_at hs hx hk h2) (hb.hi i x (Nat.le_refl _) hx)
      · have : k = i := by omega
        subst this
        rw [hx] at hk; cases hk
        exact absurd (cmp_refl _) hc
theorem BsInv.none {l : List Str} {w : Str} {i j : Nat} (hb : BsInv l w i j) (hi : l.length ≤ i) : false = l.contains w := by
  cases h : l.contains w with
  | false => rfl
  | true =>
    obtain ⟨k, hk⟩ := List.mem_iff_getElem?.1 (List.contains_iff_mem.1 h)
    have := (List.getElem?_eq_some_iff.1 hk).1
    exact absurd (hb.lo k w (by omega) hk) (lt_irrefl w)
/-- in a list in order: what is below a word stands ahead of its place -/
theorem bs_any {l : List Str} (hs : Sorted l) (w : Str) : BsInv l w (belowW l w) (belowW l w) := by
  have key : ∀ (l : List Str), Sorted l → ∀ k x, l[k]? = some x → (ltT x w ↔ k < belowW l w) := by
    intro l
    induction l with
    | nil => intro _ k x hx; simp at hx
    | cons a l ih =>
      intro hs k x hx
      have hs' := List.pairwise_cons.1 hs
      have hb : belowW (a :: l) w = belowW l w + (if Lib.compareBytes a w < 0 then 1 else 0) := by
        unfold belowW; rw [List.countP_cons]; simp
      cases k with
      | zero =>
        simp only [List.getElem?_cons_zero, Option.some.injEq] at hx
        subst hx
        by_cases h : Lib.compareBytes a w < 0
        · rw [hb, if_pos h]
          exact ⟨fun _ => by omega, fun _ => h⟩
        · rw [hb, if_neg h]
          have h0 : belowW l w = 0 := by
            unfold belowW
            rw [List.countP_eq_zero]
            intro y hy hlt
            exact h (lt_trans (hs'.1 y hy) (of_decide_eq_true hlt : Lib.compareBytes y w < 0))
          rw [h0]
          exact ⟨fun hh => absurd hh h, fun hh => by omega⟩
      | succ k =>
        simp only [List.getElem?_cons_succ] at hx
        have := ih hs'.2 k x hx
        by_cases h : Lib.compareBytes a w < 0
        · rw [hb, if_pos h, this]; omega
        · rw [hb, if_neg h, this]
          have h0 : belowW l w = 0 := by
            unfold belowW
            rw [List.countP_eq_zero]
            intro y hy hlt
            exact h (lt_trans (hs'.1 y hy) (of_decide_eq_true hlt : Lib.compareBytes y w < 0))
          omega
  exact ⟨fun k x hk hx => (key l hs k x hx).2 hk, fun k x hk hx hlt => by have := (key l hs k x hx).1 hlt; omega⟩
theorem at_mem {l : List Str} (hs : Sorted l) {w : Str} (h : l.contains w = true) : l[belowW l w]? = some w := by
  obtain ⟨k, hk⟩ := List.mem_iff_getElem?.1 (List.contains_iff_mem.1 h)
  have hb := bs_any hs w
  rcases Nat.lt_or_ge k (belowW l w) with hl | hl
  · exact absurd (hb.lo k w hl hk) (lt_irrefl w)
  · rcases Nat.lt_or_ge (belowW l w) k with h2 | h2
    · have hkl := (List.getElem?_eq_some_iff.1 hk).1
      have hx : l[belowW l w]? = some (l[belowW l w]'(by omega)) := List.getElem?_eq_getElem (by omega)
      exact absurd (sorted_at hs hx hk h2) (hb.hi _ _ (Nat.le_refl _) hx)
    · have : k = belowW l w := by omega
      rw [← this]; exact hk
theorem at_lt {l : List Str} (hs : Sorted l) {w x : Str} {i : Nat} (hx : l[i]? = some x) : Lib.compareBytes x w < 0 ↔ i < belowW l w := by
  have hb := bs_any hs w
  constructor
  · intro h
    rcases Nat.lt_or_ge i (belowW l w) with h1 | h1
    · exact h1
    · exact absurd h (hb.hi i x h1 hx)
  · intro h; exact hb.lo i x h hx

theorem BsInv.at {l : List Str} {w x : Str} {i j : Nat} {b : Bool} (hb : BsInv l w i j) (hs : Sorted l) (hij : i = j) (hx : l[i]? = some x) (h : b = (Lib.compareBytes x w == 0)) : b = l.contains w := by
  rw [h]
  by_cases hc : Lib.compareBytes x w = 0
  · rw [← BsInv.yes hx hc]; simp [hc]
  · rw [← hb.no hs hij hx hc]; simp [hc]

/-! without -/
def withoutM (a b : List Str) : List Str := a.filter fun w => !b.contains w
theorem wo_yes {a b l : List Str} {k : Nat} {x : Str} (hi : l = (a.take k).filter fun w => !b.contains w) (hx : a[k]? = some x) (h : b.contains x = false) : l ++ [x] = (a.take (k + 1)).filter fun w => !b.contains w := by
  rw [hi]; exact (filter_take_yes hx (by rw [h]; rfl)).symm
theorem wo_no {a b l : List Str} {k : Nat} {x : Str} (hi : l = (a.take k).filter fun w => !b.contains w) (hx : a[k]? = some x) (h : b.contains x = true) : l = (a.take (k + 1)).filter fun w => !b.contains w := by
  rw [hi]; exact (filter_take_no hx (by rw [h]; rfl)).symm
theorem LOk.att {l : List Str} (h : LOk l) {m k : Nat} {x : Str} (hx : (l.take m)[k]? = some x) : x.length ≤ 9223372036854775807 := h x (List.mem_of_mem_take (List.mem_of_getElem? hx))
theorem without_mem {a b : List Str} {x : Str} : x ∈ withoutM a b ↔ x ∈ a ∧ x ∉ b := by
  unfold withoutM; rw [List.mem_filter]; simp
theorem without_sorted {a b : List Str} (ha : Sorted a) : Sorted (withoutM a b) := List.Pairwise.filter _ ha
theorem without_len (a b : List Str) : (withoutM a b).length ≤ a.length := List.length_filter_le _ _

/-! in order -/
def sortedM (l : List Str) : List Str := Lib.compactUpTo (sortL ((l.take 1000).filter word)).toArray (sortL ((l.take 1000).filter word)).length
theorem sortedM_spec (l : List Str) : Sorted (sortedM l) ∧ ∀ x, x ∈ sortedM l ↔ x ∈ (l.take 1000).filter word := by
  have h := compact_upTo (sortL_sorted ((l.take 1000).filter word)) _ (Nat.le_refl _)
  refine ⟨h.1, fun x => ?_⟩
  unfold sortedM
  rw [h.2.1, List.take_length, sortL_mem]
theorem sortL_len (l : List Str) : (sortL l).length = l.length := List.length_mergeSort _
theorem sortedM_eq {words l : List Str} {k : Nat} (hi : l = ((words.take (min words.length 1000)).take k).filter word) (hk : (words.take (min words.length 1000)).length ≤ k) : Lib.compactUpTo (sortL l).toArray (sortL l).length = sortedM words := by
  have e : words.take (min words.length 1000) = words.take 1000 := by
    by_cases h : words.length ≤ 1000
    · rw [List.take_of_length_le (show words.length ≤ min words.length 1000 by omega), List.take_of_length_le h]
    · rw [show min words.length 1000 = 1000 by omega]
  rw [List.take_of_length_le hk, e] at hi
  rw [hi]; rfl
theorem sortedM_is {l r : List Str} (h1 : rising r = true) (h2 : (((l.take 1000).filter word).all fun x => r.contains x) = true) (h3 : (r.all fun x => ((l.take 1000).filter word).contains x) = true) : sortedM l = r := by
  have h := sortedM_spec l
  refine sorted_ext h.1 (rising_sorted h1) fun x => ?_
  rw [h.2]
  constructor
  · intro hx; exact List.contains_iff_mem.1 (List.all_eq_true.1 h2 x hx)
  · intro hx; exact List.contains_iff_mem.1 (List.all_eq_true.1 h3 x hx)
theorem nodup_len : ∀ {l r : List Str}, l.Nodup → (∀ x ∈ l, x ∈ r) → l.length ≤ r.length
  | [], r, _, _ => Nat.zero_le _
  | a :: l, r, hn, h => by
    have hn' := List.nodup_cons.1 hn
    have ha : a ∈ r := h a (by simp)
    have := nodup_len (l := l) (r := r.erase a) hn'.2 (fun x hx => by
      have hxa : x ≠ a := fun e => by subst e; exact hn'.1 hx
      exact (List.mem_erase_of_ne hxa).2 (h x (by simp [hx])))
    rw [List.length_erase_of_mem ha] at this
    have := List.length_pos_of_mem ha
    simp only [List.length_cons]; omega
theorem sorted_nodup {l : List Str} (h : Sorted l) : l.Nodup := h.imp fun h => lt_ne h
theorem sortedM_len (l : List Str) : (sortedM l).length ≤ l.length := by
  have h := sortedM_spec l
  refine nodup_len (sorted_nodup h.1) fun x hx => ?_
  exact List.mem_of_mem_take (List.mem_filter.1 ((h.2 x).1 hx)).1
theorem sortedM_small {l : List Str} (h : l.length ≤ 1000) (x : Str) : x ∈ sortedM l ↔ x ∈ l ∧ word x = true := by
  rw [(sortedM_spec l).2, List.take_of_length_le h, List.mem_filter]

/-! laws of chapter 4 -/
theorem good_sorted {l : List Str} (h : goodL l = 0) : Sorted l := (good_words h).2.2
theorem good_len {l : List Str} (h : goodL l = 0) : l.length ≤ 60 := (good_words h).1
theorem merge_comm {a b : List Str} (ha : Sorted a) (hb : Sorted b) : mergeL a b = mergeL b a :=
  sorted_ext (merge_sorted ha hb) (merge_sorted hb ha) fun x => by rw [mem_merge, mem_merge]; exact or_comm
theorem merge_without {a b : List Str} (ha : Sorted a) (hb : Sorted b) : mergeL (withoutM a b) b = mergeL a b :=
  sorted_ext (merge_sorted (without_sorted ha) hb) (merge_sorted ha hb) fun x => by
    rw [mem_merge, mem_merge, without_mem]
    by_cases h : x ∈ b <;> simp [h]
theorem merge_in (a b : List Str) (w : Str) : (mergeL a b).contains w = (a.contains w || b.contains w) := by
  rw [Bool.eq_iff_iff, List.contains_iff_mem, mem_merge, Bool.or_eq_true, List.contains_iff_mem, List.contains_iff_mem]
theorem without_self (a : List Str) : (withoutM a a).length = 0 := by
  rw [List.length_eq_zero_iff, List.eq_nil_iff_forall_not_mem]
  intro x hx
  have := without_mem.1 hx
  exact this.2 this.1
theorem merge_three {a b c : List Str} (ha : Sorted a) (hb : Sorted b) (hc : Sorted c) : mergeL (mergeL a b) c = mergeL a (mergeL c b) :=
  sorted_ext (merge_sorted (merge_sorted ha hb) hc) (merge_sorted ha (merge_sorted hc hb)) fun x => by
    simp only [mem_merge]
    constructor
    · rintro ((h | h) | h) <;> simp [h]
    · rintro (h | h | h) <;> simp [h]
theorem without_two {a b c : List Str} (ha : Sorted a) : withoutM (withoutM a b) c = withoutM a (mergeL b c) :=
  sorted_ext (without_sorted (without_sorted ha)) (without_sorted ha) fun x => by
    simp only [without_mem, mem_merge, not_or, and_assoc]
theorem without_merged {a b c : List Str} (ha : Sorted a) (hb : Sorted b) (hc : Sorted c) : withoutM (mergeL (mergeL a b) c) c = withoutM (mergeL a b) c :=
  sorted_ext (without_sorted (merge_sorted (merge_sorted ha hb) hc)) (without_sorted (merge_sorted ha hb)) fun x => by
    simp only [without_mem, mem_merge]
    constructor
    · rintro ⟨(h | h), h2⟩
      · exact ⟨h, h2⟩
      · exact absurd h h2
    · rintro ⟨h, h2⟩; exact ⟨.inl h, h2⟩
theorem greatT_len {l : List Str} (h : greatT l = false) : l.length ≤ 80 := by
  unfold greatT at h
  simp only [Bool.or_eq_false_iff, decide_eq_false_iff_not] at h
  omega
theorem filter_take_at {l : List Str} {k : Nat} {x : Str} (hx : l[k]? = some x) : (l.take (k + 1)).filter word = (l.take k).filter word ++ (if word x = true then [x] else []) := by
  rw [List.take_add_one, hx, List.filter_append]
  simp [List.filter_cons]
theorem decide_iff_eq {p q : Prop} [Decidable p] [Decidable q] (h : p ↔ q) : decide p = decide q := by
  by_cases hp : p
  · rw [decide_eq_true hp, decide_eq_true (h.1 hp)]
  · rw [decide_eq_false hp, decide_eq_false (fun hq => hp (h.2 hq))]

theorem at_mem_lt {l : List Str} (hs : Sorted l) {w : Str} (h : l.contains w = true) : belowW l w < l.length := (List.getElem?_eq_some_iff.1 (at_mem hs h)).1
theorem at_eq {l : List Str} (hs : Sorted l) {w x : Str} (h : l.contains w = true) (hx : l[belowW l w]? = some x) : x = w := by
  rw [at_mem hs h] at hx; cases hx; rfl
theorem at_no {l : List Str} {w x : Str} {i : Nat} (hx : l[i]? = some x) (hc : Lib.compareBytes x w = 0) (h : l.contains w = false) : False := by
  rw [← BsInv.yes hx hc] at h; cases h
theorem snbeq {a b : Str} (h : a = b) : (!(a == b)) = false := by rw [h]; simp
theorem nbeqB {p q : Prop} [Decidable p] [Decidable q] {b c : Bool} (hb : b = decide p) (hc : c = decide q) (h : p ↔ q) : (!(b == c)) = false := by
  rw [hb, hc, decide_iff_eq h]; simp
theorem nbeqBB {b c p q : Bool} (hb : b = p) (hc : c = q) (h : p = q) : (!(b == c)) = false := by rw [hb, hc, h]; simp
theorem eqb1 {a b : List Str} {w : Str} {z : Bool} (hz : z = (mergeL a b).contains w) (hx : a.contains w = true) : (z == true) = true := by rw [hz, merge_in, hx]; simp
theorem eqb2 {a b : List Str} {w : Str} {z y : Bool} (hz : z = (mergeL a b).contains w) (hx : a.contains w = false) (hy : y = b.contains w) : (z == y) = true := by rw [hz, merge_in, hx, hy]; simp
theorem sortedM_word {l : List Str} {i : Nat} {x : Str} (hx : (sortedM l)[i]? = some x) : word x = true := (List.mem_filter.1 (((sortedM_spec l).2 x).1 (List.mem_of_getElem? hx))).2
theorem sortedM_ok {l : List Str} (h : LOk l) {i : Nat} {x : Str} (hx : (sortedM l)[i]? = some x) : x.length ≤ 9223372036854775807 :=
  h x (List.mem_of_mem_take (List.mem_filter.1 (((sortedM_spec l).2 x).1 (List.mem_of_getElem? hx))).1)
theorem sortedM_lt {l : List Str} {i j : Nat} {x y : Str} (hx : (sortedM l)[j]? = some x) (hy : (sortedM l)[i]? = some y) (h : j < i) : Lib.compareBytes x y < 0 := sorted_at (sortedM_spec l).1 hx hy h
theorem sortedM_in {l : List Str} (hl : l.length ≤ 1000) {i : Nat} {x : Str} (hx : l[i]? = some x) : (sortedM l).contains x = word x := by
  rw [Bool.eq_iff_iff, List.contains_iff_mem, sortedM_small hl]
  exact ⟨fun h => h.2, fun h => ⟨List.mem_of_getElem? hx, h⟩⟩
end Go.Ml
