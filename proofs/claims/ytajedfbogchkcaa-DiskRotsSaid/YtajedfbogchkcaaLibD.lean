import Derived.Test.YtajedfbogchkcaaLibC
/-
  Plain functions and laws of chapter 4: where a word stands, without, in order; no program in sight.
-/
set_option linter.unusedVariables false
set_option linter.unusedSimpArgs false
namespace Go.Ml
open Go.Ik

/-! where a word stands -/
def belowW (l : List Str) (w : Str) : Nat := l.countP fun x => decide (Lib.compareBytes x w < 0)
theorem belowW_le (l : List Str) (w : Str) : belowW l w ≤ l.length := List.countP_le_length
theorem sorted_at {l : List Str} (hs : Sorted l) {i j : Nat} {x y : Str} (hx : l[i]? = some x) (hy : l[j]? = some y) (h : i < j) : ltT x y := by
  obtain ⟨h1, rfl⟩ := List.getElem?_eq_some_iff.1 hx
  obtain ⟨h2, rfl⟩ := List.getElem?_eq_some_iff.1 hy
  exact List.pairwise_iff_getElem.1 hs _ _ h1 h2 h
structure BsInv (l : List Str) (w : Str) (i j : Nat) : Prop where
  lo : ∀ k x, k < i → l[k]? = some x → ltT x w
  hi : ∀ k x, j ≤ k → l[k]? = some x → ¬ ltT x w
theorem BsInv.start (l : List Str) (w : Str) : BsInv l w 0 l.length :=
  ⟨fun k x h => by omega, fun k x h hx => by have := (List.getElem?_eq_some_iff.1 hx).1; omega⟩
theorem BsInv.up {l : List Str} {w x : Str} {i j h : Nat} (hb : BsInv l w i j) (hs : Sorted l) (hx : l[h]? = some x) (hc : Lib.compareBytes x w < 0) : BsInv l w (h + 1) j :=
  ⟨fun k y hk hy => by
    rcases Nat.lt_or_ge k h with hl | hl
    · exact lt_trans (sorted_at hs hy hx hl) hc
    · have : k = h := by omega
      subst this
      rw [hx] at hy; cases hy; exact hc, hb.hi⟩
theorem BsInv.dn {l : List Str} {w x : Str} {i j h : Nat} (hb : BsInv l w i j) (hs : Sorted l) (hx : l[h]? = some x) (hc : ¬ Lib.compareBytes x w < 0) : BsInv l w i h :=
  ⟨hb.lo, fun k y hk hy => by
    rcases Nat.lt_or_ge h k with hl | hl
    · exact fun hlt => hc (lt_trans (sorted_at hs hx hy hl) hlt)
    · have : k = h := by omega
      subst this
      rw [hx] at hy; cases hy; exact hc⟩
theorem BsInv.count {l : List Str} {w : Str} {i j : Nat} (hb : BsInv l w i j) (hij : i = j) (hi : i ≤ l.length) : belowW l w = i := by
  subst hij
  unfold belowW
  conv => lhs; rw [← List.take_append_drop i l]
  rw [List.countP_append]
  have h1 : (l.take i).countP (fun x => decide (Lib.compareBytes x w < 0)) = (l.take i).length := by
    rw [List.countP_eq_length]
    intro a ha
    obtain ⟨k, hk⟩ := List.mem_iff_getElem?.1 ha
    rw [List.getElem?_take] at hk
    split at hk
    · rename_i hlt
      exact decide_eq_true (hb.lo k a hlt hk)
    · cases hk
  have h2 : (l.drop i).countP (fun x => decide (Lib.compareBytes x w < 0)) = 0 := by
    rw [List.countP_eq_zero]
    intro a ha
    obtain ⟨k, hk⟩ := List.mem_iff_getElem?.1 ha
    rw [List.getElem?_drop] at hk
    have := hb.hi (i + k) a (by omega) hk
    simpa [ltT] using this
  rw [h1, h2, List.length_take]; omega
theorem lt_ne {x w : Str} (h : ltT x w) : x ≠ w := fun e => by subst e; exact lt_irrefl x h
theorem BsInv.yes {l : List Str} {w x : Str} {i : Nat} (hx : l[i]? = some x) (hc : Lib.compareBytes x w = 0) : true = l.contains w := by
  have := cmp_eq hc
  subst this
  exact (List.contains_iff_mem.2 (List.mem_of_getElem? hx)).symm
theorem BsInv.no {l : List Str} {w x : Str} {i j : Nat} (hb : BsInv l w i j) (hs : Sorted l) (hij : i = j) (hx : l[i]? = some x) (hc : Lib.compareBytes x w ≠ 0) : false = l.contains w := by
  subst hij
  cases h : l.contains w with
  | false => rfl
  | true =>
    obtain ⟨k, hk⟩ := List.mem_iff_getElem?.1 (List.contains_iff_mem.1 h)
    rcases Nat.lt_or_ge k i with hl | hl
    · exact absurd (hb.lo k w hl hk) (lt_irrefl w)
    · rcases Nat.lt_or_ge i k with h2 | h2
      · exact absurd (sorted_at hs hx hk h2) (hb.hi i x (Nat.le_refl _) hx)
      · have : k = i := by omega
        subst this
        rw [hx] at hk; cases hk
        exact absurd (cmp_refl _) hc
theorem BsInv.none {l : List Str} {w : Str} {i j : Nat} (hb : BsInv l w i j) (hi : l.length ≤ i) : false = l.contains w := by
  cases h : l.contains w with
  | false => rfl
  | true =>
    obtain ⟨k, hk⟩ := List.mem_iff_getElem?.1 (List.contains_iff_mem.1 h)
    have := (List.getElem?_eq_some_iff.1 hk).1
    exact absurd (hb.lo k w (by omega) hk) (lt_irrefl w)
/-- in a list in order: what is below a word stands ahead of its place -/
theorem bs_any {l : List Str} (hs : Sorted l) (w : Str) : BsInv l w (belowW l w) (belowW l w) := by
  have key : ∀ (l : List Str), Sorted l → ∀ k x, l[k]? = some x → (ltT x w ↔ k < belowW l w) := by
    intro l
    induction l with
    | nil => intro _ k x hx; simp at hx
    | cons a l ih =>
      intro hs k x hx
      have hs' := List.pairwise_cons.1 hs
      have hb : belowW (a :: l) w = belowW l w + (if Lib.compareBytes a w < 0 then 1 else 0) := by
        unfold belowW; rw [List.countP_cons]; simp
      cases k with
      | zero =>
        simp only [List.getElem?_cons_zero, Option.some.injEq] at hx
        subst hx
        by_cases h : Lib.compareBytes a w < 0
        · rw [hb, if_pos h]
          exact ⟨fun _ => by omega, fun _ => h⟩
        · rw [hb, if_neg h]
          have h0 : belowW l w = 0 := by
            unfold belowW
            rw [List.countP_eq_zero]
            intro y hy hlt
            exact h (lt_trans (hs'.1 y hy) (of_decide_eq_true hlt : Lib.compareBytes y w < 0))
          rw [h0]
          exact ⟨fun hh => absurd hh h, fun hh => by omega⟩
      | succ k =>
        simp only [List.getElem?_cons_succ] at hx
        have := ih hs'.2 k x hx
        by_cases h : Lib.compareBytes a w < 0
        · rw [hb, if_pos h, this]; omega
        · rw [hb, if_neg h, this]
          have h0 : belowW l w = 0 := by
            unfold belowW
            rw [List.countP_eq_zero]
            intro y hy hlt
            exact h (lt_trans (hs'.1 y hy) (of_decide_eq_true hlt : Lib.compareBytes y w < 0))
          omega
  exact ⟨fun k x hk hx => (key l hs k x hx).2 hk, fun k x hk hx hlt => by have := (key l hs k x hx).1 hlt; omega⟩
theorem at_mem {l : List Str} (hs : Sorted l) {w : Str} (h : l.contains w = true) : l[belowW l w]? = some w := by
  obtain ⟨k, hk⟩ := List.mem_iff_getElem?.1 (List.contains_iff_mem.1 h)
  have hb := bs_any hs w
  rcases Nat.lt_or_ge k (belowW l w) with hl | hl
  · exact absurd (hb.lo k w hl hk) (lt_irrefl w)
  · rcases Nat.lt_or_ge (belowW l w) k with h2 | h2
    · have hkl := (List.getElem?_eq_some_iff.1 hk).1
      have hx : l[belowW l w]? = some (l[belowW l w]'(by omega)) := List.getElem?_eq_getElem (by omega)
      exact absurd (sorted_at hs hx hk h2) (hb.hi _ _ (Nat.le_refl _) hx)
    · have : k = belowW l w := by omega
      rw [← this]; exact hk
theorem at_lt {l : List Str} (hs : Sorted l) {w x : Str} {i : Nat} (hx : l[i]? = some x) : Lib.compareBytes x w < 0 ↔ i < belowW l w := by
  have hb := bs_any hs w
  constructor
  · intro h
    rcases Nat.lt_or_ge i (belowW l w) with h1 | h1
    · exact h1
    · exact absurd h (hb.hi i x h1 hx)
  · intro h; exact hb.lo i x h hx

theorem BsInv.at {l : List Str} {w x : Str} {i j : Nat} {b : Bool} (hb : BsInv l w i j) (hs : Sorted l) (hij : i = j) (hx : l[i]? = some x) (h : b = (Lib.compareBytes x w == 0)) : b = l.contains w := by
  rw [h]
  by_cases hc : Lib.compareBytes x w = 0
  · rw [← BsInv.yes hx hc]; simp [hc]
  · rw [← hb.no hs hij hx hc]; simp [hc]

/-! without -/
def withoutM (a b : List Str) : List Str := a.filter fun w => !b.contains w
theorem wo_yes {a b l : List Str} {k : Nat} {x : Str} (hi : l = (a.take k).filter fun w => !b.contains w) (hx : a[k]? = some x) (h : b.contains x = false) : l ++ [x] = (a.take (k + 1)).filter fun w => !b.contains w := by
  rw [hi]; exact (filter_take_yes hx (by rw [h]; rfl)).symm
theorem wo_no {a b l : List Str} {k : Nat} {x : Str} (hi : l = (a.take k).filter fun w => !b.contains w) (hx : a[k]? = some x) (h : b.contains x = true) : l = (a.take (k + 1)).filter fun w => !b.contains w := by
  rw [hi]; exact (filter_take_no hx (by rw [h]; rfl)).symm
theorem LOk.att {l : List Str} (h : LOk l) {m k : Nat} {x : Str} (hx : (l.take m)[k]? = some x) : x.length ≤ 9223372036854775807 := h x (List.mem_of_mem_take (List.mem_of_getElem? hx))
theorem without_mem {a b : List Str} {x : Str} : x ∈ withoutM a b ↔ x ∈ a ∧ x ∉ b := by
  unfold withoutM; rw [List.mem_filter]; simp
theorem without_sorted {a b : List Str} (ha : Sorted a) : Sorted (withoutM a b) := List.Pairwise.filter _ ha
theorem without_len (a b : List Str) : (withoutM a b).length ≤ a.length := List.length_filter_le _ _

/-! in order -/
def sortedM (l : List Str) : List Str := Lib.compactUpTo (sortL ((l.take 1000).filter word)).toArray (sortL ((l.take 1000).filter word)).length
theorem sortedM_spec (l : List Str) : Sorted (sortedM l) ∧ ∀ x, x ∈ sortedM l ↔ x ∈ (l.take 1000).filter word := by
  have h := compact_upTo (sortL_sorted ((l.take 1000).filter word)) _ (Nat.le_refl _)
  refine ⟨h.1, fun x => ?_⟩
  unfold sortedM
  rw [h.2.1, List.take_length, sortL_mem]
theorem sortL_len (l : List Str) : (sortL l).length = l.length := List.length_mergeSort _
theorem sortedM_eq {words l : List Str} {k : Nat} (hi : l = ((words.take (min words.length 1000)).take k).filter word) (hk : (words.take (min words.length 1000)).length ≤ k) : Lib.compactUpTo (sortL l).toArray (sortL l).length = sortedM words := by
  have e : words.take (min words.length 1000) = words.take 1000 := by
    by_cases h : words.length ≤ 1000
    · rw [List.take_of_length_le (show words.length ≤ min words.length 1000 by omega), List.take_of_length_le h]
    · rw [show min words.length 1000 = 1000 by omega]
  rw [List.take_of_length_le hk, e] at hi
  rw [hi]; rfl
theorem sortedM_is {l r : List Str} (h1 : rising r = true) (h2 : (((l.take 1000).filter word).all fun x => r.contains x) = true) (h3 : (r.all fun x => ((l.take 1000).filter word).contains x) = true) : sortedM l = r := by
  have h := sortedM_spec l
  refine sorted_ext h.1 (rising_sorted h1) fun x => ?_
  rw [h.2]
  constructor
  · intro hx; exact List.contains_iff_mem.1 (List.all_eq_true.1 h2 x hx)
  · intro hx; exact List.contains_iff_mem.1 (List.all_eq_true.1 h3 x hx)
theorem nodup_len : ∀ {l r : List Str}, l.Nodup → (∀ x ∈ l, x ∈ r) → l.length ≤ r.length
  | [], r, _, _ => Nat.zero_le _
  | a :: l, r, hn, h => by
    have hn' := List.nodup_cons.1 hn
    have ha : a ∈ r := h a (by simp)
    have := nodup_len (l := l) (r := r.erase a) hn'.2 (fun x hx => by
      have hxa : x ≠ a := fun e => by subst e; exact hn'.1 hx
      exact (List.mem_erase_of_ne hxa).2 (h x (by simp [hx])))
    rw [List.length_erase_of_mem ha] at this
    have := List.length_pos_of_mem ha
    simp only [List.length_cons]; omega
theorem sorted_nodup {l : List Str} (h : Sorted l) : l.Nodup := h.imp fun h => lt_ne h
theorem sortedM_len (l : List Str) : (sortedM l).length ≤ l.length := by
  have h := sortedM_spec l
  refine nodup_len (sorted_nodup h.1) fun x hx => ?_
  exact List.mem_of_mem_take (List.mem_filter.1 ((h.2 x).1 hx)).1
theorem sortedM_small {l : List Str} (h : l.length ≤ 1000) (x : Str) : x ∈ sortedM l ↔ x ∈ l ∧ word x = true := by
  rw [(sortedM_spec l).2, List.take_of_length_le h, List.mem_filter]

/-! laws of chapter 4 -/
theorem good_sorted {l : List Str} (h : goodL l = 0) : Sorted l := (good_words h).2.2
theorem good_len {l : List Str} (h : goodL l = 0) : l.length ≤ 60 := (good_words h).1
theorem merge_comm {a b : List Str} (ha : Sorted a) (hb : Sorted b) : mergeL a b = mergeL b a :=
  sorted_ext (merge_sorted ha hb) (merge_sorted hb ha) fun x => by rw [mem_merge, mem_merge]; exact or_comm
theorem merge_without {a b : List Str} (ha : Sorted a) (hb : Sorted b) : mergeL (withoutM a b) b = mergeL a b :=
  sorted_ext (merge_sorted (without_sorted ha) hb) (merge_sorted ha hb) fun x => by
    rw [mem_merge, mem_merge, without_mem]
    by_cases h : x ∈ b <;> simp [h]
theorem merge_in (a b : List Str) (w : Str) : (mergeL a b).contains w = (a.contains w || b.contains w) := by
  rw [Bool.eq_iff_iff, List.contains_iff_mem, mem_merge, Bool.or_eq_true, List.contains_iff_mem, List.contains_iff_mem]
theorem without_self (a : List Str) : (withoutM a a).length = 0 := by
  rw [List.length_eq_zero_iff, List.eq_nil_iff_forall_not_mem]
  intro x hx
  have := without_mem.1 hx
  exact this.2 this.1
theorem merge_three {a b c : List Str} (ha : Sorted a) (hb : Sorted b) (hc : Sorted c) : mergeL (mergeL a b) c = mergeL a (mergeL c b) :=
  sorted_ext (merge_sorted (merge_sorted ha hb) hc) (merge_sorted ha (merge_sorted hc hb)) fun x => by
    simp only [mem_merge]
    constructor
    · rintro ((h | h) | h) <;> simp [h]
    · rintro (h | h | h) <;> simp [h]
theorem without_two {a b c : List Str} (ha : Sorted a) : withoutM (withoutM a b) c = withoutM a (mergeL b c) :=
  sorted_ext (without_sorted (without_sorted ha)) (without_sorted ha) fun x => by
    simp only [without_mem, mem_merge, not_or, and_assoc]
theorem without_merged {a b c : List Str} (ha : Sorted a) (hb : Sorted b) (hc : Sorted c) : withoutM (mergeL (mergeL a b) c) c = withoutM (mergeL a b) c :=
  sorted_ext (without_sorted (merge_sorted (merge_sorted ha hb) hc)) (without_sorted (merge_sorted ha hb)) fun x => by
    simp only [without_mem, mem_merge]
    constructor
    · rintro ⟨(h | h), h2⟩
      · exact ⟨h, h2⟩
      · exact absurd h h2
    · rintro ⟨h, h2⟩; exact ⟨.inl h, h2⟩
theorem greatT_len {l : List Str} (h : greatT l = false) : l.length ≤ 80 := by
  unfold greatT at h
  simp only [Bool.or_eq_false_iff, decide_eq_false_iff_not] at h
  omega
theorem filter_take_at {l : List Str} {k : Nat} {x : Str} (hx : l[k]? = some x) : (l.take (k + 1)).filter word = (l.take k).filter word ++ (if word x = true then [x] else []) := by
  rw [List.take_add_one, hx, List.filter_append]
  simp [List.filter_cons]
theorem decide_iff_eq {p q : Prop} [Decidable p] [Decidable q] (h : p ↔ q) : decide p = decide q := by
  by_cases hp : p
  · rw [decide_eq_true hp, decide_eq_true (h.1 hp)]
  · rw [decide_eq_false hp, decide_eq_false (fun hq => hp (h.2 hq))]

theorem at_mem_lt {l : List Str} (hs : Sorted l) {w : Str} (h : l.contains w = true) : belowW l w < l.length := (List.getElem?_eq_some_iff.1 (at_mem hs h)).1
theorem at_eq {l : List Str} (hs : Sorted l) {w x : Str} (h : l.contains w = true) (hx : l[belowW l w]? = some x) : x = w := by
  rw [at_mem hs h] at hx; cases hx; rfl
theorem at_no {l : List Str} {w x : Str} {i : Nat} (hx : l[i]? = some x) (hc : Lib.compareBytes x w = 0) (h : l.contains w = false) : False := by
  rw [← BsInv.yes hx hc] at h; cases h
theorem snbeq {a b : Str} (h : a = b) : (!(a == b)) = false := by rw [h]; simp
theorem nbeqB {p q : Prop} [Decidable p] [Decidable q] {b c : Bool} (hb : b = decide p) (hc : c = decide q) (h : p ↔ q) : (!(b == c)) = false := by
  rw [hb, hc, decide_iff_eq h]; simp
theorem nbeqBB {b c p q : Bool} (hb : b = p) (hc : c = q) (h : p = q) : (!(b == c)) = false := by rw [hb, hc, h]; simp
theorem eqb1 {a b : List Str} {w : Str} {z : Bool} (hz : z = (mergeL a b).contains w) (hx : a.contains w = true) : (z == true) = true := by rw [hz, merge_in, hx]; simp
theorem eqb2 {a b : List Str} {w : Str} {z y : Bool} (hz : z = (mergeL a b).contains w) (hx : a.contains w = false) (hy : y = b.contains w) : (z == y) = true := by rw [hz, merge_in, hx, hy]; simp
theorem sortedM_word {l : List Str} {i : Nat} {x : Str} (hx : (sortedM l)[i]? = some x) : word x = true := (List.mem_filter.1 (((sortedM_spec l).2 x).1 (List.mem_of_getElem? hx))).2
theorem sortedM_ok {l : List Str} (h : LOk l) {i : Nat} {x : Str} (hx : (sortedM l)[i]? = some x) : x.length ≤ 9223372036854775807 :=
  h x (List.mem_of_mem_take (List.mem_filter.1 (((sortedM_spec l).2 x).1 (List.mem_of_getElem? hx))).1)
theorem sortedM_lt {l : List Str} {i j : Nat} {x y : Str} (hx : (sortedM l)[j]? = some x) (hy : (sortedM l)[i]? = some y) (h : j < i) : Lib.compareBytes x y < 0 := sorted_at (sortedM_spec l).1 hx hy h
theorem sortedM_in {l : List Str} (hl : l.length ≤ 1000) {i : Nat} {x : Str} (hx : l[i]? = some x) : (sortedM l).contains x = word x := by
  rw [Bool.eq_iff_iff, List.contains_iff_mem, sortedM_small hl]
  exact ⟨fun h => h.2, fun h => ⟨List.mem_of_getElem? hx, h⟩⟩
end Go.Ml
/-
  The reference of chapter 8, plainly: a rune's bytes, first runes, what is left of rests.
-/
set_option linter.unusedVariables false
set_option linter.unusedSimpArgs false
namespace Go.Ml
open Go.Ik

/-! a rune's bytes -/
theorem by8_N (n : Nat) : byN (n : Int) = by8 n := byN_nat n
theorem enc_b1 {r : Int} (h0 : 0 ≤ r) (h : r < 128) : [byN r] = encL r.toNat := by
  obtain ⟨c, rfl⟩ := Int.eq_ofNat_of_zero_le h0
  rw [Int.toNat_natCast]; unfold encL
  rw [if_pos (by omega), by8_N]
theorem enc_b2 {r : Int} (h0 : 0 ≤ r) (h : ¬ r < 128) (h2 : r < 2048) : [byN (192 + r / 64), byN (128 + r % 64)] = encL r.toNat := by
  obtain ⟨c, rfl⟩ := Int.eq_ofNat_of_zero_le h0
  rw [Int.toNat_natCast]; unfold encL
  rw [if_neg (by omega), if_pos (by omega), ← by8_N, ← by8_N]
  rfl
theorem enc_b3 {r : Int} (h0 : 0 ≤ r) (h : ¬ r < 128) (h2 : ¬ r < 2048) (h3 : r < 65536) : [byN (224 + r / 4096), byN (128 + r / 64 % 64), byN (128 + r % 64)] = encL r.toNat := by
  obtain ⟨c, rfl⟩ := Int.eq_ofNat_of_zero_le h0
  rw [Int.toNat_natCast]; unfold encL
  rw [if_neg (by omega), if_neg (by omega), if_pos (by omega), ← by8_N, ← by8_N, ← by8_N]
  rfl
theorem enc_b4 {r : Int} (h0 : 0 ≤ r) (h : ¬ r < 128) (h2 : ¬ r < 2048) (h3 : ¬ r < 65536) : [byN (240 + r / 262144), byN (128 + r / 4096 % 64), byN (128 + r / 64 % 64), byN (128 + r % 64)] = encL r.toNat := by
  obtain ⟨c, rfl⟩ := Int.eq_ofNat_of_zero_le h0
  rw [Int.toNat_natCast]; unfold encL
  rw [if_neg (by omega), if_neg (by omega), if_neg (by omega), ← by8_N, ← by8_N, ← by8_N, ← by8_N]
  rfl
/-! the text of runes -/
def encI_ (l : List Int) : Str := l.flatMap fun r => encL r.toNat
def rtext (l : List Int) : Str := if l.all goodR = true then encI_ l else []
theorem encI_take {l : List Int} {k : Nat} {x : Int} (hx : l[k]? = some x) : encI_ (l.take (k + 1)) = encI_ (l.take k) ++ encL x.toNat := by
  unfold encI_; rw [List.take_add_one, hx]; simp
theorem rtext_no {l : List Int} {k : Nat} {x : Int} (hx : l[k]? = some x) (h : goodR x = false) : ([] : Str) = rtext l ∧ false = l.all goodR := by
  have : l.all goodR = false := not_all hx h
  unfold rtext; rw [this]; exact ⟨rfl, rfl⟩
theorem rtext_yes {l : List Int} {k : Nat} {s : Str} (ha : (l.take k).all goodR = true) (hs : s = encI_ (l.take k)) (hk : l.length ≤ k) : s = rtext l ∧ true = l.all goodR := by
  rw [List.take_of_length_le hk] at ha hs
  unfold rtext; rw [if_pos ha, ha]; exact ⟨hs, rfl⟩
theorem encL_len4' (c : Nat) : (encL c).length ≤ 4 := encL_len4 c
theorem goodR_of {c : Nat} (h : goodN c) : goodR (c : Int) = true := by
  rw [good_d]; unfold goodN at h; exact decide_eq_true (by omega)
theorem goodR_rng {x : Int} (h : goodR x = true) : 0 ≤ x ∧ x ≤ 1114111 := by
  rw [good_d] at h
  have := of_decide_eq_true h
  omega
theorem fine_head {s : Str} (hf : Fine s) (hne : s ≠ []) : goodN (hdN s) ∧ encL (hdN s) = pfx s ∧ (runesM s)[0]? = some ((hdN s : Nat) : Int) ∧ 1 ≤ (runesM s).length := by
  have h1 := (encT_runes s hf).2 (hdN s) (by rw [runes_cons hne]; simp [hdN])
  have h2 := (enc_dec hne h1.2.2).2
  have h3 : runesM s = ((hdN s : Nat) : Int) :: (runes (s.drop (dec s).2)).map fun n : Nat => (n : Int) := by
    unfold runesM; rw [if_pos (fine_iff.2 hf)]; unfold runesI; rw [runes_cons hne]; rfl
  exact ⟨h1, h2, by rw [h3]; rfl, by rw [h3]; simp⟩
theorem rpfx {s : Str} (hf : Fine s) (hne : s ≠ []) : rtext ((runesM s).take 1) = pfx s := by
  obtain ⟨h1, h2, h3, h4⟩ := fine_head hf hne
  have h5 : (runesM s).take 1 = [((hdN s : Nat) : Int)] := by
    cases hl : runesM s with
    | nil => rw [hl] at h4; simp at h4
    | cons a r => rw [hl] at h3; simp at h3; simp [h3]
  rw [h5]; unfold rtext
  rw [if_pos (by simp [goodR_of h1])]
  unfold encI_; simp [h2]
theorem rpfx1 {s : Str} (hf : Fine s) (hne : s ≠ []) (h : ¬ (1 : Int) < ((runesM s).length : Int)) : rtext (runesM s) = pfx s := by
  rw [← rpfx hf hne, List.take_of_length_le (by omega)]
theorem dec_encL' {c : Nat} (hc : goodN c) (t : Str) : pfx (encL c ++ t) = encL c := by
  have h : runes (encL c ++ t) = c :: runes t := runes_app hc t
  have hne : encL c ++ t ≠ [] := by
    intro e
    rw [e] at h; simp [runes_nil] at h
  have hd : (dec (encL c ++ t)).1 = c := by
    rw [runes_cons hne] at h
    exact (List.cons.inj h).1
  have := (enc_dec hne (by rw [hd]; exact hc.2.2)).2
  rw [hd] at this
  exact this.symm
theorem no_find' {s : GS} {r : List Str} (h : ∀ x ∈ s, x.1 ≠ r) : (s.findIdx? fun x => x.1 == r) = none := by
  rw [List.findIdx?_eq_none_iff]
  intro x hx
  exact beq_eq_false_iff_ne.2 (h x hx)
theorem pfx_eq {x t : Str} (hx : Fine x) (hxn : x ≠ []) (ht : Fine t) (htn : t ≠ []) : (pfx t == pfx x) = (pfx x).isPrefixOf t := by
  obtain ⟨h1, h2, _⟩ := fine_head hx hxn
  rw [Bool.eq_iff_iff, beq_iff_eq]
  constructor
  · intro e; rw [← e]; exact pfx_is t
  · intro h
    have := prefix_drop h
    rw [← h2] at this ⊢
    rw [this]
    exact (dec_encL' h1 _)
/-! what is left of rests at a place -/
def remR (rests : List Str) (i : Nat) : List Str := if i = 0 then dropE rests else rests.drop i
theorem rem_zero (rests : List Str) : remR rests 0 = dropE rests := rfl
theorem pos_ne {l : List Str} (hs : Sorted l) {i : Nat} {x : Str} (hx : l[i]? = some x) (hi : 0 < i) : x ≠ [] := by
  have hlt := (List.getElem?_eq_some_iff.1 hx).1
  have h0 : l[0]? = some l[0] := List.getElem?_eq_getElem (by omega)
  have := sorted_at hs h0 hx hi
  intro e; subst e
  unfold ltT at this
  have h2 : Lib.compareBytes l[0] [] ≥ 0 := by
    cases l[0] with
    | nil => decide
    | cons a r => show (1 : Int) ≥ 0; omega
  omega
theorem ne_at {l : List Str} (hs : Sorted l) {k k1 : Nat} {x y : Str} (hx : l[k]? = some x) (hxn : x ≠ []) (hk : k ≤ k1) (hy : l[k1]? = some y) : y ≠ [] := by
  rcases Nat.eq_or_lt_of_le hk with e | h
  · subst e
    rw [hx] at hy; cases hy; exact hxn
  · exact pos_ne hs hy (by omega)
theorem runesM_r32 (s : Str) : ∀ x ∈ runesM s, -2147483648 ≤ x ∧ x ≤ 2147483647 := by
  intro x hx
  obtain ⟨k, hk⟩ := List.mem_iff_getElem?.1 hx
  have := runesM_rng hk
  omega
theorem rem_skip {rests : List Str} (hg : GoodR rests) {i : Nat} {x : Str} (hx : rests[i]? = some x) (he : x = []) : remR rests i = remR rests (i + 1) ∧ i = 0 := by
  have hi : i = 0 := by
    rcases Nat.eq_zero_or_pos i with h | h
    · exact h
    · exact absurd he (pos_ne hg.sorted hx h)
  subst hi
  refine ⟨?_, rfl⟩
  rw [rem_zero, (dropE_nil hx he).1]; rfl
theorem rem_grp {rests : List Str} {i : Nat} {x : Str} (hx : rests[i]? = some x) (hne : x ≠ []) : remR rests i = rests.drop i := by
  unfold remR
  split
  · rename_i h; subst h
    rw [(dropE_cons hx hne).1]; rfl
  · rfl
theorem rem_end {rests : List Str} {i : Nat} (h : rests.length ≤ i) : remR rests i = [] := by
  unfold remR
  split
  · have : rests = [] := List.eq_nil_of_length_eq_zero (by omega)
    subst this; rfl
  · exact List.drop_of_length_le h
theorem rem_pos {rests : List Str} {i : Nat} (h : 0 < i) : remR rests i = rests.drop i := by unfold remR; rw [if_neg (by omega)]
theorem rem_good {rests : List Str} {f : Nat} (hg : GoodR rests) (hd : Deep f rests) (i : Nat) : GoodR (remR rests i) ∧ (∀ t ∈ remR rests i, t ≠ []) ∧ Deep f (remR rests i) := by
  unfold remR
  split
  · have := dropE_good hg
    exact ⟨this.1, this.2, fun t ht => hd t (dropE_mem ht)⟩
  · rename_i hi
    refine ⟨⟨sorted_suffix hg.sorted (List.drop_suffix _ _), fun t ht => hg.fine t (List.mem_of_mem_drop ht)⟩, fun t ht => ?_, fun t ht => hd t (List.mem_of_mem_drop ht)⟩
    obtain ⟨k, hk⟩ := List.mem_iff_getElem?.1 ht
    rw [List.getElem?_drop] at hk
    exact pos_ne hg.sorted hk (by omega)
theorem rem_sum (rests : List Str) (i : Nat) : sumLen (remR rests i) ≤ sumLen rests := by
  unfold remR
  split
  · rw [sumLen_dropE]; exact Nat.le_refl _
  · have := sumLen_app (rests.take i) (rests.drop i)
    rw [List.take_append_drop] at this
    omega
theorem rem_len (rests : List Str) (i : Nat) : (remR rests i).length ≤ rests.length := by
  unfold remR
  split
  · exact dropE_len rests
  · simp
/-! looked for among names -/
theorem find_at {s : GS} {r : List Str} {k : Nat} {x : List Str × List Ed} (hno : ∀ y ∈ s.take k, y.1 ≠ r) (hx : s[k]? = some x) (he : x.1 = r) : (s.findIdx? fun x => x.1 == r) = some k := by
  obtain ⟨hk, rfl⟩ := List.getElem?_eq_some_iff.1 hx
  rw [List.findIdx?_eq_some_iff_getElem]
  refine ⟨hk, by simpa using he, fun j hj => ?_⟩
  have := hno s[j] (by rw [List.mem_take_iff_getElem]; exact ⟨j, by omega, rfl⟩)
  simpa using this
theorem find_step {s : GS} {r : List Str} {k : Nat} {x : List Str × List Ed} (hno : ∀ y ∈ s.take k, y.1 ≠ r) (hx : s[k]? = some x) (he : x.1 ≠ r) : ∀ y ∈ s.take (k + 1), y.1 ≠ r := by
  intro y hy
  rw [List.take_add_one, hx] at hy
  simp only [Option.toList_some, List.mem_append, List.mem_singleton] at hy
  rcases hy with hy | rfl
  · exact hno y hy
  · exact he
theorem find_no {s : GS} {r : List Str} {k : Nat} (hno : ∀ y ∈ s.take k, y.1 ≠ r) (hk : s.length ≤ k) : (s.findIdx? fun x => x.1 == r) = none := by
  rw [List.take_of_length_le hk] at hno
  exact no_find' hno
theorem names_put' {s : GS} {rests : List Str} (hf : (s.findIdx? fun x => x.1 == rests) = none) (hnd : (names s).Nodup) : (names (s ++ (rests, []) :: [])).Nodup := by
  have hno := findIdx_none hf
  unfold names
  rw [List.map_append, List.nodup_append]
  refine ⟨hnd, by simp, fun a ha b hb => ?_⟩
  simp only [List.map_cons, List.map_nil, List.mem_singleton] at hb
  subst hb
  exact fun e => hno (by rw [← e]; exact ha)
theorem addM_nodup {f : Nat} {s : GS} {rests : List Str} (hd : Deep f rests) (hg : GoodR rests) (hne : rests ≠ []) (hn : (names s).Nodup) : (names (addM (f + 1) s rests).1).Nodup := (addM_ok f s rests hd hg hne hn).apart
end Go.Ml
/-
  Plain laws of chapter 8: words from a text on, in pieces; one word's graph.
-/
set_option linter.unusedVariables false
set_option linter.unusedSimpArgs false
namespace Go.Ml
open Go.Ik

/-! words from a text on -/
def geF (words : List Str) (w : Str) : List Str := words.filter fun x => decide (Lib.compareBytes x w ≥ 0)
theorem fromF_all (w : Str) (most : Int) : ∀ (words l : List Str), (l.length : Int) < most → (eachF (fromF w most) l words).1 = (l ++ geF words w).take most.toNat
  | [], l, h => by
    simp only [eachF, geF, List.filter_nil, List.append_nil]
    rw [List.take_of_length_le (by omega)]
  | x :: words, l, h => by
    unfold eachF
    have hf : fromF w most l x = (if Lib.compareBytes x w ≥ 0 then l ++ [x] else l, decide (((if Lib.compareBytes x w ≥ 0 then l ++ [x] else l).length : Int) < most)) := by
      unfold fromF
      simp only [h, true_and]
    rw [hf]
    by_cases hc : Lib.compareBytes x w ≥ 0
    · simp only [if_pos hc]
      have hg : geF (x :: words) w = x :: geF words w := by unfold geF; rw [List.filter_cons_of_pos (by simpa using hc)]
      rw [hg]
      by_cases hl : ((l ++ [x]).length : Int) < most
      · rw [if_pos (by simpa using hl), fromF_all w most words (l ++ [x]) hl]
        simp
      · rw [if_neg (by simpa using hl)]
        simp only [List.length_append, List.length_cons, List.length_nil] at hl
        have : most.toNat = (l ++ [x]).length := by simp only [List.length_append, List.length_cons, List.length_nil]; omega
        rw [this, show l ++ x :: geF words w = (l ++ [x]) ++ geF words w by simp, List.take_left]
    · simp only [if_neg hc]
      have hg : geF (x :: words) w = geF words w := by unfold geF; rw [List.filter_cons_of_neg (by simpa using hc)]
      rw [hg, if_pos (by simpa using h), fromF_all w most words l h]
theorem fromM_take (words : List Str) (w : Str) (most : Int) : fromM words w most = (geF words w).take most.toNat := by
  unfold fromM
  by_cases h : (0 : Int) < most
  · rw [fromF_all w most words [] (by simpa using h)]; simp
  · have h0 : most.toNat = 0 := by omega
    rw [h0, List.take_zero]
    cases words with
    | nil => rfl
    | cons x words =>
      unfold eachF
      have hf : fromF w most [] x = ([], false) := by
        unfold fromF
        have h1 : ¬ (((([] : List Str).length : Nat) : Int) < most ∧ Lib.compareBytes x w ≥ 0) := fun e => h (by simpa using e.1)
        simp only [if_neg h1]
        simpa using h
      rw [hf]; simp
theorem geF_len (words : List Str) (w : Str) : (geF words w).length ≤ words.length := List.length_filter_le _ _
theorem cmp_nil (x : Str) : Lib.compareBytes x [] ≥ 0 := by
  cases x with
  | nil => decide
  | cons a x => show (1 : Int) ≥ 0; omega
theorem geF_nil (words : List Str) : geF words [] = words := by
  unfold geF
  rw [List.filter_eq_self.2]
  intro x _
  have := cmp_nil x
  simpa using this
theorem geF_drop : ∀ {words : List Str}, Sorted words → ∀ {k : Nat} {x : Str}, words[k]? = some x → geF words x = words.drop k
  | [], _, k, x, hx => by simp at hx
  | y :: words, hs, 0, x, hx => by
    simp only [List.getElem?_cons_zero, Option.some.injEq] at hx
    subst hx
    obtain ⟨h1, h2⟩ := List.pairwise_cons.1 hs
    unfold geF
    rw [List.drop_zero, List.filter_eq_self.2]
    intro z hz
    rcases List.mem_cons.1 hz with rfl | hz
    · rw [cmp_refl]; simp
    · have := h1 z hz
      unfold ltT at this
      have h3 := cmp_anti z y
      simp only [decide_eq_true_eq]; omega
  | y :: words, hs, k + 1, x, hx => by
    simp only [List.getElem?_cons_succ] at hx
    obtain ⟨h1, h2⟩ := List.pairwise_cons.1 hs
    have hy := h1 x (List.mem_of_getElem? hx)
    unfold ltT at hy
    have hn : ¬ Lib.compareBytes y x ≥ 0 := by omega
    have := geF_drop h2 hx
    unfold geF at this ⊢
    rw [List.filter_cons_of_neg (by simpa using hn), List.drop_succ_cons, this]
theorem geF_sorted {words : List Str} (h : Sorted words) (w : Str) : Sorted (geF words w) := List.Pairwise.filter _ h
theorem geF_geF {words : List Str} (hs : Sorted words) {w x : Str} {k : Nat} (hx : (geF words w)[k]? = some x) : geF words x = (geF words w).drop k := by
  rw [← geF_drop (geF_sorted hs w) hx]
  unfold geF
  rw [List.filter_filter]
  refine (List.filter_congr fun z _ => ?_)
  have hxw : Lib.compareBytes x w ≥ 0 := by
    have := List.mem_of_getElem? hx
    have := (List.mem_filter.1 this).2
    simpa using this
  by_cases hz : Lib.compareBytes z x ≥ 0
  · have : Lib.compareBytes z w ≥ 0 := by
      rcases (by omega : Lib.compareBytes z w ≥ 0 ∨ Lib.compareBytes z w < 0) with h | h
      · exact h
      · exfalso
        by_cases he : x = w
        · subst he; omega
        · have h1 : ltT w x := lt_tri (by omega) he
          have h2 := lt_trans (a := z) (b := w) (c := x) h h1
          unfold ltT at h2; omega
    simp [hz, this]
  · simp [hz]
/-- pieces: all from 'w' on; the first 'a'; from the last of these on -/
theorem pieces {words : List Str} (hg : goodL words = 0) (w : Str) {a b : Int} (ha : 0 ≤ a) (hb : 0 ≤ b) :
    ((fromM words w a).length : Int) = min a ((fromM words w 100).length : Int) ∧ fromM words w a = (fromM words w 100).take (fromM words w a).length ∧
    (∀ x, (fromM words w a)[(fromM words w a).length - 1]? = some x → fromM words x (b + 1) = ((fromM words w 100).drop ((fromM words w a).length - 1)).take (min (b + 1).toNat ((fromM words w 100).drop ((fromM words w a).length - 1)).length)) ∧
    fromM words [] 100 = words ∧ fromM words w (-a) = [] := by
  have hs := good_sorted hg
  have hl := good_len hg
  have hfl := geF_len words w
  have h100 : fromM words w 100 = geF words w := by rw [fromM_take, List.take_of_length_le (by simp; omega)]
  rw [h100]
  have hA := fromM_take words w a
  refine ⟨by rw [hA, List.length_take]; omega, ?_, fun x hx => ?_, ?_, ?_⟩
  · rw [hA, List.length_take]
    by_cases h : a.toNat ≤ (geF words w).length
    · rw [Nat.min_eq_left h]
    · rw [Nat.min_eq_right (by omega), List.take_of_length_le (by omega), List.take_of_length_le (Nat.le_refl _)]
  · have hlt := (List.getElem?_eq_some_iff.1 hx).1
    have hx' : (geF words w)[(fromM words w a).length - 1]? = some x := by
      rw [hA, List.getElem?_take] at hx
      rw [hA]
      split at hx
      · exact hx
      · cases hx
    rw [fromM_take, geF_geF hs hx']
    by_cases h : (b + 1).toNat ≤ ((geF words w).drop ((fromM words w a).length - 1)).length
    · rw [Nat.min_eq_left h]
    · rw [Nat.min_eq_right (by omega), List.take_of_length_le (by omega), List.take_of_length_le (Nat.le_refl _)]
  · rw [fromM_take, geF_nil, List.take_of_length_le (by simp; omega)]
  · rw [fromM_take, show (-a).toNat = 0 from by omega, List.take_zero]
theorem gnodes_ne {words : List Str} (h : goodL words = 0) : gnodes words ≠ [] := by
  rw [gnodes_yes h]
  unfold graphB gnOf
  split
  · simp
  · rename_i hne
    obtain ⟨es, he⟩ := (graphM_ok (good_deep h).2 (good_deep h).1 hne).root
    intro e
    rw [List.map_eq_nil_iff] at e
    rw [e] at he; simp at he
theorem nodeAt_nil (n : Int) : nodeAt ([] : List GN) n = (false, []) := nodeAt_no (by simp only [List.length_nil]; omega)

theorem eqb3 {a b p q : Bool} (ha : a = p) (hb : b = q) (h : p = q) : (a == b) = true := by rw [ha, hb, h]; simp
/-! one word's graph -/
def chain : Nat → List Nat → GS
  | _, [] => [([[]], [])]
  | k, c :: cs => ([encT (c :: cs)], [⟨(c : Int), ((k + 1 : Nat) : Int)⟩]) :: chain (k + 1) cs
theorem encT_cons (c : Nat) (cs : List Nat) : encT (c :: cs) = encL c ++ encT cs := rfl
theorem isPrefix_app (p t : Str) : p.isPrefixOf (p ++ t) = true := by
  rw [List.isPrefixOf_iff_prefix]; exact List.prefix_append p t
theorem dec_encL {c : Nat} (hc : goodN c) (t : Str) : hdN (encL c ++ t) = c ∧ pfx (encL c ++ t) = encL c := by
  have h : runes (encL c ++ t) = c :: runes t := runes_app hc t
  have hne : encL c ++ t ≠ [] := by
    intro e
    rw [e] at h; simp [runes_nil] at h
  have hd : hdN (encL c ++ t) = c := by
    rw [runes_cons hne] at h
    exact (List.cons.inj h).1
  refine ⟨hd, ?_⟩
  have hd' : (dec (encL c ++ t)).1 = c := hd
  have := (enc_dec hne (by rw [hd']; exact hc.2.2)).2
  rw [hd'] at this
  exact this.symm
theorem groups_one {c : Nat} (hc : goodN c) (t : Str) : groups [encL c ++ t] = [(c, [t])] := by
  obtain ⟨h1, h2⟩ := dec_encL hc t
  rw [groups_cons, h1, h2]
  have hs : stripP (encL c) [encL c ++ t] = [t] := by
    unfold stripP
    rw [List.takeWhile_cons, if_pos (isPrefix_app _ _)]
    simp
  have hm : moreP (encL c) [encL c ++ t] = [] := by
    unfold moreP
    rw [List.dropWhile_cons, if_pos (isPrefix_app _ _)]
    rfl
  rw [hs, hm, groups_nil]
theorem encT_inj {a b : List Nat} (ha : ∀ c ∈ a, goodN c) (hb : ∀ c ∈ b, goodN c) (h : encT a = encT b) : a = b := by
  rw [← runes_encT a ha, ← runes_encT b hb, h]
theorem no_find {s : GS} {r : List Str} (h : ∀ x ∈ s, x.1 ≠ r) : (s.findIdx? fun x => x.1 == r) = none := by
  rw [List.findIdx?_eq_none_iff]
  intro x hx
  exact beq_eq_false_iff_ne.2 (h x hx)
theorem add_chain : ∀ (rs : List Nat) (f : Nat) (s : GS), rs.length ≤ f → (∀ c ∈ rs, goodN c) → (∀ x ∈ s, ∀ u : List Nat, (∀ c ∈ u, goodN c) → u.length ≤ rs.length → x.1 ≠ [encT u]) → addM (f + 1) s [encT rs] = (s ++ chain s.length rs, s.length)
  | [], f, s, _, hg, hs => by
    have hno := no_find fun x hx => hs x hx [] hg (Nat.le_refl _)
    have he : edgesM (addM f) (s ++ [([encT []], [])]) (groups (dropE [encT []])) = (s ++ ([encT []], []) :: [], []) := rfl
    rw [addM_miss hno he]
    rfl
  | c :: cs, 0, s, hf, _, _ => by simp at hf
  | c :: cs, f + 1, s, hf, hg, hs => by
    have hcg := hg c (by simp)
    have hno := no_find fun x hx => hs x hx (c :: cs) hg (Nat.le_refl _)
    have hne : encT (c :: cs) ≠ [] := by
      intro e
      have := runes_encT (c :: cs) hg
      rw [e] at this; simp [runes_nil] at this
    have hd : groups (dropE [encT (c :: cs)]) = [(c, [encT cs])] := by
      rw [(dropE_cons (l := [encT (c :: cs)]) rfl hne).1, encT_cons]
      exact groups_one hcg _
    have ih := add_chain cs f (s ++ [([encT (c :: cs)], [])]) (by simp only [List.length_cons] at hf; omega) (fun d hd => hg d (by simp [hd])) (fun x hx u hu hl => by
      rcases List.mem_append.1 hx with hx | hx
      · exact hs x hx u hu (by simp only [List.length_cons]; omega)
      · simp only [List.mem_singleton] at hx
        subst hx
        intro e
        have e2 := encT_inj hg hu (List.cons.inj e).1
        rw [← e2] at hl
        simp only [List.length_cons] at hl
        omega)
    have he : edgesM (addM (f + 1)) (s ++ [([encT (c :: cs)], [])]) (groups (dropE [encT (c :: cs)])) = (s ++ ([encT (c :: cs)], []) :: chain (s.length + 1) cs, [⟨(c : Int), ((s.length + 1 : Nat) : Int)⟩]) := by
      rw [hd]
      simp only [edgesM, ih, List.length_append, List.length_cons, List.length_nil, List.append_assoc, List.cons_append, List.nil_append, Nat.zero_add]
    rw [addM_miss hno he]
    rfl
theorem chain_at : ∀ (rs : List Nat) (k i : Nat), i ≤ rs.length → (chain k rs)[i]? = some ([encT (rs.drop i)], match rs[i]? with | some c => [⟨(c : Int), ((k + i + 1 : Nat) : Int)⟩] | none => [])
  | [], k, 0, _ => rfl
  | [], k, i + 1, h => by simp at h
  | c :: cs, k, 0, _ => rfl
  | c :: cs, k, i + 1, h => by
    have := chain_at cs (k + 1) i (by simp only [List.length_cons] at h; omega)
    simp only [chain, List.getElem?_cons_succ, List.drop_succ_cons, this]
    rw [show k + 1 + i + 1 = k + (i + 1) + 1 by omega]
theorem chain_len : ∀ (rs : List Nat) (k : Nat), (chain k rs).length = rs.length + 1
  | [], _ => rfl
  | c :: cs, k => by simp [chain, chain_len cs (k + 1)]
theorem good_one {w : Str} (h : word w = true) : goodL [w] = 0 := by
  unfold goodL
  rw [if_neg (by simp), if_pos (by simp [h]), if_pos (by rfl)]
theorem one_graph {w : Str} (h : word w = true) : graphB [w] = chain 0 (runes w) ∧ ∀ c ∈ runes w, goodN c := by
  have hg := good_one h
  obtain ⟨hgr, hd⟩ := good_deep hg
  have hf := hgr.fine w (by simp)
  obtain ⟨he, hgn⟩ := encT_runes w hf
  refine ⟨?_, hgn⟩
  have := add_chain (runes w) 12 [] (hd w (by simp)) hgn (by simp)
  rw [he] at this
  unfold graphB graphM
  rw [if_neg (by simp), this]
  rfl
theorem runesM_word {w : Str} (h : word w = true) : runesM w = (runes w).map fun n : Nat => (n : Int) := by
  have hf : Fine w := ((good_deep (good_one h)).1).fine w (by simp)
  unfold runesM
  rw [if_pos (fine_iff.2 hf)]; rfl
/-- one word's graph, node by node -/
theorem one_len {w : Str} (h : word w = true) : (((gnodes [w]).length : Nat) : Int) = (((runesM w).length + 1 : Nat) : Int) := by
  rw [gnodes_yes (good_one h), gnOf_len, (one_graph h).1, chain_len, runesM_word h, List.length_map]
theorem one_node {w : Str} (h : word w = true) {i : Nat} (hi : i ≤ (runesM w).length) :
    (nodeAt (gnodes [w]) (i : Int)).1 = ((i : Int) == ((runesM w).length : Int)) ∧ (∀ r, (runesM w)[i]? = some r → (nodeAt (gnodes [w]) (i : Int)).2 = [⟨r, ((i + 1 : Nat) : Int)⟩]) ∧ (i = (runesM w).length → (nodeAt (gnodes [w]) (i : Int)).2 = []) := by
  obtain ⟨hg, hgn⟩ := one_graph h
  have hr := runesM_word h
  have hl : (runesM w).length = (runes w).length := by rw [hr, List.length_map]
  have hc := chain_at (runes w) 0 i (by omega)
  have hn : nodeAt (gnodes [w]) (i : Int) = (finB [encT ((runes w).drop i)], match (runes w)[i]? with | some c => [⟨(c : Int), ((0 + i + 1 : Nat) : Int)⟩] | none => []) := by
    rw [gnodes_yes (good_one h), hg]; exact gnOf_at hc
  rw [hn]
  refine ⟨?_, fun r hri => ?_, fun hi => ?_⟩
  · by_cases he : i = (runes w).length
    · rw [List.drop_of_length_le (by omega)]
      rw [beq_iff_eq.2 (by omega)]; rfl
    · rw [beq_eq_false_iff_ne.2 (by omega)]
      have hne : encT ((runes w).drop i) ≠ [] := by
        intro e
        have := runes_encT ((runes w).drop i) fun c hc => hgn c (List.mem_of_mem_drop hc)
        rw [e, runes_nil] at this
        have := congrArg List.length this
        rw [List.length_drop] at this
        simp only [List.length_nil] at this
        omega
      unfold finB
      simpa using hne
  · rw [hr, List.getElem?_map] at hri
    obtain ⟨c, hc, rfl⟩ := Option.map_eq_some_iff.1 hri
    rw [hc]
    simp
  · rw [List.getElem?_eq_none (by omega)]
end Go.Ml
/-
  The reference's graph as what is held.
-/
set_option linter.unusedVariables false
set_option linter.unusedSimpArgs false
namespace Go.Ik
open Go Go.Ml

structure RNd where
  r : SH
  e : SH
def encRd (x : RNd) : List Value := [x.r.val, x.e.val]
theorem encRd_len (x : RNd) : (encRd x).length = 2 := rfl
theorem encRd_one (x : RNd) : (encRd x).all (·.oneCell') = true := rfl
section
variable {R : Nat → Prop}
def RR (w : World) (F : Nat → Prop) (nds : List RNd) (s : GS) : Prop := All2 (fun n x => Sl encS w F n.r.val x.1 ∧ Sl encE w F n.e.val x.2) nds s
theorem RR.mono {w : World} {F F' : Nat → Prop} {nds : List RNd} {s : GS} (h : RR w F nds s) (hF : ∀ b, F b → F' b) : RR w F' nds s := All2.imp (fun r n ⟨h1, h2⟩ => ⟨h1.mono hF, h2.mono hF⟩) h
theorem RR.keep {M : Nat → Prop} {w w' : World} {F : Nat → Prop} {nds : List RNd} {s : GS} (h : RR w F nds s) (hm : Mod M w w') (hF : ∀ b, F b → ¬ M b) : RR w' F nds s := All2.imp (fun r n ⟨h1, h2⟩ => ⟨h1.keep hm hF, h2.keep hm hF⟩) h
theorem RR.len {w : World} {F : Nat → Prop} {nds : List RNd} {s : GS} (h : RR w F nds s) : nds.length = s.length := (All2.get h).1
theorem RR.at {w : World} {F : Nat → Prop} {nds : List RNd} {s : GS} (h : RR w F nds s) {k : Nat} {n : RNd} (hn : nds[k]? = some n) : ∃ x, s[k]? = some x ∧ Sl encS w F n.r.val x.1 ∧ Sl encE w F n.e.val x.2 := by
  have hg := All2.get h
  have hlt := (List.getElem?_eq_some_iff.1 hn).1
  have hx : s[k]? = some (s[k]'(by rw [← hg.1]; exact hlt)) := by simp
  exact ⟨_, hx, hg.2 k _ _ hn hx⟩
def rrR (nds : List RNd) (s : GS) : Res R := ⟨fun F w => RR w (fun b => F b ∨ R b) nds s, fun h hm hF hR => RR.keep h hm fun b hb => hb.elim (hF b) (hR b)⟩
/-- the graph in block 'bG': its nodes' rests (their headers: 'hs') and edges -/
def rgR (gT nT : TypeId) (bG : Nat) (s : GS) (hs : List Value) : Res R := exR fun x : Value × List RNd => andR (x.2.map (fun n => n.r.val) = hs) (boxR [bkR bG [x.1] gT, accR encRd nT 2 x.1 x.2, rrR x.2 s])
theorem St.and {F0 : Nat → Prop} {w0 w : World} {L : List (Res R)} {i : Nat} {P : Prop} {A : Res R} (h : St R F0 w0 w L) (hi : L[i]? = some (andR P A)) : P ∧ St R F0 w0 w (L.set i A) := by
  obtain ⟨F, h1, _⟩ := h.get hi
  exact ⟨h1.1, h.imp hi fun F hF => hF.2⟩
theorem St.rrAt {F0 : Nat → Prop} {w0 w : World} {L : List (Res R)} {i k : Nat} {nds : List RNd} {s : GS} {n : RNd} (h : St R F0 w0 w L) (hi : L[i]? = some (rrR nds s)) (hn : nds[k]? = some n) : ∃ x, s[k]? = some x ∧ Sl encS w (Iv 0 w.heap.size) n.r.val x.1 ∧ Sl encE w (Iv 0 w.heap.size) n.e.val x.2 := by
  obtain ⟨F, h1, h2⟩ := h.get hi
  have h3 : RR w (Iv 0 w.heap.size) nds s := RR.mono h1 fun b hb => ⟨Nat.zero_le _, hb.elim (h2 b) (h.rlt b)⟩
  exact h3.at hn
theorem St.rrLen {F0 : Nat → Prop} {w0 w : World} {L : List (Res R)} {i : Nat} {nds : List RNd} {s : GS} (h : St R F0 w0 w L) (hi : L[i]? = some (rrR nds s)) : nds.length = s.length := by
  obtain ⟨F, h1, _⟩ := h.get hi
  exact RR.len h1
theorem St.rgAt {F0 : Nat → Prop} {w0 w : World} {L : List (Res R)} {i k : Nat} {gT nT : TypeId} {bG : Nat} {s : GS} {hs : List Value} {v : Value} {x : List Str × List Ed} (h : St R F0 w0 w L) (hi : L[i]? = some (rgR gT nT bG s hs)) (hv : hs[k]? = some v) (hx : s[k]? = some x) : Sl encS w (Iv 0 w.heap.size) v x.1 := by
  obtain ⟨F, ⟨⟨vN, nds⟩, hm, Fs, h1, h2, h3⟩, hF⟩ := h.get hi
  have h4 : RR w (fun b => Fs 2 b ∨ R b) nds s := h1 2 _ rfl
  have h5 : RR w (Iv 0 w.heap.size) nds s := RR.mono h4 fun b hb => ⟨Nat.zero_le _, hb.elim (fun h => (h2 2 b h).2) (h.rlt b)⟩
  have hm' : nds.map (fun n => n.r.val) = hs := hm
  subst hm'
  rw [List.getElem?_map] at hv
  obtain ⟨n, hn, rfl⟩ := Option.map_eq_some_iff.1 hv
  obtain ⟨x', hx', h6, _⟩ := h5.at hn
  rw [hx] at hx'; cases hx'
  exact h6
theorem rr_push {nds : List RNd} {s : GS} {v : Value} {rests : List Str} {n : RNd} {F : Nat → Prop} {w : World} (hv : v = n.r.val) (he : n.e.val = .slice none 0 0) (h : (boxR (R := R) [rrR nds s, slR encS [(v, rests)]]).p F w) : (rrR (R := R) (nds ++ [n]) (s ++ [(rests, [])])).p F w := by
  obtain ⟨F1, F2, h1, h2, h3, h4⟩ := sep_pair h
  exact All2.app (RR.mono h1 fun b hb => hb.imp (h3 b) id) (.cons ⟨hv ▸ (slR_one h2).mono fun b hb => hb.imp (h4 b) id, he ▸ Sl.nil⟩ .nil)
theorem rg_len {gT nT : TypeId} {bG : Nat} {s : GS} {hs : List Value} {F : Nat → Prop} {w : World} (h : (rgR (R := R) gT nT bG s hs).p F w) : hs.length = s.length := by
  obtain ⟨⟨vN, nds⟩, hm, Fs, h1, h2, h3⟩ := h
  have h4 : RR w (fun b => Fs 2 b ∨ R b) nds s := h1 2 _ rfl
  have hm' : nds.map (fun n => n.r.val) = hs := hm
  rw [← hm', List.length_map]; exact RR.len h4
theorem all2_set {α β : Type} {Q : α → β → Prop} : ∀ {a : List α} {b : List β} {i : Nat} {x : α} {y : β}, All2 Q a b → Q x y → All2 Q (a.set i x) (b.set i y)
  | _, _, _, _, _, .nil, _ => .nil
  | _, _, 0, _, _, .cons h r, hq => .cons hq r
  | _, _, i + 1, _, _, .cons h r, hq => .cons h (all2_set r hq)
theorem rr_set {nds : List RNd} {s : GS} {k : Nat} {n : RNd} {hd : SH} {rests : List Str} {es0 es : List Ed} {e : TypeId} {v : Value} {F : Nat → Prop} {w : World} (hn : nds[k]? = some n) (hx : s[k]? = some (rests, es0)) (hv : v = hd.val) (h : (boxR (R := R) [rrR nds s, accR encE e 2 v es]).p F w) :
    (rrR (R := R) (nds.set k (RNd.mk n.r hd)) (s.set k (rests, es))).p F w := by
  obtain ⟨F1, F2, h1, h2, h3, h4⟩ := sep_pair h
  have h5 : RR w (fun b => F b ∨ R b) nds s := RR.mono h1 fun b hb => hb.imp (h3 b) id
  obtain ⟨x, hx', h6, _⟩ := h5.at hn
  rw [hx] at hx'; cases hx'
  exact all2_set h5 ⟨h6, hv ▸ (acc_sl h2).mono fun b hb => .inl (h4 b hb)⟩
theorem rr_set0 {nds : List RNd} {s : GS} {k : Nat} {n : RNd} {hd : SH} {rests : List Str} {es0 : List Ed} {F : Nat → Prop} {w : World} (hn : nds[k]? = some n) (hx : s[k]? = some (rests, es0)) (hv : hd.val = .slice none 0 0) (h : (rrR (R := R) nds s).p F w) :
    (rrR (R := R) (nds.set k (RNd.mk n.r hd)) (s.set k (rests, []))).p F w := by
  obtain ⟨x, hx', h6, _⟩ := RR.at h hn
  rw [hx] at hx'; cases hx'
  exact all2_set h ⟨h6, hv ▸ Sl.nil⟩
end
theorem map_set_r {nds : List RNd} {k : Nat} {n : RNd} {hd : SH} (hn : nds[k]? = some n) : (nds.set k (RNd.mk n.r hd)).map (fun n => n.r.val) = nds.map (fun n => n.r.val) := by
  obtain ⟨h, rfl⟩ := List.getElem?_eq_some_iff.1 hn
  rw [List.map_set]
  refine List.ext_getElem? fun i => ?_
  rw [List.getElem?_set]
  split
  · rename_i e; subst e
    simp [h]
  · rfl
theorem at_mid {α : Type} {a b : List α} {x : α} {n : Nat} (h : n = a.length) : (a ++ x :: b)[n]? = some x := by
  subst h
  rw [List.getElem?_append_right (Nat.le_refl _), Nat.sub_self]; rfl
theorem set_mid {α : Type} {a b : List α} {x y : α} {n : Nat} (h : n = a.length) : (a ++ x :: b).set n y = a ++ y :: b := by
  subst h
  rw [List.set_append_right _ _ (Nat.le_refl _), Nat.sub_self]; rfl
end Go.Ik
namespace Go.Ik
open Go Go.Ml
theorem RR.ext {w w' : World} {F : Nat → Prop} {nds : List RNd} {s : GS} (h : RR w F nds s) (hm : Ext w w') : RR w' F nds s := RR.keep h hm fun _ _ x => x
theorem RR.keepG {w w' : World} {lo hi g : Nat} {nds : List RNd} {s : GS} (h : RR w (Iv lo hi) nds s) (hm : Mod (Mg g) w w') (hg : g ≤ lo ∨ hi < g) : RR w' (Iv lo hi) nds s := RR.keep h hm fun b hb hx => by unfold Iv Mg at *; omega
/-- what a graph of the reference is, when nobody writes it any more -/
theorem rg_facts {R F : Nat → Prop} {gT nT : TypeId} {bG n : Nat} {s : GS} {hs : List Value} {w : World} (h : (rgR (R := R) gT nT bG s hs).p F w) (hF : ∀ b, F b → b < w.heap.size ∧ n ≤ b) (hR : ∀ b, R b → b < w.heap.size) :
    ∃ vN nds, Rw w n w.heap.size bG [vN] ∧ Sl encRd w (Iv n w.heap.size) vN nds ∧ RR w (Iv 0 w.heap.size) nds s := by
  obtain ⟨⟨vN, nds⟩, hm, Fs, h1, h2, h3⟩ := h
  have hF' : ∀ i b, Fs i b → n ≤ b ∧ b < w.heap.size := fun i b hb => ⟨(hF b (h2 i b hb).1.1).2, (h2 i b hb).2⟩
  have k0 := h1 0 _ rfl
  have k1 := h1 1 _ rfl
  have k2 := h1 2 _ rfl
  exact ⟨vN, nds, ⟨(hF' 0 _ k0.2).1, (hF' 0 _ k0.2).2, k0.1.row⟩, (acc_sl k1).mono fun b hb => hF' 1 b hb, RR.mono k2 fun b hb => ⟨Nat.zero_le _, hb.elim (fun h => (hF' 2 b h).2) (hR b)⟩⟩
theorem graphB_add (words : List Str) : (addM 13 [] words).1 = graphB words := by
  unfold graphB
  split
  · rename_i h; subst h; rfl
  · rfl
theorem node_yes {s : GS} {n : Int} {x : List Str × List Ed} (h : 0 ≤ n) (hx : s[n.toNat]? = some x) : nodeAt (gnOf s) n = (finB x.1, x.2) := by
  have := gnOf_at hx
  rw [show ((n.toNat : Nat) : Int) = n from by omega] at this
  exact this
theorem node_no {s : GS} {n : Int} (h : n < 0 ∨ (s.length : Int) ≤ n) : nodeAt (gnOf s) n = (false, []) := nodeAt_no (by rw [gnOf_len]; exact h)
theorem fin_head0 {r : List Str} {x : Str} (hx : r[0]? = some x) {b : Bool} (hb : b = (x == [])) : b = finB r := by
  unfold finB
  rw [hb, List.head?_eq_getElem?, hx]
  cases x <;> simp
theorem fin_nil {r : List Str} (h : ¬ (((r.length : Nat) : Int) > 0)) : false = finB r := by
  have : r = [] := List.eq_nil_of_length_eq_zero (by omega)
  subst this; rfl
/-- the reference's words from a text on -/
structure FromInv (words : List Str) (w : Str) (most : Int) (k : Nat) (l : List Str) : Prop where
  is : l = geF (words.take k) w
  lt : (l.length : Int) ≤ most ∨ l = []
theorem FromInv.start (words : List Str) (w : Str) (most : Int) : FromInv words w most 0 [] := ⟨by simp [geF], .inr rfl⟩
theorem FromInv.yes {words : List Str} {w : Str} {most : Int} {k : Nat} {l : List Str} {x : Str} (h : FromInv words w most k l) (hx : words[k]? = some x) (hc : Lib.compareBytes x w ≥ 0) (hl : (l.length : Int) < most) : FromInv words w most (k + 1) (l ++ [x]) := by
  refine ⟨?_, .inl (by simp only [List.length_append, List.length_cons, List.length_nil]; omega)⟩
  rw [h.is]; unfold geF
  rw [List.take_add_one, hx]
  simp [hc]
theorem FromInv.no {words : List Str} {w : Str} {most : Int} {k : Nat} {l : List Str} {x : Str} (h : FromInv words w most k l) (hx : words[k]? = some x) (hc : ¬ Lib.compareBytes x w ≥ 0) : FromInv words w most (k + 1) l := by
  refine ⟨?_, h.lt⟩
  rw [h.is]; unfold geF
  rw [List.take_add_one, hx]
  simp [hc]
theorem FromInv.fin {words : List Str} {w : Str} {most : Int} {k : Nat} {l : List Str} (h : FromInv words w most k l) (he : words.length ≤ k ∨ ¬ (l.length : Int) < most) : l = fromM words w most := by
  rw [fromM_take]
  have e : geF words w = geF (words.take k) w ++ geF (words.drop k) w := by
    unfold geF; rw [← List.filter_append, List.take_append_drop]
  rw [e, ← h.is]
  rcases he with he | he
  · rw [List.drop_of_length_le he]
    have : geF [] w = [] := rfl
    rw [this, List.append_nil]
    rcases h.lt with h1 | h1
    · rw [List.take_of_length_le (by omega)]
    · rw [h1]; simp
  · rcases h.lt with h1 | h1
    · rw [show most.toNat = l.length from by omega, List.take_left]
    · subst h1
      simp only [List.length_nil] at he
      rw [show most.toNat = 0 from by omega]; simp
end Go.Ik
namespace Go.Ik
open Go Go.Ml
theorem graphB_root {words : List Str} (h : goodL words = 0) : ∃ es, (graphB words)[0]? = some (words, es) := by
  unfold graphB
  split
  · rename_i e; subst e; exact ⟨[], rfl⟩
  · rename_i hne
    exact (graphM_ok (good_deep h).2 (good_deep h).1 hne).root
end Go.Ik
/-
  Plain law of chapter 8: a node's rests out of its edges; nodes' names lie apart.
-/
set_option linter.unusedVariables false
set_option linter.unusedSimpArgs false
namespace Go.Ml
open Go.Ik
theorem runes_enc {rs : List Int} (h : rs.all goodR = true) : rs.flatMap encR = rtext rs := by
  unfold rtext encI_
  rw [if_pos h]
  induction rs with
  | nil => rfl
  | cons r rs ih =>
    rw [List.all_cons, Bool.and_eq_true] at h
    rw [List.flatMap_cons, List.flatMap_cons, ih h.2]
    congr 1
    have hr := h.1
    rw [good_d] at hr
    have hr' := of_decide_eq_true hr
    have := encR_L (c := r.toNat) (by unfold goodN; omega)
    rwa [show ((r.toNat : Nat) : Int) = r from by omega] at this
theorem rtext_one {c : Nat} (h : goodN c) : rtext [(c : Int)] = encL c := by
  unfold rtext encI_
  rw [if_pos (by simp [goodR_of h])]
  simp
theorem rest_start {r : List Str} (h : GoodR r) : (if finB r = true then [[]] else []) ++ restL [] r 0 = r := by
  have := map_rests (ahead := []) h
  rw [← this]; simp
theorem rest_start_t {r : List Str} (h : GoodR r) (hf : finB r = true) : ([] ++ [([] : Str)]) ++ restL [] r 0 = r := by
  have := rest_start h
  rwa [if_pos hf] at this
theorem rest_start_f {r : List Str} (h : GoodR r) (hf : finB r = false) : [] ++ restL [] r 0 = r := by
  have := rest_start h
  rwa [if_neg (by rw [hf]; simp)] at this
theorem rest_in {r out : List Str} {i : Nat} {gg : Nat × List Str} (h : out ++ restL [] r i = r) (hg : (groups (dropE r))[i]? = some gg) : out ++ ((gg.2.drop 0).map (encL gg.1 ++ ·) ++ restL [] r (i + 1)) = r := by
  rw [restL_step hg] at h
  simpa using h
theorem rest_go {r out : List Str} {i k : Nat} {gg : Nat × List Str} {y : Str} (h : out ++ ((gg.2.drop k).map (encL gg.1 ++ ·) ++ restL [] r (i + 1)) = r) (hy : gg.2[k]? = some y) : (out ++ [encL gg.1 ++ y]) ++ ((gg.2.drop (k + 1)).map (encL gg.1 ++ ·) ++ restL [] r (i + 1)) = r := by
  rw [drop_el' hy] at h
  simpa using h
theorem rest_out {r out : List Str} {i k : Nat} {gg : Nat × List Str} (h : out ++ ((gg.2.drop k).map (encL gg.1 ++ ·) ++ restL [] r (i + 1)) = r) (hk : gg.2.length ≤ k) : out ++ restL [] r (i + 1) = r := by
  rw [List.drop_of_length_le hk] at h
  simpa using h
theorem rest_fin {r out : List Str} {i : Nat} (h : out ++ restL [] r i = r) (hi : (groups (dropE r)).length ≤ i) : out = r := by
  rw [restL_end hi, List.append_nil] at h; exact h
theorem rest_len {r out b : List Str} (h : out ++ b = r) : out.length ≤ r.length := by
  have := congrArg List.length h
  rw [List.length_append] at this; omega
/-! names -/
theorem graphB_len {words : List Str} (h : goodL words = 0) : 1 ≤ (graphB words).length ∧ (graphB words).length ≤ 2881 := by
  unfold graphB
  split
  · simp
  · rename_i hne
    obtain ⟨es, he⟩ := (graphM_ok (good_deep h).2 (good_deep h).1 hne).root
    have := (List.getElem?_eq_some_iff.1 he).1
    have := graphM_len h
    omega
theorem graphB_names {words : List Str} (h : goodL words = 0) : (names (graphB words)).Nodup := by
  unfold graphB
  split
  · simp [names]
  · rename_i hne
    exact (graphM_ok (good_deep h).2 (good_deep h).1 hne).apart
theorem graphB_ne {words : List Str} (h : goodL words = 0) (hw : words ≠ []) : ∀ y ∈ graphB words, y.1 ≠ [] := by
  unfold graphB
  rw [if_neg hw]
  intro y hy
  exact ((graphM_ok (good_deep h).2 (good_deep h).1 hw).node y hy).ne
theorem graphB_short {words : List Str} (h : goodL words = 0) : ∀ y ∈ graphB words, y.1.length ≤ 60 := by
  unfold graphB
  split
  · simp
  · exact addM_short 13 [] words (by simp) (good_sum h).1
theorem deep_len {l : List Str} {d : Nat} (hg : GoodR l) (hd : Deep d l) : ∀ t ∈ l, t.length ≤ 4 * d := by
  intro t ht
  have h1 := hd t ht
  have h2 := encT_len (runes t)
  rw [(encT_runes t (hg.fine t ht)).1] at h2
  omega
theorem apart_at {s : GS} (hn : (names s).Nodup) {i k : Nat} {x y : List Str × List Ed} (hx : s[i]? = some x) (hy : s[k]? = some y) (hk : k < i) : y.1 ≠ x.1 := by
  intro e
  unfold names at hn
  have h1 : (s.map Prod.fst)[i]? = some x.1 := by rw [List.getElem?_map, hx]; rfl
  have h2 : (s.map Prod.fst)[k]? = some x.1 := by rw [List.getElem?_map, hy]; simp [e]
  obtain ⟨q1, q2⟩ := List.getElem?_eq_some_iff.1 h1
  obtain ⟨q3, q4⟩ := List.getElem?_eq_some_iff.1 h2
  have := (List.getElem_inj hn).1 (q2.trans q4.symm)
  omega
end Go.Ml
namespace Go.Ik
open Go Go.Ml
/-! lists of lists of texts -/
def encH (h : SH) : List Value := [h.val]
theorem encH_len (x : SH) : (encH x).length = 1 := rfl
theorem encH_one (x : SH) : (encH x).all (·.oneCell') = true := rfl
section
variable {R : Nat → Prop} {α : Type} {enc : α → List Value}
/-- what headers hold -/
def hlR (enc : α → List Value) (hs : List SH) (ls : List (List α)) : Res R := ⟨fun F w => All2 (fun h l => Sl enc w (fun b => F b ∨ R b) h.val l) hs ls, fun h hm hF hR => All2.imp (fun _ _ k => k.keep hm fun b hb => hb.elim (hF b) (hR b)) h⟩
theorem St.hlAt {F0 : Nat → Prop} {w0 w : World} {L : List (Res R)} {i k : Nat} {hs : List SH} {ls : List (List α)} {x : SH} (h : St R F0 w0 w L) (hi : L[i]? = some (hlR enc hs ls)) (hx : hs[k]? = some x) : ∃ l, ls[k]? = some l ∧ Sl enc w (Iv 0 w.heap.size) x.val l := by
  obtain ⟨F, h1, h2⟩ := h.get hi
  have hg := All2.get h1
  have hlt := (List.getElem?_eq_some_iff.1 hx).1
  have hl : ls[k]? = some (ls[k]'(by rw [← hg.1]; exact hlt)) := by simp
  exact ⟨_, hl, (hg.2 k _ _ hx hl).mono fun b hb => ⟨Nat.zero_le _, hb.elim (h2 b) (h.rlt b)⟩⟩
theorem St.hlLen {F0 : Nat → Prop} {w0 w : World} {L : List (Res R)} {i : Nat} {hs : List SH} {ls : List (List α)} (h : St R F0 w0 w L) (hi : L[i]? = some (hlR enc hs ls)) : hs.length = ls.length := by
  obtain ⟨F, h1, _⟩ := h.get hi
  exact (All2.get h1).1
theorem hl_push {e : TypeId} {sz : Nat} {v : Value} {hs : List SH} {ls : List (List α)} {l : List α} {x : SH} {F : Nat → Prop} {w : World} (hv : v = x.val) (h : (boxR (R := R) [hlR enc hs ls, accR enc e sz v l]).p F w) : (hlR (R := R) enc (hs ++ [x]) (ls ++ [l])).p F w := by
  obtain ⟨F1, F2, h1, h2, h3, h4⟩ := sep_pair h
  exact All2.app (All2.imp (fun _ _ k => k.mono fun b hb => hb.imp (h3 b) id) h1) (.cons (hv ▸ (acc_sl h2).mono fun b hb => .inl (h4 b hb)) .nil)
end
end Go.Ik
namespace Go.Ik
open Go Go.Ml
/-- a graph that is held -/
def grR {R : Nat → Prop} (v : Value) (N : List GN) : Res R := ⟨fun F w => ∃ lo hi, Gr 0 w lo hi v N ∧ hi ≤ w.heap.size ∧ ∀ b, lo ≤ b → b < hi → F b, fun ⟨lo, hi, h1, h3, h2⟩ hm hF _ => ⟨lo, hi, by
  rcases h1 with h1 | ⟨b, vn, nds, k1, k2, ⟨k3, k4, k5⟩, k6, k7⟩
  · exact .inl h1
  · exact .inr ⟨b, vn, nds, k1, k2, ⟨k3, k4, k5.keep hm (hF b (h2 b k3 k4))⟩, k6.keep hm fun b hb => hF b (h2 b hb.1 hb.2), k7.keep hm fun b hb => hF b (h2 b hb.1 hb.2)⟩, Nat.le_trans h3 hm.size, h2⟩⟩
theorem St.grAt {R F0 : Nat → Prop} {w0 w : World} {L : List (Res R)} {i : Nat} {v : Value} {N : List GN} (h : St R F0 w0 w L) (hi : L[i]? = some (grR v N)) : ∃ lo up, Gr 0 w lo up v N ∧ up ≤ w.heap.size := by
  obtain ⟨F, ⟨lo, up, h1, h2, _⟩, _⟩ := h.get hi
  exact ⟨lo, up, h1, h2⟩
theorem St.newGr {R F0 : Nat → Prop} {w0 w w' : World} {L : List (Res R)} {lo hi : Nat} {v : Value} {N : List GN} (h : St R F0 w0 w L) (hm : Ext w w') (hg : Gr 0 w' lo hi v N) (h1 : w.heap.size ≤ lo) (h2 : hi ≤ w'.heap.size) : St R F0 w0 w' (L ++ [grR v N]) :=
  h.new (F := Iv lo hi) hm ⟨lo, hi, hg, h2, fun b q1 q2 => ⟨q1, q2⟩⟩ fun b hb => ⟨Nat.le_trans h1 hb.1, Nat.lt_of_lt_of_le hb.2 h2⟩
end Go.Ik
namespace Go.Ml
open Go.Ik
theorem names_take {s : GS} {i : Nat} {x : List Str × List Ed} (hx : s[i]? = some x) : (names s).take (i + 1) = (names s).take i ++ [x.1] := by
  unfold names
  rw [List.take_add_one, List.getElem?_map, hx]; rfl
theorem least_ne {s : GS} (hn : (names s).Nodup) {i k : Nat} {x : List Str × List Ed} {l : List Str} (hx : s[i]? = some x) (hl : ((names s).take i)[k]? = some l) (hk : k < i) : l ≠ x.1 := by
  rw [List.getElem?_take, if_pos hk] at hl
  unfold names at hl
  rw [List.getElem?_map] at hl
  obtain ⟨y, hy, rfl⟩ := Option.map_eq_some_iff.1 hl
  exact apart_at hn hx hy hk
theorem least_len {words : List Str} (h : goodL words = 0) {x : List Str × List Ed} (hx : x ∈ graphB words) (hw : ((words.length : Nat) : Int) > 0) : ¬ ((x.1.length : Nat) : Int) = 0 := by
  have := graphB_ne h (fun e => by subst e; simp at hw) x hx
  intro e
  exact this (List.eq_nil_of_length_eq_zero (by omega))
theorem least_root {words : List Str} (h : goodL words = 0) {i : Nat} {l : List Str} (hl : ((names (graphB words)).take i)[0]? = some l) (hi : 0 < i) : l = words := by
  obtain ⟨es, he⟩ := graphB_root h
  rw [List.getElem?_take, if_pos hi] at hl
  unfold names at hl
  rw [List.getElem?_map, he] at hl
  simpa using hl.symm
theorem fin_idx {s : GS} {x : List Str × List Ed} (hc : Corr s x) (hg : GoodR x.1) {d : Nat} (hd : Deep d x.1) {deep : Int} (hdp : deep = (d : Int)) {i : Nat} (h : x.2.length ≤ i ∨ deep ≤ 0) : (groups (dropE x.1)).length ≤ i := by
  rcases h with h | h
  · rw [(All2.get hc).1]; exact h
  · have hd0 : d = 0 := by omega
    subst hd0
    rcases Nat.eq_zero_or_pos (groups (dropE x.1)).length with h0 | h0
    · omega
    · obtain ⟨e, he, _⟩ := deep_edge hg hd (List.getElem?_eq_getElem h0)
      omega
end Go.Ml
/-
  Images of words, plainly.
-/
set_option linter.unusedVariables false
set_option linter.unusedSimpArgs false
namespace Go.Ml
open Go.Ik
theorem gnodes_edges {words : List Str} (h : goodL words = 0) : ∀ x ∈ gnodes words, x.2.length ≤ 60 := by
  have hok := gok_of h
  intro x hx
  rw [gnodes_yes h] at hx
  obtain ⟨y, hy, rfl⟩ := List.mem_map.1 hx
  have h1 := (All2.get (hok.node y hy).1).1
  have h2 := groups_count _ (dropE y.1) (Nat.le_refl _)
  have h3 := dropE_len y.1
  have h4 := graphB_short h y hy
  simp only; omega
theorem gnodes_len {words : List Str} (h : goodL words = 0) : 1 ≤ (gnodes words).length ∧ (gnodes words).length ≤ 2881 := by
  rw [gnodes_yes h, gnOf_len]; exact graphB_len h
theorem body_len {words : List Str} (h : goodL words = 0) : (bodyB (gnodes words)).length ≤ 3000000 := by
  have h1 := edgeCount_le (gnodes_edges h)
  have h2 := (gnodes_len h).2
  have h3 : (gnodes words).length * 60 ≤ 2881 * 60 := Nat.mul_le_mul_right _ h2
  rw [bodyB_len]; omega
theorem encA_len {g : List GN} (h : (bodyB g).length ≤ 3000000) : (encA g).length ≤ 3000010 := by
  unfold encA
  split
  · simp
  · rw [encB_len]; rw [bodyB_len] at h; omega
theorem encA_lenE (g : List GN) (h : (bodyB g).length ≤ 3000000) : (encA g).length ≤ 3000010 := encA_len h
theorem gnodes_nn {words : List Str} (h : goodL words = 0) : gnodes words ≠ [] := by
  intro e
  have := (gnodes_len h).1
  rw [e] at this; simp at this
theorem encA_img {words : List Str} (h : goodL words = 0) : encA (gnodes words) = imgM words := by
  unfold imgM; rw [if_pos h, encA_yes (gnodes_nn h)]
theorem errA_img {words : List Str} (h : goodL words = 0) : errA (gnodes words) = goodL words := by
  rw [h]; exact (errA_yes (gnodes_nn h)).symm
theorem imgM_len (words : List Str) : (imgM words).length ≤ 3000010 := by
  unfold imgM
  split
  · rename_i h
    rw [← encA_yes (gnodes_nn h)]; exact encA_len (body_len h)
  · simp
theorem enc_img {words : List Str} (h : goodL words = 0) : encB_ (gnodes words) = imgM words := by unfold imgM; rw [if_pos h]
end Go.Ml
/-
  Chapter 4 as the document answers: putting words where they belong; no program in sight.
-/
set_option linter.unusedVariables false
set_option linter.unusedSimpArgs false
namespace Go.Ml
open Go.Ik

def SOk (l : List Str) : Prop := ∀ s ∈ l, s.length ≤ 1000000000
theorem SOk.at {l : List Str} (h : SOk l) {k : Nat} {x : Str} (hx : l[k]? = some x) : x.length ≤ 1000000000 := h x (List.mem_of_getElem? hx)
theorem greatT_short {l : List Str} (h : greatT l = false) : SOk l := by
  intro s hs
  unfold greatT at h
  simp only [Bool.or_eq_false_iff, List.any_eq_false, decide_eq_true_eq] at h
  have := h.2 s hs
  omega
/-! a word where it belongs -/
def putG : Bool → List Str → Str → List Str
  | b, [], w => if b = true then [] else [w]
  | b, x :: r, w =>
    if b = false ∧ Lib.compareBytes x w > 0 then w :: x :: putG true r w
    else if Lib.compareBytes x w = 0 then x :: putG true r w
    else x :: putG b r w
theorem drop_el {l : List Str} {k : Nat} {x : Str} (hx : l[k]? = some x) : l.drop k = x :: l.drop (k + 1) := by
  obtain ⟨h, rfl⟩ := List.getElem?_eq_some_iff.1 hx
  exact List.drop_eq_getElem_cons h
theorem put_in {l out r : List Str} {w x : Str} {k : Nat} {b : Bool} (hi : out ++ putG b (l.drop k) w = r) (hx : l[k]? = some x) (hb : b = false) (hc : Lib.compareBytes x w > 0) : ((out ++ [w]) ++ [x]) ++ putG true (l.drop (k + 1)) w = r := by
  rw [← hi, drop_el hx, putG, if_pos ⟨hb, hc⟩]; simp
theorem put_eq {l out r : List Str} {w x : Str} {k : Nat} {b : Bool} (hi : out ++ putG b (l.drop k) w = r) (hx : l[k]? = some x) (hc : Lib.compareBytes x w = 0) : (out ++ [x]) ++ putG true (l.drop (k + 1)) w = r := by
  rw [← hi, drop_el hx, putG, if_neg (by omega), if_pos hc]; simp
theorem put_on {l out r : List Str} {w x : Str} {k : Nat} {b : Bool} (hi : out ++ putG b (l.drop k) w = r) (hx : l[k]? = some x) (h1 : ¬ (b = false ∧ Lib.compareBytes x w > 0)) (hc : Lib.compareBytes x w ≠ 0) : (out ++ [x]) ++ putG b (l.drop (k + 1)) w = r := by
  rw [← hi, drop_el hx, putG, if_neg h1, if_neg hc]; simp
theorem put_end {l out r : List Str} {w : Str} {k : Nat} (hi : out ++ putG false (l.drop k) w = r) (hk : l.length ≤ k) : out ++ [w] = r := by
  rw [← hi, List.drop_of_length_le hk]; rfl
theorem put_end' {l out r : List Str} {w : Str} {k : Nat} (hi : out ++ putG true (l.drop k) w = r) (hk : l.length ≤ k) : out = r := by
  rw [← hi, List.drop_of_length_le hk]; simp [putG]
def putM (l : List Str) (w : Str) : List Str := putG false l w
theorem putG_true : ∀ (l : List Str) (w : Str), putG true l w = l
  | [], w => rfl
  | x :: r, w => by
    rw [putG, if_neg (by simp), putG_true r w]; simp
theorem putM_mem {l : List Str} {w z : Str} : z ∈ putM l w ↔ z ∈ l ∨ z = w := by
  unfold putM
  induction l with
  | nil => simp [putG]
  | cons x r ih =>
    rw [putG, putG_true]
    split
    · simp only [List.mem_cons]
      constructor
      · rintro (h | h | h) <;> simp [h]
      · rintro ((h | h) | h) <;> simp [h]
    · split
      · rename_i h1 h2
        have := cmp_eq h2
        subst this
        simp only [List.mem_cons]
        constructor
        · intro h; exact .inl h
        · rintro (h | rfl)
          · exact h
          · exact .inl rfl
      · simp only [List.mem_cons, ih, or_assoc]
theorem putM_sorted {l : List Str} {w : Str} (hs : Sorted l) : Sorted (putM l w) := by
  unfold putM
  induction l with
  | nil => simp [putG, Sorted]
  | cons x r ih =>
    have hs' := List.pairwise_cons.1 hs
    rw [putG, putG_true]
    split
    · rename_i h
      have hlt : ltT w x := by
        have := cmp_anti x w
        unfold ltT; omega
      refine List.Pairwise.cons (fun y hy => ?_) hs
      rcases List.mem_cons.1 hy with rfl | hy
      · exact hlt
      · exact lt_trans hlt (hs'.1 y hy)
    · split
      · exact hs
      · rename_i h1 h2
        refine List.Pairwise.cons (fun y hy => ?_) (ih hs'.2)
        rcases putM_mem.1 hy with hy | rfl
        · exact hs'.1 y hy
        · have : ¬ Lib.compareBytes x y > 0 := fun h => h1 ⟨rfl, h⟩
          unfold ltT; omega
theorem putM_len (l : List Str) (w : Str) : (putM l w).length ≤ l.length + 1 := by
  unfold putM
  induction l with
  | nil => simp [putG]
  | cons x r ih =>
    rw [putG, putG_true]
    split
    · simp
    · split
      · simp
      · simp only [List.length_cons]; omega
/-! in order, by putting -/
def foldP (l : List Str) (ws : List Str) : List Str := ws.foldl putM l
theorem foldP_spec : ∀ (ws l : List Str), Sorted l → Sorted (foldP l ws) ∧ (∀ z, z ∈ foldP l ws ↔ z ∈ l ∨ z ∈ ws) ∧ (foldP l ws).length ≤ l.length + ws.length
  | [], l, h => ⟨h, by simp [foldP], by simp [foldP]⟩
  | w :: ws, l, h => by
    have ih := foldP_spec ws (putM l w) (putM_sorted h)
    have hl := putM_len l w
    refine ⟨ih.1, fun z => ?_, ?_⟩
    · show z ∈ foldP (putM l w) ws ↔ _
      rw [ih.2.1, putM_mem, List.mem_cons, or_assoc]
    · show (foldP (putM l w) ws).length ≤ _
      simp only [List.length_cons]; omega
theorem foldP_snoc (l ws : List Str) (x : Str) : foldP l (ws ++ [x]) = putM (foldP l ws) x := by unfold foldP; rw [List.foldl_append]; rfl
theorem sorted_ref (l : List Str) : foldP [] ((l.take 1000).filter word) = sortedM l := by
  have h := foldP_spec ((l.take 1000).filter word) [] List.Pairwise.nil
  have h2 := sortedM_spec l
  exact sorted_ext h.1 h2.1 fun x => by rw [h.2.1, h2.2]; simp
theorem merge_ref {a b : List Str} (ha : Sorted a) (hb : Sorted b) : foldP a b = mergeL a b := by
  have h := foldP_spec b a ha
  exact sorted_ext h.1 (merge_sorted ha hb) fun x => by rw [h.2.1, mem_merge]
theorem sref_yes {l out : List Str} {k : Nat} {x : Str} (hi : out = foldP [] ((l.take k).filter word)) (hx : l[k]? = some x) (hw : word x = true) : putM out x = foldP [] ((l.take (k + 1)).filter word) := by
  rw [filter_take_yes hx hw, foldP_snoc, hi]
theorem sref_no {l out : List Str} {k : Nat} {x : Str} (hi : out = foldP [] ((l.take k).filter word)) (hx : l[k]? = some x) (hw : word x = false) : out = foldP [] ((l.take (k + 1)).filter word) := by
  rw [filter_take_no hx hw, hi]
theorem sref_end {l out : List Str} {k : Nat} (hi : out = foldP [] ((l.take k).filter word)) (hk : l.length ≤ k ∨ k = 1000) (hk2 : k ≤ 1000) : out = sortedM l := by
  rw [hi, ← sorted_ref]
  rcases hk with h | h
  · rw [List.take_of_length_le h, List.take_of_length_le (by omega)]
  · rw [h]
theorem foldP_len (ws : List Str) : (foldP [] ws).length ≤ ws.length := by
  have := (foldP_spec ws [] List.Pairwise.nil).2.2; simpa using this
theorem mref_step {a b out : List Str} {k : Nat} {x : Str} (hi : out = foldP a (b.take k)) (hx : b[k]? = some x) : putM out x = foldP a (b.take (k + 1)) := by
  rw [List.take_add_one, hx]; simp only [Option.toList_some]; rw [foldP_snoc, hi]
theorem mref_end {a b out : List Str} {k : Nat} (hi : out = foldP a (b.take k)) (hk : b.length ≤ k) (ha : Sorted a) (hb : Sorted b) : out = mergeL a b := by
  rw [hi, List.take_of_length_le hk, merge_ref ha hb]
/-! where a word stands, by counting -/
theorem belowW_snoc {l : List Str} {w x : Str} {k : Nat} (hx : l[k]? = some x) : belowW (l.take (k + 1)) w = belowW (l.take k) w + (if Lib.compareBytes x w < 0 then 1 else 0) := by
  unfold belowW
  rw [List.take_add_one, hx, List.countP_append]; simp [List.countP_cons]
theorem rat_yes {l : List Str} {w x : Str} {k n : Nat} (hn : n = belowW (l.take k) w) (hx : l[k]? = some x) (hc : Lib.compareBytes x w < 0) : n + 1 = belowW (l.take (k + 1)) w := by
  rw [belowW_snoc hx, if_pos hc, hn]
theorem rat_no {l : List Str} {w x : Str} {k n : Nat} (hn : n = belowW (l.take k) w) (hx : l[k]? = some x) (hc : ¬ Lib.compareBytes x w < 0) : n = belowW (l.take (k + 1)) w := by
  rw [belowW_snoc hx, if_neg hc, hn]; rfl
theorem rat_found {l : List Str} {w x : Str} {k n : Nat} (hs : Sorted l) (hn : n = belowW (l.take k) w) (hx : l[k]? = some x) (he : x = w) : ((n : Nat) : Int) = ((belowW l w : Nat) : Int) ∧ true = l.contains w := by
  subst he
  refine ⟨?_, (List.contains_iff_mem.2 (List.mem_of_getElem? hx)).symm⟩
  have h : belowW l x = belowW (l.take k) x := by
    unfold belowW
    conv => lhs; rw [← List.take_append_drop k l]
    rw [List.countP_append]
    have h2 : (l.drop k).countP (fun y => decide (Lib.compareBytes y x < 0)) = 0 := by
      rw [List.countP_eq_zero]
      intro a ha hlt
      have hlt : ltT a x := (of_decide_eq_true hlt : Lib.compareBytes a x < 0)
      obtain ⟨j, hj⟩ := List.mem_iff_getElem?.1 ha
      rw [List.getElem?_drop] at hj
      rcases Nat.eq_zero_or_pos j with h0 | h0
      · subst h0
        rw [Nat.add_zero, hx] at hj
        cases hj
        exact lt_irrefl _ hlt
      · exact lt_irrefl _ (lt_trans (sorted_at hs hx hj (by omega)) hlt)
    omega
  rw [hn, h]
theorem rat_end {l : List Str} {w : Str} {k n : Nat} (hn : n = belowW (l.take k) w) (hk : l.length ≤ k) (hno : ∀ x ∈ l.take k, x ≠ w) : ((n : Nat) : Int) = ((belowW l w : Nat) : Int) ∧ false = l.contains w := by
  rw [List.take_of_length_le hk] at hn hno
  refine ⟨by rw [hn], ?_⟩
  cases h : l.contains w with
  | false => rfl
  | true => exact absurd rfl (hno w (List.contains_iff_mem.1 h))
theorem none_step {l : List Str} {w x : Str} {k : Nat} (h : ∀ x ∈ l.take k, x ≠ w) (hx : l[k]? = some x) (hn : x ≠ w) : ∀ x ∈ l.take (k + 1), x ≠ w := by
  intro y hy
  rw [List.take_add_one, hx] at hy
  simp only [Option.toList_some, List.mem_append, List.mem_singleton] at hy
  rcases hy with hy | rfl
  · exact h y hy
  · exact hn
theorem foldP_sub : ∀ (ws l : List Str) (z : Str), z ∈ foldP l ws → z ∈ l ∨ z ∈ ws
  | [], l, z, h => .inl h
  | w :: ws, l, z, h => by
    rcases foldP_sub ws (putM l w) z h with h | h
    · rcases putM_mem.1 h with h | rfl
      · exact .inl h
      · exact .inr (by simp)
    · exact .inr (by simp [h])
theorem sref_ok {l o : List Str} {k : Nat} (h : SOk l) (hi : o = foldP [] ((l.take k).filter word)) : SOk o := by
  intro s hs
  rw [hi] at hs
  rcases foldP_sub _ _ s hs with h1 | h1
  · simp at h1
  · exact h s (List.mem_of_mem_take (List.mem_filter.1 h1).1)
theorem mref_ok {a b o : List Str} {k : Nat} (ha : SOk a) (hb : SOk b) (hi : o = foldP a (b.take k)) : SOk o := by
  intro s hs
  rw [hi] at hs
  rcases foldP_sub _ _ s hs with h1 | h1
  · exact ha s h1
  · exact hb s (List.mem_of_mem_take h1)
end Go.Ml
/-
  The document's chapters 12 and 13, plainly.
-/
set_option linter.unusedVariables false
set_option linter.unusedSimpArgs false
namespace Go.Ml
open Go.Ik
structure CfgS (c : Cfg) : Prop where
  words : SOk c.words
  cuts : ∀ k ∈ c.cuts, k.text.length ≤ 1000
  wl : c.words.length ≤ 80
  cl : c.cuts.length ≤ 10
theorem CfgS.of {c : Cfg} (h : greatC c = false) : CfgS c := by
  unfold greatC at h
  simp only [Bool.or_eq_false_iff, decide_eq_false_iff_not] at h
  obtain ⟨⟨h1, h2⟩, h3⟩ := h
  refine ⟨greatT_short h3, fun k hk => ?_, greatT_len h3, by omega⟩
  rw [List.any_eq_false] at h2
  have := h2 k hk
  simp only [decide_eq_true_eq] at this; omega
theorem kcmp_eq (a b : Key) : keyCmp a b = if cmpI a.len b.len ≠ 0 then cmpI a.len b.len else Lib.compareBytes a.text b.text := by
  unfold keyCmp
  simp only [orI]
  split
  · rfl
  · split
    · rfl
    · omega
theorem keyLess_iff {a b : Key} : keyLess a b = true ↔ a.len < b.len ∨ a.len = b.len ∧ Lib.compareBytes a.text b.text < 0 := by
  unfold keyLess
  rw [decide_eq_true_eq, kcmp_eq]
  unfold cmpI
  by_cases h1 : a.len < b.len
  · simp [h1]
  · by_cases h2 : a.len > b.len
    · simp [h1, h2]; omega
    · have : a.len = b.len := by omega
      simp [this]
theorem kl_yes {a b : Key} (h : a.len < b.len) : true = keyLess a b := (keyLess_iff.2 (.inl h)).symm
theorem kl_no {a b : Key} (h1 : ¬ a.len < b.len) (h2 : ¬ a.len = b.len) : false = keyLess a b := by
  cases h : keyLess a b with
  | false => rfl
  | true => rw [keyLess_iff] at h; rcases h with h | h; exact absurd h h1; exact absurd h.1 h2
theorem kl_dec {a b : Key} {c : Bool} (h2 : a.len = b.len) (h : c = decide (Lib.compareBytes a.text b.text < 0)) : c = keyLess a b := by
  cases h' : keyLess a b with
  | true =>
    rw [keyLess_iff] at h'
    rcases h' with h' | h'
    · omega
    · rw [h]; exact decide_eq_true h'.2
  | false =>
    rw [h]
    refine decide_eq_false fun hx => ?_
    have := keyLess_iff.2 (.inr ⟨h2, hx⟩)
    rw [h'] at this; cases this
theorem of_yes {cuts : List Key} {w : Str} {j n : Nat} (hw : word w = true) (h : n = ((cuts.take j).filter fun c => !keyLess ⟨lenT w, w⟩ c).length) (hj : cuts.length ≤ j) : (n : Int) = ofM cuts w := by
  rw [List.take_of_length_le hj] at h
  unfold ofM; rw [if_pos hw, h]; rfl
theorem of_no {cuts : List Key} {w : Str} (hw : word w = false) : (-1 : Int) = ofM cuts w := by unfold ofM; rw [hw]; rfl
theorem of_rng (cuts : List Key) (w : Str) : -1 ≤ ofM cuts w ∧ ofM cuts w ≤ cuts.length := by
  unfold ofM belowN
  split
  · have := List.length_filter_le (fun c => !keyLess ⟨lenT w, w⟩ c) cuts; omega
  · omega
theorem of_pos {cuts : List Key} {w : Str} (hw : word w = true) : 0 ≤ ofM cuts w := by unfold ofM; rw [if_pos hw]; omega
theorem sl_yes {cuts : List Key} {shard : Int} {w : Str} (hw : word w = true) (h : ofM cuts w = shard) : slP cuts shard w = true := slP_yes (of_pos hw) h
theorem sl_no1 {cuts : List Key} {shard : Int} {w : Str} (hw : word w = false) : slP cuts shard w = false := slP_no1 (by unfold ofM; rw [hw]; simp)
theorem slice_out {cuts : List Key} {words : List Str} {shard : Int} (h : shard < 0 ∨ (cuts.length : Int) + 1 ≤ shard) : sliceM cuts words shard = [] := by
  unfold sliceM
  rw [List.filter_eq_nil_iff]
  intro w _
  have := of_rng cuts w
  by_cases h1 : ofM cuts w = shard
  · rw [slP_no1 (by omega)]; simp
  · rw [slP_no2 h1]; simp
theorem slice_len (cuts : List Key) (words : List Str) (shard : Int) : (sliceM cuts words shard).length ≤ words.length := List.length_filter_le _ _
theorem slice_ok {cuts : List Key} {words : List Str} {shard : Int} (h : SOk words) : SOk (sliceM cuts words shard) := fun s hs => h s (List.mem_filter.1 hs).1
theorem slice_lok {cuts : List Key} {words : List Str} {shard : Int} (h : LOk words) : LOk (sliceM cuts words shard) := fun s hs => h s (List.mem_filter.1 hs).1
/-! chapter 13 -/
theorem cop_1 {c : Cfg} {shard : Int} {j : Nat} {l : List Int} (hi : l = (List.range j).map (fun j : Nat => 1 + (shard + (j : Int)) % c.workers)) (h1 : ¬ (j : Int) < c.copies) (h2 : j ≤ c.copies.toNat) (hin : j = 0 ∨ within shard 0 ((shards c : Int) - 1) = true) : l = copiesM c shard := by
  by_cases hw : within shard 0 ((shards c : Int) - 1) = true
  · exact copies_yes hw hi (by omega)
  · have hj : j = 0 := hin.resolve_right hw
    subst hj
    rw [hi]
    exact copies_no (by simpa using hw)
theorem cop_2 {c : Cfg} {shard : Int} {j : Nat} {l : List Int} (hi : l = (List.range j).map (fun j : Nat => 1 + (shard + (j : Int)) % c.workers)) (h1 : shard < 0 ∨ (shards c : Int) ≤ shard) (hin : j = 0 ∨ within shard 0 ((shards c : Int) - 1) = true) : l = copiesM c shard := by
  have hw : within shard 0 ((shards c : Int) - 1) = false := by
    unfold within
    rcases h1 with h1 | h1
    · rw [decide_eq_false (by omega)]; rfl
    · rw [decide_eq_false (p := shard ≤ _) (by omega), Bool.and_false]
  have hj : j = 0 := hin.resolve_right (by rw [hw]; simp)
  subst hj
  rw [hi]
  exact copies_no hw
theorem within_yes {shard : Int} {c : Cfg} (h0 : 0 ≤ shard) (h1 : shard < (shards c : Int)) : within shard 0 ((shards c : Int) - 1) = true := by
  unfold within; rw [decide_eq_true h0, decide_eq_true (by omega)]; rfl
theorem copies_inj {W s : Int} {i j : Nat} (hW : (i : Int) < W) (hj : (j : Int) < W) (h : (s + (i : Int)) % W = (s + (j : Int)) % W) : i = j := by
  have h1 := Int.emod_add_mul_ediv (s + (i : Int)) W
  have h2 := Int.emod_add_mul_ediv (s + (j : Int)) W
  rw [h] at h1
  have h3 : W * ((s + i) / W - (s + j) / W) = (i : Int) - j := by rw [Int.mul_sub]; omega
  by_cases hq : (s + (i : Int)) / W - (s + (j : Int)) / W = 0
  · rw [hq] at h3; omega
  · exfalso
    rcases Int.lt_or_gt_of_ne hq with h4 | h4
    · have : W * ((s + i) / W - (s + j) / W) ≤ W * (-1) := Int.mul_le_mul_of_nonneg_left (by omega) (by omega)
      omega
    · have : W * 1 ≤ W * ((s + i) / W - (s + j) / W) := Int.mul_le_mul_of_nonneg_left (by omega) (by omega)
      omega
theorem copies_count (c : Cfg) (shard : Int) (x : Int) : (copiesM c shard).count x = if (copiesM c shard).contains x = true then 1 else 0 := by
  have hn : (copiesM c shard).Nodup := by
    unfold copiesM
    split
    · rename_i hw
      have hs := within_true hw
      have hm := may_bounds (may_of_shards (c := c) (by omega))
      rw [List.Nodup, List.pairwise_map]
      refine List.Pairwise.imp_of_mem (R := fun a b => a ≠ b) (fun {a b} ha hb hab e => ?_) (List.nodup_range (n := c.copies.toNat))
      have h1 := List.mem_range.1 ha
      have h2 := List.mem_range.1 hb
      exact hab (copies_inj (W := c.workers) (s := shard) (by omega) (by omega) (by omega))
    · simp
  by_cases h : x ∈ copiesM c shard
  · rw [if_pos (by simpa using h)]
    have h1 := List.nodup_iff_count.1 hn x
    have h2 := List.count_pos_iff.2 h
    omega
  · rw [if_neg (by simpa using h)]
    exact List.count_eq_zero.2 h
/-- the document's Keeps, place by place -/
theorem kp_next {c : Cfg} {worker : Int} {k j : Nat} {l l2 : List Int} (h : l = ((List.range k).filter (fun s : Nat => (copiesM c (s : Int)).contains worker)).map (fun s : Nat => (s : Int))) (h2 : l2 = l ++ List.replicate (((copiesM c (k : Int)).take j).count worker) (k : Int)) (hj : (copiesM c (k : Int)).length ≤ j) :
    l2 = ((List.range (k + 1)).filter (fun s : Nat => (copiesM c (s : Int)).contains worker)).map (fun s : Nat => (s : Int)) := by
  rw [List.take_of_length_le hj, copies_count] at h2
  rw [h2, List.range_succ, List.filter_append, List.map_append, ← h]
  congr 1
  by_cases hc : (copiesM c (k : Int)).contains worker = true
  · rw [if_pos hc, List.filter_cons_of_pos (p := fun s : Nat => (copiesM c (s : Int)).contains worker) hc]; rfl
  · rw [if_neg hc, List.filter_cons_of_neg (p := fun s : Nat => (copiesM c (s : Int)).contains worker) hc]; rfl
theorem kp_yes {l l2 w : List Int} {worker x k : Int} {j : Nat} (h2 : l2 = l ++ List.replicate ((w.take j).count worker) k) (hx : w[j]? = some x) (he : x = worker) : l2 ++ [k] = l ++ List.replicate ((w.take (j + 1)).count worker) k := by
  rw [h2, List.take_add_one, hx, List.count_append, he]
  simp [List.replicate_succ']
theorem kp_no {l l2 w : List Int} {worker x k : Int} {j : Nat} (h2 : l2 = l ++ List.replicate ((w.take j).count worker) k) (hx : w[j]? = some x) (he : ¬ x = worker) : l2 = l ++ List.replicate ((w.take (j + 1)).count worker) k := by
  rw [h2, List.take_add_one, hx, List.count_append]
  simp [he]
def wordsR (c : Cfg) (shard : Int) : List Str := if 0 ≤ shard ∧ shard < (shards c : Int) then sliceM c.cuts c.words shard else []
theorem wordsR_no {c : Cfg} {shard : Int} (h : shard < 0 ∨ (shards c : Int) ≤ shard) : [] = wordsR c shard := by unfold wordsR; rw [if_neg (by omega)]
theorem wordsR_yes {c : Cfg} {shard : Int} (h : 0 ≤ shard) (h2 : shard < (shards c : Int)) : sliceM c.cuts c.words shard = wordsR c shard := by unfold wordsR; rw [if_pos ⟨h, h2⟩]
theorem wordsR_may {c : Cfg} {shard : Int} (h : may c = true) : wordsM c shard = wordsR c shard := by
  unfold wordsR wordsM
  split
  · rfl
  · refine slice_out ?_
    have : shards c = c.cuts.length + 1 := by unfold shards; rw [if_pos h]
    omega
def imgC (c : Cfg) (shard : Int) : List UInt8 := if 0 ≤ shard ∧ shard < (shards c : Int) then imgM (sliceM c.cuts c.words shard) else []
def errC (c : Cfg) (shard : Int) : Int := if 0 ≤ shard ∧ shard < (shards c : Int) then goodL (sliceM c.cuts c.words shard) else 4
theorem imgC_no {c : Cfg} {shard : Int} (h : shard < 0 ∨ (shards c : Int) ≤ shard) : ([] : List UInt8) = imgC c shard ∧ (4 : Int) = errC c shard := by unfold imgC errC; rw [if_neg (by omega), if_neg (by omega)]; exact ⟨rfl, rfl⟩
theorem imgC_yes {c : Cfg} {shard : Int} (h : 0 ≤ shard) (h2 : shard < (shards c : Int)) : imgM (sliceM c.cuts c.words shard) = imgC c shard ∧ goodL (sliceM c.cuts c.words shard) = errC c shard := by unfold imgC errC; rw [if_pos ⟨h, h2⟩, if_pos ⟨h, h2⟩]; exact ⟨rfl, rfl⟩
theorem imgC_len (c : Cfg) (shard : Int) : (imgC c shard).length ≤ 3000010 := by
  unfold imgC; split
  · exact imgM_len _
  · simp
theorem copies_len (c : Cfg) (shard : Int) : (copiesM c shard).length ≤ 3 := by
  unfold copiesM
  split
  · rename_i hw
    have hs := within_true hw
    have hm := may_bounds (may_of_shards (c := c) (by omega))
    simp; omega
  · simp
theorem keeps_len (c : Cfg) (worker : Int) : (keepsM c worker).length ≤ 6 := by
  unfold keepsM
  rw [List.length_map]
  have h1 := List.length_filter_le (fun s : Nat => (copiesM c (s : Int)).contains worker) (List.range (shards c))
  have h2 := shards_le c
  rw [List.length_range] at h1; omega
end Go.Ml
theorem Go.Ml.wordsR_len (c : Go.Ml.Cfg) (shard : Int) : (Go.Ml.wordsR c shard).length ≤ c.words.length := by
  unfold Go.Ml.wordsR; split
  · exact Go.Ml.slice_len _ _ _
  · simp
theorem Go.Ml.errC_rng (c : Go.Ml.Cfg) (shard : Int) : 0 ≤ Go.Ml.errC c shard ∧ Go.Ml.errC c shard ≤ 100 := by
  unfold Go.Ml.errC; split
  · have := Go.Ml.goodL_range (Go.Ml.sliceM c.cuts c.words shard); omega
  · omega
/-
  Bytes read as nodes, plainly.
-/
set_option linter.unusedVariables false
set_option linter.unusedSimpArgs false
namespace Go.Ml
open Go.Ik
/-- a number more: what it is, the place and whether it went wrong -/
def numR (b : List UInt8) (size : Nat) (s : Int × Bool) : Int × (Int × Bool) := if numOk b s.1 size = true then (numV b s.1 size, (s.1 + size, s.2)) else (0, (s.1, true))
theorem numR_no {b : List UInt8} {size : Nat} {a : Int} {q : Bool} (h : numOk b a size = false) : numR b size (a, q) = (0, (a, true)) := by unfold numR; rw [if_neg (by simp [h])]
theorem numR_yes {b : List UInt8} {size : Nat} {a : Int} {q : Bool} (h : numOk b a size = true) : numR b size (a, q) = (numV b a size, (a + size, q)) := by unfold numR; rw [if_pos h]
theorem numV_lt {b : List UInt8} {a : Int} {size : Nat} (h : size ≤ 4) : numV b a size < 4294967296 := by
  unfold numV
  split
  · have := num_small (i := size) (l := b.drop a.toNat) h
    simp only [Int.toNat_natCast]; omega
  · omega
theorem numR_rng {b : List UInt8} {size : Nat} {a f a2 : Int} {q q2 : Bool} (hs : size ≤ 4) (ha : 0 ≤ a ∧ a ≤ b.length) (h : numR b size (a, q) = (f, (a2, q2))) : 0 ≤ f ∧ f < 4294967296 ∧ a ≤ a2 ∧ a2 ≤ b.length ∧ a2 ≤ a + size ∧ (q = true → q2 = true) ∧ (q2 = false → a2 = a + size) := by
  have h0 := numV_rng b a size
  have h1 := numV_lt (b := b) (a := a) hs
  cases hok : numOk b a size with
  | false =>
    rw [numR_no hok] at h
    simp only [Prod.mk.injEq] at h
    obtain ⟨rfl, rfl, rfl⟩ := h
    exact ⟨by omega, by omega, by omega, by omega, by omega, fun _ => rfl, fun h => by cases h⟩
  | true =>
    rw [numR_yes hok] at h
    simp only [Prod.mk.injEq] at h
    obtain ⟨rfl, rfl, rfl⟩ := h
    unfold numOk at hok
    have := of_decide_eq_true hok
    exact ⟨h0, h1, by omega, by omega, by omega, id, fun _ => rfl⟩
theorem numR_byte {b : List UInt8} {a f a2 : Int} {q q2 : Bool} {size : Nat} (h : numR b size (a, q) = (f, (a2, q2))) (hs : size ≤ 2) : f < 65536 := by
  cases hok : numOk b a size with
  | false =>
    rw [numR_no hok] at h
    simp only [Prod.mk.injEq] at h; omega
  | true =>
    rw [numR_yes hok] at h
    simp only [Prod.mk.injEq] at h
    rw [← h.1]
    unfold numV
    rw [if_pos hok]
    have h1 := numN_pow (l := (b.drop a.toNat).take size)
    have h2 : ((b.drop a.toNat).take size).length ≤ 2 := by rw [List.length_take]; omega
    have h3 : 256 ^ ((b.drop a.toNat).take size).length ≤ 256 ^ 2 := Nat.pow_le_pow_right (by omega) h2
    simp only [Int.toNat_natCast]; omega
/-- an edge, edges, a node, nodes -/
def edgeR (b : List UInt8) (s : Int × Bool) : Ed × (Int × Bool) :=
  let r := numR b 4 s
  let t := numR b 2 (r.2.1, r.2.2 || decide (r.1 > 1114111))
  (Ed.mk (IntKind.i32.wrap r.1) t.1, t.2)
def edgesR (b : List UInt8) : Nat → Int × Bool → List Ed × (Int × Bool)
  | 0, s => ([], s)
  | n + 1, s => if s.2 = true then ([], s) else ((edgeR b s).1 :: (edgesR b n (edgeR b s).2).1, (edgesR b n (edgeR b s).2).2)
def nodeR (b : List UInt8) (s : Int × Bool) : GN × (Int × Bool) :=
  let f := numR b 1 s
  let c := numR b 2 (f.2.1, f.2.2 || decide (f.1 > 1))
  let r := edgesR b c.1.toNat c.2
  ((decide (f.1 = 1), r.1), r.2)
def nodesR (b : List UInt8) : Nat → Int × Bool → List GN × (Int × Bool)
  | 0, s => ([], s)
  | n + 1, s => if s.2 = true then ([], s) else ((nodeR b s).1 :: (nodesR b n (nodeR b s).2).1, (nodesR b n (nodeR b s).2).2)
/-- going over edges: those that were read, those that come -/
def EdsR (b : List UInt8) (n : Nat) (s0 : Int × Bool) (i : Nat) (es : List Ed) (s : Int × Bool) : Prop := edgesR b n s0 = (es ++ (edgesR b (n - i) s).1, (edgesR b (n - i) s).2)
theorem EdsR.start (b : List UInt8) (n : Nat) (s : Int × Bool) : EdsR b n s 0 [] s := by unfold EdsR; simp
theorem EdsR.step {b : List UInt8} {n i : Nat} {s0 : Int × Bool} {a : Int} {es : List Ed} {e : Ed} {s' : Int × Bool} (h : EdsR b n s0 i es (a, false)) (hi : i < n) (he : edgeR b (a, false) = (e, s')) : EdsR b n s0 (i + 1) (es ++ [e]) s' := by
  unfold EdsR at *
  rw [h]
  obtain ⟨m, hm⟩ : ∃ m, n - i = m + 1 := ⟨n - i - 1, by omega⟩
  rw [hm, show n - (i + 1) = m from by omega]
  conv => lhs; unfold edgesR
  rw [if_neg (by simp), he]
  simp
theorem EdsR.bad {b : List UInt8} {n i : Nat} {s0 : Int × Bool} {a : Int} {es : List Ed} (h : EdsR b n s0 i es (a, true)) : edgesR b n s0 = (es, (a, true)) := by
  unfold EdsR at h
  rw [h]
  cases n - i with
  | zero => simp [edgesR]
  | succ m => unfold edgesR; simp
theorem EdsR.fin {b : List UInt8} {n i : Nat} {s0 : Int × Bool} {es : List Ed} {s : Int × Bool} (h : EdsR b n s0 i es s) (hi : n ≤ i) : edgesR b n s0 = (es, s) := by
  unfold EdsR at h
  rw [show n - i = 0 from by omega] at h
  rw [h]; simp [edgesR]
end Go.Ml
namespace Go.Ml
open Go.Ik
theorem edge_eq {b : List UInt8} {s : Int × Bool} {f a1 t a2 : Int} {q1 X q2 : Bool} (h1 : (f, a1, q1) = numR b 4 s) (hX : X = (q1 || decide (f > 1114111))) (h2 : (t, a2, q2) = numR b 2 (a1, X)) : edgeR b s = (Ed.mk (IntKind.i32.wrap f) t, (a2, q2)) := by
  unfold edgeR
  simp only [← h1, ← hX, ← h2]
theorem node_eq {b : List UInt8} {a : Int} {q : Bool} {f a1 c a2 a3 : Int} {q1 X q2 q3 fin : Bool} {es : List Ed} (h1 : (f, a1, q1) = numR b 1 (a, q)) (hX : X = (q1 || decide (f > 1))) (h2 : (c, a2, q2) = numR b 2 (a1, X)) (h3 : edgesR b c.toNat (a2, q2) = (es, (a3, q3))) (hf : fin = (f == 1)) : nodeR b (a, q) = ((fin, es), (a3, q3)) := by
  unfold nodeR
  simp only [← h1, ← hX, ← h2, h3, hf]
  rfl
end Go.Ml
namespace Go.Ik
open Go Go.Ml
/-- a node that is read: its cell and its edges -/
def nbR {R : Nat → Prop} (nT eT : TypeId) (b : Nat) (fin : Bool) (es : List Ed) : Res R := exR fun v : Value => boxR [bkR b [.bool fin, v] nT, accR encE eT 2 v es]
end Go.Ik
/-
  Graphs that were made of nodes: are they whole, which words have they? Plainly, and in memory.
-/
set_option linter.unusedVariables false
set_option linter.unusedSimpArgs false
namespace Go.Ml
open Go.Ik
/-- edge by edge, until it says no -/
def eachW {σ : Type} (g : σ → Ed → Bool × σ) : σ → List Ed → Bool × σ
  | s, [] => (true, s)
  | s, e :: r => if (g s e).1 = true then eachW g (g s e).2 r else (false, (g s e).2)
theorem eachW_step {σ : Type} {g : σ → Ed → Bool × σ} {s : σ} {l : List Ed} {k : Nat} {e : Ed} {R : Bool × σ} (h : R = eachW g s (l.drop k)) (hx : l[k]? = some e) (hg : (g s e).1 = true) : R = eachW g (g s e).2 (l.drop (k + 1)) := by
  rw [h, drop_el' hx]
  conv => lhs; unfold eachW
  rw [if_pos hg]
theorem eachW_stop {σ : Type} {g : σ → Ed → Bool × σ} {s : σ} {l : List Ed} {k : Nat} {e : Ed} {R : Bool × σ} (h : R = eachW g s (l.drop k)) (hx : l[k]? = some e) (hg : (g s e).1 = false) : R = (false, (g s e).2) := by
  rw [h, drop_el' hx]
  conv => lhs; unfold eachW
  rw [if_neg (by simp [hg])]
theorem eachW_end {σ : Type} {g : σ → Ed → Bool × σ} {s : σ} {l : List Ed} {k : Nat} {R : Bool × σ} (h : R = eachW g s (l.drop k)) (hk : l.length ≤ k) : R = (true, s) := by
  rw [h, List.drop_of_length_le hk]; rfl
/-- does a node lead to ends, and none of those behind it to itself? what is known of nodes: 1 under way, 2 done -/
def goesW (N : List GN) : Nat → Nat → Int → List Int → Bool × List Int
  | 0, _, _, st => (false, st)
  | f + 1, n, d, st => match N[n]? with
    | none => (false, st)
    | some x => if st[n]? = some 2 then (true, st) else if st[n]? = some 1 ∨ d > 12 ∨ (x.1 = false ∧ x.2 = []) then (false, st) else
      if (eachW (fun st e => goesW N f e.to.toNat (d + 1) st) (st.set n 1) x.2).1 = true then (true, (eachW (fun st e => goesW N f e.to.toNat (d + 1) st) (st.set n 1) x.2).2.set n 2) else (false, (eachW (fun st e => goesW N f e.to.toNat (d + 1) st) (st.set n 1) x.2).2)
section
variable {N : List GN} {f n : Nat} {d : Int} {st : List Int} {x : GN} {y : Int}
theorem goesW_done (hx : N[n]? = some x) (hy : st[n]? = some y) (h : y = 2) : goesW N (f + 1) n d st = (true, st) := by
  subst h; unfold goesW; rw [hx]; simp only; rw [hy, if_pos rfl]
theorem goesW_no (hx : N[n]? = some x) (hy : st[n]? = some y) (h : ¬ y = 2) (h2 : y = 1 ∨ d > 12 ∨ (x.1 = false ∧ x.2 = [])) : goesW N (f + 1) n d st = (false, st) := by
  unfold goesW; rw [hx]; simp only; rw [hy, if_neg (by simpa using h), if_pos (by simpa using h2)]
theorem goesW_go (hx : N[n]? = some x) (hy : st[n]? = some y) (h : ¬ y = 2) (h2 : ¬ (y = 1 ∨ d > 12 ∨ (x.1 = false ∧ x.2 = []))) {R : Bool × List Int} (hR : R = eachW (fun st e => goesW N f e.to.toNat (d + 1) st) (st.set n 1) x.2) : goesW N (f + 1) n d st = if R.1 = true then (true, R.2.set n 2) else (false, R.2) := by
  subst hR
  conv => lhs; unfold goesW
  rw [hx]; simp only; rw [hy, if_neg (by simpa using h), if_neg (by simpa using h2)]
end
theorem goesW_goF {N : List GN} {f n : Nat} {d : Int} {st s' : List Int} {x : GN} {y : Int} (hx : N[n]? = some x) (hy : st[n]? = some y) (h : ¬ y = 2) (h2 : ¬ (y = 1 ∨ d > 12 ∨ (x.1 = false ∧ x.2 = []))) (hR : eachW (fun st e => goesW N f e.to.toNat (d + 1) st) (st.set n 1) x.2 = (false, s')) : goesW N (f + 1) n d st = (false, s') := by
  rw [goesW_go hx hy h h2 hR.symm]; simp
theorem goesW_goT {N : List GN} {f n : Nat} {d : Int} {st s' : List Int} {x : GN} {y : Int} (hx : N[n]? = some x) (hy : st[n]? = some y) (h : ¬ y = 2) (h2 : ¬ (y = 1 ∨ d > 12 ∨ (x.1 = false ∧ x.2 = []))) (hR : eachW (fun st e => goesW N f e.to.toNat (d + 1) st) (st.set n 1) x.2 = (true, s')) : goesW N (f + 1) n d st = (true, s'.set n 2) := by
  rw [goesW_go hx hy h h2 hR.symm]; simp
theorem eachW_len {g : List Int → Ed → Bool × List Int} {m : Nat} (hg : ∀ s e, s.length = m → (g s e).2.length = m) : ∀ (l : List Ed) (s : List Int), s.length = m → (eachW g s l).2.length = m
  | [], s, h => h
  | e :: l, s, h => by
    unfold eachW
    split
    · exact eachW_len hg l _ (hg s e h)
    · exact hg s e h
theorem goesW_len (N : List GN) : ∀ (f n : Nat) (d : Int) (st : List Int), (goesW N f n d st).2.length = st.length
  | 0, _, _, _ => rfl
  | f + 1, n, d, st => by
    unfold goesW
    split
    · rfl
    · split
      · rfl
      · split
        · rfl
        · have := eachW_len (g := fun st e => goesW N f e.to.toNat (d + 1) st) (m := st.length) (fun s e h => (goesW_len N f _ _ s).trans h) (‹GN›.2) (st.set n 1) (by simp)
          split
          · simp only [List.length_set]; exact this
          · exact this
/-- is it whole? -/
def wholeM (N : List GN) : Bool := (decide (N.length = 1) && decide ((N[0]?.map (·.2.length)) = some 0)) || (goesW N 14 0 0 (List.replicate N.length 0)).1
theorem wholeM_one {N : List GN} {x : GN} (h : N.length = 1) (hx : N[0]? = some x) (h2 : x.2.length = 0) : wholeM N = true := by
  unfold wholeM; rw [hx]; simp [h, h2]
theorem wholeM_far {N : List GN} {b : Bool} (hb : (goesW N 14 0 0 (List.replicate N.length 0)).1 = b) (h : N.length ≠ 1 ∨ ∃ x, N[0]? = some x ∧ x.2.length ≠ 0) : wholeM N = b := by
  subst hb
  unfold wholeM
  rcases h with h | ⟨x, hx, h2⟩
  · simp [h]
  · rw [hx]; simp [h2]
theorem encR_le (r : Int) : (encR r).length ≤ 4 := by
  unfold encR Utf8.encode
  simp only
  repeat' split
  all_goals first | (simp; done) | (simp only [ByteArray.data_mk, List.toArray_toList]; decide) | rfl | decide | simp
theorem fold_step {σ : Type} {g : σ → Ed → σ} {s : σ} {l : List Ed} {k : Nat} {e : Ed} {R : σ} (h : R = (l.drop k).foldl g s) (hx : l[k]? = some e) : R = (l.drop (k + 1)).foldl g (g s e) := by
  rw [h, drop_el' hx]; rfl
theorem fold_end {σ : Type} {g : σ → Ed → σ} {s : σ} {l : List Ed} {k : Nat} {R : σ} (h : R = (l.drop k).foldl g s) (hk : l.length ≤ k) : R = s := by
  rw [h, List.drop_of_length_le hk]; rfl
/-- the words that nodes tell, in depth-first order; false: too many or too long -/
def goesS (N : List GN) : Nat → Nat → Str → Int → List Str × Bool → List Str × Bool
  | 0, _, _, _, s => (s.1, false)
  | f + 1, n, a, d, s => if s.2 = false ∨ s.1.length > 60 ∨ d > 12 then (s.1, false) else match N[n]? with
    | none => (s.1, false)
    | some x => x.2.foldl (fun s e => goesS N f e.to.toNat (a ++ encR e.rune) (d + 1) s) (if x.1 = true then (s.1 ++ [a], s.2) else s)
section
variable {N : List GN} {f n : Nat} {d : Int} {a : Str} {l : List Str} {ok : Bool} {x : GN}
theorem goesS_no (h : ok = false ∨ l.length > 60 ∨ d > 12) : goesS N (f + 1) n a d (l, ok) = (l, false) := by
  unfold goesS; rw [if_pos h]
theorem goesS_go (h : ¬ (ok = false ∨ l.length > 60 ∨ d > 12)) (hx : N[n]? = some x) {R s0 : List Str × Bool} (h0 : s0 = if x.1 = true then (l ++ [a], ok) else (l, ok)) (hR : x.2.foldl (fun s e => goesS N f e.to.toNat (a ++ encR e.rune) (d + 1) s) s0 = R) : goesS N (f + 1) n a d (l, ok) = R := by
  conv => lhs; unfold goesS
  rw [if_neg h, hx]; simp only
  rw [← hR, h0]
end
theorem foldS_len {g : List Str × Bool → Ed → List Str × Bool} (hg : ∀ s e, s.1.length ≤ 61 → (g s e).1.length ≤ 61) : ∀ (l : List Ed) (s : List Str × Bool), s.1.length ≤ 61 → (l.foldl g s).1.length ≤ 61
  | [], s, h => h
  | e :: l, s, h => foldS_len hg l _ (hg s e h)
theorem goesS_len (N : List GN) : ∀ (f n : Nat) (a : Str) (d : Int) (s : List Str × Bool), s.1.length ≤ 61 → (goesS N f n a d s).1.length ≤ 61
  | 0, _, _, _, s, h => h
  | f + 1, n, a, d, s, h => by
    unfold goesS
    split
    · exact h
    · next hn =>
      split
      · exact h
      · refine foldS_len (fun s e h => goesS_len N f _ _ _ s h) _ _ ?_
        have : ¬ s.1.length > 60 := fun h => hn (.inr (.inl h))
        split
        · simp only [List.length_append, List.length_cons, List.length_nil]; omega
        · exact h
/-- all words, are they so many as may be? -/
def someM (N : List GN) : List Str × Bool :=
  let r := goesS N 14 0 [] 0 ([], true)
  (r.1, r.2 && decide (r.1.length ≤ 60))
theorem someM_eq {N : List GN} {l : List Str} {ok v : Bool} (h : (l, ok) = goesS N 14 0 [] 0 ([], true)) (hv : v = (ok && decide (l.length ≤ 60))) : someM N = (l, v) := by
  unfold someM; simp only [← h, hv]
theorem foldS_short {g : List Str × Bool → Ed → List Str × Bool} (hg : ∀ s e, (∀ t ∈ s.1, t.length ≤ 1000) → ∀ t ∈ (g s e).1, t.length ≤ 1000) : ∀ (l : List Ed) (s : List Str × Bool), (∀ t ∈ s.1, t.length ≤ 1000) → ∀ t ∈ (l.foldl g s).1, t.length ≤ 1000
  | [], s, h => h
  | e :: l, s, h => foldS_short hg l _ (hg s e h)
theorem goesS_short (N : List GN) : ∀ (f n : Nat) (a : Str) (d : Int) (s : List Str × Bool), (a.length : Int) ≤ 4 * d → (∀ t ∈ s.1, t.length ≤ 1000) → ∀ t ∈ (goesS N f n a d s).1, t.length ≤ 1000
  | 0, _, _, _, s, _, h => h
  | f + 1, n, a, d, s, ha, h => by
    unfold goesS
    split
    · exact h
    · next hn =>
      split
      · exact h
      · refine foldS_short (fun s e h => goesS_short N f _ _ _ s (by have := encR_le e.rune; simp only [List.length_append]; omega) h) _ _ ?_
        have : ¬ d > 12 := fun h => hn (.inr (.inr h))
        split
        · intro t ht
          rcases List.mem_append.1 ht with ht | ht
          · exact h t ht
          · simp only [List.mem_singleton] at ht; subst ht; omega
        · exact h
theorem someM_short (N : List GN) : ∀ t ∈ (someM N).1, t.length ≤ 1000 := goesS_short N 14 0 [] 0 ([], true) (by simp) (fun t ht => by cases ht)
theorem someM_ok (N : List GN) : LOk (someM N).1 := fun t ht => by have := someM_short N t ht; omega
theorem someM_len (N : List GN) : (someM N).1.length ≤ 61 := goesS_len N 14 0 [] 0 ([], true) (by simp)
/-- are edges told of nodes that are there? -/
def rightE (N : List GN) : Bool := N.all fun x => x.2.all fun e => decide (1 ≤ e.to ∧ e.to < (N.length : Int))
/-- the words of a graph that was made of nodes -/
def madeM (N : List GN) : Option (List Str) :=
  if rightE N = true ∧ N.length ≠ 0 ∧ N.length ≤ 721 ∧ wholeM N = true ∧ (someM N).2 = true ∧ goodL (someM N).1 = 0 ∧ gnodes (someM N).1 = N then some (someM N).1 else none
def madeG (N : List GN) : List GN := match madeM N with
  | none => []
  | some l => gnodes l
theorem madeG_no {N : List GN} (h : ¬ (rightE N = true ∧ N.length ≠ 0 ∧ N.length ≤ 721 ∧ wholeM N = true ∧ (someM N).2 = true ∧ goodL (someM N).1 = 0 ∧ gnodes (someM N).1 = N)) : madeG N = [] := by
  unfold madeG madeM; rw [if_neg h]
theorem madeG_yes {N : List GN} (h : rightE N = true ∧ N.length ≠ 0 ∧ N.length ≤ 721 ∧ wholeM N = true ∧ (someM N).2 = true ∧ goodL (someM N).1 = 0 ∧ gnodes (someM N).1 = N) : madeG N = gnodes (someM N).1 := by
  unfold madeG madeM; rw [if_pos h]
theorem rightE_iff {N : List GN} : rightE N = true ↔ ∀ x ∈ N, ∀ e ∈ x.2, 1 ≤ e.to ∧ e.to < (N.length : Int) := by
  unfold rightE; simp
theorem rightE_no {N : List GN} {k i : Nat} {x : GN} {e : Ed} (hx : N[k]? = some x) (he : x.2[i]? = some e) (h : ¬ (1 ≤ e.to ∧ e.to < (N.length : Int))) : ¬ rightE N = true := fun hr => h (rightE_iff.1 hr x (List.mem_of_getElem? hx) e (List.mem_of_getElem? he))
/-- two graphs' nodes, one by one -/
theorem like_len {N M : List GN} (h : N.length ≠ M.length) : decide (N = M) = false := decide_eq_false fun e => h (by rw [e])
theorem like_no {N M : List GN} {k : Nat} {a b : GN} (ha : N[k]? = some a) (hb : M[k]? = some b) (h : a ≠ b) : decide (N = M) = false := decide_eq_false fun e => h (by subst e; exact Option.some.inj (ha.symm.trans hb))
theorem like_edge {N M : List GN} {k i : Nat} {a b : GN} {x y : Ed} (ha : N[k]? = some a) (hb : M[k]? = some b) (hx : a.2[i]? = some x) (hy : b.2[i]? = some y) (h : x ≠ y) : decide (N = M) = false := like_no ha hb fun e => h (by subst e; exact Option.some.inj (hx.symm.trans hy))
theorem take_step {α : Type} {N M : List α} {k : Nat} {a : α} (h : N.take k = M.take k) (ha : N[k]? = some a) (hb : M[k]? = some a) : N.take (k + 1) = M.take (k + 1) := by
  rw [List.take_add_one, List.take_add_one, h, ha, hb]
theorem take_all {α : Type} {N M : List α} {k : Nat} (h : N.take k = M.take k) (h1 : N.length ≤ k) (h2 : M.length ≤ k) : N = M := by
  rwa [List.take_of_length_le h1, List.take_of_length_le h2] at h
theorem gn_eq {a b : GN} (h1 : a.1 = b.1) (h2 : a.2 = b.2) : a = b := Prod.ext h1 h2
end Go.Ml
namespace Go.Ik
open Go Go.Ml
/-- a graph that one holds, told for a call that only reads -/
theorem gr_held {w : World} {bG g : Nat} {e tn : TypeId} {v : Value} {nds : List RNode} {N : List GN} {G : Nat → Prop} (hb : Bk w bG [v] e) (ha : Acc encN tn 2 w g v nds) (hg : g ≤ w.heap.size) (hr : NRel w G nds N) (hG : ∀ b, G b → b < w.heap.size) :
    Row w bG 0 [v] ∧ bG < w.heap.size ∧ Sl encN w (fun b => b < w.heap.size) v nds ∧ NRel w (fun b => b < w.heap.size) nds N :=
  ⟨hb.row, hb.lt, ha.sl.mono fun b h => Nat.lt_of_lt_of_le h.2 hg, hr.mono hG⟩
theorem gr_told {w : World} {lo hi : Nat} {v : Value} {N : List GN} (h : Gr 0 w lo hi v N) (hN : N ≠ []) (hh : hi ≤ w.heap.size) :
    ∃ b vn nds, v = ptr b 0 ∧ Row w b 0 [vn] ∧ b < w.heap.size ∧ Sl encN w (fun b => b < w.heap.size) vn nds ∧ NRel w (fun b => b < w.heap.size) nds N := by
  rcases h with ⟨_, h⟩ | ⟨b, vn, nds, h1, h2, h3, h4, h5⟩
  · exact absurd h hN
  · exact ⟨b, vn, nds, h1, h3.2.2, Nat.lt_of_lt_of_le h3.2.1 hh, h4.mono fun b q => Nat.lt_of_lt_of_le q.2 hh, h5.mono fun b q => Nat.lt_of_lt_of_le q.2 hh⟩
theorem St.grOut {R : Nat → Prop} {w0 w : World} {L : List (Res R)} {i : Nat} {v : Value} {N : List GN} (h : St R (fun _ => False) w0 w L) (hi : L[i]? = some (grR v N)) (hN : N ≠ []) : ∃ lo up, Gr 0 w lo up v N ∧ w0.heap.size ≤ lo ∧ up ≤ w.heap.size := by
  obtain ⟨F, ⟨lo, up, h1, h2, h4⟩, h3, _⟩ := h.act hi
  refine ⟨lo, up, h1, ?_, h2⟩
  rcases h1 with ⟨_, h1⟩ | ⟨b, vn, nds, k1, k2, ⟨k3, k4, k5⟩, k6, k7⟩
  · exact absurd h1 hN
  · exact (h3 lo (h4 lo (Nat.le_refl _) (by omega))).1.1.resolve_left id
end Go.Ik
namespace Go.Ik
open Go Go.Ml
/-- what the words' gatherer holds -/
def smR {R : Nat → Prop} (tO tl tG tF te fk : Nat) (bok bl bga bfn bG : Nat) (s : List Str × Bool) : Res R := boxR [bkR bok [.bool s.2] tO, tbR tl te 1 encS bl s.1, bkR bga [ptr bG 0] tG, bkR bfn [.func (.func fk) #[] #[ptr bok 0, ptr bl 0, ptr bga 0, ptr bfn 0]] tF]
/-- what 'goes' holds: the graph's box, the states', its own -/
def whR {R : Nat → Prop} (t1 t3 tI t4 fk : Nat) (b1 b3 b4 bG : Nat) (vS : Value) (st : List Int) : Res R := boxR [bkR b1 [ptr bG 0] t1, bkR b3 [vS] t3, accR Ik.encI tI 1 vS st, bkR b4 [.func (.func fk) #[] #[ptr b1 0, ptr b3 0, ptr b4 0]] t4]
end Go.Ik
namespace Go.Ik
open Go
theorem toArgs {P : Program} {f : FuncId} {r : List Value} {w : World} {K : Ending → World → Prop} {n : Nat} {m : Int} (h : Calls P f (.int .i64 (n : Int) :: r).toArray w K) (hn : m = (n : Int)) : Calls P f (.int .i64 m :: r).toArray w K := by subst hn; exact h
end Go.Ik
/-
  Images that are read: which graph they tell, plainly; and what is held on the way.
-/
set_option linter.unusedVariables false
set_option linter.unusedSimpArgs false
namespace Go.Ml
open Go.Ik
/-- going over nodes: those that were read, those that come -/
def NdsR (b : List UInt8) (n : Nat) (s0 : Int × Bool) (i : Nat) (N : List GN) (s : Int × Bool) : Prop := nodesR b n s0 = (N ++ (nodesR b (n - i) s).1, (nodesR b (n - i) s).2)
theorem NdsR.start (b : List UInt8) (n : Nat) (s : Int × Bool) : NdsR b n s 0 [] s := by unfold NdsR; simp
theorem NdsR.step {b : List UInt8} {n i : Nat} {s0 : Int × Bool} {a : Int} {N : List GN} {e : GN} {s' : Int × Bool} (h : NdsR b n s0 i N (a, false)) (hi : i < n) (he : (e, s') = nodeR b (a, false)) : NdsR b n s0 (i + 1) (N ++ [e]) s' := by
  unfold NdsR at *
  rw [h]
  obtain ⟨m, hm⟩ : ∃ m, n - i = m + 1 := ⟨n - i - 1, by omega⟩
  rw [hm, show n - (i + 1) = m from by omega]
  conv => lhs; unfold nodesR
  rw [if_neg (by simp), ← he]
  simp
theorem NdsR.bad {b : List UInt8} {n i : Nat} {s0 : Int × Bool} {a : Int} {N : List GN} (h : NdsR b n s0 i N (a, true)) : nodesR b n s0 = (N, (a, true)) := by
  unfold NdsR at h
  rw [h]
  cases n - i with
  | zero => simp [nodesR]
  | succ m => unfold nodesR; simp
theorem NdsR.fin {b : List UInt8} {n i : Nat} {s0 : Int × Bool} {N : List GN} {s : Int × Bool} (h : NdsR b n s0 i N s) (hi : n ≤ i) : nodesR b n s0 = (N, s) := by
  unfold NdsR at h
  rw [show n - i = 0 from by omega] at h
  rw [h]; simp [nodesR]
theorem edgesR_len (b : List UInt8) : ∀ (n : Nat) (s : Int × Bool), (edgesR b n s).1.length ≤ n
  | 0, s => by simp [edgesR]
  | n + 1, s => by
    unfold edgesR
    split
    · simp
    · simp only [List.length_cons]; have := edgesR_len b n (edgeR b s).2; omega
theorem nodeR_len (b : List UInt8) (s : Int × Bool) : (nodeR b s).1.2.length ≤ 65535 := by
  unfold nodeR
  simp only
  generalize hz : numR b 2 ((numR b 1 s).2.1, (numR b 1 s).2.2 || decide ((numR b 1 s).1 > 1)) = z
  obtain ⟨z1, z2, z3⟩ := z
  have h2 := numR_byte hz (by omega)
  have h1 := edgesR_len b z1.toNat (z2, z3)
  simp only
  omega
theorem numR_at {b : List UInt8} {size : Nat} {s : Int × Bool} (hs : size ≤ 4) (ha : 0 ≤ s.1 ∧ s.1 ≤ b.length) : 0 ≤ (numR b size s).2.1 ∧ (numR b size s).2.1 ≤ b.length := by
  have := numR_rng (a := s.1) (q := s.2) hs ha (f := (numR b size s).1) (a2 := (numR b size s).2.1) (q2 := (numR b size s).2.2) rfl
  omega
theorem edgeR_at {b : List UInt8} {s : Int × Bool} (ha : 0 ≤ s.1 ∧ s.1 ≤ b.length) : 0 ≤ (edgeR b s).2.1 ∧ (edgeR b s).2.1 ≤ b.length := by
  unfold edgeR
  exact numR_at (by omega) (numR_at (by omega) ha)
theorem edgesR_at {b : List UInt8} : ∀ (n : Nat) (s : Int × Bool), 0 ≤ s.1 ∧ s.1 ≤ b.length → 0 ≤ (edgesR b n s).2.1 ∧ (edgesR b n s).2.1 ≤ b.length
  | 0, s, ha => ha
  | n + 1, s, ha => by
    unfold edgesR
    split
    · exact ha
    · exact edgesR_at n _ (edgeR_at ha)
theorem nodeR_at {b : List UInt8} {a a2 : Int} {q q2 : Bool} {x : GN} (ha : 0 ≤ a ∧ a ≤ b.length) (h : (x, (a2, q2)) = nodeR b (a, q)) : 0 ≤ a2 ∧ a2 ≤ b.length := by
  have : (nodeR b (a, q)).2.1 = a2 := by rw [← h]
  rw [← this]
  unfold nodeR
  exact edgesR_at _ _ (numR_at (s := (_, _)) (by omega) (numR_at (s := (_, _)) (by omega) ha))
/-- the graph that an image tells, and what is wrong -/
def decG (b : List UInt8) : List GN × Int :=
  if b.length < 4 then ([], 9) else
  if ¬ numV b ((b.length : Int) - 4) 4 = (sumN (b.take (b.length - 4)) : Int) then ([], 9) else
  if b.length - 4 < 4 ∨ ¬ b.take 4 = [73, 78, 75, 49] then ([], 8) else
  if (nodesR (b.take (b.length - 4)) (numR (b.take (b.length - 4)) 2 (4, false)).1.toNat (numR (b.take (b.length - 4)) 2 (4, false)).2).2.2 = true ∨ ¬ (nodesR (b.take (b.length - 4)) (numR (b.take (b.length - 4)) 2 (4, false)).1.toNat (numR (b.take (b.length - 4)) 2 (4, false)).2).2.1 = (b.length : Int) - 4 then ([], 8) else
  if madeG (nodesR (b.take (b.length - 4)) (numR (b.take (b.length - 4)) 2 (4, false)).1.toNat (numR (b.take (b.length - 4)) 2 (4, false)).2).1 = [] then ([], 8) else
  (madeG (nodesR (b.take (b.length - 4)) (numR (b.take (b.length - 4)) 2 (4, false)).1.toNat (numR (b.take (b.length - 4)) 2 (4, false)).2).1, 0)
section
variable {b : List UInt8}
theorem decG_short (h : b.length < 4) : decG b = ([], 9) := by unfold decG; rw [if_pos h]
theorem decG_sum (h1 : ¬ b.length < 4) (h2 : ¬ numV b ((b.length : Int) - 4) 4 = (sumN (b.take (b.length - 4)) : Int)) : decG b = ([], 9) := by unfold decG; rw [if_neg h1, if_pos h2]
theorem decG_head (h1 : ¬ b.length < 4) (h2 : numV b ((b.length : Int) - 4) 4 = (sumN (b.take (b.length - 4)) : Int)) (h3 : b.length - 4 < 4 ∨ ¬ b.take 4 = [73, 78, 75, 49]) : decG b = ([], 8) := by unfold decG; rw [if_neg h1, if_neg (fun k => k h2), if_pos h3]
variable {N : List GN} {a c a0 : Int} {q q0 : Bool}
theorem decG_form (h1 : ¬ b.length < 4) (h2 : numV b ((b.length : Int) - 4) 4 = (sumN (b.take (b.length - 4)) : Int)) (h3 : ¬ (b.length - 4 < 4 ∨ ¬ b.take 4 = [73, 78, 75, 49])) (h4 : (c, (a0, q0)) = numR (b.take (b.length - 4)) 2 (4, false)) (h5 : nodesR (b.take (b.length - 4)) c.toNat (a0, q0) = (N, (a, q))) (h6 : q = true ∨ ¬ a = (b.length : Int) - 4) : decG b = ([], 8) := by
  unfold decG; rw [if_neg h1, if_neg (fun k => k h2), if_neg h3, ← h4]; simp only [h5]; rw [if_pos h6]
theorem decG_none (h1 : ¬ b.length < 4) (h2 : numV b ((b.length : Int) - 4) 4 = (sumN (b.take (b.length - 4)) : Int)) (h3 : ¬ (b.length - 4 < 4 ∨ ¬ b.take 4 = [73, 78, 75, 49])) (h4 : (c, (a0, q0)) = numR (b.take (b.length - 4)) 2 (4, false)) (h5 : nodesR (b.take (b.length - 4)) c.toNat (a0, q0) = (N, (a, q))) (h6 : ¬ (q = true ∨ ¬ a = (b.length : Int) - 4)) (h7 : madeG N = []) : decG b = ([], 8) := by
  unfold decG; rw [if_neg h1, if_neg (fun k => k h2), if_neg h3, ← h4]; simp only [h5]; rw [if_neg h6, if_pos h7]
theorem decG_yes (h1 : ¬ b.length < 4) (h2 : numV b ((b.length : Int) - 4) 4 = (sumN (b.take (b.length - 4)) : Int)) (h3 : ¬ (b.length - 4 < 4 ∨ ¬ b.take 4 = [73, 78, 75, 49])) (h4 : (c, (a0, q0)) = numR (b.take (b.length - 4)) 2 (4, false)) (h5 : nodesR (b.take (b.length - 4)) c.toNat (a0, q0) = (N, (a, q))) (h6 : ¬ (q = true ∨ ¬ a = (b.length : Int) - 4)) (h7 : madeG N ≠ []) : decG b = (madeG N, 0) := by
  unfold decG; rw [if_neg h1, if_neg (fun k => k h2), if_neg h3, ← h4]; simp only [h5]; rw [if_neg h6, if_neg h7]
end
end Go.Ml
namespace Go.Ik
open Go Go.Ml
/-- nodes' edges -/
def relR {R : Nat → Prop} (nds : List RNode) (N : List GN) : Res R := ⟨fun F w => NRel w F nds N, fun h hm hF _ => h.keep hm hF⟩
theorem rel_push {R F : Nat → Prop} {w : World} {e : TypeId} {nds : List RNode} {N : List GN} {x : RNode} {n : GN} {v : Value} {es : List Ed} (hv : v = x.e.val) (hf : x.fin = n.1) (hn : es = n.2) (h : (boxR (R := R) [relR nds N, accR encE e 2 v es]).p F w) : (relR (R := R) (nds ++ [x]) (N ++ [n])).p F w := by
  obtain ⟨F1, F2, h1, h2, h3, h4⟩ := sep_pair h
  exact All2.app (NRel.mono h1 h3) (.cons ⟨hf, hv ▸ hn ▸ (acc_sl h2).mono h4⟩ .nil)
end Go.Ik
/-
  Images are read back: numbers, edges, nodes; a graph of words is whole and tells its words.
-/
set_option linter.unusedVariables false
set_option linter.unusedSimpArgs false
namespace Go.Ml
open Go.Ik
/-! numbers -/
theorem byN_of {n : Int} {m : Nat} (h : n = (m : Int)) : (byN n).toNat = m % 256 := by
  have := byN_toNat n; omega
theorem wrap_small {x : Int} (h0 : 0 ≤ x) (h : x < 4294967296) : IntKind.u64.wrap x = x := by
  have : (IntKind.u64.wrap x) = x % 18446744073709551616 := by unfold IntKind.wrap; rfl
  rw [this]; omega
theorem put1 {x : Int} (h0 : 0 ≤ x) (h : x < 256) : putN x 1 = [byN x] := by
  unfold putN
  rw [wrap_small h0 (by omega)]
  simp [List.range_succ]
theorem put2 {x : Int} (h0 : 0 ≤ x) (h : x < 65536) : putN x 2 = [byN (x / 256), byN x] := by
  unfold putN
  rw [wrap_small h0 (by omega)]
  simp [List.range_succ]
theorem put4 {x : Int} (h0 : 0 ≤ x) (h : x < 4294967296) : putN x 4 = [byN (x / 16777216), byN (x / 65536), byN (x / 256), byN x] := by
  unfold putN
  rw [wrap_small h0 (by omega)]
  simp [List.range_succ]
theorem num1 {x : Int} (h0 : 0 ≤ x) (h : x < 256) : (numN (putN x 1) : Int) = x := by
  rw [put1 h0 h]
  have h1 := byN_toNat x
  simp only [numN, List.foldl_cons, List.foldl_nil]; omega
theorem num2 {x : Int} (h0 : 0 ≤ x) (h : x < 65536) : (numN (putN x 2) : Int) = x := by
  rw [put2 h0 h]
  have h1 := byN_toNat x
  have h2 := byN_toNat (x / 256)
  simp only [numN, List.foldl_cons, List.foldl_nil]; omega
theorem num4 {x : Int} (h0 : 0 ≤ x) (h : x < 4294967296) : (numN (putN x 4) : Int) = x := by
  rw [put4 h0 h]
  have h1 := byN_toNat x
  have h2 := byN_toNat (x / 256)
  have h3 := byN_toNat (x / 65536)
  have h4 := byN_toNat (x / 16777216)
  simp only [numN, List.foldl_cons, List.foldl_nil]; omega
theorem byN_eq {n : Int} {b : UInt8} (h : n % 256 = (b.toNat : Int)) : byN n = b := by
  apply UInt8.toNat_inj.1
  have := byN_toNat n; omega
theorem back1 {l : List UInt8} (h : l.length = 1) : putN (numN l) 1 = l := by
  match l, h with
  | [a], _ =>
    have ha := a.toNat_lt
    have hn : (numN [a] : Int) = a.toNat := by simp only [numN, List.foldl_cons, List.foldl_nil]; omega
    rw [put1 (by omega) (by omega), hn, byN_eq (b := a) (by omega)]
theorem back2 {l : List UInt8} (h : l.length = 2) : putN (numN l) 2 = l := by
  match l, h with
  | [a, b], _ =>
    have ha := a.toNat_lt
    have hb := b.toNat_lt
    have hn : (numN [a, b] : Int) = a.toNat * 256 + b.toNat := by simp only [numN, List.foldl_cons, List.foldl_nil]; omega
    rw [put2 (by omega) (by omega), hn, byN_eq (b := a) (by omega), byN_eq (b := b) (by omega)]
theorem back4 {l : List UInt8} (h : l.length = 4) : putN (numN l) 4 = l := by
  match l, h with
  | [a, b, c, d], _ =>
    have ha := a.toNat_lt
    have hb := b.toNat_lt
    have hc := c.toNat_lt
    have hd := d.toNat_lt
    have hn : (numN [a, b, c, d] : Int) = ((a.toNat * 256 + b.toNat) * 256 + c.toNat) * 256 + d.toNat := by simp only [numN, List.foldl_cons, List.foldl_nil]; omega
    rw [put4 (by omega) (by omega), hn, byN_eq (b := a) (by omega), byN_eq (b := b) (by omega), byN_eq (b := c) (by omega), byN_eq (b := d) (by omega)]
/-- sizes that are read -/
def sz124 (n : Nat) : Prop := n = 1 ∨ n = 2 ∨ n = 4
theorem num_put {x : Int} {n : Nat} (hn : sz124 n) (h0 : 0 ≤ x) (h : x < 256 ^ n) : (numN (putN x n) : Int) = x := by
  rcases hn with rfl | rfl | rfl
  · exact num1 h0 (by omega)
  · exact num2 h0 (by omega)
  · exact num4 h0 (by omega)
theorem put_num {l : List UInt8} {n : Nat} (hn : sz124 n) (h : l.length = n) : putN (numN l) n = l := by
  rcases hn with rfl | rfl | rfl
  · exact back1 h
  · exact back2 h
  · exact back4 h
/-! reading what was laid -/
theorem drop_len {b p r : List UInt8} {a : Nat} (h : b.drop a = p ++ r) : b.drop (a + p.length) = r := by
  rw [← List.drop_drop, h]; simp
theorem drop_le {b p r : List UInt8} {a : Nat} (h : b.drop a = p ++ r) (hp : p ≠ []) : a + p.length ≤ b.length := by
  have h1 := congrArg List.length h
  rw [List.length_drop, List.length_append] at h1
  have : 0 < p.length := List.length_pos_iff.2 hp
  omega
theorem numR_put {b r : List UInt8} {a n : Nat} {x : Int} {q : Bool} (h : b.drop a = putN x n ++ r) (hn : sz124 n) (h0 : 0 ≤ x) (hx : x < 256 ^ n) : numR b n ((a : Int), q) = (x, (((a + n : Nat) : Int), q)) := by
  have hl := putN_len x n
  have h1 : a + n ≤ b.length := by
    have := drop_le h (by intro e; rw [e] at hl; unfold sz124 at hn; simp at hl; omega)
    rwa [hl] at this
  have hok : numOk b (a : Int) (n : Int) = true := by unfold numOk; unfold sz124 at hn; exact decide_eq_true ⟨by omega, by omega, by omega, by omega, by omega⟩
  rw [numR_yes hok]
  have hv : numV b (a : Int) (n : Int) = x := by
    unfold numV
    rw [if_pos hok]
    simp only [Int.toNat_natCast]
    rw [h, List.take_left' hl]
    exact num_put hn h0 hx
  rw [hv]; rfl
/-- edges that may be laid -/
def edOk (e : Ed) : Prop := 0 ≤ e.rune ∧ e.rune ≤ 1114111 ∧ 0 ≤ e.to ∧ e.to < 65536
theorem wrap32 {x : Int} (h0 : 0 ≤ x) (h : x ≤ 1114111) : IntKind.i32.wrap x = x := by
  have hm : x % 4294967296 = x := by omega
  have hb : (2 : Int) ^ IntKind.i32.bits = 4294967296 := rfl
  have hs : (2 : Int) ^ (IntKind.i32.bits - 1) = 2147483648 := rfl
  unfold IntKind.wrap
  simp only [hb, hs, hm]
  rw [if_neg]
  simp only [Bool.and_eq_true, decide_eq_true_eq]
  omega
theorem edgeB_len (e : Ed) : (edgeB e).length = 6 := by unfold edgeB; simp [putN_len]
theorem edgeR_put {b r : List UInt8} {a : Nat} {e : Ed} (h : b.drop a = edgeB e ++ r) (he : edOk e) : edgeR b ((a : Int), false) = (e, (((a + 6 : Nat) : Int), false)) := by
  obtain ⟨h1, h2, h3, h4⟩ := he
  unfold edgeB at h
  rw [List.append_assoc] at h
  have k1 := numR_put (q := false) h (.inr (.inr rfl)) h1 (by omega)
  have k2 := drop_len h
  rw [putN_len] at k2
  have k3 := numR_put (q := false) k2 (.inr (.inl rfl)) h3 (by omega)
  unfold edgeR
  simp only [k1]
  rw [show (false || decide (e.rune > 1114111)) = false from by simp; omega]
  simp only [k3]
  rw [wrap32 h1 h2]
theorem edgesR_put {b : List UInt8} : ∀ (es : List Ed) (a : Nat) (r : List UInt8), b.drop a = es.flatMap edgeB ++ r → (∀ e ∈ es, edOk e) → edgesR b es.length ((a : Int), false) = (es, (((a + 6 * es.length : Nat) : Int), false))
  | [], a, r, h, _ => by simp [edgesR]
  | e :: es, a, r, h, he => by
    rw [List.flatMap_cons, List.append_assoc] at h
    have k1 := edgeR_put h (he e (by simp))
    have k2 := drop_len h
    rw [edgeB_len] at k2
    have k3 := edgesR_put es (a + 6) r k2 (fun e h => he e (by simp [h]))
    rw [List.length_cons]
    conv => lhs; unfold edgesR
    rw [if_neg (by simp), k1]
    simp only [k3]
    rw [show a + 6 + 6 * es.length = a + 6 * (es.length + 1) from by omega]
/-- nodes that may be laid -/
def gnOk (x : GN) : Prop := x.2.length < 65536 ∧ ∀ e ∈ x.2, edOk e
def ndLen (x : GN) : Nat := 3 + 6 * x.2.length
theorem flat6 : ∀ es : List Ed, (es.flatMap edgeB).length = 6 * es.length
  | [] => rfl
  | e :: es => by rw [List.flatMap_cons, List.length_append, flat6 es, edgeB_len, List.length_cons]; omega
theorem nodeB_len2 (x : GN) : (nodeB x).length = ndLen x := by unfold nodeB ndLen; simp only [List.length_append, putN_len, flat6]
theorem nodeR_put {b r : List UInt8} {a : Nat} {x : GN} (h : b.drop a = nodeB x ++ r) (hx : gnOk x) : nodeR b ((a : Int), false) = (x, (((a + ndLen x : Nat) : Int), false)) := by
  obtain ⟨h1, h2⟩ := hx
  unfold nodeB at h
  rw [List.append_assoc, List.append_assoc] at h
  have hb : (0 : Int) ≤ (if x.1 = true then 1 else 0) ∧ (if x.1 = true then 1 else 0 : Int) ≤ 1 := by split <;> omega
  have k1 := numR_put (q := false) h (.inl rfl) hb.1 (by omega)
  have k2 := drop_len h
  rw [putN_len] at k2
  have k3 := numR_put (q := false) k2 (.inr (.inl rfl)) (by omega) (by omega)
  have k4 := drop_len k2
  rw [putN_len] at k4
  have k5 := edgesR_put x.2 _ _ k4 h2
  unfold nodeR
  simp only [k1]
  rw [show (false || decide ((if x.1 = true then 1 else 0 : Int) > 1)) = false from by rw [Bool.false_or]; exact decide_eq_false (by omega)]
  simp only [k3, Int.toNat_natCast, k5]
  rw [show a + 1 + 2 + 6 * x.2.length = a + ndLen x from by unfold ndLen; omega]
  have : decide ((if x.1 = true then 1 else 0 : Int) = 1) = x.1 := by cases x.1 <;> decide
  rw [this]
def ndsLen (N : List GN) : Nat := (N.map ndLen).sum
theorem nodesR_put {b : List UInt8} : ∀ (N : List GN) (a : Nat) (r : List UInt8), b.drop a = N.flatMap nodeB ++ r → (∀ x ∈ N, gnOk x) → nodesR b N.length ((a : Int), false) = (N, (((a + ndsLen N : Nat) : Int), false))
  | [], a, r, h, _ => by simp [nodesR, ndsLen]
  | x :: N, a, r, h, hx => by
    rw [List.flatMap_cons, List.append_assoc] at h
    have k1 := nodeR_put h (hx x (by simp))
    have k2 := drop_len h
    rw [nodeB_len2] at k2
    have k3 := nodesR_put N (a + ndLen x) r k2 (fun e h => hx e (by simp [h]))
    rw [List.length_cons]
    conv => lhs; unfold nodesR
    rw [if_neg (by simp), k1]
    simp only [k3]
    rw [show a + ndLen x + ndsLen N = a + ndsLen (x :: N) from by unfold ndsLen; simp only [List.map_cons, List.sum_cons]; omega]
theorem nodesB_len : ∀ N : List GN, (N.flatMap nodeB).length = ndsLen N
  | [] => rfl
  | x :: N => by rw [List.flatMap_cons, List.length_append, nodesB_len N, nodeB_len2]; unfold ndsLen; simp only [List.map_cons, List.sum_cons]
theorem body_len2 (N : List GN) : (bodyB N).length = 6 + ndsLen N := by
  unfold bodyB; simp only [List.length_append, putN_len, nodesB_len, List.length_cons, List.length_nil]
/-- what is laid of nodes is read as them -/
theorem dec_body {N : List GN} (hl : N.length < 65536) (hN : ∀ x ∈ N, gnOk x) (hm : madeG N ≠ []) : decG (encB_ N) = (madeG N, 0) := by
  have hb : (encB_ N).length = (bodyB N).length + 4 := by unfold encB_ sealB; rw [List.length_append, putN_len]
  have hbl := body_len2 N
  have ht : (encB_ N).take ((encB_ N).length - 4) = bodyB N := by rw [hb]; unfold encB_ sealB; simp
  have hn4 : (4 : Int) = ((4 : Nat) : Int) := rfl
  have hs := sumF_lt 0 (bodyB N)
  have h2 : numV (encB_ N) (((encB_ N).length : Int) - 4) 4 = (sumN ((encB_ N).take ((encB_ N).length - 4)) : Int) := by
    rw [ht]
    have hd : (encB_ N).drop (bodyB N).length = putN (sumN (bodyB N)) 4 ++ [] := by unfold encB_ sealB; simp
    have := numR_put (q := false) hd (.inr (.inr rfl)) (by omega) (by change (sumF 0 (bodyB N) : Int) < _; omega)
    rw [show ((encB_ N).length : Int) - 4 = ((bodyB N).length : Int) from by omega]
    have hok : numOk (encB_ N) ((bodyB N).length : Int) 4 = true := by unfold numOk; exact decide_eq_true ⟨by omega, by omega, by omega, by omega, by omega⟩
    rw [show (4 : Nat) = 4 from rfl, numR_yes hok] at this
    exact congrArg Prod.fst this
  have h3 : ¬ ((encB_ N).length - 4 < 4 ∨ ¬ (encB_ N).take 4 = [73, 78, 75, 49]) := by
    intro h
    rcases h with h | h
    · omega
    · exact h (by unfold encB_ sealB bodyB; simp)
  have hd4 : (bodyB N).drop 4 = putN N.length 2 ++ N.flatMap nodeB := by unfold bodyB; simp
  have h4 := numR_put (q := false) hd4 (.inr (.inl rfl)) (by omega) (by omega)
  have hd6 := drop_len hd4
  rw [putN_len] at hd6
  have h5 := nodesR_put N 6 [] (by rw [hd6]; simp) hN
  have e1 : numR ((encB_ N).take ((encB_ N).length - 4)) 2 (4, false) = ((N.length : Int), (((6 : Nat) : Int), false)) := by rw [ht]; exact h4
  refine decG_yes (c := N.length) (a0 := ((6 : Nat) : Int)) (q0 := false) (a := ((6 + ndsLen N : Nat) : Int)) (q := false) (by omega) h2 h3 e1.symm (by rw [ht, Int.toNat_natCast]; exact h5) (fun h => ?_) hm
  rcases h with h | h
  · cases h
  · exact h (by omega)
end Go.Ml
/-
  A graph of words is whole, tells its words, and is the one that is made of its nodes.
-/
set_option linter.unusedVariables false
set_option linter.unusedSimpArgs false
namespace Go.Ml
open Go.Ik
/-! runes of rests -/
def dpL : List Str → Nat
  | [] => 0
  | t :: r => max (runes t).length (dpL r)
theorem mem_dpL : ∀ {l : List Str} {t : Str}, t ∈ l → (runes t).length ≤ dpL l
  | a :: r, t, h => by
    unfold dpL
    rcases List.mem_cons.1 h with rfl | h
    · omega
    · have := mem_dpL h; omega
theorem dpL_at : ∀ {l : List Str}, l ≠ [] → ∃ t ∈ l, (runes t).length = dpL l
  | [a], _ => ⟨a, by simp, by unfold dpL dpL; omega⟩
  | a :: b :: r, _ => by
    obtain ⟨t, h1, h2⟩ := dpL_at (l := b :: r) (by simp)
    have e : dpL (a :: b :: r) = max (runes a).length (dpL (b :: r)) := by rw [dpL]
    rcases Nat.le_total (runes a).length (dpL (b :: r)) with h | h
    · exact ⟨t, by simp [List.mem_cons.1 h1], by rw [h2, e]; omega⟩
    · exact ⟨a, by simp, by rw [e]; omega⟩
theorem dpL_le {l : List Str} {n : Nat} (h : Deep n l) : dpL l ≤ n := by
  by_cases hl : l = []
  · subst hl; exact Nat.zero_le _
  · obtain ⟨t, h1, h2⟩ := dpL_at hl
    rw [← h2]; exact h t h1
theorem mem_group {r : List Str} (hr : GoodR r) {g : Nat × List Str} (hg : g ∈ groups (dropE r)) : goodN g.1 ∧ g.2 ≠ [] ∧ GoodR g.2 ∧ ∀ t ∈ g.2, encL g.1 ++ t ∈ r := by
  have hd := dropE_good hr
  have ok := groups_ok _ _ (Nat.le_refl _) hd.1 hd.2
  have h1 := ok.good g hg
  refine ⟨h1.1, h1.2.1, h1.2.2, fun t ht => dropE_mem ?_⟩
  rw [← ok.all]
  exact List.mem_flatMap.2 ⟨g, hg, List.mem_map.2 ⟨t, ht, rfl⟩⟩
theorem dpL_group {r : List Str} (hr : GoodR r) {g : Nat × List Str} (hg : g ∈ groups (dropE r)) : dpL g.2 + 1 ≤ dpL r := by
  obtain ⟨h1, h2, _, h4⟩ := mem_group hr hg
  obtain ⟨t, k1, k2⟩ := dpL_at h2
  have := mem_dpL (h4 t k1)
  rw [runes_app h1] at this
  simp only [List.length_cons] at this
  omega
theorem edgesM_pred {P : List Str → Prop} {add : GS → List Str → GS × Nat} : ∀ (gs : List (Nat × List Str)) (s : GS), (∀ g ∈ gs, ∀ s, (∀ y ∈ s, P y.1) → ∀ y ∈ (add s g.2).1, P y.1) → (∀ y ∈ s, P y.1) → ∀ y ∈ (edgesM add s gs).1, P y.1
  | [], s, _, hs => hs
  | g :: gs, s, h, hs => by
    show ∀ y ∈ (edgesM add (add s g.2).1 gs).1, _
    exact edgesM_pred gs _ (fun g' hg' => h g' (by simp [hg'])) (h g (by simp) s hs)
theorem addM_pred {P : List Str → Prop} (hP : ∀ r, P r → ∀ g ∈ groups (dropE r), P g.2) : ∀ (f : Nat) (s : GS) (rests : List Str), (∀ y ∈ s, P y.1) → P rests → ∀ y ∈ (addM f s rests).1, P y.1
  | 0, s, rests, hs, _ => hs
  | f + 1, s, rests, hs, hr => by
    unfold addM
    cases hi : s.findIdx? fun x => x.1 == rests with
    | some i => exact hs
    | none =>
      have h1 := edgesM_pred (add := addM f) (P := P) (groups (dropE rests)) (s ++ [(rests, [])]) (fun g hgm s' hs' => addM_pred hP f s' g.2 hs' (hP _ hr g hgm)) (fun y hy => by
          rcases List.mem_append.1 hy with hy | hy
          · exact hs y hy
          · simp only [List.mem_singleton] at hy; subst hy; exact hr)
      intro y hy
      rcases List.mem_or_eq_of_mem_set hy with hy | rfl
      · exact h1 y hy
      · exact hr
/-- no node has more runes to come than the root -/
theorem graph_dp {words : List Str} (h : goodL words = 0) : ∀ y ∈ graphM words, dpL y.1 ≤ dpL words := by
  have hg := good_deep h
  have := addM_pred (P := fun r => GoodR r ∧ dpL r ≤ dpL words) (fun r hr g hgm => ⟨(mem_group hr.1 hgm).2.2.1, by have := dpL_group hr.1 hgm; omega⟩) 13 [] words (by simp) ⟨hg.1, Nat.le_refl _⟩
  exact fun y hy => (this y hy).2
/-! how many nodes there are -/
def sumR (l : List Str) : Nat := (l.map fun t => (runes t).length).sum
theorem sumR_app (a b : List Str) : sumR (a ++ b) = sumR a + sumR b := by unfold sumR; simp
theorem sumR_pre {c : Nat} (hc : goodN c) : ∀ l : List Str, sumR (l.map (encL c ++ ·)) = l.length + sumR l
  | [] => rfl
  | t :: l => by
    have := sumR_pre hc l
    unfold sumR at *
    simp only [List.map_cons, List.sum_cons, List.length_cons] at *
    rw [runes_app hc, this]
    simp only [List.length_cons]; omega
def gsumR (gs : List (Nat × List Str)) : Nat := (gs.map fun g => sumR g.2 + 1).sum
theorem gsumR_le : ∀ (gs : List (Nat × List Str)), (∀ g ∈ gs, goodN g.1 ∧ g.2 ≠ []) → gsumR gs ≤ sumR (gs.flatMap fun g => g.2.map (encL g.1 ++ ·))
  | [], _ => by simp [gsumR]
  | g :: gs, h => by
    have h1 := gsumR_le gs (fun g' hg => h g' (by simp [hg]))
    have h2 := h g (by simp)
    have h3 := List.length_pos_iff.2 h2.2
    rw [List.flatMap_cons, sumR_app, sumR_pre h2.1]
    unfold gsumR at *
    simp only [List.map_cons, List.sum_cons]; omega
theorem sumR_dropE (l : List Str) : sumR (dropE l) ≤ sumR l := by
  cases l with
  | nil => exact Nat.le_refl _
  | cons a r => cases a <;> simp [dropE, sumR]
theorem edgesM_lenR {add : GS → List Str → GS × Nat} : ∀ (gs : List (Nat × List Str)) (s : GS), (∀ g ∈ gs, ∀ s, (add s g.2).1.length ≤ s.length + 1 + sumR g.2) → (edgesM add s gs).1.length ≤ s.length + gsumR gs
  | [], s, _ => by simp [edgesM, gsumR]
  | g :: gs, s, h => by
    have h1 := h g (by simp) s
    have h2 := edgesM_lenR gs (add s g.2).1 (fun g' hg' => h g' (by simp [hg']))
    show (edgesM add (add s g.2).1 gs).1.length ≤ _
    unfold gsumR at h2 ⊢
    simp only [List.map_cons, List.sum_cons]
    omega
theorem addM_lenR : ∀ (f : Nat) (s : GS) (rests : List Str), GoodR rests → (addM f s rests).1.length ≤ s.length + 1 + sumR rests
  | 0, s, rests, _ => by simp [addM]; omega
  | f + 1, s, rests, hg => by
    unfold addM
    cases hi : s.findIdx? fun x => x.1 == rests with
    | some i => simp; omega
    | none =>
      simp only [List.length_set]
      have hd := dropE_good hg
      have ok := groups_ok _ _ (Nat.le_refl _) hd.1 hd.2
      have h1 := edgesM_lenR (add := addM f) (groups (dropE rests)) (s ++ [(rests, [])]) (fun g hgm s' => addM_lenR f s' g.2 (ok.good g hgm).2.2)
      have h2 := gsumR_le (groups (dropE rests)) (fun g hgm => ⟨(ok.good g hgm).1, (ok.good g hgm).2.1⟩)
      rw [ok.all] at h2
      have h3 := sumR_dropE rests
      simp only [List.length_append, List.length_cons, List.length_nil] at h1
      omega
theorem sumR_le {l : List Str} {m : Nat} (h : ∀ x ∈ l, (runes x).length ≤ m) : sumR l ≤ l.length * m := by
  induction l with
  | nil => simp [sumR]
  | cons a l ih =>
    have h1 := h a (by simp)
    have h2 := ih fun x hx => h x (by simp [hx])
    unfold sumR at *
    rw [List.map_cons, List.sum_cons, List.length_cons, Nat.add_mul]
    omega
theorem gnodes_721 {words : List Str} (h : goodL words = 0) : (gnodes words).length ≤ 721 := by
  rw [gnodes_yes h, gnOf_len]
  unfold graphB
  split
  · simp
  · obtain ⟨h1, h2, _⟩ := good_words h
    have h3 := addM_lenR 13 [] words (good_deep h).1
    have h4 := sumR_le (l := words) (m := 12) fun x hx => (fine_of_word (h2 x hx)).2.2
    unfold graphM
    simp only [List.length_nil] at h3
    omega
/-! going over edges that lead to groups -/
theorem all2_ind {α β : Type} {R : α → β → Prop} {a : List α} {b : List β} (h : All2 R a b) : ∀ y ∈ b, ∃ x ∈ a, R x y := by
  intro y hy
  obtain ⟨k, hk⟩ := List.mem_iff_getElem?.1 hy
  have hg := All2.get h
  have hlt := (List.getElem?_eq_some_iff.1 hk).1
  have hx : a[k]? = some (a[k]'(by rw [hg.1]; exact hlt)) := by simp
  exact ⟨_, List.mem_of_getElem? hx, hg.2 k _ _ hx hk⟩
theorem eachW_all {g : List Int → Ed → Bool × List Int} {Inv : List Int → Prop} : ∀ (l : List Ed) (s : List Int), Inv s → (∀ e ∈ l, ∀ s, Inv s → (g s e).1 = true ∧ Inv (g s e).2) → (eachW g s l).1 = true ∧ Inv (eachW g s l).2
  | [], s, h, _ => ⟨rfl, h⟩
  | e :: l, s, h, hg => by
    obtain ⟨h1, h2⟩ := hg e (by simp) s h
    unfold eachW
    rw [if_pos h1]
    exact eachW_all l _ h2 fun e' he => hg e' (by simp [he])
section
variable {s : GS}
theorem gnOf_get' {n : Nat} {y : List Str × List Ed} (h : s[n]? = some y) : (gnOf s)[n]? = some (finB y.1, y.2) := by simp [gnOf, h]
theorem goesW_ok (hnode : ∀ y ∈ s, Corr s y ∧ GoodR y.1 ∧ y.1 ≠ []) : ∀ (f n : Nat) (d : Int) (st : List Int) (y : List Str × List Ed), s[n]? = some y → 0 ≤ d → d + dpL y.1 ≤ 12 → 13 ≤ d + f → st.length = s.length →
    (∀ (m : Nat) (z : List Str × List Ed), st[m]? = some 1 → s[m]? = some z → dpL y.1 < dpL z.1) →
    (goesW (gnOf s) (f + 1) n d st).1 = true ∧ ∀ m : Nat, (goesW (gnOf s) (f + 1) n d st).2[m]? = some 1 → st[m]? = some 1 := by
  intro f
  induction f with
  | zero => intro n d st y hn h0 h1 h2 _ _; omega
  | succ f ih =>
    intro n d st y hn h0 h1 h2 hl hu
    obtain ⟨hc, hg, hne⟩ := hnode y (List.mem_of_getElem? hn)
    have hlt := (List.getElem?_eq_some_iff.1 hn).1
    obtain ⟨v, hv⟩ : ∃ v, st[n]? = some v := ⟨_, List.getElem?_eq_getElem (by omega)⟩
    by_cases hv2 : v = 2
    · rw [goesW_done (gnOf_get' hn) hv hv2]
      exact ⟨rfl, fun m h => h⟩
    · have hno : ¬ (v = 1 ∨ d > 12 ∨ ((finB y.1, y.2).1 = false ∧ (finB y.1, y.2).2 = [])) := by
        rintro (h | h | ⟨h3, h4⟩)
        · subst h
          have := hu n y hv hn
          omega
        · omega
        · apply hne
          simp only at h3 h4
          have hgr : groups (dropE y.1) = [] := List.eq_nil_of_length_eq_zero (by rw [(All2.get hc).1, h4]; rfl)
          have := rests_all (x := y) hg
          rw [h3, hgr] at this
          simpa using this
      have key := eachW_all (g := fun st e => goesW (gnOf s) (f + 1) e.to.toNat (d + 1) st) (Inv := fun st' => st'.length = s.length ∧ ∀ m : Nat, st'[m]? = some 1 → st[m]? = some 1 ∨ m = n) y.2 (st.set n 1) ⟨by rw [List.length_set]; exact hl, fun m h => by
          rw [List.getElem?_set] at h
          split at h
          · right; omega
          · left; exact h⟩ (fun e he st' ⟨hl', hu'⟩ => by
        obtain ⟨g, hgm, h3, j, es, h4, h5⟩ := all2_ind hc e he
        have hdp := dpL_group hg hgm
        have hj : e.to.toNat = j := by omega
        have := ih j (d + 1) st' (g.2, es) h5 (by omega) (by simp only; omega) (by omega) hl' (fun m z hm hz => by
          rcases hu' m hm with h | h
          · have := hu m z h hz; simp only; omega
          · subst h
            obtain rfl : y = z := Option.some.inj (hn.symm.trans hz)
            simp only; omega)
        simp only [hj]
        refine ⟨this.1, by rw [goesW_len]; exact hl', fun m hm => hu' m (this.2 m hm)⟩)
      obtain ⟨k1, k2, k3⟩ := key
      rw [goesW_go (gnOf_get' hn) hv hv2 hno rfl]
      simp only
      rw [if_pos k1]
      refine ⟨rfl, fun m hm => ?_⟩
      simp only at hm
      rw [List.getElem?_set] at hm
      split at hm
      · split at hm
        · simp at hm
        · cases hm
      · rename_i hne'
        rcases k3 m hm with h | h
        · exact h
        · omega
/-- from a node on the words come that are its rests -/
theorem foldS_all {a : Str} {d : Int} {f : Nat} (hih : ∀ (n : Nat) (a : Str) (l : List Str) (y : List Str × List Ed), s[n]? = some y → d + 1 + dpL y.1 ≤ 12 → l.length + y.1.length ≤ 60 → goesS (gnOf s) f n a (d + 1) (l, true) = (l ++ y.1.map (a ++ ·), true)) :
    ∀ {gs : List (Nat × List Str)} {es : List Ed}, All2 (fun g e => e.rune = (g.1 : Int) ∧ ∃ (j : Nat) (es : List Ed), e.to = (j : Int) ∧ s[j]? = some (g.2, es)) gs es → (∀ g ∈ gs, goodN g.1 ∧ d + 1 + dpL g.2 ≤ 12) → ∀ l : List Str, l.length + (gs.flatMap fun g => g.2.map (encL g.1 ++ ·)).length ≤ 60 →
      es.foldl (fun s' e => goesS (gnOf s) f e.to.toNat (a ++ encR e.rune) (d + 1) s') (l, true) = (l ++ (gs.flatMap fun g => g.2.map (encL g.1 ++ ·)).map (a ++ ·), true) := by
  intro gs es h
  induction h with
  | nil => intro _ l _; simp
  | @cons g e gs es hge hr ih2 =>
    intro hg l hl
    obtain ⟨h1, j, es', h2, h3⟩ := hge
    obtain ⟨k1, k2⟩ := hg g (by simp)
    rw [List.flatMap_cons, List.length_append, List.length_map] at hl
    rw [List.foldl_cons, show e.to.toNat = j from by omega, h1, encR_L k1, hih j _ l (g.2, es') h3 k2 (by simp only; omega), ih2 (fun g' hg' => hg g' (by simp [hg'])) _ (by simp only [List.length_append, List.length_map]; omega)]
    rw [List.flatMap_cons, List.map_append, List.map_map, List.append_assoc]
    congr 3
    apply List.map_congr_left
    intro t _
    simp
theorem goesS_ok (hnode : ∀ y ∈ s, Corr s y ∧ GoodR y.1) : ∀ (f n : Nat) (a : Str) (d : Int) (l : List Str) (y : List Str × List Ed), s[n]? = some y → 0 ≤ d → d + dpL y.1 ≤ 12 → 13 ≤ d + f → l.length + y.1.length ≤ 60 → goesS (gnOf s) (f + 1) n a d (l, true) = (l ++ y.1.map (a ++ ·), true) := by
  intro f
  induction f with
  | zero => intro n a d l y hn h0 h1 h2 _; omega
  | succ f ih =>
    intro n a d l y hn h0 h1 h2 hl
    obtain ⟨hc, hg⟩ := hnode y (List.mem_of_getElem? hn)
    have hall := rests_all (x := y) hg
    refine goesS_go (by rintro (h | h | h); cases h; omega; omega) (gnOf_get' hn) rfl ?_
    simp only
    have hlen := congrArg List.length hall
    rw [List.length_append] at hlen
    have key := fun l0 hl0 => foldS_all (s := s) (a := a) (d := d) (f := f + 1) (fun n a l y hn hd hl => ih n a (d + 1) l y hn (by omega) hd (by omega) hl) hc (fun g hgm => ⟨(mem_group hg hgm).1, by have := dpL_group hg hgm; omega⟩) l0 hl0
    cases hf : finB y.1 with
    | true =>
      rw [hf, if_pos rfl] at hall
      rw [hf, if_pos rfl] at hlen
      rw [if_pos rfl, key _ (by simp only [List.length_append, List.length_cons, List.length_nil] at hlen ⊢; omega)]
      conv => rhs; rw [hall]
      simp
    | false =>
      rw [hf, if_neg (by decide)] at hall
      rw [hf, if_neg (by decide)] at hlen
      rw [if_neg (by decide), key _ (by simp only [List.length_nil] at hlen ⊢; omega)]
      conv => rhs; rw [hall]
      simp
end
/-- a graph of words is the one that is made of its nodes -/
theorem made_self {words : List Str} (h : goodL words = 0) : madeM (gnodes words) = some words := by
  by_cases hw : words = []
  · subst hw
    rw [gnodes_nil rfl]
    have hs : someM [(false, [])] = ([], true) := by decide
    unfold madeM
    rw [hs]
    rw [if_pos ⟨by decide, by decide, by decide, by decide, rfl, by decide, gnodes_nil rfl⟩]
  · have hgd := good_deep h
    have hok := graphM_ok hgd.2 hgd.1 hw
    have hB : graphB words = graphM words := by unfold graphB; rw [if_neg hw]
    have hN := gnodes_yes h
    rw [hB] at hN
    obtain ⟨es0, h0⟩ := hok.root
    have hdw := dpL_le hgd.2
    have hsz := gnodes_len h
    have hsm : someM (gnodes words) = (words, true) := by
      have := goesS_ok (s := graphM words) (fun y hy => ⟨(hok.node y hy).corr, (hok.node y hy).good⟩) 13 0 [] 0 [] (words, es0) h0 (by omega) (by simp only; omega) (by omega) (by have := (good_words h).1; simp only [List.length_nil]; omega)
      unfold someM
      rw [hN, this]
      have h60 := (good_words h).1
      simp; exact h60
    unfold madeM
    rw [hsm]
    refine if_pos ⟨?_, by omega, gnodes_721 h, ?_, rfl, h, rfl⟩
    · rw [rightE_iff]
      intro x hx e he
      rw [hN] at hx
      obtain ⟨y, hy, rfl⟩ := List.mem_map.1 hx
      obtain ⟨g, hgm, h3, j, es, h4, h5⟩ := all2_ind (hok.node y hy).corr e he
      have hj := (List.getElem?_eq_some_iff.1 h5).1
      have hdp := dpL_group (hok.node y hy).good hgm
      have hdy := graph_dp h y hy
      rw [hN, gnOf_len]
      refine ⟨?_, by omega⟩
      rcases Nat.eq_zero_or_pos j with hz | hz
      · subst hz
        have : g.2 = words := congrArg Prod.fst (Option.some.inj (h5.symm.trans h0))
        rw [this] at hdp; omega
      · omega
    · unfold wholeM
      have := goesW_ok (s := graphM words) (fun y hy => ⟨(hok.node y hy).corr, (hok.node y hy).good, (hok.node y hy).ne⟩) 13 0 0 (List.replicate (gnodes words).length 0) (words, es0) h0 (by omega) (by simp only; omega) (by omega) (by rw [List.length_replicate, hN, gnOf_len]) (fun m z hm _ => by
        rw [List.getElem?_replicate] at hm
        split at hm <;> simp at hm)
      rw [Bool.or_eq_true]
      right
      rw [hN] at this ⊢
      exact this.1
theorem madeG_self {words : List Str} (h : goodL words = 0) : madeG (gnodes words) = gnodes words := by unfold madeG; rw [made_self h]
theorem gnodes_ok {words : List Str} (h : goodL words = 0) : ∀ x ∈ gnodes words, gnOk x := by
  have hsz := (gnodes_len h).2
  intro x hx
  refine ⟨by have := gnodes_edges h x hx; omega, fun e he => ?_⟩
  have hok := gok_of h
  rw [gnodes_yes h] at hx hsz
  rw [gnOf_len] at hsz
  obtain ⟨y, hy, rfl⟩ := List.mem_map.1 hx
  obtain ⟨g, hgm, h3, j, es, h4, h5⟩ := all2_ind (hok.node y hy).1 e he
  have hj := (List.getElem?_eq_some_iff.1 h5).1
  have hgn := (mem_group (hok.node y hy).2.1 hgm).1
  unfold goodN at hgn
  exact ⟨by omega, by omega, by omega, by omega⟩
/-- an image of words is read as their graph -/
theorem dec_img {words : List Str} (h : goodL words = 0) : decG (imgM words) = (gnodes words, 0) := by
  rw [← enc_img h, dec_body (by have := (gnodes_len h).2; omega) (gnodes_ok h) (by rw [madeG_self h]; exact gnodes_nn h), madeG_self h]
end Go.Ml
