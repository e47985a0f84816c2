import Derived.Test.YtjhbobjjkbppkaaLibD
import Derived.Room.Shelf.Join48
/-
  Plain laws of chapter 11: levels; a word that is asked for.
-/
set_option linter.unusedVariables false
set_option linter.unusedSimpArgs false
namespace Go.Ml
open Go.Ik
end Go.Ml
/-
  A list sorted in place: swaps, insertion, merging by turning.
-/
set_option linter.unusedVariables false
set_option linter.unusedSimpArgs false
namespace Go.Ml
open Go Go.Ik
structure Seg (a b : Nat) (l l' : List Itm) : Prop where
  perm : l'.Perm l
  out : ∀ k, k < a ∨ b ≤ k → l'[k]? = l[k]?
  inn : ∀ k, a ≤ k → k < b → ∃ k', a ≤ k' ∧ k' < b ∧ l'[k]? = l[k']?
theorem Seg.refl (a b : Nat) (l : List Itm) : Seg a b l l := ⟨.refl _, fun _ _ => rfl, fun k h1 h2 => ⟨k, h1, h2, rfl⟩⟩
theorem Seg.trans {a b : Nat} {l l1 l2 : List Itm} (h : Seg a b l l1) (k : Seg a b l1 l2) : Seg a b l l2 :=
  ⟨k.perm.trans h.perm, fun i hi => (k.out i hi).trans (h.out i hi), fun i h1 h2 => by
    obtain ⟨j, j1, j2, j3⟩ := k.inn i h1 h2
    obtain ⟨q, q1, q2, q3⟩ := h.inn j j1 j2
    exact ⟨q, q1, q2, j3.trans q3⟩⟩
theorem Seg.wide {a b a' b' : Nat} {l l' : List Itm} (h : Seg a b l l') (ha : a' ≤ a) (hb : b ≤ b') : Seg a' b' l l' :=
  ⟨h.perm, fun i hi => h.out i (by omega), fun i h1 h2 => by
    by_cases hi : a ≤ i ∧ i < b
    · obtain ⟨j, j1, j2, j3⟩ := h.inn i hi.1 hi.2
      exact ⟨j, by omega, by omega, j3⟩
    · exact ⟨i, h1, h2, h.out i (by omega)⟩⟩
theorem Seg.len {a b : Nat} {l l' : List Itm} (h : Seg a b l l') : l'.length = l.length := h.perm.length_eq
def swp (l : List Itm) (i j : Nat) (x y : Itm) : List Itm := (l.set i y).set j x
theorem swp_get {l : List Itm} {i j : Nat} {x y : Itm} (hx : l[i]? = some x) (hy : l[j]? = some y) (k : Nat) : (swp l i j x y)[k]? = if k = j then some x else if k = i then some y else l[k]? := by
  have hi := (List.getElem?_eq_some_iff.1 hx).1
  have hj := (List.getElem?_eq_some_iff.1 hy).1
  unfold swp
  by_cases h1 : k = j
  · subst h1
    rw [if_pos rfl, List.getElem?_set_self (by rw [List.length_set]; exact hj)]
  · rw [if_neg h1, List.getElem?_set_ne (fun e => h1 e.symm)]
    by_cases h2 : k = i
    · subst h2
      rw [if_pos rfl, List.getElem?_set_self hi]
    · rw [if_neg h2, List.getElem?_set_ne (fun e => h2 e.symm)]
theorem perm_of_count {l l' : List Itm} (h : ∀ x, l'.count x = l.count x) : l'.Perm l := List.perm_iff_count.2 h
theorem count_set {l : List Itm} {i : Nat} {x y z : Itm} (hx : l[i]? = some x) : (l.set i y).count z + (if x = z then 1 else 0) = l.count z + (if y = z then 1 else 0) := by
  have hi := (List.getElem?_eq_some_iff.1 hx)
  obtain ⟨hl, hv⟩ := hi
  have e : l = l.take i ++ x :: l.drop (i + 1) := by rw [← hv]; simp
  have e2 : l.set i y = l.take i ++ y :: l.drop (i + 1) := List.set_eq_take_append_cons_drop.trans (by rw [if_pos hl])
  rw [e2]
  conv => rhs; rw [e]
  simp only [List.count_append, List.count_cons, beq_iff_eq]
  omega
theorem swp_perm {l : List Itm} {i j : Nat} {x y : Itm} (hx : l[i]? = some x) (hy : l[j]? = some y) : (swp l i j x y).Perm l := by
  refine perm_of_count fun z => ?_
  unfold swp
  have h1 := count_set (y := y) (z := z) hx
  have hy' : (l.set i y)[j]? = some y := by
    rw [List.getElem?_set]
    split
    · rename_i h
      subst h
      rw [hy] at hx
      rw [if_pos (List.getElem?_eq_some_iff.1 hy).1]
    · exact hy
  have h2 := count_set (y := x) (z := z) hy'
  omega
theorem Seg.swap {a b i j : Nat} {l : List Itm} {x y : Itm} (hx : l[i]? = some x) (hy : l[j]? = some y) (hi : a ≤ i ∧ i < b) (hj : a ≤ j ∧ j < b) : Seg a b l (swp l i j x y) :=
  ⟨swp_perm hx hy, fun k hk => by rw [swp_get hx hy, if_neg (by omega), if_neg (by omega)], fun k h1 h2 => by
    rw [swp_get hx hy]
    split
    · exact ⟨i, hi.1, hi.2, hx.symm⟩
    · split
      · exact ⟨j, hj.1, hj.2, hy.symm⟩
      · exact ⟨k, h1, h2, rfl⟩⟩
/-! order -/
def leI (x y : Itm) : Prop := ¬ ltI y x
theorem leI_refl (x : Itm) : leI x x := fun h => ltI_irr h
theorem leI_of {x y : Itm} (h : ltI x y) : leI x y := fun k => ltI_irr (ltI_trans h k)
theorem leI_trans {x y z : Itm} (h : leI x y) (k : leI y z) : leI x z := fun hz => by
  by_cases e : x = y
  · subst e; exact k hz
  · exact k (ltI_trans hz (ltI_tri h (fun e' => e e'.symm)))
def Srt (l : List Itm) (a b : Nat) : Prop := ∀ i j x y, a ≤ i → i < j → j < b → l[i]? = some x → l[j]? = some y → leI x y
theorem Srt.le {l : List Itm} {a b i j : Nat} {x y : Itm} (h : Srt l a b) (h1 : a ≤ i) (h2 : i ≤ j) (h3 : j < b) (hx : l[i]? = some x) (hy : l[j]? = some y) : leI x y := by
  rcases Nat.lt_or_eq_of_le h2 with h2 | rfl
  · exact h i j x y h1 h2 h3 hx hy
  · rw [hx] at hy; cases hy; exact leI_refl _
theorem Srt.one (l : List Itm) (a b : Nat) (h : b ≤ a + 1) : Srt l a b := fun i j x y h1 h2 h3 => by omega
theorem Srt.part {l : List Itm} {a b a' b' : Nat} (h : Srt l a b) (ha : a ≤ a') (hb : b' ≤ b) : Srt l a' b' := fun i j x y h1 h2 h3 => h i j x y (by omega) h2 (by omega)
theorem Srt.same {l l' : List Itm} {a b : Nat} (h : Srt l a b) (he : ∀ k, a ≤ k → k < b → l'[k]? = l[k]?) : Srt l' a b := fun i j x y h1 h2 h3 hx hy => h i j x y h1 h2 h3 ((he i h1 (by omega)).symm.trans hx) ((he j (by omega) h3).symm.trans hy)
def SrtB (l : List Itm) (a b j : Nat) : Prop := ∀ p q x y, a ≤ p → p < q → q < b → q ≠ j → l[p]? = some x → l[q]? = some y → leI x y
theorem SrtB.start {l : List Itm} {a i : Nat} (h : Srt l a i) : SrtB l a (i + 1) i := fun p q x y h1 h2 h3 h4 => h p q x y h1 h2 (by omega)
theorem SrtB.done {l : List Itm} {a b j : Nat} (h : SrtB l a b j) (hj : j ≤ a ∨ ∃ x y, 1 ≤ j ∧ l[j - 1]? = some x ∧ l[j]? = some y ∧ leI x y) : Srt l a b := fun p q x y h1 h2 h3 hx hy => by
  by_cases hq : q = j
  · subst hq
    rcases hj with hj | ⟨u, v, g0, g1, g2, g3⟩
    · omega
    · rw [hy] at g2; cases g2
      by_cases hp : p = q - 1
      · subst hp; rw [hx] at g1; cases g1; exact g3
      · exact leI_trans (h p (q - 1) x u h1 (by omega) (by omega) (by omega) hx g1) g3
  · exact h p q x y h1 h2 h3 hq hx hy
theorem SrtB.step {l : List Itm} {a b j : Nat} {x y : Itm} (h : SrtB l a b j) (h0 : 1 ≤ j) (ha : a ≤ j - 1) (hb : j < b) (hx : l[j]? = some x) (hy : l[j - 1]? = some y) (hl : ltI x y) : SrtB (swp l j (j - 1) x y) a b (j - 1) := fun p q u v h1 h2 h3 h4 hu hv => by
  rw [swp_get hx hy] at hu hv
  have e1 : (q = j - 1) = False := eq_false h4
  rw [if_neg h4] at hv
  by_cases hq : q = j
  · rw [if_pos hq] at hv; cases hv
    by_cases hp : p = j - 1
    · rw [if_pos hp] at hu; cases hu; exact leI_of hl
    · rw [if_neg hp, if_neg (by omega)] at hu
      exact h p (j - 1) u y h1 (by omega) (by omega) (by omega) hu hy
  · rw [if_neg hq] at hv
    by_cases hp : p = j - 1
    · rw [if_pos hp] at hu; cases hu
      exact h j q x v (by omega) (by omega) h3 hq hx hv
    · rw [if_neg hp] at hu
      by_cases hp2 : p = j
      · rw [if_pos hp2] at hu; cases hu
        exact h (j - 1) q y v ha (by omega) h3 hq hy hv
      · rw [if_neg hp2] at hu
        exact h p q u v h1 h2 h3 hq hu hv
theorem lt_cmp {x y : Itm} (h : itmCmp x y < 0) : ltI x y := by unfold ltI itmLess; simpa using h
theorem le_cmp {x y : Itm} (h : ¬ itmCmp x y < 0) : leI y x := fun k => h (by unfold ltI itmLess at k; simpa using k)
/-! two stretches change places -/
structure SwR (a b n : Nat) (l l' : List Itm) : Prop where
  perm : l'.Perm l
  at_ : ∀ k, l'[k]? = if a ≤ k ∧ k < a + n then l[b + (k - a)]? else if b ≤ k ∧ k < b + n then l[a + (k - b)]? else l[k]?
theorem SwR.start (a b : Nat) (l : List Itm) : SwR a b 0 l l := ⟨.refl _, fun k => by rw [if_neg (by omega), if_neg (by omega)]⟩
theorem SwR.step {a b n : Nat} {l l' : List Itm} {x y : Itm} (h : SwR a b n l l') (hab : a + n < b) (hx : l'[a + n]? = some x) (hy : l'[b + n]? = some y) : SwR a b (n + 1) l (swp l' (a + n) (b + n) x y) :=
  ⟨(swp_perm hx hy).trans h.perm, fun k => by
    rw [swp_get hx hy]
    have e1 := h.at_ (a + n)
    rw [if_neg (by omega), if_neg (by omega), hx] at e1
    have e2 := h.at_ (b + n)
    rw [if_neg (by omega), if_neg (by omega), hy] at e2
    by_cases h1 : k = b + n
    · subst h1
      rw [if_pos rfl, if_neg (by omega), if_pos (by omega), e1]
      congr 1; omega
    · rw [if_neg h1]
      by_cases h2 : k = a + n
      · subst h2
        rw [if_pos rfl, if_pos (by omega), e2]
        congr 1; omega
      · rw [if_neg h2, h.at_ k]
        by_cases h3 : a ≤ k ∧ k < a + n
        · rw [if_pos h3, if_pos (show a ≤ k ∧ k < a + (n + 1) from by omega)]
        · rw [if_neg h3, if_neg (show ¬ (a ≤ k ∧ k < a + (n + 1)) from by omega)]
          by_cases h4 : b ≤ k ∧ k < b + n
          · rw [if_pos h4, if_pos (show b ≤ k ∧ k < b + (n + 1) from by omega)]
          · rw [if_neg h4, if_neg (show ¬ (b ≤ k ∧ k < b + (n + 1)) from by omega)]⟩
theorem SwR.len {a b n : Nat} {l l' : List Itm} (h : SwR a b n l l') : l'.length = l.length := h.perm.length_eq
def rotA (l : List Itm) (a m b k : Nat) : Option Itm := if a ≤ k ∧ k < a + (b - m) then l[m + (k - a)]? else if a + (b - m) ≤ k ∧ k < b then l[k - (b - m)]? else l[k]?
structure RotP (a m b : Nat) (l l' : List Itm) : Prop where
  perm : l'.Perm l
  at_ : ∀ k, l'[k]? = rotA l a m b k
structure RotI (a m b : Nat) (l lc : List Itm) (i j : Nat) : Prop where
  perm : lc.Perm l
  at_ : ∀ k, rotA lc (m - i) m (m + j) k = rotA l a m b k
theorem RotI.start {a m b : Nat} (l : List Itm) (h1 : a ≤ m) (h2 : m ≤ b) : RotI a m b l l (m - a) (b - m) := ⟨.refl _, fun k => by rw [show m - (m - a) = a from by omega, show m + (b - m) = b from by omega]⟩
theorem RotI.more {a m b i j : Nat} {l lc l' : List Itm} (h : RotI a m b l lc i j) (him : i ≤ m) (hij : j < i) (hj : 0 < j) (hs : SwR (m - i) m j lc l') : RotI a m b l l' (i - j) j :=
  ⟨hs.perm.trans h.perm, fun k => by
    rw [← h.at_ k]
    unfold rotA
    rw [show m + j - m = j from by omega]
    by_cases h1 : m - i ≤ k ∧ k < m - i + j
    · rw [if_neg (by omega), if_neg (by omega), if_pos h1, hs.at_ k, if_pos h1]
    · rw [if_neg h1]
      by_cases h2 : m - (i - j) ≤ k ∧ k < m - (i - j) + j
      · rw [if_pos h2, if_pos (by omega), hs.at_, if_neg (by omega), if_pos (by omega)]
        congr 1; omega
      · rw [if_neg h2]
        by_cases h3 : m - (i - j) + j ≤ k ∧ k < m + j
        · rw [if_pos h3, if_pos (by omega), hs.at_, if_neg (by omega), if_neg (by omega)]
        · rw [if_neg h3, if_neg (by omega), hs.at_, if_neg (by omega), if_neg (by omega)]⟩
theorem RotI.less {a m b i j : Nat} {l lc l' : List Itm} (h : RotI a m b l lc i j) (him : i ≤ m) (hij : i < j) (hi : 0 < i) (hs : SwR (m - i) (m + j - i) i lc l') : RotI a m b l l' i (j - i) :=
  ⟨hs.perm.trans h.perm, fun k => by
    rw [← h.at_ k]
    unfold rotA
    rw [show m + (j - i) - m = j - i from by omega, show m + j - m = j from by omega]
    by_cases h1 : m - i ≤ k ∧ k < m - i + (j - i)
    · rw [if_pos h1, if_pos (by omega), hs.at_]
      by_cases h5 : m + (k - (m - i)) < m + j - i
      · rw [if_neg (by omega), if_neg (by omega)]
      · omega
    · rw [if_neg h1]
      by_cases h2 : m - i + (j - i) ≤ k ∧ k < m + (j - i)
      · rw [if_pos h2, if_pos (by omega), hs.at_, if_pos (by omega)]
        congr 1; omega
      · rw [if_neg h2, hs.at_ k, if_neg (by omega)]
        by_cases h3 : m + j - i ≤ k ∧ k < m + j - i + i
        · rw [if_pos h3, if_neg (by omega), if_pos (by omega)]
          congr 1; omega
        · rw [if_neg h3, if_neg (by omega), if_neg (by omega)]⟩
theorem RotI.fin {a m b i : Nat} {l lc l' : List Itm} (h : RotI a m b l lc i i) (him : i ≤ m) (hs : SwR (m - i) m i lc l') : RotP a m b l l' :=
  ⟨hs.perm.trans h.perm, fun k => by
    rw [← h.at_ k, hs.at_ k]
    unfold rotA
    rw [show m + i - m = i from by omega]
    by_cases h1 : m - i ≤ k ∧ k < m - i + i
    · rw [if_pos h1, if_pos h1]
    · rw [if_neg h1, if_neg h1]
      by_cases h2 : m ≤ k ∧ k < m + i
      · rw [if_pos h2, if_pos (by omega)]
        congr 1; omega
      · rw [if_neg h2, if_neg (by omega)]⟩
theorem RotP.seg {a m b : Nat} {l l' : List Itm} (h : RotP a m b l l') (h1 : a ≤ m) (h2 : m ≤ b) : Seg a b l l' :=
  ⟨h.perm, fun k hk => by rw [h.at_ k]; unfold rotA; rw [if_neg (by omega), if_neg (by omega)], fun k k1 k2 => by
    rw [h.at_ k]; unfold rotA
    split
    · exact ⟨_, by omega, by omega, rfl⟩
    · rw [if_pos (by omega)]
      exact ⟨_, by omega, by omega, rfl⟩⟩
end Go.Ml
/-
  Two stretches in order merged in place.
-/
set_option linter.unusedVariables false
set_option linter.unusedSimpArgs false
namespace Go.Ml
open Go Go.Ik
theorem le_lt {x y z : Itm} (h : leI x y) (k : ltI y z) : ltI x z := by
  by_cases e : x = y
  · subst e; exact k
  · exact ltI_trans (ltI_tri h (fun e' => e e'.symm)) k
theorem lt_le {x y z : Itm} (h : ltI x y) (k : leI y z) : ltI x z := by
  by_cases e : y = z
  · subst e; exact h
  · exact ltI_trans h (ltI_tri k (fun e' => e e'.symm))
/-! one element ahead of a stretch in order -/
structure FindA (l : List Itm) (x0 : Itm) (md b i j : Nat) : Prop where
  lo : ∀ p x, md ≤ p → p < i → l[p]? = some x → ltI x x0
  hi : ∀ p x, j ≤ p → p < b → l[p]? = some x → leI x0 x
theorem FindA.start (l : List Itm) (x0 : Itm) (md b : Nat) : FindA l x0 md b md b := ⟨fun p x h1 h2 => by omega, fun p x h1 h2 => by omega⟩
theorem FindA.up {l : List Itm} {x0 x : Itm} {md b i j h : Nat} (f : FindA l x0 md b i j) (hs : Srt l md b) (hm : md ≤ h) (hb : h < b) (hx : l[h]? = some x) (hl : ltI x x0) : FindA l x0 md b (h + 1) j :=
  ⟨fun p y h1 h2 hy => le_lt (hs.le h1 (by omega) hb hy hx) hl, f.hi⟩
theorem FindA.down {l : List Itm} {x0 x : Itm} {md b i j h : Nat} (f : FindA l x0 md b i j) (hs : Srt l md b) (hm : md ≤ h) (hb : h < b) (hx : l[h]? = some x) (hl : leI x0 x) : FindA l x0 md b i h :=
  ⟨f.lo, fun p y h1 h2 hy => leI_trans hl (hs.le hm h1 h2 hx hy)⟩
structure ShA (l lc : List Itm) (a b k : Nat) (x0 : Itm) : Prop where
  seg : Seg a b l lc
  mov : ∀ p, a ≤ p → p < k → lc[p]? = l[p + 1]?
  cur : lc[k]? = some x0
  rest : ∀ p, k < p → lc[p]? = l[p]?
theorem ShA.start {l : List Itm} {a b : Nat} {x0 : Itm} (h : l[a]? = some x0) : ShA l l a b a x0 := ⟨Seg.refl _ _ _, fun p h1 h2 => by omega, h, fun _ _ => rfl⟩
theorem ShA.step {l lc : List Itm} {a b k : Nat} {x0 x y : Itm} (h : ShA l lc a b k x0) (ha : a ≤ k) (hb : k + 1 < b) (hx : lc[k]? = some x) (hy : lc[k + 1]? = some y) : ShA l (swp lc k (k + 1) x y) a b (k + 1) x0 := by
  have e := h.cur
  rw [hx] at e; cases e
  refine ⟨h.seg.trans (Seg.swap hx hy (by omega) (by omega)), fun p h1 h2 => ?_, ?_, fun p h1 => ?_⟩
  · rw [swp_get hx hy, if_neg (by omega)]
    by_cases hp : p = k
    · subst hp; rw [if_pos rfl, ← hy, h.rest _ (by omega)]
    · rw [if_neg hp, h.mov p h1 (by omega)]
  · rw [swp_get hx hy, if_pos rfl]
  · rw [swp_get hx hy, if_neg (by omega), if_neg (by omega), h.rest p (by omega)]
theorem ShA.fin {l lc : List Itm} {a b i k : Nat} {x0 : Itm} (h : ShA l lc a b k x0) (f : FindA l x0 (a + 1) b i i) (hs : Srt l (a + 1) b) (hk : k + 1 = i) (ha : a ≤ k) (hib : i ≤ b) : Srt lc a b := fun p q x y h1 h2 h3 hx hy => by
  rcases Nat.lt_trichotomy q k with hq | hq | hq
  · rw [h.mov p h1 (by omega)] at hx
    rw [h.mov q (by omega) hq] at hy
    exact hs (p + 1) (q + 1) x y (by omega) (by omega) (by omega) hx hy
  · subst hq
    rw [h.cur] at hy; cases hy
    rw [h.mov p h1 h2] at hx
    exact leI_of (f.lo (p + 1) x (by omega) (by omega) hx)
  · rw [h.rest q hq] at hy
    rcases Nat.lt_trichotomy p k with hp | hp | hp
    · rw [h.mov p h1 hp] at hx
      exact hs.le (by omega) (by omega) h3 hx hy
    · subst hp
      rw [h.cur] at hx; cases hx
      exact f.hi q y (by omega) h3 hy
    · rw [h.rest p hp] at hx
      exact hs.le (by omega) (by omega) h3 hx hy
/-! one element behind a stretch in order -/
structure FindB (l : List Itm) (y0 : Itm) (a md i j : Nat) : Prop where
  lo : ∀ p x, a ≤ p → p < i → l[p]? = some x → leI x y0
  hi : ∀ p x, j ≤ p → p < md → l[p]? = some x → ltI y0 x
theorem FindB.start (l : List Itm) (y0 : Itm) (a md : Nat) : FindB l y0 a md a md := ⟨fun p x h1 h2 => by omega, fun p x h1 h2 => by omega⟩
theorem FindB.up {l : List Itm} {y0 x : Itm} {a md i j h : Nat} (f : FindB l y0 a md i j) (hs : Srt l a md) (ha : a ≤ h) (hm : h < md) (hx : l[h]? = some x) (hl : leI x y0) : FindB l y0 a md (h + 1) j :=
  ⟨fun p y h1 h2 hy => leI_trans (hs.le h1 (by omega) hm hy hx) hl, f.hi⟩
theorem FindB.down {l : List Itm} {y0 x : Itm} {a md i j h : Nat} (f : FindB l y0 a md i j) (hs : Srt l a md) (ha : a ≤ h) (hm : h < md) (hx : l[h]? = some x) (hl : ltI y0 x) : FindB l y0 a md i h :=
  ⟨f.lo, fun p y h1 h2 hy => lt_le hl (hs.le ha h1 h2 hx hy)⟩
structure ShB (l lc : List Itm) (a b md k : Nat) (y0 : Itm) : Prop where
  seg : Seg a b l lc
  mov : ∀ p, k < p → p ≤ md → lc[p]? = l[p - 1]?
  cur : lc[k]? = some y0
  rest : ∀ p, p < k → lc[p]? = l[p]?
theorem ShB.start {l : List Itm} {a b md : Nat} {y0 : Itm} (h : l[md]? = some y0) : ShB l l a b md md y0 := ⟨Seg.refl _ _ _, fun p h1 h2 => by omega, h, fun _ _ => rfl⟩
theorem ShB.step {l lc : List Itm} {a b md k : Nat} {y0 x y : Itm} (h : ShB l lc a b md k y0) (ha : a + 1 ≤ k) (hb : k < b) (hx : lc[k]? = some x) (hy : lc[k - 1]? = some y) : ShB l (swp lc k (k - 1) x y) a b md (k - 1) y0 := by
  have e := h.cur
  rw [hx] at e; cases e
  refine ⟨h.seg.trans (Seg.swap hx hy (by omega) (by omega)), fun p h1 h2 => ?_, ?_, fun p h1 => ?_⟩
  · rw [swp_get hx hy, if_neg (by omega)]
    by_cases hp : p = k
    · subst hp; rw [if_pos rfl, ← hy, h.rest _ (by omega)]
    · rw [if_neg hp, h.mov p (by omega) h2]
  · rw [swp_get hx hy, if_pos rfl]
  · rw [swp_get hx hy, if_neg (by omega), if_neg (by omega), h.rest p (by omega)]
theorem ShB.fin {l lc : List Itm} {a b md k : Nat} {y0 : Itm} (h : ShB l lc a b md k y0) (f : FindB l y0 a md k k) (hs : Srt l a md) (hb : b = md + 1) (hk : k ≤ md) (ha : a ≤ k) : Srt lc a b := fun p q x y h1 h2 h3 hx hy => by
  rcases Nat.lt_trichotomy p k with hp | hp | hp
  · rw [h.rest p hp] at hx
    rcases Nat.lt_trichotomy q k with hq | hq | hq
    · rw [h.rest q hq] at hy
      exact hs.le h1 (by omega) (by omega) hx hy
    · subst hq
      rw [h.cur] at hy; cases hy
      exact f.lo p x h1 hp hx
    · rw [h.mov q hq (by omega)] at hy
      exact hs.le h1 (by omega) (by omega) hx hy
  · subst hp
    rw [h.cur] at hx; cases hx
    rw [h.mov q h2 (by omega)] at hy
    exact leI_of (f.hi (q - 1) y (by omega) (by omega) hy)
  · rw [h.mov p hp (by omega)] at hx
    rw [h.mov q (by omega) (by omega)] at hy
    exact hs.le (by omega) (by omega) (by omega) hx hy
/-! halves -/
structure Half (l : List Itm) (s0 r0 p s r : Nat) : Prop where
  lo : s = s0 ∨ ∃ x y, 1 ≤ s ∧ l[s - 1]? = some x ∧ l[p - (s - 1)]? = some y ∧ leI x y
  hi : r = r0 ∨ ∃ x y, l[r]? = some x ∧ l[p - r]? = some y ∧ ltI y x
theorem Half.start (l : List Itm) (s0 r0 p : Nat) : Half l s0 r0 p s0 r0 := ⟨.inl rfl, .inl rfl⟩
theorem Half.up {l : List Itm} {s0 r0 p s r c : Nat} {x y : Itm} (h : Half l s0 r0 p s r) (hx : l[c]? = some x) (hy : l[p - c]? = some y) (hl : leI x y) : Half l s0 r0 p (c + 1) r := ⟨.inr ⟨x, y, by omega, by simpa using hx, by simpa using hy, hl⟩, h.hi⟩
theorem Half.down {l : List Itm} {s0 r0 p s r c : Nat} {x y : Itm} (h : Half l s0 r0 p s r) (hx : l[c]? = some x) (hy : l[p - c]? = some y) (hl : ltI y x) : Half l s0 r0 p s c := ⟨h.lo, .inr ⟨x, y, hx, hy, hl⟩⟩
def Cross (l : List Itm) (a mid b : Nat) : Prop := ∀ p q x y, a ≤ p → p < mid → mid ≤ q → q < b → l[p]? = some x → l[q]? = some y → leI x y
structure Halved (l lr : List Itm) (a s mid e b : Nat) : Prop where
  seg : Seg a b l lr
  o1 : Srt lr a s
  o2 : Srt lr s mid
  o3 : Srt lr mid e
  o4 : Srt lr e b
  cross : Cross lr a mid b
theorem RotP.same {l : List Itm} {a md b : Nat} (h : a = md ∨ b = md) (h1 : a ≤ md) (h2 : md ≤ b) : RotP a md b l l := ⟨.refl _, fun k => by
  unfold rotA
  rcases h with rfl | rfl
  · by_cases hk : a ≤ k ∧ k < a + (b - a)
    · rw [if_pos hk, show a + (k - a) = k from by omega]
    · rw [if_neg hk, if_neg (by omega)]
  · rw [if_neg (by omega)]
    by_cases hk : a + (b - b) ≤ k ∧ k < b
    · rw [if_pos hk, show k - (b - b) = k from by omega]
    · rw [if_neg hk]⟩
theorem halved {l lr : List Itm} {a md b mid s e s0 r0 : Nat} (h1 : a < md) (h2 : md < b) (hs1 : Srt l a md) (hs2 : Srt l md b) (hmid : mid = (a + b) / 2) (h0 : md > mid ∧ s0 = mid + md - b ∧ r0 = mid ∨ ¬ md > mid ∧ s0 = a ∧ r0 = md)
    (hh : Half l s0 r0 (mid + md - 1) s s) (hs0 : s0 ≤ s) (hr0 : s ≤ r0) (he : e = mid + md - s) (hr : RotP s md e l lr) : Halved l lr a s mid e b := by
  have g1 : a ≤ s ∧ s ≤ md ∧ s ≤ mid ∧ md ≤ e ∧ mid ≤ e ∧ e ≤ b := by omega
  obtain ⟨g1, g2, g3, g4, g5, g6⟩ := g1
  have em : mid = s + (e - md) := by omega
  -- where each lies
  have A1 : ∀ p, p < s → lr[p]? = l[p]? := fun p hp => by rw [hr.at_]; unfold rotA; rw [if_neg (by omega), if_neg (by omega)]
  have A2 : ∀ p, s ≤ p → p < mid → lr[p]? = l[md + (p - s)]? := fun p h3 h4 => by rw [hr.at_]; unfold rotA; rw [if_pos (by omega)]
  have A3 : ∀ p, mid ≤ p → p < e → lr[p]? = l[p - (e - md)]? := fun p h3 h4 => by rw [hr.at_]; unfold rotA; rw [if_neg (by omega), if_pos (by omega)]
  have A4 : ∀ p, e ≤ p → lr[p]? = l[p]? := fun p h3 => by rw [hr.at_]; unfold rotA; rw [if_neg (by omega), if_neg (by omega)]
  -- what stays left is not above what stays right
  have E1 : ∀ p q x y, a ≤ p → p < s → e ≤ q → q < b → l[p]? = some x → l[q]? = some y → leI x y := fun p q x y p1 p2 q1 q2 hx hy => by
    rcases hh.lo with h | ⟨u, v, u0, u1, u2, u3⟩
    · omega
    · rw [show mid + md - 1 - (s - 1) = e from by omega] at u2
      exact leI_trans (hs1.le p1 (by omega) (by omega) hx u1) (leI_trans u3 (hs2.le (by omega) q1 q2 u2 hy))
  have E2 : ∀ p q x y, md ≤ p → p < e → s ≤ q → q < md → l[p]? = some x → l[q]? = some y → leI x y := fun p q x y p1 p2 q1 q2 hx hy => by
    rcases hh.hi with h | ⟨u, v, u1, u2, u3⟩
    · omega
    · rw [show mid + md - 1 - s = e - 1 from by omega] at u2
      exact leI_trans (hs2.le p1 (by omega) (by omega) hx u2) (leI_trans (leI_of u3) (hs1.le (by omega) q1 q2 u1 hy))
  refine ⟨(hr.seg g2 g4).wide g1 g6, ?_, ?_, ?_, ?_, ?_⟩
  · exact (hs1.part (Nat.le_refl _) g2).same fun k h3 h4 => A1 k h4
  · intro p q x y p1 p2 p3 hx hy
    rw [A2 p p1 (by omega)] at hx
    rw [A2 q (by omega) p3] at hy
    exact hs2 _ _ x y (by omega) (by omega) (by omega) hx hy
  · intro p q x y p1 p2 p3 hx hy
    rw [A3 p p1 (by omega)] at hx
    rw [A3 q (by omega) p3] at hy
    exact hs1 _ _ x y (by omega) (by omega) (by omega) hx hy
  · exact (hs2.part g4 (Nat.le_refl _)).same fun k h3 h4 => A4 k h3
  · intro p q x y p1 p2 q1 q2 hx hy
    by_cases hp : p < s
    · rw [A1 p hp] at hx
      by_cases hq : q < e
      · rw [A3 q q1 hq] at hy
        exact hs1.le p1 (by omega) (by omega) hx hy
      · rw [A4 q (by omega)] at hy
        exact E1 p q x y p1 hp (by omega) q2 hx hy
    · rw [A2 p (by omega) p2] at hx
      by_cases hq : q < e
      · rw [A3 q q1 hq] at hy
        exact E2 _ _ x y (by omega) (by omega) (by omega) (by omega) hx hy
      · rw [A4 q (by omega)] at hy
        exact hs2.le (by omega) (by omega) q2 hx hy
theorem sym_join {l lr l1 l2 : List Itm} {a s mid e b : Nat} (h : Halved l lr a s mid e b) (h1 : a ≤ mid) (h2 : mid ≤ b) (s1 : Seg a mid lr l1) (o1 : Srt l1 a mid) (s2 : Seg mid b l1 l2) (o2 : Srt l2 mid b) : Seg a b l l2 ∧ Srt l2 a b := by
  refine ⟨(h.seg.trans (s1.wide (Nat.le_refl _) h2)).trans (s2.wide h1 (Nat.le_refl _)), fun p q x y p1 p2 p3 hx hy => ?_⟩
  by_cases hq : q < mid
  · rw [s2.out p (by omega)] at hx
    rw [s2.out q (by omega)] at hy
    exact o1 p q x y p1 p2 hq hx hy
  · by_cases hp : p < mid
    · rw [s2.out p (by omega)] at hx
      obtain ⟨p', a1, a2, a3⟩ := s1.inn p p1 hp
      obtain ⟨q', b1, b2, b3⟩ := s2.inn q (by omega) p3
      rw [s1.out q' (by omega)] at b3
      exact h.cross p' q' x y a1 a2 b1 b2 (a3.symm.trans hx) (b3.symm.trans hy)
    · exact o2 p q x y (by omega) p2 p3 hx hy
theorem Halved.left {l lr : List Itm} {a s mid e b : Nat} (h : Halved l lr a s mid e b) (hs : s ≤ a ∨ mid ≤ s) : Srt lr a mid := by
  rcases hs with hs | hs
  · exact h.o2.part hs (Nat.le_refl _)
  · exact h.o1.part (Nat.le_refl _) hs
theorem Halved.right {l lr : List Itm} {a s mid e b : Nat} (h : Halved l lr a s mid e b) (he : e ≤ mid ∨ b ≤ e) : Srt lr mid b := by
  rcases he with he | he
  · exact h.o4.part he (Nat.le_refl _)
  · exact h.o3.part (Nat.le_refl _) he
/-! blocks in order -/
def BlkTo (l : List Itm) (d A n : Nat) : Prop := ∀ c, d ∣ c → c < A → Srt l c (min (c + d) n)
def BlkFrom (l : List Itm) (d A n : Nat) : Prop := ∀ c, d ∣ c → A ≤ c → c < n → Srt l c (min (c + d) n)
theorem mult_lt {c a d : Nat} (h1 : d ∣ c) (h2 : d ∣ a) (h : c < a) : c + d ≤ a := by
  obtain ⟨x, rfl⟩ := h1
  obtain ⟨y, rfl⟩ := h2
  have hxy : x < y := Nat.lt_of_mul_lt_mul_left h
  have := Nat.mul_le_mul_left d (Nat.succ_le_of_lt hxy)
  rw [Nat.mul_succ] at this
  exact this
theorem mult_eq {c a d : Nat} (h1 : d ∣ c) (h2 : d ∣ a) (h3 : a ≤ c) (h4 : c < a + d) : c = a := by
  rcases Nat.lt_or_eq_of_le h3 with h | h
  · have := mult_lt h2 h1 h; omega
  · exact h.symm
theorem dvd_half {d a : Nat} (h : 2 * d ∣ a) : d ∣ a := Nat.dvd_trans ⟨2, by omega⟩ h
theorem blk_at {l : List Itm} {d A n c e : Nat} (h : BlkFrom l d A n) (hd : d ∣ c) (hA : A ≤ c) (hn : c < n) (he : e = min (c + d) n) : Srt l c e := he ▸ h c hd hA hn
theorem BlkTo.start (l : List Itm) (d n : Nat) : BlkTo l d 0 n := fun c _ h => by omega
theorem BlkTo.from {l : List Itm} {d n : Nat} (h : BlkTo l d n n) : BlkFrom l d 0 n := fun c hc _ hn => h c hc hn
theorem st_ins {l l' : List Itm} {d a e n : Nat} (h : BlkTo l d a n) (hd : d ∣ a) (hs : Seg a e l l') (ho : Srt l' a e) (he : e = min (a + d) n) : BlkTo l' d (a + d) n := fun c hc hl => by
  by_cases h1 : c < a
  · have := mult_lt hc hd h1
    exact (h c hc h1).same fun k k1 k2 => hs.out k (by omega)
  · have := mult_eq hc hd (by omega) hl
    subst this
    exact he ▸ ho
theorem BlkTo.less {l : List Itm} {d A B n : Nat} (h : BlkTo l d A n) (hB : B ≤ A) : BlkTo l d B n := fun c hc hl => h c hc (by omega)
theorem st_mrg {l l' : List Itm} {d a e n : Nat} (h : BlkTo l (2 * d) a n) (hd : 2 * d ∣ a) (hs : Seg a e l l') (ho : Srt l' a e) (he : e = min (a + 2 * d) n) : BlkTo l' (2 * d) (a + 2 * d) n := st_ins h hd hs ho he
theorem st_rest {l l' : List Itm} {d a e n : Nat} (h : BlkFrom l d a n) (hs : Seg a e l l') (hae : a ≤ e) : BlkFrom l' d e n := fun c hc h1 h2 => (h c hc (by omega) h2).same fun k k1 k2 => hs.out k (by omega)
theorem st_tail {l : List Itm} {d a n : Nat} (h : BlkTo l (2 * d) a n) (hf : BlkFrom l d a n) (hd : 2 * d ∣ a) (hn : n ≤ a + d) : BlkTo l (2 * d) (a + 2 * d) n := by
  refine st_mrg (e := min (a + 2 * d) n) h hd (Seg.refl _ _ _) ?_ rfl
  by_cases ha : a < n
  · exact blk_at hf (dvd_half hd) (Nat.le_refl _) ha (by omega)
  · exact Srt.one _ _ _ (by omega)
theorem st_fin {l : List Itm} {d n : Nat} (h : BlkTo l d n n) (hn : n ≤ d) : Srt l 0 n := by
  by_cases h0 : n = 0
  · subst h0; exact Srt.one _ _ _ (by omega)
  · have := h 0 (Nat.dvd_zero _) (by omega)
    rwa [show min (0 + d) n = n from by omega] at this
end Go.Ml
/-
  Distances reckoned in a band; all that are near, in order.
-/
set_option linter.unusedVariables false
set_option linter.unusedSimpArgs false
namespace Go.Ml
open Go Go.Ik
def dT (q p : List Int) (i j : Nat) : Int := rowF q (p.take j) i
theorem dT_i0 (q p : List Int) (i : Nat) : dT q p i 0 = i := rfl
theorem dT_row {q p : List Int} {j : Nat} {y : Int} (hy : p[j]? = some y) (i : Nat) : dT q p i (j + 1) = stepF q (rowF q (p.take j)) y i := by
  unfold dT
  rw [List.take_add_one, hy]
  exact congrFun (rowF_snoc q (p.take j) y) i
theorem dT_step {q p : List Int} {i j : Nat} {x y : Int} (hx : q[i]? = some x) (hy : p[j]? = some y) : dT q p (i + 1) (j + 1) = min (min (dT q p (i + 1) j + 1) (dT q p i (j + 1) + 1)) (dT q p i j + if x = y then 0 else 1) := by
  rw [dT_row hy, dT_row hy]
  unfold dT
  rw [stepF, hx]
  simp
theorem dT_0j (q p : List Int) : ∀ j, j ≤ p.length → dT q p 0 j = j
  | 0, _ => rfl
  | j + 1, h => by
    have hy := List.getElem?_eq_getElem (show j < p.length from by omega)
    rw [dT_row hy]
    unfold stepF
    have := dT_0j q p j (by omega)
    unfold dT at this
    rw [this]; omega
theorem step_ge {q : List Int} {f : Nat → Int} {r : Int} (h : Lip f) : ∀ i, f i ≤ stepF q f r i + 1
  | 0 => by unfold stepF; omega
  | i + 1 => by
    have h1 := step_ge (q := q) (r := r) h i
    have h2 := h.one i
    unfold stepF
    split <;> omega
theorem dT_ge (q p : List Int) (i : Nat) : ∀ j, j ≤ p.length → (i : Int) ≤ dT q p i j + j ∧ (j : Int) ≤ dT q p i j + i
  | 0, _ => by rw [dT_i0]; omega
  | j + 1, h => by
    have h0 := dT_0j q p (j + 1) h
    have hl := lip_row q (p.take (j + 1))
    have h1 := lip_far hl 0 i
    rw [Nat.zero_add] at h1
    unfold dT at h0
    rw [h0] at h1
    refine ⟨?_, by unfold dT; omega⟩
    have hy := List.getElem?_eq_getElem (show j < p.length from by omega)
    have h2 := step_ge (q := q) (r := p[j]) (lip_row q (p.take j)) i
    have h3 := (dT_ge q p i j (by omega)).1
    rw [dT_row hy]
    unfold dT at h3
    omega
def cap (K : Nat) (d : Int) : Int := min d (K + 1)
structure Band (q p : List Int) (K : Nat) (row : List Int) (i : Nat) : Prop where
  len : row.length = p.length + 1
  at_ : ∀ j, i ≤ j + K → j ≤ i + K + 1 → j ≤ p.length → row[j]? = some (cap K (dT q p i j))
theorem Band.start {q p : List Int} {K : Nat} {row : List Int} (hl : row.length = p.length + 1) (h : ∀ j, j ≤ p.length → row[j]? = some (min (j : Int) (K + 1))) : Band q p K row 0 := ⟨hl, fun j _ _ h3 => by rw [h j h3, dT_0j q p j h3]; rfl⟩
structure BandW (q p : List Int) (K : Nat) (row : List Int) (i f j : Nat) : Prop where
  len : row.length = p.length + 1
  new : ∀ c, f ≤ c + 1 → c < j → row[c]? = some (cap K (dT q p (i + 1) c))
  old : ∀ c, j ≤ c → c ≤ i + K + 1 → c ≤ p.length → row[c]? = some (cap K (dT q p i c))
theorem BandW.start {q p : List Int} {K : Nat} {row : List Int} {i f : Nat} {v : Int} (h : Band q p K row i) (hf : f = max (i + 1 - K) 1) (hfl : f ≤ p.length + 1) (hv : v = cap K (dT q p (i + 1) (f - 1))) : BandW q p K (row.set (f - 1) v) i f f := by
  refine ⟨by rw [List.length_set]; exact h.len, fun c h1 h2 => ?_, fun c h1 h2 h3 => ?_⟩
  · obtain rfl : c = f - 1 := by omega
    rw [List.getElem?_set_self (by have := h.len; omega), hv]
  · rw [List.getElem?_set_ne (by omega)]
    exact h.at_ c (by omega) h2 h3
theorem BandW.step {q p : List Int} {K : Nat} {row : List Int} {i f j : Nat} {x y a b u w : Int} (h : BandW q p K row i f j) (hf : f = max (i + 1 - K) 1) (hfj : f ≤ j) (hj : j ≤ i + K + 1) (hjl : j ≤ p.length) (hx : q[i]? = some x) (hy : p[j - 1]? = some y)
    (ha : row[j]? = some a) (hb : row[j - 1]? = some b) (hw : w = cap K (dT q p i (j - 1))) (hu : u = if x = y then w else w + 1) : BandW q p K (row.set j (min (min (min (a + 1) (b + 1)) u) (K + 1))) i f (j + 1) ∧ a = cap K (dT q p i j) := by
  have ea := h.old j (Nat.le_refl _) hj hjl
  rw [ha] at ea
  have ea := Option.some.inj ea
  have eb := h.new (j - 1) (by omega) (by omega)
  rw [hb] at eb
  have eb := Option.some.inj eb
  obtain ⟨c, rfl⟩ : ∃ c, j = c + 1 := ⟨j - 1, by omega⟩
  simp only [Nat.add_sub_cancel] at hy hw eb
  refine ⟨⟨by rw [List.length_set]; exact h.len, fun d h1 h2 => ?_, fun d h1 h2 h3 => ?_⟩, ea⟩
  · by_cases hd : d = c + 1
    · subst hd
      rw [List.getElem?_set_self (by have := h.len; omega), dT_step hx hy]
      congr 1
      rw [ea, eb, hu, hw]
      unfold cap
      split <;> omega
    · rw [List.getElem?_set_ne (by omega)]
      exact h.new d h1 (by omega)
  · rw [List.getElem?_set_ne (by omega)]
    exact h.old d (by omega) h2 h3
theorem BandW.fin {q p : List Int} {K : Nat} {row : List Int} {i f t : Nat} (h : BandW q p K row i f (t + 1)) (hf : f = max (i + 1 - K) 1) (ht : t = min (i + 1 + K) p.length) (hp : p.length ≤ t) : Band q p K row (i + 1) := ⟨h.len, fun j h1 h2 h3 => h.new j (by omega) (by omega)⟩
theorem BandW.fin2 {q p : List Int} {K : Nat} {row : List Int} {i f t : Nat} {v : Int} (h : BandW q p K row i f (t + 1)) (hf : f = max (i + 1 - K) 1) (ht : t = min (i + 1 + K) p.length) (hp : t < p.length) (hv : v = (K : Int) + 1) : Band q p K (row.set (t + 1) v) (i + 1) := by
  refine ⟨by rw [List.length_set]; exact h.len, fun j h1 h2 h3 => ?_⟩
  by_cases hj : j = t + 1
  · subst hj
    rw [List.getElem?_set_self (by have := h.len; omega), hv]
    congr 1
    have := (dT_ge q p (i + 1) (t + 1) h3).2
    unfold cap; omega
  · rw [List.getElem?_set_ne (by omega)]
    exact h.new j (by omega) (by omega)
theorem first_cap {q p : List Int} {K i f : Nat} (hf : f = max (i + 1 - K) 1) (hfl : f ≤ p.length + 1) : (if f = 1 then min ((i : Int) + 1) (K + 1) else (K : Int) + 1) = cap K (dT q p (i + 1) (f - 1)) := by
  by_cases h : f = 1
  · rw [if_pos h, h]
    show _ = min (dT q p (i + 1) 0) ((K : Int) + 1)
    rw [dT_i0]; omega
  · rw [if_neg h]
    have := (dT_ge q p (i + 1) (f - 1) (by omega)).1
    unfold cap; omega
def withinM (q p : List Int) (k : Int) : Int × Bool := if lev q p ≤ k then (lev q p, true) else (0, false)
theorem lev_dT (q p : List Int) : lev q p = dT q p q.length p.length := by unfold lev dT; rw [List.take_of_length_le (Nat.le_refl _)]
theorem within_far {q p : List Int} {k : Int} (h : k < 0 ∨ (q.length : Int) - p.length > k ∨ (p.length : Int) - q.length > k) : withinM q p k = (0, false) := by
  have h1 := dT_ge q p q.length p.length (Nat.le_refl _)
  have h2 := lev_pos q p
  rw [lev_dT] at h2
  unfold withinM
  rw [lev_dT, if_neg (by omega)]
theorem BandW.start1 {q p : List Int} {K : Nat} {row : List Int} {i f : Nat} {u v : Int} (h : Band q p K row i) (hf : f = max (i + 1 - K) 1) (hfl : f ≤ p.length + 1) (h1 : f = 1) (hv : v = min ((i : Int) + 1) (K + 1)) : BandW q p K ((row.set (f - 1) u).set 0 v) i f f := by
  have e := first_cap (q := q) (p := p) hf hfl
  rw [if_pos h1, ← hv] at e
  have := BandW.start h hf hfl e
  rw [show f - 1 = 0 from by omega] at this ⊢
  rwa [List.set_set]
theorem BandW.start2 {q p : List Int} {K : Nat} {row : List Int} {i f : Nat} {v : Int} (h : Band q p K row i) (hf : f = max (i + 1 - K) 1) (hfl : f ≤ p.length + 1) (h1 : f ≠ 1) (hv : v = (K : Int) + 1) : BandW q p K (row.set (f - 1) v) i f f := by
  have e := first_cap (q := q) (p := p) hf hfl
  rw [if_neg h1, ← hv] at e
  exact BandW.start h hf hfl e
theorem within_end {q p : List Int} {k d : Int} {K : Nat} {row : List Int} (h : Band q p K row q.length) (hK : (K : Int) = min k (q.length + p.length)) (h1 : (q.length : Int) - p.length ≤ k) (h2 : (p.length : Int) - q.length ≤ k) (hd : row[p.length]? = some d) :
    withinM q p k = if d > K then (0, false) else (d, true) := by
  have e := h.at_ p.length (by omega) (by omega) (Nat.le_refl _)
  rw [hd] at e
  have e := Option.some.inj e
  have hle : lev q p ≤ q.length + p.length := by have := (lev_le q p).2; omega
  unfold withinM
  rw [lev_dT] at hle ⊢
  unfold cap at e
  by_cases hg : d > K
  · rw [if_pos hg, if_neg (by omega)]
  · rw [if_neg hg, if_pos (by omega)]
    rw [show d = dT q p q.length p.length from by omega]
theorem was_at {q p : List Int} {K : Nat} {row : List Int} {i c : Nat} {x : Int} (h : Band q p K row i) (hx : row[c]? = some x) (h1 : i ≤ c + K) (h2 : c ≤ i + K + 1) (h3 : c ≤ p.length) : x = cap K (dT q p i c) := by
  have := h.at_ c h1 h2 h3
  rw [hx] at this
  exact Option.some.inj this
theorem cap_rng {q p : List Int} {K i c : Nat} : 0 ≤ cap K (dT q p i c) ∧ cap K (dT q p i c) ≤ K + 1 := by
  have := (lip_row q (p.take c)).pos i
  unfold cap dT; omega
theorem BandW.rng {q p : List Int} {K : Nat} {row : List Int} {i f j : Nat} {a b : Int} (h : BandW q p K row i f j) (hf : f ≤ j) (hj : j ≤ i + K + 1) (hjl : j ≤ p.length) (h1 : 1 ≤ j) (ha : row[j]? = some a) (hb : row[j - 1]? = some b) : (0 ≤ a ∧ a ≤ K + 1) ∧ 0 ≤ b ∧ b ≤ K + 1 := by
  have ea := h.old j (Nat.le_refl _) hj hjl
  rw [ha] at ea
  have eb := h.new (j - 1) (by omega) (by omega)
  rw [hb] at eb
  rw [Option.some.inj ea, Option.some.inj eb]
  exact ⟨cap_rng, cap_rng⟩
theorem row0_step {row : List Int} {j K : Nat} (h : ∀ c, c < j → row[c]? = some (min (c : Int) (K + 1))) (hj : j < row.length) {v : Int} (hv : v = min (j : Int) (K + 1)) : ∀ c, c < j + 1 → (row.set j v)[c]? = some (min (c : Int) (K + 1)) := by
  intro c hc
  by_cases hcj : c = j
  · subst hcj
    rw [List.getElem?_set_self hj, hv]
  · rw [List.getElem?_set_ne (fun e => hcj e.symm)]
    exact h c (by omega)
end Go.Ml
/-
  All that are near, in order.
-/
set_option linter.unusedVariables false
set_option linter.unusedSimpArgs false
namespace Go.Ml
open Go Go.Ik
def nearB (s w : Str) (k : Int) : Int × Bool := if fineT s = true ∧ fineT w = true then withinM (runesM s) (runesM w) k else (0, false)
theorem near_no {s w : Str} {k : Int} (h : fineT s = false ∨ fineT w = false) : nearB s w k = (0, false) := by
  unfold nearB; rw [if_neg (by rcases h with h | h <;> simp [h])]
theorem near_yes {s w : Str} {k : Int} (h1 : fineT s = true) (h2 : fineT w = true) : nearB s w k = withinM (runesM s) (runesM w) k := by
  unfold nearB; rw [if_pos ⟨h1, h2⟩]
def nearO (s : Str) (k : Int) (w : Str) : Option Itm := if (nearB s w k).2 = true then some ⟨(nearB s w k).1, w⟩ else none
def nearL (words : List Str) (s : Str) (k : Int) : List Itm := words.filterMap (nearO s k)
theorem nearL_yes {words : List Str} {s w : Str} {k : Int} {i : Nat} {l : List Itm} (h : l = nearL (words.take i) s k) (hx : words[i]? = some w) (hb : (nearB s w k).2 = true) : l ++ [⟨(nearB s w k).1, w⟩] = nearL (words.take (i + 1)) s k := by
  rw [h, List.take_add_one, hx]
  unfold nearL
  rw [List.filterMap_append]
  simp [nearO, hb]
theorem nearL_no {words : List Str} {s w : Str} {k : Int} {i : Nat} {l : List Itm} (h : l = nearL (words.take i) s k) (hx : words[i]? = some w) (hb : (nearB s w k).2 = false) : l = nearL (words.take (i + 1)) s k := by
  rw [h, List.take_add_one, hx]
  unfold nearL
  rw [List.filterMap_append]
  simp [nearO, hb]
theorem nearB_spec {s w : Str} {k : Int} : ((nearB s w k).2 = true ↔ 0 ≤ distT w s ∧ distT w s ≤ k) ∧ ((nearB s w k).2 = true → (nearB s w k).1 = distT w s) := by
  by_cases h : fineT s = true ∧ fineT w = true
  · rw [near_yes h.1 h.2]
    have e : distT w s = lev (runesM s) (runesM w) := (distT_yes h.2 h.1).symm
    have hp := lev_pos (runesM s) (runesM w)
    rw [e]
    unfold withinM
    split
    · rename_i hk; simp; omega
    · rename_i hk; simp; omega
  · have h' : fineT s = false ∨ fineT w = false := by
      cases h1 : fineT s <;> cases h2 : fineT w <;> simp_all
    rw [near_no h']
    have e : (-1 : Int) = distT w s := distT_no h'.symm
    rw [← e]
    simp
theorem mem_nearL {words : List Str} {s : Str} {k : Int} {x : Itm} : x ∈ nearL words s k ↔ x.word ∈ words ∧ x.dist = distT x.word s ∧ 0 ≤ x.dist ∧ x.dist ≤ k := by
  unfold nearL
  rw [List.mem_filterMap]
  constructor
  · rintro ⟨w, hw, hx⟩
    unfold nearO at hx
    split at hx
    · rename_i hb
      cases hx
      have := nearB_spec (s := s) (w := w) (k := k)
      have h1 := this.1.1 hb
      have h2 := this.2 hb
      exact ⟨hw, h2, by simp only; omega, by simp only; omega⟩
    · cases hx
  · rintro ⟨h1, h2, h3, h4⟩
    refine ⟨x.word, h1, ?_⟩
    have := nearB_spec (s := s) (w := x.word) (k := k)
    have hb := this.1.2 (by rw [← h2]; exact ⟨h3, h4⟩)
    unfold nearO
    rw [if_pos hb, this.2 hb, ← h2]
theorem nearL_nodup {s : Str} {k : Int} : ∀ {words : List Str}, words.Nodup → (nearL words s k).Nodup
  | [], _ => by simp [nearL]
  | w :: words, h => by
    rw [List.nodup_cons] at h
    have ih := nearL_nodup (s := s) (k := k) h.2
    unfold nearL at ih ⊢
    rw [List.filterMap_cons]
    split
    · exact ih
    · rename_i b hb
      rw [List.nodup_cons]
      refine ⟨fun hm => h.1 ?_, ih⟩
      have hw : b.word = w := by
        unfold nearO at hb
        split at hb
        · cases hb; rfl
        · cases hb
      have := (mem_nearL (words := words) (s := s) (k := k) (x := b)).1 hm
      rw [← hw]; exact this.1
theorem srt_pair {l : List Itm} (h : Srt l 0 l.length) (hn : l.Nodup) : l.Pairwise ltI := by
  rw [List.pairwise_iff_getElem]
  intro i j hi hj hij
  have h1 := h i j l[i] l[j] (Nat.zero_le _) hij hj (List.getElem?_eq_getElem hi) (List.getElem?_eq_getElem hj)
  exact ltI_tri h1 fun e => by
    have := (List.getElem_inj hn).1 e
    omega
theorem all_eq {words : List Str} {s : Str} {k : Int} {l : List Itm} (hw : words.Nodup) (hp : l.Perm (nearL words s k)) (hs : Srt l 0 (nearL words s k).length) : l = refAll words s k := by
  rw [← hp.length_eq] at hs
  obtain ⟨h1, h2⟩ := refAll_spec (s := s) (k := k) hw
  refine ltI_ext (srt_pair hs (hp.nodup_iff.2 (nearL_nodup hw))) h1 fun x => ?_
  rw [hp.mem_iff, mem_nearL, h2]
theorem nearL_len (words : List Str) (s : Str) (k : Int) : (nearL words s k).length ≤ words.length := by unfold nearL; exact List.length_filterMap_le _ _
end Go.Ml
/-
  Plain laws of chapter 11: batches of any size, ends.
-/
set_option linter.unusedVariables false
set_option linter.unusedSimpArgs false
namespace Go.Ml
open Go Go.Ik
theorem behind {R : List Itm} {c : Nat} {x : Itm} (hs : R.Pairwise ltI) (hc : 1 ≤ c) (hx : R[c - 1]? = some x) : R.filter (okI false x) = R.drop c := by
  have hl := (List.getElem?_eq_some_iff.1 hx).1
  have hp := List.pairwise_iff_getElem.1 hs
  conv => lhs; rw [← List.take_append_drop c R]
  rw [List.filter_append, List.filter_eq_nil_iff.2, List.nil_append, List.filter_eq_self.2]
  · intro y hy
    obtain ⟨j, hj, rfl⟩ := List.mem_iff_getElem.1 hy
    rw [List.getElem_drop]
    have := hp (c - 1) (c + j) hl (by rw [List.length_drop] at hj; omega) (by omega)
    rw [List.getElem?_eq_getElem hl] at hx
    cases hx
    exact this
  · intro y hy
    obtain ⟨j, hj, rfl⟩ := List.mem_iff_getElem.1 hy
    rw [List.length_take] at hj
    rw [List.getElem_take]
    rw [List.getElem?_eq_getElem hl] at hx
    cases hx
    unfold okI
    simp only [Bool.false_or]
    intro h
    rcases Nat.lt_or_eq_of_le (show j ≤ c - 1 from by omega) with hj2 | hj2
    · exact ltI_irr (ltI_trans h (hp j (c - 1) (by omega) hl hj2))
    · subst hj2; exact ltI_irr h
section
variable {words : List Str} {s : Str} {k : Int}
theorem all_items (hg : goodL words = 0) (ha : asked s = true) (hk : 0 ≤ k ∧ k ≤ 4) : refAll words s k = itemsM words (runesI s) (k.toNat + 1) := refAll_items (good_sorted hg) (good_fineT hg) (asked_fine ha) hk.1
theorem all_sorted (hg : goodL words = 0) : (refAll words s k).Pairwise ltI := (refAll_spec (sorted_nodup (good_sorted hg))).1
theorem batch_law {c : Nat} {first : Bool} {after : Itm} {b : Int} (hg : goodL words = 0) (ha : asked s = true) (hk : 0 ≤ k ∧ k ≤ 4) (hb : 0 ≤ b) (hc : first = true ∧ c = 0 ∨ first = false ∧ 1 ≤ c ∧ (refAll words s k)[c - 1]? = some after) :
    nextA (gnodes words) words s k first after b = (((refAll words s k).drop c).take b.toNat, decide ((refAll words s k).length - c ≤ b.toNat)) := by
  rw [nextA_eq hg ha hk hb, ← all_items hg ha hk]
  have hf : (refAll words s k).filter (okI first after) = (refAll words s k).drop c := by
    rcases hc with ⟨rfl, rfl⟩ | ⟨rfl, h1, h2⟩
    · rw [List.drop_zero]; exact List.filter_eq_self.2 fun x _ => rfl
    · exact behind (all_sorted hg) h1 h2
  rw [hf, List.length_drop]
theorem ends_all {after : Itm} {b : Int} (hg : goodL words = 0) (ha : asked s = true) (hk : 0 ≤ k ∧ k ≤ 4) (hb : ((refAll words s k).length : Int) ≤ b) : nextA (gnodes words) words s k true after b = (refAll words s k, true) := by
  rw [batch_law (c := 0) hg ha hk (by omega) (.inl ⟨rfl, rfl⟩), List.drop_zero, List.take_of_length_le (by omega), decide_eq_true (by omega)]
theorem ends_last {x : Itm} (hg : goodL words = 0) (ha : asked s = true) (hk : 0 ≤ k ∧ k ≤ 4) (h1 : 1 ≤ (refAll words s k).length) (hx : (refAll words s k)[(refAll words s k).length - 1]? = some x) : nextA (gnodes words) words s k false x 3 = ([], true) := by
  rw [batch_law (c := (refAll words s k).length) hg ha hk (by omega) (.inr ⟨rfl, h1, hx⟩), List.drop_of_length_le (Nat.le_refl _), decide_eq_true (by omega)]; rfl
theorem ends_less {after : Itm} {b : Int} (hg : goodL words = 0) (ha : asked s = true) (hk : 0 ≤ k ∧ k ≤ 4) (h1 : 1 ≤ (refAll words s k).length) (hb : b = ((refAll words s k).length : Int) - 1) : nextA (gnodes words) words s k true after b = ((refAll words s k).take ((refAll words s k).length - 1), false) := by
  rw [batch_law (c := 0) hg ha hk (by omega) (.inl ⟨rfl, rfl⟩), List.drop_zero, show b.toNat = (refAll words s k).length - 1 from by omega, decide_eq_false (by omega)]
structure Gath (R all : List Itm) (i : Nat) (fin : Bool) : Prop where
  eq : all = R.take all.length
  yes : fin = true → all = R
  no : fin = false → i ≤ all.length
theorem Gath.start (R : List Itm) : Gath R [] 0 false := ⟨rfl, fun h => by (cases h), fun _ => Nat.le_refl _⟩
theorem Gath.step {R all x : List Itm} {i n : Nat} {is : Bool} (h : Gath R all i false) (hn : 1 ≤ n) (hx : x = (R.drop all.length).take n) (hi : is = decide (R.length - all.length ≤ n)) : Gath R (all ++ x) (i + 1) is := by
  have hle : all.length ≤ R.length := by have := congrArg List.length h.eq; rw [List.length_take] at this; omega
  have e : all ++ x = R.take (all.length + n) := by
    rw [hx, List.take_add]
    congr 1; exact h.eq
  have hl : (all ++ x).length = min (all.length + n) R.length := by rw [e, List.length_take]
  refine ⟨?_, fun hb => ?_, fun hb => ?_⟩
  · rw [hl, e]
    rcases Nat.le_total (all.length + n) R.length with h2 | h2
    · rw [Nat.min_eq_left h2]
    · rw [Nat.min_eq_right h2, List.take_of_length_le h2, List.take_of_length_le (Nat.le_refl _)]
  · rw [hi] at hb
    have := of_decide_eq_true hb
    rw [e, List.take_of_length_le (by omega)]
  · rw [hi] at hb
    have := of_decide_eq_false hb
    have := h.no rfl
    omega
theorem Gath.fin {R all : List Itm} {i : Nat} {fin : Bool} (h : Gath R all i fin) {m : Nat} (hm : R.length ≤ m) (hx : fin = true ∨ m < i) : fin = true ∧ all = R := by
  cases hf : fin with
  | true => exact ⟨rfl, h.yes hf⟩
  | false =>
    have h1 := h.no hf
    have h2 := congrArg List.length h.eq
    rw [List.length_take] at h2
    rcases hx with hx | hx
    · rw [hf] at hx; cases hx
    · omega
theorem Gath.after {R all : List Itm} {i : Nat} {fin : Bool} (h : Gath R all i fin) {x : Itm} (h1 : 1 ≤ all.length) (hx : all[all.length - 1]? = some x) : R[all.length - 1]? = some x := by
  rw [h.eq] at hx
  rw [List.length_take] at hx
  have h2 := congrArg List.length h.eq
  rw [List.length_take] at h2
  rw [show min all.length R.length = all.length from by omega, List.getElem?_take, if_pos (by omega)] at hx
  exact hx
theorem bt_no {R : List Itm} {c n : Nat} {X : List Itm × Bool} (h : X = ((R.drop c).take n, decide (R.length - c ≤ n))) (h1 : X.2 = false) (h2 : X.1.length < n) : False := by
  subst h
  simp only at h1 h2
  have := of_decide_eq_false h1
  rw [List.length_take, List.length_drop] at h2
  omega
end
end Go.Ml
/-
  A region that draws its order, with operations that come ahead of all acting ones: those need their value at the region's start alone.
-/
set_option linter.unusedVariables false
set_option linter.unusedSimpArgs false
namespace Go.IkN
open Go Go.Ik
def CC (N : Nat → Bool) (wI : World) (C : World → Prop) (i : Nat) (w : World) : Prop := if N i = true then w = wI else C w
def J (ops : Array Oper) (N : Nat → Bool) (wI : World) (C : World → Prop) (listed : Array Bool) (w : World) : Prop := C w ∧ (w = wI ∨ ∀ i, N i = true → i < ops.size → listed.getD i true = true)
def nowB (ops : Array Oper) (m : Array Nat) (A N : Nat → Bool) : Bool := (List.range ops.size).all fun j => !A j || (List.range ops.size).all fun i => !N i || (!A i && (m.getD j 0).testBit i)
theorem nowB_spec {ops : Array Oper} {m : Array Nat} {A N : Nat → Bool} (h : nowB ops m A N = true) {i j : Nat} (hi : i < ops.size) (hj : j < ops.size) (hA : A j = true) (hN : N i = true) : A i = false ∧ (m.getD j 0).testBit i = true := by
  have h1 := List.all_eq_true.1 h j (List.mem_range.2 hj)
  simp only [hA, Bool.not_true, Bool.false_or] at h1
  have h2 := List.all_eq_true.1 h1 i (List.mem_range.2 hi)
  simp only [hN, Bool.not_true, Bool.false_or, Bool.and_eq_true, Bool.not_eq_true'] at h2
  exact h2
theorem J.set {ops : Array Oper} {N : Nat → Bool} {wI w : World} {C : World → Prop} {listed : Array Bool} {k : Nat} (h : J ops N wI C listed w) : J ops N wI C (listed.setIfInBounds k true) w := by
  refine ⟨h.1, h.2.imp id fun ha i hN hi => ?_⟩
  have := ha i hN hi
  by_cases hk : k = i
  · subst hk
    simp only [Array.getD_eq_getD_getElem?, Array.getElem?_setIfInBounds]
    split <;> rename_i h0 <;> simp_all
    split <;> simp_all
  · rw [getD_set_ne true hk]; exact this
section
variable {P : Program} {ops : Array Oper} {C : World → Prop} {A N : Nat → Bool} {Z : Nat} {wI : World}
def dOp (P : Program) (ops : Array Oper) (C : World → Prop) (A N : Nat → Bool) (wI : World) (Z : Nat) (i : Nat) (K : Act → World → Prop) (a : Act) (w : World) : Prop :=
  match ops[i]? with
  | none => K a w
  | some o =>
    if Region.wanted o (yielded ops a.tmps) = true then
      if A i = true then out P (fun v w' => (i = Z ∨ C w') ∧ K (a.put o.dst v) w') ((execOp a.eval o).run P w)
      else ∃ v, (∀ w', CC N wI C i w' → (execOp a.eval o).run P w' = .ok (.value v) w') ∧ K (a.put o.dst v) w
    else K (a.put o.dst undef) w
def wd (P : Program) (ops : Array Oper) (C : World → Prop) (A N : Nat → Bool) (wI : World) (Z : Nat) (Q : Act → World → Prop) : List Nat → Act → World → Prop
  | [], a, w => Q a w
  | i :: r, a, w => dOp P ops C A N wI Z i (wd P ops C A N wI Z Q r) a w
def anyD (P : Program) (ops : Array Oper) (C : World → Prop) (A N : Nat → Bool) (wI : World) (Z : Nat) (Q : Act → World → Prop) : Nat → Array Bool → Act → World → Prop
  | 0, listed, a, w => Region.ready .any ops listed = [] ∧ Q a w
  | fuel + 1, listed, a, w =>
    (Region.ready .any ops listed = [] → Q a w) ∧
    ∀ i ∈ Region.ready .any ops listed, dOp P ops C A N wI Z i (anyD P ops C A N wI Z Q fuel (listed.setIfInBounds i true)) a w
def Yl (P : Program) (ops : Array Oper) (C : World → Prop) (A N : Nat → Bool) (wI : World) (i : Nat) (o : Oper) (v : Value) (a : Act) : Prop :=
  (Region.wanted o (yielded ops a.tmps) = true ∧ A i = false ∧ ∀ w', CC N wI C i w' → (execOp a.eval o).run P w' = .ok (.value v) w') ∨
  (Region.wanted o (yielded ops a.tmps) = false ∧ v = undef)
theorem Yl.dOp {i : Nat} {o : Oper} {v : Value} {a : Act} {w : World} {K : Act → World → Prop} (hi : ops[i]? = some o) (hy : Yl P ops C A N wI i o v a) (h : K (a.put o.dst v) w) : dOp P ops C A N wI Z i K a w := by
  unfold IkN.dOp
  simp only [hi]
  rcases hy with ⟨hw, hA, hv⟩ | ⟨hw, rfl⟩
  · simp only [hw, hA, if_true, Bool.false_eq_true, if_false]; exact ⟨v, hv, h⟩
  · simp only [hw, Bool.false_eq_true, if_false]; exact h
theorem Yl.of_same {i : Nat} {o : Oper} {v : Value} {a a' : Act} (hy : Yl P ops C A N wI i o v a) (he : execOp a'.eval o = execOp a.eval o)
    (hw : Region.wanted o (yielded ops a'.tmps) = Region.wanted o (yielded ops a.tmps)) : Yl P ops C A N wI i o v a' := by
  unfold Yl at *
  rw [he, hw]
  exact hy
theorem dOp_put {i j : Nat} {oi oj : Oper} {v : Value} (hj : ops[j]? = some oj) (hap : oi.apart ops oj = true)
    (hsi : ∀ cs b, oi.op ≠ .select cs b) (hsj : ∀ cs b, oj.op ≠ .select cs b) {K : Act → World → Prop} {a : Act} {w : World}
    (hy : Yl P ops C A N wI i oi v a) (h : dOp P ops C A N wI Z j K (a.put oi.dst v) w) :
    dOp P ops C A N wI Z j (fun a' w' => Yl P ops C A N wI i oi v a' ∧ K (a'.put oi.dst v) w') a w := by
  obtain ⟨h1, h2, h3⟩ := Oper.apart_spec hap
  have keep : ∀ u, Yl P ops C A N wI i oi v (a.put oj.dst u) := fun u =>
    hy.of_same (execOp_put oi hsi a oj.dst u h3) (wanted_put oi a oj.dst u h3)
  unfold dOp at *
  simp only [hj] at *
  rw [wanted_put oj a oi.dst v h1, execOp_put oj hsj a oi.dst v h1] at h
  split
  · rename_i hw
    simp only [hw, if_true] at h
    split
    · rename_i hA
      simp only [hA, if_true] at h
      exact out_mono (fun u w' hu => ⟨hu.1, keep u, by rw [← Act.put_comm a v u h2]; exact hu.2⟩) h
    · rename_i hA
      simp only [hA] at h
      obtain ⟨u, hu, hk⟩ := h
      exact ⟨u, hu, keep u, by rw [← Act.put_comm a v u h2]; exact hk⟩
  · rename_i hw
    simp only [hw] at h
    exact ⟨keep _, by rw [← Act.put_comm a v undef h2]; exact h⟩
theorem dOp_mono {i : Nat} {K K' : Act → World → Prop} {J' : World → Prop} {a : Act} {w : World} (hne : i ≠ Z) (h : ∀ a w, J' w → K a w → K' a w) (hC : J' w) (hact : A i = true → ∀ w', C w' → J' w') (hh : dOp P ops C A N wI Z i K a w) : dOp P ops C A N wI Z i K' a w := by
  unfold dOp at *
  split
  · exact h _ _ hC (by simpa [*] using hh)
  · rename_i o ho
    simp only [ho] at hh
    split
    · rename_i hw
      simp only [hw, if_true] at hh
      split
      · rename_i hA
        simp only [hA, if_true] at hh
        exact out_mono (fun v w' hv => ⟨hv.1, h _ _ (hact hA _ (hv.1.resolve_left hne)) hv.2⟩) hh
      · rename_i hA
        simp only [hA] at hh
        obtain ⟨v, h1, h2⟩ := hh
        exact ⟨v, h1, h _ _ hC h2⟩
    · rename_i hw
      simp only [hw] at hh
      exact h _ _ hC hh
theorem J.act {m : Array Nat} (hcl : closedB ops m = true) (hnb : nowB ops m A N = true) {listed : Array Bool} (hd : DC m listed) {j : Nat} (hj : j ∈ Region.ready .any ops listed) (hA : A j = true) {w' : World} (hC : C w') : J ops N wI C (listed.setIfInBounds j true) w' := by
  refine ⟨hC, .inr fun i hN hi => ?_⟩
  obtain ⟨hAi, hb⟩ := nowB_spec hnb hi (ready_lt hj) hA hN
  have := getD_lt (ready_closed hcl hd hj hb)
  by_cases hji : j = i
  · subst hji; rw [hA] at hAi; cases hAi
  · rw [getD_set_ne true hji]; exact this
theorem J.cc {listed : Array Bool} {w : World} (h : J ops N wI C listed w) {i : Nat} (hi : i ∈ Region.ready .any ops listed) : CC N wI C i w := by
  unfold CC
  split
  · rename_i hN
    rcases h.2 with e | ha
    · exact e
    · have h1 := ha i hN (ready_lt hi)
      rw [(mem_ready.1 hi).1] at h1
      cases h1
  · exact h.1
theorem wpAny_of_anyD {m : Array Nat} (hcl : closedB ops m = true) (hnb : nowB ops m A N = true) (hz : ZC ops m Z) {Q : Act → World → Prop} {Q' : Exit → Act → World → Prop} (hQ : ∀ a w, Q a w → Q' .normal a w) : ∀ (fuel : Nat) (listed : Array Bool) (a : Act) (w : World), (J ops N wI C listed w ∨ Region.ready .any ops listed = []) → DC m listed →
    anyD P ops C A N wI Z Q fuel listed a w → wpAny P .any ops Q' fuel listed a w
  | 0, _, _, _, _, _, h => ⟨h.1, hQ _ _ h.2⟩
  | fuel + 1, listed, a, w, hC, hdc, h => ⟨fun h0 => hQ _ _ (h.1 h0), fun i hi => by
      have hC' : J ops N wI C listed w := by
        rcases hC with h | h
        · exact h
        · rw [h] at hi; cases hi
      have hdc' := hdc.set hcl hi
      have h2 := h.2 i hi
      unfold dOp at h2
      unfold wpOp
      split
      · rename_i ho
        simp only [ho] at h2
        exact wpAny_of_anyD hcl hnb hz hQ fuel _ _ _ (.inl hC'.set) hdc' h2
      · rename_i o ho
        simp only [ho] at h2
        split
        · rename_i hw
          simp only [hw, if_true] at h2
          refine .inl ?_
          split at h2
          · rename_i hAi
            refine out_upon (fun v w' hv => wpAny_of_anyD hcl hnb hz hQ fuel _ _ _ ?_ hdc' hv.2) h2
            rcases hv.1 with e | e
            · subst e; exact .inr (Z_done hcl hz hdc hi)
            · exact .inl (J.act hcl hnb hdc hi hAi e)
          · obtain ⟨v, h3, h4⟩ := h2
            unfold Oper.wp
            rw [h3 w (hC'.cc hi)]
            exact wpAny_of_anyD hcl hnb hz hQ fuel _ _ _ (.inl hC'.set) hdc' h4
        · rename_i hw
          simp only [hw] at h2
          exact wpAny_of_anyD hcl hnb hz hQ fuel _ _ _ (.inl hC'.set) hdc' h2⟩
theorem first_quiet {m : Array Nat} (hcl : closedB ops m = true) (hnb : nowB ops m A N = true) (hz : ZC ops m Z) {Q : Act → World → Prop} {i : Nat} {oi : Oper} {v : Value} (hi : ops[i]? = some oi) (hsel : ∀ (j : Nat) (o : Oper) cs b, ops[j]? = some o → o.op ≠ .select cs b) :
    ∀ (fuel : Nat) (listed : Array Bool) (a : Act) (w : World), J ops N wI C listed w → DC m listed →
      (∀ j oj, ops[j]? = some oj → j ≠ i → listed.getD j true = false → (m.getD j 0).testBit i = false → oi.apart ops oj = true) →
      i ∈ Region.ready .any ops listed → Yl P ops C A N wI i oi v a →
      anyD P ops C A N wI Z Q fuel (listed.setIfInBounds i true) (a.put oi.dst v) w → anyD P ops C A N wI Z Q (fuel + 1) listed a w := by
  intro fuel
  induction fuel with
  | zero =>
    intro listed a w hC _ _ hr hy H
    refine ⟨fun h => (by rw [h] at hr; cases hr), fun j hj => ?_⟩
    by_cases hji : j = i
    · subst hji; exact hy.dOp hi H
    · have := ready_mono hj hji
      rw [H.1] at this
      cases this
  | succ fuel ih =>
    intro listed a w hC hdc hfree hr hy H
    refine ⟨fun h => (by rw [h] at hr; cases hr), fun j hj => ?_⟩
    by_cases hji : j = i
    · subst hji; exact hy.dOp hi H
    · have h1 := H.2 j (ready_mono hj hji)
      obtain ⟨hjun, oj, hoj, hall⟩ := mem_ready.1 hj
      have hnot : (m.getD j 0).testBit i = false := by
        cases hb : (m.getD j 0).testBit i with
        | false => rfl
        | true =>
          have h2 := ready_closed hcl hdc hj hb
          rw [listed_lt (mem_ready.1 hr).1] at h2
          cases h2
      have h2 := dOp_put hoj (hfree j oj hoj hji hjun hnot) (fun cs b => hsel i oi cs b hi) (fun cs b => hsel j oj cs b hoj) hy h1
      have hfree' : ∀ k ok, ops[k]? = some ok → k ≠ i → (listed.setIfInBounds j true).getD k true = false →
          (m.getD k 0).testBit i = false → oi.apart ops ok = true := fun k ok hk hki hun hno => by
        refine hfree k ok hk hki ?_ hno
        by_cases hjk : j = k
        · subst hjk; exact hjun
        · rw [getD_set_ne true hjk] at hun; exact hun
      have hjz : j ≠ Z := fun e => by
        subst e
        have h5 := Z_last hcl hz hdc hj (ready_lt hr) (Ne.symm hji)
        rw [(mem_ready.1 hr).1] at h5; cases h5
      refine dOp_mono (J' := J ops N wI C (listed.setIfInBounds j true)) hjz (fun a' w' hC' h3 => ih (listed.setIfInBounds j true) a' w' hC' (hdc.set hcl hj) hfree' (ready_mono hr (Ne.symm hji)) h3.1 ?_) hC.set (fun hAj w' hc => J.act hcl hnb hdc hj hAj hc) h2
      rw [Array.setIfInBounds_comm _ _ hji]
      exact h3.2
theorem first_act {m : Array Nat} (hcl : closedB ops m = true) (hnb : nowB ops m A N = true) (hz : ZC ops m Z) {Q : Act → World → Prop} {i : Nat} {oi : Oper} (hi : ops[i]? = some oi) (hA : A i = true) (hsel : ∀ (j : Nat) (o : Oper) cs b, ops[j]? = some o → o.op ≠ .select cs b) :
    ∀ (fuel : Nat) (listed : Array Bool) (a : Act) (w : World), J ops N wI C listed w → DC m listed →
      (∀ j oj, ops[j]? = some oj → j ≠ i → listed.getD j true = false → (m.getD j 0).testBit i = false → oi.apart ops oj = true ∧ A j = false) →
      i ∈ Region.ready .any ops listed → Region.wanted oi (yielded ops a.tmps) = true →
      out P (fun v w' => (i = Z ∨ C w') ∧ anyD P ops C A N wI Z Q fuel (listed.setIfInBounds i true) (a.put oi.dst v) w') ((execOp a.eval oi).run P w) → anyD P ops C A N wI Z Q (fuel + 1) listed a w := by
  intro fuel
  induction fuel with
  | zero =>
    intro listed a w hC _ _ hr hw H
    refine ⟨fun h => (by rw [h] at hr; cases hr), fun j hj => ?_⟩
    by_cases hji : j = i
    · subst hji; unfold dOp; simp only [hi, hw, hA, if_true]; exact H
    · obtain ⟨v, w', _, hk⟩ := out_some H
      have := ready_mono hj hji
      rw [hk.1] at this
      cases this
  | succ fuel ih =>
    intro listed a w hC hdc hfree hr hw H
    refine ⟨fun h => (by rw [h] at hr; cases hr), fun j hj => ?_⟩
    by_cases hji : j = i
    · subst hji; unfold dOp; simp only [hi, hw, hA, if_true]; exact H
    · obtain ⟨hjun, oj, hoj, hall⟩ := mem_ready.1 hj
      have hnot : (m.getD j 0).testBit i = false := by
        cases hb : (m.getD j 0).testBit i with
        | false => rfl
        | true =>
          have h2 := ready_closed hcl hdc hj hb
          rw [listed_lt (mem_ready.1 hr).1] at h2
          cases h2
      obtain ⟨hap, hAj⟩ := hfree j oj hoj hji hjun hnot
      obtain ⟨p1, p2, p3⟩ := Oper.apart_spec hap
      have hfree' : ∀ k ok, ops[k]? = some ok → k ≠ i → (listed.setIfInBounds j true).getD k true = false →
          (m.getD k 0).testBit i = false → oi.apart ops ok = true ∧ A k = false := fun k ok hk hki hun hno => by
        refine hfree k ok hk hki ?_ hno
        by_cases hjk : j = k
        · subst hjk; exact hjun
        · rw [getD_set_ne true hjk] at hun; exact hun
      have hsi := fun cs b => hsel i oi cs b hi
      have hsj := fun cs b => hsel j oj cs b hoj
      have hNj : N j = false := by
        cases hN : N j with
        | false => rfl
        | true =>
          have h6 := getD_lt (ready_closed hcl hdc hr (nowB_spec hnb (ready_lt hj) (ready_lt hr) hA hN).2)
          rw [hjun] at h6; cases h6
      have hcc : ∀ w', CC N wI C j w' ↔ C w' := fun w' => by unfold CC; rw [hNj]; simp
      -- what 'j' yields, whatever 'i' left
      have after : ∀ v w', anyD P ops C A N wI Z Q (fuel + 1) (listed.setIfInBounds i true) (a.put oi.dst v) w' →
          dOp P ops C A N wI Z j (anyD P ops C A N wI Z Q fuel ((listed.setIfInBounds i true).setIfInBounds j true)) (a.put oi.dst v) w' := fun v w' hk => hk.2 j (ready_mono hj hji)
      unfold dOp
      simp only [hoj, hAj, Bool.false_eq_true, if_false]
      by_cases hwj : Region.wanted oj (yielded ops a.tmps) = true
      · simp only [hwj, if_true]
        have get : ∀ v w', anyD P ops C A N wI Z Q (fuel + 1) (listed.setIfInBounds i true) (a.put oi.dst v) w' →
            ∃ u, (∀ w', CC N wI C j w' → (execOp a.eval oj).run P w' = .ok (.value u) w') ∧ anyD P ops C A N wI Z Q fuel ((listed.setIfInBounds i true).setIfInBounds j true) ((a.put oi.dst v).put oj.dst u) w' := fun v w' hk => by
          have h1 := after v w' hk
          unfold dOp at h1
          simp only [hoj, hAj, Bool.false_eq_true, if_false] at h1
          rw [wanted_put oj a oi.dst v p1, hwj, if_pos rfl, execOp_put oj hsj a oi.dst v p1] at h1
          exact h1
        have hiz : i ≠ Z := fun e => by
          subst e
          have h5 := Z_last hcl hz hdc hr (ready_lt hj) hji
          rw [hjun] at h5; cases h5
        obtain ⟨v0, w0, hC0, hk0⟩ := out_some H
        obtain ⟨u, hu, _⟩ := get v0 w0 hk0
        refine ⟨u, hu, ih (listed.setIfInBounds j true) (a.put oj.dst u) w hC.set (hdc.set hcl hj) hfree' (ready_mono hr (Ne.symm hji)) ?_ ?_⟩
        · rw [wanted_put oi a oj.dst u p3]; exact hw
        · rw [execOp_put oi hsi a oj.dst u p3]
          refine out_mono (fun v w' ⟨hc, hk⟩ => ⟨hc, ?_⟩) H
          obtain ⟨u', hu', hk'⟩ := get v w' hk
          have e : u' = u := by
            have h1 := hu w ((hcc w).2 hC.1)
            rw [hu' w ((hcc w).2 hC.1)] at h1
            simpa using h1
          subst e
          rw [Array.setIfInBounds_comm _ _ hji, ← Act.put_comm a v u' p2]
          exact hk'
      · simp only [hwj, Bool.false_eq_true, if_false]
        refine ih (listed.setIfInBounds j true) (a.put oj.dst undef) w hC.set (hdc.set hcl hj) hfree' (ready_mono hr (Ne.symm hji)) ?_ ?_
        · rw [wanted_put oi a oj.dst undef p3]; exact hw
        · rw [execOp_put oi hsi a oj.dst undef p3]
          refine out_mono (fun v w' ⟨hc, hk⟩ => ⟨hc, ?_⟩) H
          have h1 := after v w' hk
          unfold dOp at h1
          simp only [hoj] at h1
          rw [wanted_put oj a oi.dst v p1, if_neg (by simpa using hwj)] at h1
          rw [Array.setIfInBounds_comm _ _ hji, ← Act.put_comm a v undef p2]
          exact h1
theorem anyD_lex {m : Array Nat} (hcl : closedB ops m = true) (hnb : nowB ops m A N = true) (hz : ZC ops m Z) {Q : Act → World → Prop} (hs : Region.noSelect ops = true) : ∀ (fuel k : Nat) (listed : Array Bool) (a : Act) (w : World), (J ops N wI C listed w ∨ fuel = 0) → DC m listed →
    k + fuel = ops.size → lexD ops m A fuel k listed = true → wd P ops C A N wI Z Q (List.range' k fuel) a w → anyD P ops C A N wI Z Q fuel listed a w
  | 0, _, _, _, _, _, _, _, hB, h => ⟨by simpa [lexD] using hB, h⟩
  | fuel + 1, k, listed, a, w, hC0, hdc, hsz, hB, h => by
    have hC : J ops N wI C listed w := hC0.resolve_right (by omega)
    have hlt : k < ops.size := by omega
    have h0 : ops[k]? = some ops[k] := by simp [hlt]
    simp only [lexD, Bool.and_eq_true, List.contains_iff_mem] at hB
    obtain ⟨⟨hr, hf⟩, hB'⟩ := hB
    have hfr := freeB_spec h0 hf
    rw [List.range'_succ] at h
    simp only [wd] at h
    have hdc' := hdc.set hcl hr
    have hfin : k = Z → fuel = 0 := fun e => by
      subst e
      have hd := Z_done hcl hz hdc hr
      cases fuel with
      | zero => rfl
      | succ f =>
        simp only [lexD, Bool.and_eq_true, List.contains_iff_mem] at hB'
        rw [hd] at hB'
        exact absurd hB'.1.1 (by simp)
    have hrec : ∀ a w, (J ops N wI C (listed.setIfInBounds k true) w ∨ fuel = 0) → wd P ops C A N wI Z Q (List.range' (k + 1) fuel) a w → anyD P ops C A N wI Z Q fuel (listed.setIfInBounds k true) a w := fun a w hc hk =>
      anyD_lex hcl hnb hz hs fuel (k + 1) _ a w hc hdc' (by omega) hB' hk
    unfold dOp at h
    simp only [h0] at h
    by_cases hw : Region.wanted ops[k] (yielded ops a.tmps) = true
    · simp only [hw, if_true] at h
      by_cases hA : A k = true
      · simp only [hA, if_true] at h
        exact first_act hcl hnb hz h0 hA (Region.noSelect_spec hs) fuel listed a w hC hdc (fun j oj hj hne hl hm => ⟨(hfr j oj hj hne hl hm).1, by have := (hfr j oj hj hne hl hm).2; simpa [hA] using this⟩) hr hw
          (out_mono (fun v w' hv => ⟨hv.1, hrec _ _ (hv.1.elim (fun e => .inr (hfin e)) (fun e => .inl (J.act hcl hnb hdc hr hA e))) hv.2⟩) h)
      · simp only [hA] at h
        obtain ⟨v, hv, hk⟩ := h
        exact first_quiet hcl hnb hz h0 (Region.noSelect_spec hs) fuel listed a w hC hdc (fun j oj hj hne hl hm => (hfr j oj hj hne hl hm).1) hr (.inl ⟨hw, by simpa using hA, hv⟩) (hrec _ _ (.inl hC.set) hk)
    · simp only [hw] at h
      exact first_quiet (A := A) (v := undef) hcl hnb hz h0 (Region.noSelect_spec hs) fuel listed a w hC hdc (fun j oj hj hne hl hm => (hfr j oj hj hne hl hm).1) hr (.inr ⟨by simpa using hw, rfl⟩) (hrec _ _ (.inl hC.set) h)
theorem wp_region_D {id : Nat} {Q : Exit → Act → World → Prop} {a : Act} {w : World} (hm : P.follows .mixedOrders = true) (hB : drawB ops A Z = true) (hN : nowB ops (Region.before ops) A N = true) (hC : C w.drew)
    (h : wd P ops C A N w.drew Z (fun a' w' => Q .normal a' w') (List.range' 0 ops.size) a w.drew) : (Code.region id ops true).wp P Q a w := by
  simp only [drawB, Bool.and_eq_true] at hB
  have hz := ZB_spec hB.1.1.1
  have hdc : DC (Region.before ops) (Array.replicate ops.size false) := fun j k hj => by
    simp only [Array.getD_eq_getD_getElem?, Array.getElem?_replicate] at hj
    split at hj <;> simp at hj
  have hJ : J ops N w.drew C (Array.replicate ops.size false) w.drew := ⟨hC, .inl rfl⟩
  refine wp_region_any hm (wpAny_of_anyD (C := C) (A := A) (Z := Z) hB.1.2 hN hz (Q := fun a' w' => Q .normal a' w') (fun _ _ h => h) _ _ _ _ (.inl hJ) hdc ?_)
  exact anyD_lex hB.1.2 hN hz hB.1.1.2 ops.size 0 _ a _ (.inl hJ) hdc (by omega) hB.2 h
/-! the judgement over slots' facts -/
variable {f : FuncId} {R : Ending → World → Prop} {n : Nat}
def ON (P : Program) (f : FuncId) (R : Ending → World → Prop) (n : Nat) (C : World → Prop) (A N : Nat → Bool) (wI : World) (Z : Nat) (ops : Array Oper) (l : List Nat) (E : Env) (k : List Item) (w : World) : Prop :=
  ∀ a, Sat n E a → wd P ops C A N wI Z (fun a w => Run P f R k a w) l a w
theorem r_drawN (A N : Nat → Bool) (Z : Nat) (C : World → Prop) {id : Nat} {ops : Array Oper} {E : Env} {k : List Item} {w : World} (hm : P.follows .mixedOrders = true) (hB : drawB ops A Z = true) (hN : nowB ops (Region.before ops) A N = true)
    (h : ∀ w1, Ext w w1 → C w1 ∧ ON P f R n C A N w1 Z ops (List.range' 0 ops.size) E k w1) : RunE P f R n E (.code (.region id ops true) :: k) w :=
  fun a ha => run_code (wp_region_D (A := A) (N := N) (C := C) (Z := Z) hm hB hN (h w.drew (Mod.drew _ _)).1 (by
    have := (h w.drew (Mod.drew _ _)).2 a ha
    refine cast ?_ this
    congr
    funext a' w'
    simp))
theorem ON.nil {ops : Array Oper} {E : Env} {k : List Item} {w : World} (h : RunE P f R n E k w) : ON P f R n C A N wI Z ops [] E k w := fun a ha => h a ha
theorem ON.sub {ops : Array Oper} {l : List Nat} {E E' : Env} {k : List Item} {w : World} (h : ON P f R n C A N wI Z ops l E' k w) (hs : Ik.sub E' E) : ON P f R n C A N wI Z ops l E k w := fun a ha => h a (ha.sub hs)
theorem ON.q {ops : Array Oper} {o : Oper} {i : Nat} {l : List Nat} {E : Env} {k : List Item} {w : World} {v : Value} (ho : ops[i]? = some o) (hA : A i = false) (hq : Q1 P o E (CC N wI C i) v)
    (hw : want n ops E o.guard = some true) (hd : dstOk n o.dst = true) (h : ON P f R n C A N wI Z ops l (pu o.dst v E) k w) : ON P f R n C A N wI Z ops (i :: l) E k w := by
  intro a ha
  simp only [wd, dOp, ho, want_spec ha hw, hA, if_true, Bool.false_eq_true, if_false]
  exact ⟨v, hq a ha.has, h _ (ha.put hd v)⟩
theorem ON.qn {ops : Array Oper} {o : Oper} {i : Nat} {l : List Nat} {E : Env} {k : List Item} {w : World} {v : Value} (ho : ops[i]? = some o) (hA : A i = false) (hN : N i = true) (hq : Q1 P o E (fun w' => w' = wI) v)
    (hw : want n ops E o.guard = some true) (hd : dstOk n o.dst = true) (h : ON P f R n C A N wI Z ops l (pu o.dst v E) k w) : ON P f R n C A N wI Z ops (i :: l) E k w :=
  ON.q ho hA (by have : CC N wI C i = fun w' => w' = wI := by funext w'; unfold CC; rw [if_pos hN]
                 rw [this]; exact hq) hw hd h
theorem ON.qc {ops : Array Oper} {o : Oper} {i : Nat} {l : List Nat} {E : Env} {k : List Item} {w : World} {v : Value} (ho : ops[i]? = some o) (hA : A i = false) (hN : N i = false) (hq : Q1 P o E C v)
    (hw : want n ops E o.guard = some true) (hd : dstOk n o.dst = true) (h : ON P f R n C A N wI Z ops l (pu o.dst v E) k w) : ON P f R n C A N wI Z ops (i :: l) E k w :=
  ON.q ho hA (by have : CC N wI C i = C := by funext w'; unfold CC; rw [if_neg (by rw [hN]; simp)]
                 rw [this]; exact hq) hw hd h
theorem ON.qnb {ops : Array Oper} {o : Oper} {i : Nat} {l : List Nat} {E : Env} {k : List Item} {w : World} {b0 : Bool} (ho : ops[i]? = some o) (hA : A i = false) (hN : N i = true) (hq : Q1 P o E (fun w' => w' = wI) (.bool b0))
    (hw : want n ops E o.guard = some true) (hd : dstOk n o.dst = true) (h : ∀ b : Bool, b = b0 → ON P f R n C A N wI Z ops l (pu o.dst (.bool b) E) k w) : ON P f R n C A N wI Z ops (i :: l) E k w := ON.qn ho hA hN hq hw hd (h b0 rfl)
theorem ON.qcb {ops : Array Oper} {o : Oper} {i : Nat} {l : List Nat} {E : Env} {k : List Item} {w : World} {b0 : Bool} (ho : ops[i]? = some o) (hA : A i = false) (hN : N i = false) (hq : Q1 P o E C (.bool b0))
    (hw : want n ops E o.guard = some true) (hd : dstOk n o.dst = true) (h : ∀ b : Bool, b = b0 → ON P f R n C A N wI Z ops l (pu o.dst (.bool b) E) k w) : ON P f R n C A N wI Z ops (i :: l) E k w := ON.qc ho hA hN hq hw hd (h b0 rfl)
theorem ON.sk {ops : Array Oper} {o : Oper} {i : Nat} {l : List Nat} {E : Env} {k : List Item} {w : World} (ho : ops[i]? = some o)
    (hw : want n ops E o.guard = some false) (hd : dstOk n o.dst = true) (h : ON P f R n C A N wI Z ops l (pu o.dst undef E) k w) : ON P f R n C A N wI Z ops (i :: l) E k w := by
  intro a ha
  simp only [wd, dOp, ho, want_spec ha hw, Bool.false_eq_true, if_false]
  exact h _ (ha.put hd undef)
theorem ON.act {ops : Array Oper} {o : Oper} {i : Nat} {l : List Nat} {E : Env} {k : List Item} {w : World} (ho : ops[i]? = some o) (hA : A i = true)
    (hw : want n ops E o.guard = some true) (hd : dstOk n o.dst = true) (ha : AW P o E w (fun v w' => (i = Z ∨ C w') ∧ ON P f R n C A N wI Z ops l (pu o.dst v E) k w')) : ON P f R n C A N wI Z ops (i :: l) E k w := by
  intro a hs
  simp only [wd, dOp, ho, want_spec hs hw, hA, if_true]
  exact out_mono (fun v w' hv => ⟨hv.1, hv.2 _ (hs.put hd v)⟩) (ha a hs.has)
end
end Go.IkN
/-
  strings.Join at a slice that reads as a list: the kit's contract, put in this work's words.
-/
set_option linter.unusedVariables false
set_option linter.unusedSimpArgs false
namespace Go.Ik
open Go Go.Proofs
theorem flat_encJ (l : List Str) : l.flatMap encS = l.map strV := by
  induction l with
  | nil => rfl
  | cons a l ih => simp [encS, ih]
theorem join_own {P : Program} {ρ : Go.Shelf.Ren} (L : Lays.n156 P ρ) (X : Builder.Extra P ρ) {w0 : World} {F : Nat → Prop} {v : Value} {l : List Str} (h : Sl encS w0 F v l) (hne : l ≠ []) (hb : ∀ b, F b → b < w0.heap.size) (hlen : Ml.sumLen l + l.length ≤ 100000000) :
    Calls P (ρ.f 156) #[v, strV [255]] w0 (Ret fun rv w1 => rv = strV (Ml.joinS l) ∧ Ext w0 w1) := by
  obtain ⟨a, cap, rfl, h2, h3, h4⟩ := h
  rcases h4 with h4 | ⟨b, off, rfl, hF, hr⟩
  · exact absurd h4 hne
  · have hj := Ml.joinS_len l
    have hmap : (l.map fun s : Str => (⟨s.toArray⟩ : ByteArray)).map (·.data.toList) = l := by
      rw [List.map_map]
      conv => rhs; rw [← List.map_id l]
      exact List.map_congr_left fun s _ => by simp
    have hc := Any.strings_Join_48 L X b off cap (l.map fun s : Str => (⟨s.toArray⟩ : ByteArray)) ⟨#[255]⟩ w0 (fun j x hx => by
      rw [List.getElem?_map] at hx
      obtain ⟨s, hs, rfl⟩ := Option.map_eq_some_iff.1 hx
      have := hr j (strV s) (by rw [flat_encJ, List.getElem?_map, hs]; rfl)
      exact this) (hb b hF) (by rw [List.length_map]; omega) (by rw [List.length_map]; exact h2) (by
      rw [hmap]
      have : (Ml.joinS l).length ≤ 281474976710656 := by omega
      exact this)
    rw [List.length_map, hmap] at hc
    refine Calls.mono hc ?_
    rintro e w' ⟨rfl, hw⟩
    exact ⟨_, rfl, rfl, Mod.of_below hw⟩
end Go.Ik
