/-
  What walks through package auto ask: rows as lists, written place by place.
-/
import Derived.Test.YtjhbobjjkbppkaaPlLev
import Derived.Test.YtjhbobjjkbppkaaPl1
set_option linter.unusedVariables false
set_option linter.unusedSimpArgs false
namespace Go.Ml
open Go.Ik

def encPos (x : Pos) : List Value := [.int .i64 x.at_, .int .i64 x.dist]
theorem encPos_len (x : Pos) : (encPos x).length = 2 := rfl
theorem encPos_one (x : Pos) : (encPos x).all (·.oneCell') = true := rfl
/-- a row as a list -/
def rowL (n : Nat) (f : Nat → Int) : List Int := (List.range (n + 1)).map f
theorem rowL_len (n : Nat) (f : Nat → Int) : (rowL n f).length = n + 1 := by simp [rowL]
theorem rowL_at {n : Nat} {f : Nat → Int} {i : Nat} {x : Int} (h : (rowL n f)[i]? = some x) : x = f i ∧ i < n + 1 := by
  obtain ⟨hi, h1⟩ := List.getElem?_eq_some_iff.1 h
  rw [rowL_len] at hi
  unfold rowL at h
  rw [List.getElem?_map, List.getElem?_range hi] at h
  exact ⟨by simpa using h.symm, hi⟩
theorem rowL_ext {n : Nat} {f g : Nat → Int} (h : ∀ i, i < n + 1 → f i = g i) : rowL n f = rowL n g := by
  unfold rowL
  exact List.map_congr_left fun i hi => h i (List.mem_range.1 hi)
theorem rowL_set {n : Nat} {f g : Nat → Int} {i : Nat} {x : Int} (hi : i < n + 1) (hx : x = g i) (h : ∀ j, j < n + 1 → j ≠ i → f j = g j) : (rowL n f).set i x = rowL n g := by
  refine List.ext_getElem? fun j => ?_
  unfold rowL
  rw [List.getElem?_set]
  split
  · rename_i e; subst e
    rw [if_pos (by simp; exact hi), List.getElem?_map, List.getElem?_range hi, hx]; rfl
  · rename_i hne
    by_cases hj : j < n + 1
    · rw [List.getElem?_map, List.getElem?_map, List.getElem?_range hj]
      simp [h j hj (fun e => hne e.symm)]
    · rw [List.getElem?_eq_none (by simp; omega), List.getElem?_eq_none (by simp; omega)]
/-! filling with k + 1 -/
theorem fill_start (n : Nat) (k : Int) : List.replicate (n + 1) (0 : Int) = rowL n fun j => if j < 0 then k + 1 else 0 := by
  refine List.ext_getElem (by simp [rowL]) fun i h1 h2 => ?_
  simp [rowL]
theorem fill_step {n i : Nat} {k : Int} {l : List Int} (h : l = rowL n fun j => if j < i then k + 1 else 0) (hi : i < n + 1) : l.set i (k + 1) = rowL n fun j => if j < i + 1 then k + 1 else 0 := by
  rw [h]
  refine rowL_set hi (by simp) fun j hj hne => ?_
  by_cases hji : j < i
  · rw [if_pos hji, if_pos (by omega)]
  · rw [if_neg hji, if_neg (by omega)]
theorem fill_end {n i : Nat} {k : Int} {l : List Int} (h : l = rowL n fun j => if j < i then k + 1 else 0) (hi : n + 1 ≤ i) : l = rowL n (spreadF n k []) := by
  rw [h]
  refine rowL_ext fun j hj => ?_
  rw [if_pos (by omega)]; rfl
/-! spreading one place -/
theorem spread_snoc (n : Nat) (k : Int) (s : List Pos) (p : Pos) (x : Nat) : spreadF n k (s ++ [p]) x = if (0 ≤ p.at_ ∧ p.at_ ≤ (n : Int) ∧ 0 ≤ p.dist ∧ p.dist ≤ k) ∧ max ((x : Int) - p.at_) (p.at_ - (x : Int)) ≤ k then min (spreadF n k s x) (p.dist + max ((x : Int) - p.at_) (p.at_ - (x : Int))) else spreadF n k s x := by
  unfold spreadF; rw [List.foldl_append]; rfl
theorem spread_take {n : Nat} {k : Int} {s : List Pos} {j : Nat} {p : Pos} (hp : s[j]? = some p) (x : Nat) : spreadF n k (s.take (j + 1)) x = if (0 ≤ p.at_ ∧ p.at_ ≤ (n : Int) ∧ 0 ≤ p.dist ∧ p.dist ≤ k) ∧ max ((x : Int) - p.at_) (p.at_ - (x : Int)) ≤ k then min (spreadF n k (s.take j) x) (p.dist + max ((x : Int) - p.at_) (p.at_ - (x : Int))) else spreadF n k (s.take j) x := by
  rw [List.take_add_one, hp]; exact spread_snoc n k _ p x
def spMix (n : Nat) (k : Int) (s : List Pos) (j : Nat) (i : Int) (x : Nat) : Int := if (x : Int) < i then spreadF n k (s.take (j + 1)) x else spreadF n k (s.take j) x
theorem sp_skip {n : Nat} {k : Int} {s : List Pos} {j : Nat} {p : Pos} (hp : s[j]? = some p) (h : p.at_ < 0 ∨ p.at_ > (n : Int) ∨ p.dist < 0 ∨ p.dist > k) : rowL n (spreadF n k (s.take j)) = rowL n (spreadF n k (s.take (j + 1))) := by
  refine rowL_ext fun x _ => ?_
  rw [spread_take hp, if_neg (by omega)]
theorem sp_start {n : Nat} {k : Int} {s : List Pos} {j : Nat} {p : Pos} (hp : s[j]? = some p) {i : Int} (hi : i = max (p.at_ - k) 0) : rowL n (spreadF n k (s.take j)) = rowL n (spMix n k s j i) := by
  refine rowL_ext fun x _ => ?_
  unfold spMix
  split
  · rw [spread_take hp, if_neg (by omega)]
  · rfl
theorem sp_set {n : Nat} {k : Int} {s : List Pos} {j : Nat} {p : Pos} (hp : s[j]? = some p) {i : Int} (h0 : 0 ≤ i) (hin : i ≤ (n : Int)) (hv : 0 ≤ p.at_ ∧ p.at_ ≤ (n : Int) ∧ 0 ≤ p.dist ∧ p.dist ≤ k) (h1 : p.at_ - k ≤ i) (h2 : i ≤ p.at_ + k) {x : Int} (hx : (rowL n (spMix n k s j i))[i.toNat]? = some x) :
    (rowL n (spMix n k s j i)).set i.toNat (min x (p.dist + max (i - p.at_) (p.at_ - i))) = rowL n (spMix n k s j (i + 1)) := by
  obtain ⟨hxe, hlt⟩ := rowL_at hx
  have hi : ((i.toNat : Nat) : Int) = i := by omega
  refine rowL_set hlt ?_ fun y hy hne => ?_
  · rw [hxe]
    unfold spMix
    rw [if_neg (by omega), if_pos (by omega), spread_take hp, if_pos ⟨hv, by omega⟩, hi]
  · unfold spMix
    by_cases h : (y : Int) < i
    · rw [if_pos h, if_pos (by omega)]
    · rw [if_neg h, if_neg (by omega)]
theorem sp_end {n : Nat} {k : Int} {s : List Pos} {j : Nat} {p : Pos} (hp : s[j]? = some p) {i : Int} (h : i > min (p.at_ + k) (n : Int)) : rowL n (spMix n k s j i) = rowL n (spreadF n k (s.take (j + 1))) := by
  refine rowL_ext fun x hx => ?_
  unfold spMix
  split
  · rfl
  · rw [spread_take hp, if_neg (by omega)]
theorem sp_fin {n : Nat} {k : Int} {s : List Pos} {j : Nat} {l : List Int} (h : l = rowL n (spreadF n k (s.take j))) (hj : s.length ≤ j) : l = rowL n (spreadF n k s) := by
  rw [h, List.take_of_length_le hj]
theorem spread_rng {n : Nat} {k : Int} (hk : 0 ≤ k) (s : List Pos) (x : Nat) : 0 ≤ spreadF n k s x ∧ spreadF n k s x ≤ k + 1 := by
  rw [spread_eq]
  refine ⟨foldl_min_ge _ _ _ _ (by omega) fun p hp y hy => ?_, foldl_min_le _ _ _⟩
  unfold posG at hy
  split at hy
  · cases hy; omega
  · cases hy
theorem sp_rng {n : Nat} {k : Int} {s : List Pos} {j : Nat} {i : Int} {x : Nat} (hk : 0 ≤ k) : 0 ≤ spMix n k s j i x ∧ spMix n k s j i x ≤ k + 1 := by
  unfold spMix; split <;> exact spread_rng hk _ _
/-! states, place by place -/
def lessW (n : Nat) (f : Nat → Int) (j : Nat) (i : Int) : Bool := (List.range n).any fun (x : Nat) => (decide (f x < f j) && decide (max ((x : Int) - (j : Int)) ((j : Int) - (x : Int)) ≤ f j - f x)) && decide ((x : Int) < i)
theorem less_start {n : Nat} {f : Nat → Int} {j : Nat} {k i : Int} (hp : ∀ x, 0 ≤ f x) (hj : f j ≤ k) (hi : i = max ((j : Int) - k) 0) : false = lessW n f j i := by
  symm; unfold lessW
  rw [List.any_eq_false]
  intro x hx
  have := hp x
  simp only [Bool.and_eq_true, decide_eq_true_eq, not_and]
  intro h; omega
theorem less_step {n : Nat} {f : Nat → Int} {j : Nat} {i : Int} {b : Bool} (hb : b = lessW n f j i) (h0 : 0 ≤ i) (hn : i < (n : Int)) {c : Bool} (hc : c = (decide (f i.toNat < f j) && decide (max (i - (j : Int)) ((j : Int) - i) ≤ f j - f i.toNat))) : (b || c) = lessW n f j (i + 1) := by
  rw [hb, Bool.eq_iff_iff]
  have hi : ((i.toNat : Nat) : Int) = i := by omega
  unfold lessW
  rw [Bool.or_eq_true, List.any_eq_true, List.any_eq_true]
  constructor
  · rintro (⟨x, hx, h⟩ | h)
    · refine ⟨x, hx, ?_⟩
      simp only [Bool.and_eq_true, decide_eq_true_eq] at h ⊢
      omega
    · refine ⟨i.toNat, List.mem_range.2 (by omega), ?_⟩
      rw [hc] at h
      simp only [Bool.and_eq_true, decide_eq_true_eq] at h ⊢
      rw [hi]; omega
  · rintro ⟨x, hx, h⟩
    simp only [Bool.and_eq_true, decide_eq_true_eq] at h
    by_cases hxi : (x : Int) < i
    · left; refine ⟨x, hx, ?_⟩
      simp only [Bool.and_eq_true, decide_eq_true_eq]; omega
    · right
      have : x = i.toNat := by omega
      subst this
      rw [hc, hi] at *
      simp only [Bool.and_eq_true, decide_eq_true_eq]
      omega
theorem less_end {n : Nat} {f : Nat → Int} {j : Nat} {k i : Int} {b : Bool} (hb : b = lessW n f j i) (hp : ∀ x, 0 ≤ f x) (hj : f j ≤ k) (hi : i > min ((j : Int) + k) ((n : Int) - 1)) : b = lesserM n k f j := by
  rw [hb]
  unfold lessW lesserM
  rw [Bool.eq_iff_iff, List.any_eq_true, List.any_eq_true]
  constructor
  · rintro ⟨x, hx, h⟩
    rw [Bool.and_eq_true] at h
    exact ⟨x, hx, h.1⟩
  · rintro ⟨x, hx, h⟩
    refine ⟨x, hx, ?_⟩
    have h1 := List.mem_range.1 hx
    have := hp x
    rw [Bool.and_eq_true]
    refine ⟨h, ?_⟩
    simp only [Bool.and_eq_true, decide_eq_true_eq] at h ⊢
    omega
def stateT (n : Nat) (k : Int) (f : Nat → Int) (i : Nat) : List Pos := ((List.range i).filter fun (j : Nat) => decide (f j ≤ k) && !lesserM n k f j).map fun (j : Nat) => Pos.mk (j : Int) (f j)
theorem stT_high {n : Nat} {k : Int} {f : Nat → Int} {i : Nat} {l : List Pos} (h : l = stateT n k f i) (hf : f i > k) : l = stateT n k f (i + 1) := by
  rw [h]; unfold stateT
  rw [List.range_succ, List.filter_append, List.filter_cons_of_neg (by simp; omega)]; simp
theorem stT_less {n : Nat} {k : Int} {f : Nat → Int} {i : Nat} {l : List Pos} (h : l = stateT n k f i) (hf : true = lesserM n k f i) : l = stateT n k f (i + 1) := by
  rw [h]; unfold stateT
  rw [List.range_succ, List.filter_append, List.filter_cons_of_neg (by simp [← hf])]; simp
theorem stT_more {n : Nat} {k : Int} {f : Nat → Int} {i : Nat} {l : List Pos} (h : l = stateT n k f i) (hf : ¬ f i > k) (hl : false = lesserM n k f i) {x : Int} (hx : x = f i) : l ++ [Pos.mk (i : Int) x] = stateT n k f (i + 1) := by
  rw [h, hx]; unfold stateT
  rw [List.range_succ, List.filter_append, List.filter_cons_of_pos (by simp [← hl]; omega)]; simp
theorem stT_len (n : Nat) (k : Int) (f : Nat → Int) (i : Nat) : (stateT n k f i).length ≤ i := by
  unfold stateT
  rw [List.length_map]
  exact Nat.le_trans (List.length_filter_le _ _) (by simp)
theorem stF_len (n : Nat) (k : Int) (f : Nat → Int) : (stateF n k f).length ≤ n := stT_len n k f n
/-! a step, place by place -/
def stepMix (n : Nat) (k : Int) (q : List Int) (s : List Pos) (r : Int) (i : Nat) (x : Nat) : Int := if x ≤ i then cstepF k q (spreadF n k s) r x else spreadF n k s x
theorem stp_start {n : Nat} {k : Int} {q : List Int} {s : List Pos} {r x : Int} (hx : (rowL n (spreadF n k s))[0]? = some x) : (rowL n (spreadF n k s)).set 0 (min (x + 1) (k + 1)) = rowL n (stepMix n k q s r 0) := by
  obtain ⟨hxe, hlt⟩ := rowL_at hx
  refine rowL_set hlt ?_ fun j hj hne => ?_
  · rw [hxe]; unfold stepMix; rw [if_pos (Nat.le_refl _)]; rfl
  · unfold stepMix; rw [if_neg (by omega)]
theorem stp_step {n : Nat} {k : Int} {q : List Int} {s : List Pos} {r : Int} {i : Nat} (hi : i + 1 < n + 1) {a b c t : Int} (ha : (rowL n (spreadF n k s))[i + 1]? = some a) (hb : (rowL n (stepMix n k q s r i))[i]? = some b) (hc : (rowL n (spreadF n k s))[i]? = some c) (ht : t = c + if q[i]? = some r then 0 else 1) :
    (rowL n (stepMix n k q s r i)).set (i + 1) (min (min (min (a + 1) (b + 1)) t) (k + 1)) = rowL n (stepMix n k q s r (i + 1)) := by
  obtain ⟨hae, _⟩ := rowL_at ha
  obtain ⟨hbe, _⟩ := rowL_at hb
  obtain ⟨hce, _⟩ := rowL_at hc
  refine rowL_set hi ?_ fun j hj hne => ?_
  · have e : b = cstepF k q (spreadF n k s) r i := by rw [hbe]; unfold stepMix; rw [if_pos (Nat.le_refl _)]
    unfold stepMix
    rw [if_pos (Nat.le_refl _)]
    show _ = min (min (min (spreadF n k s (i + 1) + 1) (cstepF k q (spreadF n k s) r i + 1)) (spreadF n k s i + if q[i]? = some r then 0 else 1)) (k + 1)
    rw [← e, ← hae, ht, hce]
  · unfold stepMix
    by_cases h : j ≤ i
    · rw [if_pos h, if_pos (by omega)]
    · rw [if_neg h, if_neg (by omega)]
theorem stp_fin {n : Nat} {k : Int} {q : List Int} {s : List Pos} {r : Int} {i : Nat} {l : List Int} (h : l = rowL n (stepMix n k q s r i)) (hi : n ≤ i) : l = rowL n (cstepF k q (spreadF n k s) r) := by
  rw [h]
  refine rowL_ext fun j hj => ?_
  unfold stepMix; rw [if_pos (by omega)]
theorem cstep_rng {k : Int} (hk : 0 ≤ k) {q : List Int} {f : Nat → Int} {r : Int} (h : ∀ i, 0 ≤ f i ∧ f i ≤ k + 1) : ∀ i, 0 ≤ cstepF k q f r i ∧ cstepF k q f r i ≤ k + 1
  | 0 => by have := h 0; unfold cstepF; omega
  | i + 1 => by
    have h1 := h (i + 1); have h2 := h i; have h3 := cstep_rng (q := q) (r := r) hk h i
    unfold cstepF; split <;> omega
end Go.Ml
namespace Go.Ml
open Go.Ik
theorem less_go {n : Nat} {f : Nat → Int} {j : Nat} {i : Int} (hb : true = lessW n f j i) (h0 : 0 ≤ i) (hn : i < (n : Int)) : true = lessW n f j (i + 1) := by
  have := less_step (c := (decide (f i.toNat < f j) && decide (max (i - (j : Int)) ((j : Int) - i) ≤ f j - f i.toNat))) hb h0 hn rfl
  rw [Bool.true_or] at this; exact this
theorem less_step' {n : Nat} {f : Nat → Int} {j : Nat} {i x : Int} {b : Bool} (hb : false = lessW n f j i) (h0 : 0 ≤ i) (hn : i < (n : Int)) (hx : x = f i.toNat) (hc : (b = true ∧ x < f j ∧ max (i - (j : Int)) ((j : Int) - i) ≤ f j - x) ∨ (b = false ∧ ¬ (x < f j ∧ max (i - (j : Int)) ((j : Int) - i) ≤ f j - x))) : b = lessW n f j (i + 1) := by
  have := less_step (c := b) hb h0 hn (by
    rw [← hx]
    rcases hc with ⟨h, h1, h2⟩ | ⟨h, h1⟩
    · rw [h, decide_eq_true h1, decide_eq_true h2]; rfl
    · rw [h]
      by_cases h2 : x < f j
      · rw [decide_eq_true h2, decide_eq_false (fun h3 => h1 ⟨h2, h3⟩)]; rfl
      · rw [decide_eq_false h2]; rfl)
  rw [Bool.false_or] at this; exact this
theorem stepMix_rng {n : Nat} {k : Int} {q : List Int} {r : Int} (hk : 0 ≤ k) (s : List Pos) (i x : Nat) : 0 ≤ stepMix n k q s r i x ∧ stepMix n k q s r i x ≤ k + 1 := by
  unfold stepMix
  split
  · exact cstep_rng hk (spread_rng hk s) x
  · exact spread_rng hk s x
theorem isEmpty_len {α : Type} {l : List α} {b : Bool} (h : b = (((l.length : Nat) : Int) == 0)) : b = l.isEmpty := by
  rw [h]; cases l <;> simp
  omega
end Go.Ml
namespace Go.Ml
open Go.Ik
theorem less_stepA {n : Nat} {f : Nat → Int} {j : Nat} {i x y : Int} {b : Bool} (hb : false = lessW n f j i) (h0 : 0 ≤ i) (hn : i < (n : Int)) (hx : x = f i.toNat) (hy : y = f j) (hl : x < y) (hc : b = decide (max (i - (j : Int)) ((j : Int) - i) ≤ y - x)) : b = lessW n f j (i + 1) := by
  refine less_step' hb h0 hn hx ?_
  subst hy
  cases b with
  | true => exact .inl ⟨rfl, hl, of_decide_eq_true hc.symm⟩
  | false => exact .inr ⟨rfl, fun h => (of_decide_eq_false hc.symm) h.2⟩
theorem less_stepB {n : Nat} {f : Nat → Int} {j : Nat} {i x y : Int} (hb : false = lessW n f j i) (h0 : 0 ≤ i) (hn : i < (n : Int)) (hx : x = f i.toNat) (hy : y = f j) (hl : ¬ x < y) : false = lessW n f j (i + 1) :=
  less_step' hb h0 hn hx (.inr ⟨rfl, fun h => hl (hy ▸ h.1)⟩)
end Go.Ml
