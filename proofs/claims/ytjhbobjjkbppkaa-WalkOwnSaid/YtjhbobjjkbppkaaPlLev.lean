/-
  Distances, row by row; states of the automaton as rows that are cut off.
-/
import Derived.Test.YtjhbobjjkbppkaaPlOrd
set_option linter.unusedVariables false
set_option linter.unusedSimpArgs false
namespace Go.Ml
open Go.Ik

/-- a row behind a rune more -/
def stepF (q : List Int) (f : Nat → Int) (r : Int) : Nat → Int
  | 0 => f 0 + 1
  | i + 1 => min (min (f (i + 1) + 1) (stepF q f r i + 1)) (f i + if q[i]? = some r then 0 else 1)
def rowF (q : List Int) (p : List Int) : Nat → Int := p.foldl (stepF q) fun i => (i : Int)
theorem rowF_snoc (q p : List Int) (r : Int) : rowF q (p ++ [r]) = stepF q (rowF q p) r := by unfold rowF; rw [List.foldl_append]; rfl
/-- the distance -/
def lev (q p : List Int) : Int := rowF q p q.length
/-- neighbours part by one at most; nothing is below 0 -/
structure Lip (f : Nat → Int) : Prop where
  pos : ∀ i, 0 ≤ f i
  one : ∀ i, f (i + 1) ≤ f i + 1 ∧ f i ≤ f (i + 1) + 1
theorem step_le {q : List Int} {f : Nat → Int} {r : Int} (h : Lip f) : ∀ i, stepF q f r i ≤ f i + 1
  | 0 => Int.le_refl _
  | i + 1 => by unfold stepF; omega
theorem step_pos {q : List Int} {f : Nat → Int} {r : Int} (h : Lip f) : ∀ i, 0 ≤ stepF q f r i
  | 0 => by have := h.pos 0; unfold stepF; omega
  | i + 1 => by
    have h1 := h.pos (i + 1); have h2 := h.pos i; have h3 := step_pos (q := q) (r := r) h i
    unfold stepF; split <;> omega
theorem Lip.step {q : List Int} {f : Nat → Int} {r : Int} (h : Lip f) : Lip (stepF q f r) := by
  refine ⟨step_pos h, fun i => ⟨by conv => lhs; unfold stepF
                                   omega, ?_⟩⟩
  have h1 := step_le (q := q) (r := r) h i
  have h2 := h.one i
  show stepF q f r i ≤ (min (min (f (i + 1) + 1) (stepF q f r i + 1)) (f i + if q[i]? = some r then 0 else 1)) + 1
  split <;> omega
theorem Lip.id : Lip fun i => (i : Int) := ⟨fun i => by omega, fun i => by constructor <;> omega⟩
theorem lip_row (q : List Int) : ∀ p : List Int, Lip (rowF q p) := by
  intro p
  unfold rowF
  have : ∀ (p : List Int) (f : Nat → Int), Lip f → Lip (p.foldl (stepF q) f) := by
    intro p
    induction p with
    | nil => intro f h; exact h
    | cons r p ih => intro f h; exact ih _ h.step
  exact this p _ Lip.id
theorem lip_far {f : Nat → Int} (h : Lip f) : ∀ (i d : Nat), f (i + d) ≤ f i + d ∧ f i ≤ f (i + d) + d
  | i, 0 => by simp
  | i, d + 1 => by
    have h1 := lip_far h i d
    have h2 := h.one (i + d)
    rw [show i + (d + 1) = i + d + 1 from by omega]
    omega
theorem lip_any {f : Nat → Int} (h : Lip f) (i j : Nat) : f i ≤ f j + max ((i : Int) - j) ((j : Int) - i) := by
  rcases Nat.le_total i j with hij | hij
  · have := (lip_far h i (j - i)).2
    rw [show i + (j - i) = j from by omega] at this
    omega
  · have := (lip_far h j (i - j)).1
    rw [show j + (i - j) = i from by omega] at this
    omega
/-! cut off above 'k' -/
def capF (k : Int) (f : Nat → Int) (i : Nat) : Int := min (f i) (k + 1)
theorem Lip.cap {f : Nat → Int} {k : Int} (hk : 0 ≤ k) (h : Lip f) : Lip (capF k f) := ⟨fun i => by have := h.pos i; unfold capF; omega, fun i => by have := h.one i; unfold capF; omega⟩
/-- the program's step: each number cut off -/
def cstepF (k : Int) (q : List Int) (f : Nat → Int) (r : Int) : Nat → Int
  | 0 => min (f 0 + 1) (k + 1)
  | i + 1 => min (min (min (f (i + 1) + 1) (cstepF k q f r i + 1)) (f i + if q[i]? = some r then 0 else 1)) (k + 1)
theorem cstep_cap (k : Int) (q : List Int) (f : Nat → Int) (r : Int) : ∀ i, cstepF k q (capF k f) r i = capF k (stepF q f r) i
  | 0 => by unfold cstepF capF stepF; omega
  | i + 1 => by
    have ih := cstep_cap k q f r i
    show min (min (min (capF k f (i + 1) + 1) (cstepF k q (capF k f) r i + 1)) (capF k f i + if q[i]? = some r then 0 else 1)) (k + 1) = min (min (min (f (i + 1) + 1) (stepF q f r i + 1)) (f i + if q[i]? = some r then 0 else 1)) (k + 1)
    rw [ih]
    unfold capF
    split <;> omega
/-! states -/
structure Pos where
  at_ : Int
  dist : Int
deriving DecidableEq
/-- is a place overshadowed by another one (within the window)? -/
def lesserM (n : Nat) (k : Int) (f : Nat → Int) (j : Nat) : Bool := (List.range n).any fun (i : Nat) => decide (f i < f j) && decide (max ((i : Int) - (j : Int)) ((j : Int) - (i : Int)) ≤ f j - f i)
def stateF (n : Nat) (k : Int) (f : Nat → Int) : List Pos := ((List.range n).filter fun (j : Nat) => decide (f j ≤ k) && !lesserM n k f j).map fun (j : Nat) => Pos.mk (j : Int) (f j)
/-- a state's row -/
def spreadF (n : Nat) (k : Int) (s : List Pos) (i : Nat) : Int := s.foldl (fun (a : Int) (p : Pos) => if (0 ≤ p.at_ ∧ p.at_ ≤ (n : Int) ∧ 0 ≤ p.dist ∧ p.dist ≤ k) ∧ max ((i : Int) - p.at_) (p.at_ - (i : Int)) ≤ k then min a (p.dist + max ((i : Int) - p.at_) (p.at_ - (i : Int))) else a) (k + 1)
theorem foldl_min_le {α : Type} (g : α → Option Int) : ∀ (l : List α) (a : Int), l.foldl (fun a p => match g p with | some x => min a x | none => a) a ≤ a
  | [], a => Int.le_refl _
  | p :: l, a => by
    rw [List.foldl_cons]
    have := foldl_min_le g l (match g p with | some x => min a x | none => a)
    cases h : g p with
    | none => rw [h] at this; exact this
    | some x => rw [h] at this; simp only at this ⊢; omega
theorem foldl_min_mem {α : Type} (g : α → Option Int) : ∀ (l : List α) (a x : Int) (p : α), p ∈ l → g p = some x → l.foldl (fun a p => match g p with | some x => min a x | none => a) a ≤ x
  | q :: l, a, x, p, hp, hx => by
    rw [List.foldl_cons]
    rcases List.mem_cons.1 hp with rfl | hp
    · have := foldl_min_le g l (match g p with | some x => min a x | none => a)
      rw [hx] at this ⊢; simp only at this ⊢; omega
    · exact foldl_min_mem g l _ x p hp hx
theorem foldl_min_ge {α : Type} (g : α → Option Int) (m : Int) : ∀ (l : List α) (a : Int), m ≤ a → (∀ p ∈ l, ∀ x, g p = some x → m ≤ x) → m ≤ l.foldl (fun a p => match g p with | some x => min a x | none => a) a
  | [], a, h, _ => h
  | p :: l, a, h, hl => by
    rw [List.foldl_cons]
    refine foldl_min_ge g m l _ ?_ fun q hq => hl q (by simp [hq])
    cases hg : g p with
    | none => exact h
    | some x => have := hl p (by simp) x hg; simp only; omega
def posG (n : Nat) (k : Int) (i : Nat) (p : Pos) : Option Int := if (0 ≤ p.at_ ∧ p.at_ ≤ (n : Int) ∧ 0 ≤ p.dist ∧ p.dist ≤ k) ∧ max ((i : Int) - p.at_) (p.at_ - (i : Int)) ≤ k then some (p.dist + max ((i : Int) - p.at_) (p.at_ - (i : Int))) else none
theorem spread_eq (n : Nat) (k : Int) (s : List Pos) (i : Nat) : spreadF n k s i = s.foldl (fun a p => match posG n k i p with | some x => min a x | none => a) (k + 1) := by
  unfold spreadF
  congr 1
  funext a p
  unfold posG
  split <;> rfl
theorem mem_state {n : Nat} {k : Int} {f : Nat → Int} {p : Pos} : p ∈ stateF n k f ↔ ∃ j, j < n ∧ f j ≤ k ∧ lesserM n k f j = false ∧ p = ⟨(j : Int), f j⟩ := by
  unfold stateF
  simp only [List.mem_map, List.mem_filter, List.mem_range, Bool.and_eq_true, decide_eq_true_eq, Bool.not_eq_true']
  constructor
  · rintro ⟨j, ⟨h1, h2, h3⟩, rfl⟩; exact ⟨j, h1, h2, h3, rfl⟩
  · rintro ⟨j, h1, h2, h3, rfl⟩; exact ⟨j, ⟨h1, h2, h3⟩, rfl⟩
/-- from a place one comes to one that is not overshadowed -/
theorem root_of {n : Nat} {k : Int} {f : Nat → Int} (h : Lip f) : ∀ (m i : Nat), f i ≤ m → i < n → ∃ j, j < n ∧ lesserM n k f j = false ∧ f j + max ((i : Int) - j) ((j : Int) - i) = f i
  | 0, i, hm, hi => by
    refine ⟨i, hi, ?_, by omega⟩
    unfold lesserM
    rw [List.any_eq_false]
    intro j hj
    have := h.pos j
    simp only [Bool.and_eq_true, decide_eq_true_eq, not_and]
    intro hlt; omega
  | m + 1, i, hm, hi => by
    by_cases hl : lesserM n k f i = true
    · unfold lesserM at hl
      rw [List.any_eq_true] at hl
      obtain ⟨j, hj, hc⟩ := hl
      simp only [Bool.and_eq_true, decide_eq_true_eq] at hc
      have hjn := List.mem_range.1 hj
      have h1 := lip_any h i j
      obtain ⟨t, ht, htl, hte⟩ := root_of (k := k) h m j (by omega) hjn
      refine ⟨t, ht, htl, ?_⟩
      have h2 := lip_any h i t
      omega
    · exact ⟨i, hi, by simpa using hl, by omega⟩
/-- a state tells its row, cut off -/
theorem spread_state {n : Nat} {k : Int} {f : Nat → Int} (hk : 0 ≤ k) (h : Lip f) {i : Nat} (hi : i < n + 1) : spreadF n k (stateF (n + 1) k f) i = capF k f i := by
  rw [spread_eq]
  have hge : capF k f i ≤ (stateF (n + 1) k f).foldl (fun a p => match posG n k i p with | some x => min a x | none => a) (k + 1) := by
    refine foldl_min_ge _ _ _ _ (by unfold capF; omega) fun p hp x hx => ?_
    obtain ⟨j, h1, h2, h3, rfl⟩ := mem_state.1 hp
    unfold posG at hx
    split at hx
    · cases hx
      have := lip_any h i j
      unfold capF; simp only; omega
    · cases hx
  have hle : (stateF (n + 1) k f).foldl (fun a p => match posG n k i p with | some x => min a x | none => a) (k + 1) ≤ capF k f i := by
    by_cases hc : f i ≤ k
    · obtain ⟨j, h1, h2, h3⟩ := root_of (n := n + 1) (k := k) h (f i).toNat i (by omega) hi
      have hp := h.pos j
      have := foldl_min_mem (posG n k i) (stateF (n + 1) k f) (k + 1) (f i) ⟨(j : Int), f j⟩ (mem_state.2 ⟨j, h1, by omega, h2, rfl⟩) (by
        unfold posG
        rw [if_pos (by simp only; omega)]
        simp only
        rw [h3])
      unfold capF; omega
    · have := foldl_min_le (posG n k i) (stateF (n + 1) k f) (k + 1)
      unfold capF; omega
  omega
/-- a state is told by what is not above 'k' -/
theorem state_cap {n : Nat} {k : Int} (f : Nat → Int) : stateF n k (capF k f) = stateF n k f := by
  unfold stateF
  have hf : ∀ j, (decide (capF k f j ≤ k) && !lesserM n k (capF k f) j) = (decide (f j ≤ k) && !lesserM n k f j) := by
    intro j
    by_cases hj : f j ≤ k
    · have e1 : capF k f j = f j := by unfold capF; omega
      have e2 : lesserM n k (capF k f) j = lesserM n k f j := by
        unfold lesserM
        refine List.any_congr rfl fun i => ?_
        rw [e1]
        by_cases hi : f i ≤ k
        · rw [show capF k f i = f i from by unfold capF; omega]
        · rw [show decide (capF k f i < f j) = false from decide_eq_false (by unfold capF; omega), show decide (f i < f j) = false from decide_eq_false (by omega), Bool.false_and, Bool.false_and]
      rw [e1, e2]
    · rw [show decide (capF k f j ≤ k) = false from decide_eq_false (by unfold capF; omega), show decide (f j ≤ k) = false from decide_eq_false hj]
      rfl
  rw [List.filter_congr fun j _ => hf j]
  refine List.map_congr_left fun j hj => ?_
  have := (List.mem_filter.1 hj).2
  simp only [Bool.and_eq_true, decide_eq_true_eq] at this
  rw [show capF k f j = f j from by unfold capF; omega]
/-! the state behind runes -/
def stateP (q : List Int) (k : Int) (p : List Int) : List Pos := stateF (q.length + 1) k (rowF q p)
theorem stateP_row {q : List Int} {k : Int} (hk : 0 ≤ k) (p : List Int) {i : Nat} (hi : i < q.length + 1) : spreadF q.length k (stateP q k p) i = capF k (rowF q p) i := spread_state hk (lip_row q p) hi
theorem stateP_start {q : List Int} {k : Int} (hk : 0 ≤ k) : stateP q k [] = [⟨0, 0⟩] := by
  unfold stateP stateF
  have hf : ∀ j ∈ List.range (q.length + 1), (decide (rowF q [] j ≤ k) && !lesserM (q.length + 1) k (rowF q []) j) = decide (j = 0) := by
    intro j hj
    by_cases h0 : j = 0
    · subst h0
      have : lesserM (q.length + 1) k (rowF q []) 0 = false := by
        unfold lesserM
        rw [List.any_eq_false]
        intro i hi
        simp only [Bool.and_eq_true, decide_eq_true_eq, not_and]
        intro hlt
        have : ((i : Nat) : Int) < ((0 : Nat) : Int) := hlt
        omega
      rw [this]
      have : rowF q [] 0 = 0 := rfl
      rw [this]
      simp [hk]
    · have : lesserM (q.length + 1) k (rowF q []) j = true := by
        unfold lesserM
        rw [List.any_eq_true]
        refine ⟨0, by simp, ?_⟩
        simp only [Bool.and_eq_true, decide_eq_true_eq]
        have e0 : rowF q [] 0 = 0 := rfl
        have ej : rowF q [] j = (j : Int) := rfl
        rw [e0, ej]
        omega
      rw [this]
      simp [h0]
  rw [List.filter_congr hf]
  have : (List.range (q.length + 1)).filter (fun j => decide (j = 0)) = [0] := by
    rw [List.range_succ_eq_map, List.filter_cons_of_pos (by simp)]
    congr 1
    rw [List.filter_eq_nil_iff]
    intro a ha
    obtain ⟨b, _, rfl⟩ := List.mem_map.1 ha
    simp
  rw [this]
  rfl
/-- behind a rune more -/
theorem stateP_step {q : List Int} {k : Int} (hk : 0 ≤ k) (p : List Int) (r : Int) : stateF (q.length + 1) k (cstepF k q (spreadF q.length k (stateP q k p)) r) = stateP q k (p ++ [r]) := by
  unfold stateP
  rw [rowF_snoc, ← state_cap (stepF q (rowF q p) r)]
  have hc : ∀ i, i < q.length + 1 → cstepF k q (spreadF q.length k (stateP q k p)) r i = capF k (stepF q (rowF q p) r) i := by
    intro i hi
    rw [← cstep_cap]
    have : ∀ i, i < q.length + 1 → cstepF k q (spreadF q.length k (stateP q k p)) r i = cstepF k q (capF k (rowF q p)) r i := by
      intro i
      induction i with
      | zero => intro hi; unfold cstepF; rw [stateP_row hk p hi]
      | succ i ih =>
        intro hi
        show min (min (min (spreadF q.length k (stateP q k p) (i + 1) + 1) (cstepF k q (spreadF q.length k (stateP q k p)) r i + 1)) (spreadF q.length k (stateP q k p) i + if q[i]? = some r then 0 else 1)) (k + 1) = min (min (min (capF k (rowF q p) (i + 1) + 1) (cstepF k q (capF k (rowF q p)) r i + 1)) (capF k (rowF q p) i + if q[i]? = some r then 0 else 1)) (k + 1)
        rw [ih (by omega), stateP_row hk p hi, stateP_row hk p (by omega : i < q.length + 1)]
    exact this i hi
  exact state_congr hc
where
  state_congr {n : Nat} {k : Int} {f g : Nat → Int} (h : ∀ i, i < n → f i = g i) : stateF n k f = stateF n k g := by
    unfold stateF
    have hl : ∀ j, j < n → lesserM n k f j = lesserM n k g j := by
      intro j hj
      unfold lesserM
      rw [Bool.eq_iff_iff, List.any_eq_true, List.any_eq_true]
      constructor
      · rintro ⟨i, hi, hc⟩
        refine ⟨i, hi, ?_⟩
        rw [← h i (List.mem_range.1 hi), ← h j hj]; exact hc
      · rintro ⟨i, hi, hc⟩
        refine ⟨i, hi, ?_⟩
        rw [h i (List.mem_range.1 hi), h j hj]; exact hc
    rw [List.filter_congr fun j hj => by rw [h j (List.mem_range.1 hj), hl j (List.mem_range.1 hj)]]
    refine List.map_congr_left fun j hj => ?_
    have := List.mem_range.1 (List.mem_filter.1 hj).1
    rw [h j this]
/-- no state: everything is above 'k', and stays so -/
theorem row_min {q : List Int} {f : Nat → Int} {r m : Int} (h : ∀ i, i < q.length + 1 → m ≤ f i) : ∀ i, i < q.length + 1 → m ≤ stepF q f r i
  | 0, hi => by have := h 0 hi; unfold stepF; omega
  | i + 1, hi => by
    have h1 := h (i + 1) hi; have h2 := h i (by omega); have h3 := row_min (r := r) h i (by omega)
    unfold stepF; split <;> omega
theorem dead_row {q : List Int} {k : Int} (hk : 0 ≤ k) {p : List Int} (h : stateP q k p = []) : ∀ i, i < q.length + 1 → k + 1 ≤ rowF q p i := by
  intro i hi
  have := stateP_row hk p hi
  rw [h] at this
  have e : spreadF q.length k [] i = k + 1 := rfl
  rw [e] at this
  unfold capF at this; omega
theorem dead_far {q : List Int} {k : Int} {p : List Int} (h : ∀ i, i < q.length + 1 → k + 1 ≤ rowF q p i) : ∀ (u : List Int), k + 1 ≤ lev q (p ++ u) := by
  have key : ∀ (u p : List Int), (∀ i, i < q.length + 1 → k + 1 ≤ rowF q p i) → ∀ i, i < q.length + 1 → k + 1 ≤ rowF q (p ++ u) i := by
    intro u
    induction u with
    | nil => intro p h; simpa using h
    | cons r u ih =>
      intro p h
      have := ih (p ++ [r]) (by rw [rowF_snoc]; exact row_min h)
      rw [List.append_assoc] at this
      exact this
  intro u
  exact key u p h q.length (by omega)
/-- the distance by a state -/
theorem dist_state {q : List Int} {k : Int} (hk : 0 ≤ k) (p : List Int) : spreadF q.length k (stateP q k p) q.length = min (lev q p) (k + 1) := stateP_row hk p (by omega)
theorem lev_pos (q p : List Int) : 0 ≤ lev q p := (lip_row q p).pos _
end Go.Ml
