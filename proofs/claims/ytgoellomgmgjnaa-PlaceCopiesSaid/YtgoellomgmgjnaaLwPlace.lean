/-
  Plain laws of chapter 13: how many shards a worker keeps.
-/
import Derived.Test.YtgoellomgmgjnaaPl1
set_option linter.unusedVariables false
namespace Go.Ml
open Go.Ik

/-- how many of S shards a worker keeps, of W workers and K copies -/
def cnt (W K S : Nat) (w : Int) : Nat := ((List.range S).filter fun s : Nat => ((List.range K).map fun j : Nat => 1 + ((s : Int) + (j : Int)) % (W : Int)).contains w).length

theorem shards_of_may {c : Cfg} (h : may c = true) : shards c = c.cuts.length + 1 := by unfold shards; rw [if_pos h]
theorem copies_of_may {c : Cfg} (h : may c = true) {s : Nat} (hs : s < shards c) : copiesM c (s : Int) = (List.range c.copies.toNat).map fun j : Nat => 1 + ((s : Int) + (j : Int)) % ((c.workers.toNat : Nat) : Int) := by
  have hb := may_bounds h
  unfold copiesM
  rw [if_pos (by simp only [within, Bool.and_eq_true, decide_eq_true_eq]; omega), show ((c.workers.toNat : Nat) : Int) = c.workers from by omega]
theorem keeps_length {c : Cfg} (h : may c = true) (w : Int) : (keepsM c w).length = cnt c.workers.toNat c.copies.toNat (shards c) w := by
  unfold keepsM cnt
  rw [List.length_map]
  congr 1
  apply List.filter_congr
  intro s hs
  rw [copies_of_may h (List.mem_range.1 hs)]

def loF (f : Nat → Nat) : Nat → Int
  | 0 => 100
  | k + 1 => min (loF f k) (f (k + 1) : Int)
def hiF (f : Nat → Nat) : Nat → Int
  | 0 => 0
  | k + 1 => max (hiF f k) (f (k + 1) : Int)
def keepN (c : Cfg) (i : Nat) : Nat := (keepsM c (i : Int)).length
theorem lo_step {c : Cfg} {i : Nat} {lo : Int} (h1 : 1 ≤ i) (h : lo = loF (keepN c) (i - 1)) : min lo (((keepsM c (i : Int)).length : Nat) : Int) = loF (keepN c) (i + 1 - 1) := by
  obtain ⟨k, rfl⟩ : ∃ k, i = k + 1 := ⟨i - 1, by omega⟩
  rw [h]; rfl
theorem hi_step {c : Cfg} {i : Nat} {lo : Int} (h1 : 1 ≤ i) (h : lo = hiF (keepN c) (i - 1)) : max lo (((keepsM c (i : Int)).length : Nat) : Int) = hiF (keepN c) (i + 1 - 1) := by
  obtain ⟨k, rfl⟩ : ∃ k, i = k + 1 := ⟨i - 1, by omega⟩
  rw [h]; rfl
theorem keepN_eq {c : Cfg} (h : may c = true) : keepN c = fun i : Nat => cnt c.workers.toNat c.copies.toNat (shards c) (i : Int) := by
  funext i; exact keeps_length h _

theorem loF_le (f : Nat → Nat) : ∀ k, loF f k ≤ 100
  | 0 => Int.le_refl _
  | k + 1 => by have := loF_le f k; simp only [loF]; omega
def spreadB : Bool :=
  (List.range 6).all fun W => (List.range 4).all fun K => (List.range 7).all fun S =>
    !(decide (1 ≤ W) && decide (1 ≤ K) && decide (K ≤ W) && decide (1 ≤ S)) ||
    (decide (hiF (fun i : Nat => cnt W K S (i : Int)) W - loF (fun i : Nat => cnt W K S (i : Int)) W ≤ (K : Int)) && decide (hiF (fun i : Nat => cnt W K S (i : Int)) W ≥ 1) &&
     decide (0 ≤ loF (fun i : Nat => cnt W K S (i : Int)) W) && decide (hiF (fun i : Nat => cnt W K S (i : Int)) W ≤ 100))
theorem spreadB_ok : spreadB = true := by decide +kernel
theorem spread_fin {c : Cfg} (h : may c = true) {i : Nat} {lo hi : Int} (h1 : 1 ≤ i) (hw : c.workers < (i : Int)) (hi2 : (i : Int) ≤ c.workers + 1) (hlo : lo = loF (keepN c) (i - 1)) (hhi : hi = hiF (keepN c) (i - 1)) :
    hi - lo ≤ c.copies ∧ hi ≥ 1 ∧ 0 ≤ lo ∧ hi ≤ 100 ∧ lo ≤ 100 := by
  have hlo100 : lo ≤ 100 := by rw [hlo]; exact loF_le _ _
  have hb := may_bounds h
  have hs := shards_le c
  have hs1 := shards_of_may h
  have he : i - 1 = c.workers.toNat := by omega
  rw [he, keepN_eq h] at hlo hhi
  have h0 := spreadB_ok
  unfold spreadB at h0
  have h2 := List.all_eq_true.1 (List.all_eq_true.1 (List.all_eq_true.1 h0 c.workers.toNat (List.mem_range.2 (by omega))) c.copies.toNat (List.mem_range.2 (by omega))) (shards c) (List.mem_range.2 (by omega))
  have a1 : decide (1 ≤ c.workers.toNat) = true := decide_eq_true (by omega)
  have a2 : decide (1 ≤ c.copies.toNat) = true := decide_eq_true (by omega)
  have a3 : decide (c.copies.toNat ≤ c.workers.toNat) = true := decide_eq_true (by omega)
  have a4 : decide (1 ≤ shards c) = true := decide_eq_true (by omega)
  rw [a1, a2, a3, a4] at h2
  simp only [Bool.and_self, Bool.not_true, Bool.false_or, Bool.and_eq_true, decide_eq_true_eq] at h2
  rw [← hlo, ← hhi] at h2
  omega
theorem keeps_none {c : Cfg} (h : may c = true) {w : Int} (hw : w ≤ 0 ∨ c.workers < w) : keepsM c w = [] := by
  have hb := may_bounds h
  unfold keepsM
  have : (List.range (shards c)).filter (fun s : Nat => (copiesM c (s : Int)).contains w) = [] := by
    rw [List.filter_eq_nil_iff]
    intro s hs
    rw [copies_of_may h (List.mem_range.1 hs)]
    simp only [List.contains_iff_mem, List.mem_map, not_exists, not_and]
    intro j _ e
    have h1 := Int.emod_nonneg ((s : Int) + (j : Int)) (b := ((c.workers.toNat : Nat) : Int)) (by omega)
    have h2 := Int.emod_lt_of_pos ((s : Int) + (j : Int)) (b := ((c.workers.toNat : Nat) : Int)) (by omega)
    omega
  rw [this]; rfl
end Go.Ml
