/-
  Plain laws of chapter 13: keepers of a shard, all words of the shards.
-/
import Derived.Test.YtgoellomgmgjnaaLwPlace
import Derived.Test.YtgoellomgmgjnaaPlOrd
set_option linter.unusedVariables false
namespace Go.Ml
open Go.Ik
/-! all words of the shards -/
def allM (c : Cfg) : Nat → List Str
  | 0 => []
  | k + 1 => mergeL (allM c k) (wordsM c (k : Int))
theorem words_len (c : Cfg) (s : Int) : (wordsM c s).length ≤ c.words.length := List.length_filter_le _ _
theorem allM_len {c : Cfg} (h : may c = true) : ∀ k, (allM c k).length ≤ 60 * k
  | 0 => by simp [allM]
  | k + 1 => by
    have h1 := merge_len (allM c k) (wordsM c (k : Int))
    have h2 := allM_len h k
    have h3 := words_len c (k : Int)
    have h4 := may_words h
    simp only [allM]; omega
theorem may_good {c : Cfg} (h : may c = true) : goodL c.words = 0 := by
  simp only [may, Bool.and_eq_true, beq_iff_eq] at h; exact h.1.1
theorem allM_sorted {c : Cfg} (h : may c = true) : ∀ k, Sorted (allM c k)
  | 0 => List.Pairwise.nil
  | k + 1 => merge_sorted (allM_sorted h k) (List.Pairwise.filter _ (good_words (may_good h)).2.2)
theorem allM_mem {c : Cfg} (z : Str) : ∀ k, z ∈ allM c k ↔ ∃ s : Nat, s < k ∧ z ∈ wordsM c (s : Int)
  | 0 => by simp [allM]
  | k + 1 => by
    rw [allM, mem_merge, allM_mem z k]
    constructor
    · rintro (⟨s, h1, h2⟩ | h)
      · exact ⟨s, by omega, h2⟩
      · exact ⟨k, by omega, h⟩
    · rintro ⟨s, h1, h2⟩
      by_cases e : s = k
      · subst e; exact .inr h2
      · exact .inl ⟨s, by omega, h2⟩
theorem allM_all {c : Cfg} (h : may c = true) : allM c (shards c) = c.words := by
  have hg := good_words (may_good h)
  refine sorted_ext (allM_sorted h _) hg.2.2 fun z => ?_
  rw [allM_mem]
  constructor
  · rintro ⟨s, _, hs⟩; exact (List.mem_filter.1 hs).1
  · intro hz
    have hw := hg.2.1 z hz
    have he : ofM c.cuts z = (belowN c.cuts ⟨lenT z, z⟩ : Int) := by unfold ofM; rw [if_pos hw]
    refine ⟨belowN c.cuts ⟨lenT z, z⟩, ?_, List.mem_filter.2 ⟨hz, slP_yes (by omega) he⟩⟩
    have := belowN_le c.cuts ⟨lenT z, z⟩
    rw [shards_of_may h]; omega

/-! keepers -/
theorem copies_len {c : Cfg} (h : may c = true) {s : Nat} (hs : (s : Int) < (shards c : Int)) : ((copiesM c (s : Int)).length : Int) = c.copies := by
  have hb := may_bounds h
  rw [copies_of_may h (by omega)]; simp; omega
theorem copies_at {c : Cfg} (h : may c = true) {s i : Nat} {x : Int} (hs : (s : Int) < (shards c : Int)) (hx : (copiesM c (s : Int))[i]? = some x) :
    x = 1 + ((s : Int) + (i : Int)) % c.workers ∧ 1 ≤ x ∧ x ≤ c.workers ∧ (i : Int) < c.copies := by
  have hb := may_bounds h
  rw [copies_of_may h (by omega), List.getElem?_map] at hx
  have hi : i < c.copies.toNat := by
    rcases Nat.lt_or_ge i c.copies.toNat with h | h
    · exact h
    · rw [List.getElem?_eq_none (by simpa using h)] at hx; simp at hx
  rw [List.getElem?_range hi] at hx
  simp only [Option.map_some, Option.some.injEq] at hx
  have e : ((c.workers.toNat : Nat) : Int) = c.workers := by omega
  rw [e] at hx
  have h1 := Int.emod_nonneg ((s : Int) + (i : Int)) (b := c.workers) (by omega)
  have h2 := Int.emod_lt_of_pos ((s : Int) + (i : Int)) (b := c.workers) (by omega)
  omega
theorem copies_ne {c : Cfg} (h : may c = true) {s i j : Nat} {x y : Int} (hs : (s : Int) < (shards c : Int)) (hx : (copiesM c (s : Int))[i]? = some x) (hy : (copiesM c (s : Int))[j]? = some y) (hij : j < i) : x ≠ y := by
  have hb := may_bounds h
  have h1 := copies_at h hs hx
  have h2 := copies_at h hs hy
  have hw : c.workers = 1 ∨ c.workers = 2 ∨ c.workers = 3 ∨ c.workers = 4 ∨ c.workers = 5 := by omega
  rcases hw with e | e | e | e | e <;> rw [e] at h1 h2 <;> omega
theorem keeps_at {c : Cfg} {w : Int} {i : Nat} {x : Int} (hx : (keepsM c w)[i]? = some x) : ∃ s : Nat, x = (s : Int) ∧ s < shards c ∧ (copiesM c (s : Int)).contains w = true := by
  have hm := List.mem_of_getElem? hx
  unfold keepsM at hm
  obtain ⟨s, hs, rfl⟩ := List.mem_map.1 hm
  have := List.mem_filter.1 hs
  exact ⟨s, rfl, List.mem_range.1 this.1, this.2⟩
theorem keeps_rg {c : Cfg} {w : Int} {i : Nat} {x : Int} (hx : (keepsM c w)[i]? = some x) : 0 ≤ x ∧ x ≤ 5 := by
  obtain ⟨s, rfl, h, _⟩ := keeps_at hx
  have := shards_le c; omega
theorem keeps_in {c : Cfg} {w : Int} {i j : Nat} {x : Int} {b : Bool} (hx : (keepsM c w)[i]? = some x) (hb : b = ((copiesM c x).take j).contains w) (hj : (copiesM c x).length ≤ j) : b = true := by
  obtain ⟨s, rfl, _, h⟩ := keeps_at hx
  rw [hb, List.take_of_length_le hj, h]
theorem keeps_sorted (c : Cfg) (w : Int) : (keepsM c w).Pairwise (· < ·) := by
  unfold keepsM
  rw [List.pairwise_map]
  refine List.Pairwise.filter _ ?_
  exact List.Pairwise.imp (fun h => by omega) List.pairwise_lt_range
theorem keeps_lt {c : Cfg} {w : Int} {i j : Nat} {x y : Int} (hx : (keepsM c w)[j]? = some x) (hy : (keepsM c w)[i]? = some y) (hij : j < i) : x < y := by
  obtain ⟨h1, rfl⟩ := List.getElem?_eq_some_iff.1 hx
  obtain ⟨h2, rfl⟩ := List.getElem?_eq_some_iff.1 hy
  exact List.pairwise_iff_getElem.1 (keeps_sorted c w) _ _ h1 h2 hij
theorem in_yes {l : List Int} {j : Nat} {w : Int} (h : true = (l.take j).contains w) : true = (l.take (j + 1)).contains w := by
  rw [List.take_add_one]; simp at h ⊢; exact .inl h
theorem in_step {l : List Int} {j : Nat} {x w : Int} {b : Bool} (hx : l[j]? = some x) (h : false = (l.take j).contains w) (hb : b = (x == w)) : b = (l.take (j + 1)).contains w := by
  rw [List.take_add_one, hx, hb]
  have h := h.symm
  simp only [List.contains_eq_mem, decide_eq_false_iff_not] at h
  by_cases e : x = w
  · simp [e]
  · have e' : ¬ w = x := fun z => e z.symm
    simp [e, e', h]
def sumN (f : Nat → Nat) : Nat → Nat
  | 0 => 0
  | k + 1 => sumN f k + f (k + 1)
theorem sum_step {c : Cfg} {i n : Nat} (h1 : 1 ≤ i) (h : n = sumN (keepN c) (i - 1)) : n + (keepsM c (i : Int)).length = sumN (keepN c) (i + 1 - 1) := by
  obtain ⟨k, rfl⟩ : ∃ k, i = k + 1 := ⟨i - 1, by omega⟩
  rw [h]; rfl
def sumB : Bool :=
  (List.range 6).all fun W => (List.range 4).all fun K => (List.range 7).all fun S =>
    !(decide (1 ≤ W) && decide (1 ≤ K) && decide (K ≤ W) && decide (1 ≤ S)) ||
    decide (sumN (fun i : Nat => cnt W K S (i : Int)) W = K * S)
theorem sumB_ok : sumB = true := by decide +kernel
theorem sum_fin {c : Cfg} (h : may c = true) {i n : Nat} (h1 : 1 ≤ i) (hw : c.workers < (i : Int)) (hi2 : (i : Int) ≤ c.workers + 1) (hn : n = sumN (keepN c) (i - 1)) :
    (n : Int) = c.copies * (shards c : Int) ∧ 0 ≤ c.copies * (shards c : Int) ∧ c.copies * (shards c : Int) ≤ 18 := by
  have hb := may_bounds h
  have hs := shards_le c
  have hs1 := shards_of_may h
  have he : i - 1 = c.workers.toNat := by omega
  rw [he, keepN_eq h] at hn
  have h0 := sumB_ok
  unfold sumB at h0
  have h2 := List.all_eq_true.1 (List.all_eq_true.1 (List.all_eq_true.1 h0 c.workers.toNat (List.mem_range.2 (by omega))) c.copies.toNat (List.mem_range.2 (by omega))) (shards c) (List.mem_range.2 (by omega))
  have a1 : decide (1 ≤ c.workers.toNat) = true := decide_eq_true (by omega)
  have a2 : decide (1 ≤ c.copies.toNat) = true := decide_eq_true (by omega)
  have a3 : decide (c.copies.toNat ≤ c.workers.toNat) = true := decide_eq_true (by omega)
  have a4 : decide (1 ≤ shards c) = true := decide_eq_true (by omega)
  rw [a1, a2, a3, a4] at h2
  simp only [Bool.and_self, Bool.not_true, Bool.false_or, decide_eq_true_eq] at h2
  rw [← hn] at h2
  have hc : c.copies = (c.copies.toNat : Int) := by omega
  have h3 : c.copies * (shards c : Int) = (n : Int) := by rw [h2, hc]; simp
  have h4 : c.copies.toNat * shards c ≤ 3 * 6 := Nat.mul_le_mul (by omega) hs
  omega
theorem keepsM_len (c : Cfg) (w : Int) : (keepsM c w).length ≤ shards c := by
  unfold keepsM
  rw [List.length_map]
  exact Nat.le_trans (List.length_filter_le _ _) (by simp)
theorem nbeq_lit {a b : Int} (h : a = b) : (!(a == b)) = false := by rw [h]; simp
end Go.Ml
