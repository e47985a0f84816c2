/-
  The order of texts, lists in order, what is made of two lists in order; no program in sight.
-/
import Derived.Test.YtajedfbogchkcaaPl1
set_option linter.unusedVariables false
set_option linter.unusedSimpArgs false
namespace Go.Ml
open Go.Ik

/-! the order of texts -/
def ltT (a b : Str) : Prop := Lib.compareBytes a b < 0
theorem cmp_refl : ∀ (a : Str), Lib.compareBytes a a = 0
  | [] => rfl
  | a :: x => by unfold Lib.compareBytes; rw [if_neg (by simp), if_neg (by simp)]; exact cmp_refl x
theorem cmp_eq : ∀ {a b : Str}, Lib.compareBytes a b = 0 → a = b
  | [], [], _ => rfl
  | [], _ :: _, h => by simp [Lib.compareBytes] at h
  | _ :: _, [], h => by simp [Lib.compareBytes] at h
  | a :: x, b :: y, h => by
    unfold Lib.compareBytes at h
    split at h
    · simp at h
    · split at h
      · simp at h
      · rename_i h1 h2
        have : a = b := by
          apply UInt8.le_antisymm
          · exact UInt8.not_lt.1 h2
          · exact UInt8.not_lt.1 h1
        rw [this, cmp_eq h]
theorem cmp_anti : ∀ (a b : Str), Lib.compareBytes a b = - Lib.compareBytes b a
  | [], [] => rfl
  | [], _ :: _ => by simp [Lib.compareBytes]
  | _ :: _, [] => by simp [Lib.compareBytes]
  | a :: x, b :: y => by
    unfold Lib.compareBytes
    by_cases h1 : a < b
    · have h2 : ¬ b < a := UInt8.lt_asymm h1
      simp [h1, h2]
    · by_cases h2 : b < a
      · simp [h1, h2]
      · simp only [h1, h2, if_false]; exact cmp_anti x y
theorem lt_trans : ∀ {a b c : Str}, ltT a b → ltT b c → ltT a c
  | [], [], _, h, _ => by simp [ltT, Lib.compareBytes] at h
  | [], _ :: _, [], _, h => by simp [ltT, Lib.compareBytes] at h
  | [], _ :: _, _ :: _, _, _ => by simp [ltT, Lib.compareBytes]
  | _ :: _, [], _, h, _ => by simp [ltT, Lib.compareBytes] at h
  | _ :: _, _ :: _, [], _, h => by simp [ltT, Lib.compareBytes] at h
  | a :: x, b :: y, c :: z, h1, h2 => by
    unfold ltT Lib.compareBytes at *
    by_cases ab : a < b
    · by_cases bc : b < c
      · simp [UInt8.lt_trans ab bc]
      · by_cases cb : c < b
        · simp [bc, cb] at h2
        · have : b = c := UInt8.le_antisymm (UInt8.not_lt.1 cb) (UInt8.not_lt.1 bc)
          subst this; simp [ab]
    · by_cases ba : b < a
      · simp [ab, ba] at h1
      · have : a = b := UInt8.le_antisymm (UInt8.not_lt.1 ba) (UInt8.not_lt.1 ab)
        subst this
        simp only [ab, if_false] at h1
        by_cases bc : a < c
        · simp [bc]
        · by_cases cb : c < a
          · simp [bc, cb] at h2
          · simp only [bc, cb, if_false] at h2 ⊢
            exact lt_trans (a := x) (b := y) (c := z) h1 h2
theorem lt_irrefl (a : Str) : ¬ ltT a a := by unfold ltT; rw [cmp_refl]; omega
theorem lt_tri {a b : Str} (h : ¬ Lib.compareBytes a b < 0) (hn : a ≠ b) : ltT b a := by
  have h1 := cmp_anti b a
  have h2 : Lib.compareBytes a b ≠ 0 := fun e => hn (cmp_eq e)
  unfold ltT; omega
/-- in order, each once -/
def Sorted (l : List Str) : Prop := l.Pairwise ltT
theorem rising_sorted : ∀ {l : List Str}, rising l = true → Sorted l
  | [], _ => List.Pairwise.nil
  | [a], _ => by simp [Sorted]
  | a :: b :: r, h => by
    simp only [rising, Bool.and_eq_true, decide_eq_true_eq] at h
    have ih := rising_sorted h.2
    refine List.Pairwise.cons (fun x hx => ?_) ih
    rcases List.mem_cons.1 hx with rfl | hx
    · exact h.1
    · exact lt_trans h.1 (List.rel_of_pairwise_cons ih hx)
theorem sorted_rising : ∀ {l : List Str}, Sorted l → rising l = true
  | [], _ => rfl
  | [a], _ => rfl
  | a :: b :: r, h => by
    have h' := List.pairwise_cons.1 h
    simp only [rising, Bool.and_eq_true, decide_eq_true_eq]
    exact ⟨h'.1 b (by simp), sorted_rising h'.2⟩
theorem sorted_ext : ∀ {a b : List Str}, Sorted a → Sorted b → (∀ x, x ∈ a ↔ x ∈ b) → a = b
  | [], [], _, _, _ => rfl
  | [], y :: b, _, _, h => by have := (h y).2 (by simp); simp at this
  | x :: a, [], _, _, h => by have := (h x).1 (by simp); simp at this
  | x :: a, y :: b, ha, hb, h => by
    have ha' := List.pairwise_cons.1 ha
    have hb' := List.pairwise_cons.1 hb
    have hxy : x = y := by
      rcases List.mem_cons.1 ((h x).1 (by simp)) with e | hx
      · exact e
      · rcases List.mem_cons.1 ((h y).2 (by simp)) with e | hy
        · exact e.symm
        · exact absurd (lt_trans (ha'.1 y hy) (hb'.1 x hx)) (lt_irrefl x)
    subst hxy
    congr 1
    refine sorted_ext ha'.2 hb'.2 fun z => ⟨fun hz => ?_, fun hz => ?_⟩
    · rcases List.mem_cons.1 ((h z).1 (by simp [hz])) with e | h1
      · subst e; exact absurd (ha'.1 z hz) (lt_irrefl z)
      · exact h1
    · rcases List.mem_cons.1 ((h z).2 (by simp [hz])) with e | h1
      · subst e; exact absurd (hb'.1 z hz) (lt_irrefl z)
      · exact h1
theorem merge_mem : ∀ (n : Nat) (a b : List Str) (z : Str), a.length + b.length ≤ n → (z ∈ mergeL a b ↔ z ∈ a ∨ z ∈ b)
  | n, [], b, z, _ => by rw [merge_nil_left]; simp
  | n, x :: a, [], z, _ => by rw [merge_nil_right]; simp
  | 0, x :: a, y :: b, z, h => by simp at h
  | n + 1, x :: a, y :: b, z, h => by
    simp only [List.length_cons] at h
    rw [mergeL]
    split
    · rw [List.mem_cons, merge_mem n a (y :: b) z (by simp only [List.length_cons]; omega), List.mem_cons (b := x), or_assoc]
    · split
      · rename_i h2; subst h2
        rw [merge_mem n a (x :: b) z (by simp only [List.length_cons]; omega)]
        simp only [List.mem_cons]
        constructor
        · rintro (h | h | h) <;> simp [h]
        · rintro ((h | h) | h | h) <;> simp [h]
      · rw [List.mem_cons, merge_mem n (x :: a) b z (by simp only [List.length_cons]; omega)]
        simp only [List.mem_cons]
        constructor
        · rintro (h | (h | h) | h) <;> simp [h]
        · rintro ((h | h) | h | h) <;> simp [h]
theorem mem_merge {a b : List Str} {z : Str} : z ∈ mergeL a b ↔ z ∈ a ∨ z ∈ b := merge_mem _ a b z (Nat.le_refl _)
theorem merge_sorted' : ∀ (n : Nat) (a b : List Str), a.length + b.length ≤ n → Sorted a → Sorted b → Sorted (mergeL a b)
  | n, [], b, _, _, hb => by rw [merge_nil_left]; exact hb
  | n, x :: a, [], _, ha, _ => by rw [merge_nil_right]; exact ha
  | 0, x :: a, y :: b, h, _, _ => by simp at h
  | n + 1, x :: a, y :: b, h, ha, hb => by
    simp only [List.length_cons] at h
    have ha' := List.pairwise_cons.1 ha
    have hb' := List.pairwise_cons.1 hb
    rw [mergeL]
    split
    · rename_i hc
      refine List.Pairwise.cons (fun z hz => ?_) (merge_sorted' n a (y :: b) (by simp only [List.length_cons]; omega) ha'.2 hb)
      rcases mem_merge.1 hz with hz | hz
      · exact ha'.1 z hz
      · rcases List.mem_cons.1 hz with rfl | hz
        · exact hc
        · exact lt_trans hc (hb'.1 z hz)
    · split
      · exact merge_sorted' n a (y :: b) (by simp only [List.length_cons]; omega) ha'.2 hb
      · rename_i hc hn
        have hlt := lt_tri hc hn
        refine List.Pairwise.cons (fun z hz => ?_) (merge_sorted' n (x :: a) b (by simp only [List.length_cons]; omega) ha hb'.2)
        rcases mem_merge.1 hz with hz | hz
        · rcases List.mem_cons.1 hz with rfl | hz
          · exact hlt
          · exact lt_trans hlt (ha'.1 z hz)
        · exact hb'.1 z hz
theorem merge_sorted {a b : List Str} (ha : Sorted a) (hb : Sorted b) : Sorted (mergeL a b) := merge_sorted' _ a b (Nat.le_refl _) ha hb
theorem merge_len' : ∀ (n : Nat) (a b : List Str), a.length + b.length ≤ n → (mergeL a b).length ≤ a.length + b.length
  | n, [], b, _ => by rw [merge_nil_left]; simp
  | n, x :: a, [], _ => by rw [merge_nil_right]; simp
  | 0, x :: a, y :: b, h => by simp at h
  | n + 1, x :: a, y :: b, h => by
    simp only [List.length_cons] at h ⊢
    rw [mergeL]
    split
    · have := merge_len' n a (y :: b) (by simp only [List.length_cons]; omega)
      simp only [List.length_cons] at this ⊢; omega
    · split
      · have := merge_len' n a (y :: b) (by simp only [List.length_cons]; omega)
        simp only [List.length_cons] at this ⊢; omega
      · have := merge_len' n (x :: a) b (by simp only [List.length_cons]; omega)
        simp only [List.length_cons] at this ⊢; omega
theorem merge_len (a b : List Str) : (mergeL a b).length ≤ a.length + b.length := merge_len' _ a b (Nat.le_refl _)
theorem good_words {l : List Str} (h : goodL l = 0) : l.length ≤ 60 ∧ (∀ w ∈ l, word w = true) ∧ Sorted l := by
  unfold goodL at h
  split at h
  · omega
  · split at h
    · split at h
      · rename_i h1 h2 h3
        exact ⟨by omega, fun w hw => List.all_eq_true.1 h2 w hw, rising_sorted h3⟩
      · omega
    · omega
end Go.Ml
