/-
  Images of words, plainly.
-/
import Derived.Test.YtajedfbogchkcaaPlCrc
import Derived.Test.YtajedfbogchkcaaLwLeast
set_option linter.unusedVariables false
set_option linter.unusedSimpArgs false
namespace Go.Ml
open Go.Ik
theorem gnodes_edges {words : List Str} (h : goodL words = 0) : ∀ x ∈ gnodes words, x.2.length ≤ 60 := by
  have hok := gok_of h
  intro x hx
  rw [gnodes_yes h] at hx
  obtain ⟨y, hy, rfl⟩ := List.mem_map.1 hx
  have h1 := (All2.get (hok.node y hy).1).1
  have h2 := groups_count _ (dropE y.1) (Nat.le_refl _)
  have h3 := dropE_len y.1
  have h4 := graphB_short h y hy
  simp only; omega
theorem gnodes_len {words : List Str} (h : goodL words = 0) : 1 ≤ (gnodes words).length ∧ (gnodes words).length ≤ 2881 := by
  rw [gnodes_yes h, gnOf_len]; exact graphB_len h
theorem body_len {words : List Str} (h : goodL words = 0) : (bodyB (gnodes words)).length ≤ 3000000 := by
  have h1 := edgeCount_le (gnodes_edges h)
  have h2 := (gnodes_len h).2
  have h3 : (gnodes words).length * 60 ≤ 2881 * 60 := Nat.mul_le_mul_right _ h2
  rw [bodyB_len]; omega
theorem encA_len {g : List GN} (h : (bodyB g).length ≤ 3000000) : (encA g).length ≤ 3000010 := by
  unfold encA
  split
  · simp
  · rw [encB_len]; rw [bodyB_len] at h; omega
theorem encA_lenE (g : List GN) (h : (bodyB g).length ≤ 3000000) : (encA g).length ≤ 3000010 := encA_len h
theorem gnodes_nn {words : List Str} (h : goodL words = 0) : gnodes words ≠ [] := by
  intro e
  have := (gnodes_len h).1
  rw [e] at this; simp at this
theorem encA_img {words : List Str} (h : goodL words = 0) : encA (gnodes words) = imgM words := by
  unfold imgM; rw [if_pos h, encA_yes (gnodes_nn h)]
theorem errA_img {words : List Str} (h : goodL words = 0) : errA (gnodes words) = goodL words := by
  rw [h]; exact (errA_yes (gnodes_nn h)).symm
theorem imgM_len (words : List Str) : (imgM words).length ≤ 3000010 := by
  unfold imgM
  split
  · rename_i h
    rw [← encA_yes (gnodes_nn h)]; exact encA_len (body_len h)
  · simp
theorem enc_img {words : List Str} (h : goodL words = 0) : encB_ (gnodes words) = imgM words := by unfold imgM; rw [if_pos h]
end Go.Ml
