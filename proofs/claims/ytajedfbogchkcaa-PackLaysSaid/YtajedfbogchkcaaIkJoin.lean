/-
  strings.Join at a slice that reads as a list: the kit's contract, put in this work's words.
-/
import Derived.Test.YtajedfbogchkcaaMGraph
import Derived.Room.Shelf.Join48
set_option linter.unusedVariables false
set_option linter.unusedSimpArgs false
namespace Go.Ik
open Go Go.Proofs

theorem flat_encS (l : List Str) : l.flatMap encS = l.map strV := by
  induction l with
  | nil => rfl
  | cons a l ih => simp [encS, ih]
theorem join_own {P : Program} {ρ : Go.Shelf.Ren} (L : Lays.n156 P ρ) (X : Builder.Extra P ρ) {w0 : World} {F : Nat → Prop} {v : Value} {l : List Str} (h : Sl encS w0 F v l) (hne : l ≠ []) (hb : ∀ b, F b → b < w0.heap.size) (hlen : Ml.sumLen l + l.length ≤ 100000000) :
    Calls P (ρ.f 156) #[v, strV [255]] w0 (Ret fun rv w1 => rv = strV (Ml.joinS l) ∧ Ext w0 w1) := by
  obtain ⟨a, cap, rfl, h2, h3, h4⟩ := h
  rcases h4 with h4 | ⟨b, off, rfl, hF, hr⟩
  · exact absurd h4 hne
  · have hj := Ml.joinS_len l
    have hmap : (l.map fun s : Str => (⟨s.toArray⟩ : ByteArray)).map (·.data.toList) = l := by
      rw [List.map_map]
      conv => rhs; rw [← List.map_id l]
      exact List.map_congr_left fun s _ => by simp
    have hc := Any.strings_Join_48 L X b off cap (l.map fun s : Str => (⟨s.toArray⟩ : ByteArray)) ⟨#[255]⟩ w0 (fun j x hx => by
      rw [List.getElem?_map] at hx
      obtain ⟨s, hs, rfl⟩ := Option.map_eq_some_iff.1 hx
      have := hr j (strV s) (by rw [flat_encS, List.getElem?_map, hs]; rfl)
      exact this) (hb b hF) (by rw [List.length_map]; omega) (by rw [List.length_map]; exact h2) (by
      rw [hmap]
      have : (Ml.joinS l).length ≤ 281474976710656 := by omega
      exact this)
    rw [List.length_map, hmap] at hc
    refine Calls.mono hc ?_
    rintro e w' ⟨rfl, hw⟩
    exact ⟨_, rfl, rfl, Mod.of_below hw⟩
end Go.Ik
