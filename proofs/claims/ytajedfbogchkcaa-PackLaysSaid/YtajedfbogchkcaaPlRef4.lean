/-
  Chapter 4 as the document answers: putting words where they belong; no program in sight.
-/
import Derived.Test.YtajedfbogchkcaaPlList
import Derived.Test.YtajedfbogchkcaaPlRef1
set_option linter.unusedVariables false
set_option linter.unusedSimpArgs false
namespace Go.Ml
open Go.Ik

def SOk (l : List Str) : Prop := ∀ s ∈ l, s.length ≤ 1000000000
theorem SOk.at {l : List Str} (h : SOk l) {k : Nat} {x : Str} (hx : l[k]? = some x) : x.length ≤ 1000000000 := h x (List.mem_of_getElem? hx)
theorem greatT_short {l : List Str} (h : greatT l = false) : SOk l := by
  intro s hs
  unfold greatT at h
  simp only [Bool.or_eq_false_iff, List.any_eq_false, decide_eq_true_eq] at h
  have := h.2 s hs
  omega
/-! a word where it belongs -/
def putG : Bool → List Str → Str → List Str
  | b, [], w => if b = true then [] else [w]
  | b, x :: r, w =>
    if b = false ∧ Lib.compareBytes x w > 0 then w :: x :: putG true r w
    else if Lib.compareBytes x w = 0 then x :: putG true r w
    else x :: putG b r w
theorem drop_el {l : List Str} {k : Nat} {x : Str} (hx : l[k]? = some x) : l.drop k = x :: l.drop (k + 1) := by
  obtain ⟨h, rfl⟩ := List.getElem?_eq_some_iff.1 hx
  exact List.drop_eq_getElem_cons h
theorem put_in {l out r : List Str} {w x : Str} {k : Nat} {b : Bool} (hi : out ++ putG b (l.drop k) w = r) (hx : l[k]? = some x) (hb : b = false) (hc : Lib.compareBytes x w > 0) : ((out ++ [w]) ++ [x]) ++ putG true (l.drop (k + 1)) w = r := by
  rw [← hi, drop_el hx, putG, if_pos ⟨hb, hc⟩]; simp
theorem put_eq {l out r : List Str} {w x : Str} {k : Nat} {b : Bool} (hi : out ++ putG b (l.drop k) w = r) (hx : l[k]? = some x) (hc : Lib.compareBytes x w = 0) : (out ++ [x]) ++ putG true (l.drop (k + 1)) w = r := by
  rw [← hi, drop_el hx, putG, if_neg (by omega), if_pos hc]; simp
theorem put_on {l out r : List Str} {w x : Str} {k : Nat} {b : Bool} (hi : out ++ putG b (l.drop k) w = r) (hx : l[k]? = some x) (h1 : ¬ (b = false ∧ Lib.compareBytes x w > 0)) (hc : Lib.compareBytes x w ≠ 0) : (out ++ [x]) ++ putG b (l.drop (k + 1)) w = r := by
  rw [← hi, drop_el hx, putG, if_neg h1, if_neg hc]; simp
theorem put_end {l out r : List Str} {w : Str} {k : Nat} (hi : out ++ putG false (l.drop k) w = r) (hk : l.length ≤ k) : out ++ [w] = r := by
  rw [← hi, List.drop_of_length_le hk]; rfl
theorem put_end' {l out r : List Str} {w : Str} {k : Nat} (hi : out ++ putG true (l.drop k) w = r) (hk : l.length ≤ k) : out = r := by
  rw [← hi, List.drop_of_length_le hk]; simp [putG]
def putM (l : List Str) (w : Str) : List Str := putG false l w
theorem putG_true : ∀ (l : List Str) (w : Str), putG true l w = l
  | [], w => rfl
  | x :: r, w => by
    rw [putG, if_neg (by simp), putG_true r w]; simp
theorem putM_mem {l : List Str} {w z : Str} : z ∈ putM l w ↔ z ∈ l ∨ z = w := by
  unfold putM
  induction l with
  | nil => simp [putG]
  | cons x r ih =>
    rw [putG, putG_true]
    split
    · simp only [List.mem_cons]
      constructor
      · rintro (h | h | h) <;> simp [h]
      · rintro ((h | h) | h) <;> simp [h]
    · split
      · rename_i h1 h2
        have := cmp_eq h2
        subst this
        simp only [List.mem_cons]
        constructor
        · intro h; exact .inl h
        · rintro (h | rfl)
          · exact h
          · exact .inl rfl
      · simp only [List.mem_cons, ih, or_assoc]
theorem putM_sorted {l : List Str} {w : Str} (hs : Sorted l) : Sorted (putM l w) := by
  unfold putM
  induction l with
  | nil => simp [putG, Sorted]
  | cons x r ih =>
    have hs' := List.pairwise_cons.1 hs
    rw [putG, putG_true]
    split
    · rename_i h
      have hlt : ltT w x := by
        have := cmp_anti x w
        unfold ltT; omega
      refine List.Pairwise.cons (fun y hy => ?_) hs
      rcases List.mem_cons.1 hy with rfl | hy
      · exact hlt
      · exact lt_trans hlt (hs'.1 y hy)
    · split
      · exact hs
      · rename_i h1 h2
        refine List.Pairwise.cons (fun y hy => ?_) (ih hs'.2)
        rcases putM_mem.1 hy with hy | rfl
        · exact hs'.1 y hy
        · have : ¬ Lib.compareBytes x y > 0 := fun h => h1 ⟨rfl, h⟩
          unfold ltT; omega
theorem putM_len (l : List Str) (w : Str) : (putM l w).length ≤ l.length + 1 := by
  unfold putM
  induction l with
  | nil => simp [putG]
  | cons x r ih =>
    rw [putG, putG_true]
    split
    · simp
    · split
      · simp
      · simp only [List.length_cons]; omega
/-! in order, by putting -/
def foldP (l : List Str) (ws : List Str) : List Str := ws.foldl putM l
theorem foldP_spec : ∀ (ws l : List Str), Sorted l → Sorted (foldP l ws) ∧ (∀ z, z ∈ foldP l ws ↔ z ∈ l ∨ z ∈ ws) ∧ (foldP l ws).length ≤ l.length + ws.length
  | [], l, h => ⟨h, by simp [foldP], by simp [foldP]⟩
  | w :: ws, l, h => by
    have ih := foldP_spec ws (putM l w) (putM_sorted h)
    have hl := putM_len l w
    refine ⟨ih.1, fun z => ?_, ?_⟩
    · show z ∈ foldP (putM l w) ws ↔ _
      rw [ih.2.1, putM_mem, List.mem_cons, or_assoc]
    · show (foldP (putM l w) ws).length ≤ _
      simp only [List.length_cons]; omega
theorem foldP_snoc (l ws : List Str) (x : Str) : foldP l (ws ++ [x]) = putM (foldP l ws) x := by unfold foldP; rw [List.foldl_append]; rfl
theorem sorted_ref (l : List Str) : foldP [] ((l.take 1000).filter word) = sortedM l := by
  have h := foldP_spec ((l.take 1000).filter word) [] List.Pairwise.nil
  have h2 := sortedM_spec l
  exact sorted_ext h.1 h2.1 fun x => by rw [h.2.1, h2.2]; simp
theorem merge_ref {a b : List Str} (ha : Sorted a) (hb : Sorted b) : foldP a b = mergeL a b := by
  have h := foldP_spec b a ha
  exact sorted_ext h.1 (merge_sorted ha hb) fun x => by rw [h.2.1, mem_merge]
theorem sref_yes {l out : List Str} {k : Nat} {x : Str} (hi : out = foldP [] ((l.take k).filter word)) (hx : l[k]? = some x) (hw : word x = true) : putM out x = foldP [] ((l.take (k + 1)).filter word) := by
  rw [filter_take_yes hx hw, foldP_snoc, hi]
theorem sref_no {l out : List Str} {k : Nat} {x : Str} (hi : out = foldP [] ((l.take k).filter word)) (hx : l[k]? = some x) (hw : word x = false) : out = foldP [] ((l.take (k + 1)).filter word) := by
  rw [filter_take_no hx hw, hi]
theorem sref_end {l out : List Str} {k : Nat} (hi : out = foldP [] ((l.take k).filter word)) (hk : l.length ≤ k ∨ k = 1000) (hk2 : k ≤ 1000) : out = sortedM l := by
  rw [hi, ← sorted_ref]
  rcases hk with h | h
  · rw [List.take_of_length_le h, List.take_of_length_le (by omega)]
  · rw [h]
theorem foldP_len (ws : List Str) : (foldP [] ws).length ≤ ws.length := by
  have := (foldP_spec ws [] List.Pairwise.nil).2.2; simpa using this
theorem mref_step {a b out : List Str} {k : Nat} {x : Str} (hi : out = foldP a (b.take k)) (hx : b[k]? = some x) : putM out x = foldP a (b.take (k + 1)) := by
  rw [List.take_add_one, hx]; simp only [Option.toList_some]; rw [foldP_snoc, hi]
theorem mref_end {a b out : List Str} {k : Nat} (hi : out = foldP a (b.take k)) (hk : b.length ≤ k) (ha : Sorted a) (hb : Sorted b) : out = mergeL a b := by
  rw [hi, List.take_of_length_le hk, merge_ref ha hb]
/-! where a word stands, by counting -/
theorem belowW_snoc {l : List Str} {w x : Str} {k : Nat} (hx : l[k]? = some x) : belowW (l.take (k + 1)) w = belowW (l.take k) w + (if Lib.compareBytes x w < 0 then 1 else 0) := by
  unfold belowW
  rw [List.take_add_one, hx, List.countP_append]; simp [List.countP_cons]
theorem rat_yes {l : List Str} {w x : Str} {k n : Nat} (hn : n = belowW (l.take k) w) (hx : l[k]? = some x) (hc : Lib.compareBytes x w < 0) : n + 1 = belowW (l.take (k + 1)) w := by
  rw [belowW_snoc hx, if_pos hc, hn]
theorem rat_no {l : List Str} {w x : Str} {k n : Nat} (hn : n = belowW (l.take k) w) (hx : l[k]? = some x) (hc : ¬ Lib.compareBytes x w < 0) : n = belowW (l.take (k + 1)) w := by
  rw [belowW_snoc hx, if_neg hc, hn]; rfl
theorem rat_found {l : List Str} {w x : Str} {k n : Nat} (hs : Sorted l) (hn : n = belowW (l.take k) w) (hx : l[k]? = some x) (he : x = w) : ((n : Nat) : Int) = ((belowW l w : Nat) : Int) ∧ true = l.contains w := by
  subst he
  refine ⟨?_, (List.contains_iff_mem.2 (List.mem_of_getElem? hx)).symm⟩
  have h : belowW l x = belowW (l.take k) x := by
    unfold belowW
    conv => lhs; rw [← List.take_append_drop k l]
    rw [List.countP_append]
    have h2 : (l.drop k).countP (fun y => decide (Lib.compareBytes y x < 0)) = 0 := by
      rw [List.countP_eq_zero]
      intro a ha hlt
      have hlt : ltT a x := (of_decide_eq_true hlt : Lib.compareBytes a x < 0)
      obtain ⟨j, hj⟩ := List.mem_iff_getElem?.1 ha
      rw [List.getElem?_drop] at hj
      rcases Nat.eq_zero_or_pos j with h0 | h0
      · subst h0
        rw [Nat.add_zero, hx] at hj
        cases hj
        exact lt_irrefl _ hlt
      · exact lt_irrefl _ (lt_trans (sorted_at hs hx hj (by omega)) hlt)
    omega
  rw [hn, h]
theorem rat_end {l : List Str} {w : Str} {k n : Nat} (hn : n = belowW (l.take k) w) (hk : l.length ≤ k) (hno : ∀ x ∈ l.take k, x ≠ w) : ((n : Nat) : Int) = ((belowW l w : Nat) : Int) ∧ false = l.contains w := by
  rw [List.take_of_length_le hk] at hn hno
  refine ⟨by rw [hn], ?_⟩
  cases h : l.contains w with
  | false => rfl
  | true => exact absurd rfl (hno w (List.contains_iff_mem.1 h))
theorem none_step {l : List Str} {w x : Str} {k : Nat} (h : ∀ x ∈ l.take k, x ≠ w) (hx : l[k]? = some x) (hn : x ≠ w) : ∀ x ∈ l.take (k + 1), x ≠ w := by
  intro y hy
  rw [List.take_add_one, hx] at hy
  simp only [Option.toList_some, List.mem_append, List.mem_singleton] at hy
  rcases hy with hy | rfl
  · exact h y hy
  · exact hn
theorem foldP_sub : ∀ (ws l : List Str) (z : Str), z ∈ foldP l ws → z ∈ l ∨ z ∈ ws
  | [], l, z, h => .inl h
  | w :: ws, l, z, h => by
    rcases foldP_sub ws (putM l w) z h with h | h
    · rcases putM_mem.1 h with h | rfl
      · exact .inl h
      · exact .inr (by simp)
    · exact .inr (by simp [h])
theorem sref_ok {l o : List Str} {k : Nat} (h : SOk l) (hi : o = foldP [] ((l.take k).filter word)) : SOk o := by
  intro s hs
  rw [hi] at hs
  rcases foldP_sub _ _ s hs with h1 | h1
  · simp at h1
  · exact h s (List.mem_of_mem_take (List.mem_filter.1 h1).1)
theorem mref_ok {a b o : List Str} {k : Nat} (ha : SOk a) (hb : SOk b) (hi : o = foldP a (b.take k)) : SOk o := by
  intro s hs
  rw [hi] at hs
  rcases foldP_sub _ _ s hs with h1 | h1
  · exact ha s h1
  · exact hb s (List.mem_of_mem_take h1)
end Go.Ml
