/-
  slices.SortFunc and slices.Compact at a slice of texts of the call's own, out of the kit's contracts; what they make of it.
-/
import Derived.Test.YtajedfbogchkcaaPlOrd
import Derived.Shelf.SlSortCmp.NoneTotal
import Derived.Shelf.SlicesE.Compact
set_option linter.unusedVariables false
set_option linter.unusedSimpArgs false
namespace Go.Ik
open Go Go.Proofs Go.Shelf Go.RowKit Go.Lib Go.Sort

theorem flat_encS : ∀ l : List Str, l.flatMap encS = l.map strV
  | [] => rfl
  | a :: l => by rw [List.flatMap_cons, flat_encS l]; rfl
theorem strV_one : OneCell strV := fun _ => rfl

/-- a row of the call's own that is laid anew -/
theorem putRow_own {w : World} {b : Nat} {cur : Array Value} {e : TypeId} (hb : w.heap[b]? = some (.cells cur e (0, 0))) (n : Nat) (os : Array Obj) (d : Array Str) :
    (grow (putRow strV (Sort.ahead w n) b 0 d) os).heap[b]? = some (.cells (putCells strV 0 d cur) e (0, 0)) ∧ Mod (Mg (b + 1)) w (grow (putRow strV (Sort.ahead w n) b 0 d) os) := by
  have hlt : b < w.heap.size := (Array.getElem?_eq_some_iff.1 hb).1
  have hh : (grow (putRow strV (Sort.ahead w n) b 0 d) os).heap = w.heap.modify b (onCells (putCells strV 0 d)) ++ os := rfl
  refine ⟨?_, rfl, rfl, rfl, ?_, ?_⟩
  · rw [hh, Array.getElem?_append_left (by simpa using hlt), Array.getElem?_modify, if_pos rfl, hb]; rfl
  · rw [hh]; simp
  · intro k o hk hn
    have hkl : k < w.heap.size := (Array.getElem?_eq_some_iff.1 hk).1
    rw [hh, Array.getElem?_append_left (by simpa using hkl), Array.getElem?_modify, if_neg (fun e => hn (by unfold Mg; omega))]
    exact hk

theorem putCells_take {d : Array Str} {cur : Array Value} (h : d.size ≤ cur.size) (m : Nat) (hm : m ≤ d.size) : (putCells strV 0 d cur).toList.take m = (d.toList.take m).map strV := by
  apply List.ext_getElem?
  intro i
  rw [List.getElem?_take, List.getElem?_map, List.getElem?_take]
  by_cases hi : i < m
  · rw [if_pos hi, if_pos hi]
    have h1 : i < d.size := by omega
    have h2 : i < cur.size := by omega
    have : (putCells strV 0 d cur)[i]? = some (strV d[i]!) := by
      unfold putCells
      rw [Array.getElem?_mapIdx, Array.getElem?_eq_getElem h2, Option.map_some, if_pos ⟨by omega, by omega⟩]; rfl
    rw [Array.getElem?_toList, this, Array.getElem?_toList, Array.getElem?_eq_getElem h1, Option.map_some, getElem!_pos d i h1]
  · rw [if_neg hi, if_neg hi]; rfl

theorem holds_own {w : World} {b : Nat} {cur : Array Value} {e : TypeId} {l : List Str} (hb : w.heap[b]? = some (.cells cur e (0, 0))) (ht : cur.toList.take l.length = l.map strV) : Holds strV w b 0 l.toArray := by
  intro j hj
  have hj' : j < l.length := by simpa using hj
  refine ⟨?_, by simp [World.frozen?, hb]⟩
  rw [cell_of_row w b (0 + j) cur e (0, 0) hb]
  have h1 : (cur.toList.take l.length)[j]? = (l.map strV)[j]? := by rw [ht]
  rw [List.getElem?_take, if_pos hj', List.getElem?_map, List.getElem?_eq_getElem hj'] at h1
  simp only [Option.map_some, Array.getElem?_toList] at h1
  rw [Nat.zero_add, h1]
  simp [hj']

def sortL (l : List Str) : List Str := l.mergeSort fun x y => !(ltOf Lib.compareBytes) y x
theorem swo_cmp : SWO (ltOf Lib.compareBytes) where
  irrefl x := by unfold ltOf; rw [Ml.cmp_refl]; rfl
  trans x y z h1 h2 := by
    unfold ltOf at *
    simp only [decide_eq_true_eq] at *
    exact Ml.lt_trans h1 h2
  ntrans x y z h1 h2 := by
    unfold ltOf at *
    simp only [decide_eq_false_iff_not] at *
    intro h
    by_cases e1 : x = y
    · subst e1; exact h2 h
    · by_cases e2 : y = z
      · subst e2; exact h1 h
      · exact h1 (Ml.lt_trans h (Ml.lt_tri h2 e2))

theorem sort_own {P : Program} {ρ : Ren} (L : SlLaysF.n6 P ρ) (g : Nat) (eg : ∀ args w, (callFunc g args).run P w = .ok (.enter g args) w)
    (hc : ∀ (w0 : World) (a b : Str), Calls P g #[strV a, strV b] w0 (Ret fun rv w1 => rv = .int .i64 (Lib.compareBytes a b) ∧ w1 = w0))
    {w0 : World} {gb : Nat} {v : Value} {l : List Str} {e : TypeId} (h : Acc encS e 1 w0 gb v l) (hlen : l.length ≤ 1000000) :
    Calls P (ρ.f 6) #[v, .func (.func g) #[] #[]] w0 (Ret fun rv w1 => rv = .tuple #[] ∧ Acc encS e 1 w1 gb v (sortL l) ∧ Mod (Mg gb) w0 w1) := by
  have hn : (sortL l).length = l.length := by unfold sortL; exact List.length_mergeSort _
  by_cases h0 : l = []
  · subst h0
    have hv : ∃ p cap, v = .slice p 0 cap := by
      rcases h with ⟨rfl, _⟩ | ⟨b, cap, cur, _, rfl, _⟩
      · exact ⟨_, _, rfl⟩
      · exact ⟨_, _, rfl⟩
    obtain ⟨p, cap, rfl⟩ := hv
    refine (AnyF.slices_SortFunc_none (P := P) (ρ := ρ) { L with } p cap (.func (.func g) #[] #[]) w0).mono ?_
    rintro e' w' ⟨rfl, rfl⟩
    exact ⟨_, rfl, rfl, by simpa [sortL] using h, Mod.refl _ _⟩
  · rcases h with ⟨_, h, _⟩ | ⟨b, cap, cur, rfl, rfl, hb, hcap, hm, hsz, ht⟩
    · exact absurd h h0
    · rw [Nat.mul_one] at hsz ht
      have ht' : cur.toList.take l.length = l.map strV := by rw [ht, flat_encS]
      have hd : l.toArray.size = l.length := by simp
      have hlay : CmpLays1 P g #[] strV Lib.compareBytes b 0 l.toArray.size w0 := by
        intro m os dk hs x y
        refine (hc _ x y).mono ?_
        rintro e' w' ⟨rv, rfl, rfl, rfl⟩
        exact ⟨rfl, 0, #[], by rw [grow_empty]; rfl⟩
      have hcon := Any.slices_SortFunc_total L strV strV_one Lib.compareBytes swo_cmp g #[] b 0 cap l.toArray w0 eg hlay (holds_own hb ht') (Array.getElem?_eq_some_iff.1 hb).1 (by simp; omega) (by
        intro x y h1 h2
        unfold ltOf at h1 h2
        simp only [decide_eq_false_iff_not] at h1 h2
        apply Classical.byContradiction
        intro hne
        exact h2 (Ml.lt_tri h1 hne))
      rw [hd] at hcon
      refine hcon.mono ?_
      rintro e' w' ⟨rfl, n, os, rfl⟩
      obtain ⟨p1, p2⟩ := putRow_own hb n os (sortL l).toArray
      refine ⟨_, rfl, rfl, .inr ⟨b, cap, _, rfl, by rw [hn], p1, by omega, hm, ?_, ?_⟩, p2⟩
      · simp [putCells, hsz]
      · rw [Nat.mul_one]
        have := putCells_take (d := (sortL l).toArray) (cur := cur) (by simp [hn]; omega) (sortL l).length (by simp)
        rw [this, flat_encS]
        simp

theorem compact_own {P : Program} {ρ : Ren} (L : SlLaysE.n43 P ρ) (v23 : ∀ w, (zeroValue (ρ.t 23)).run P w = .ok (strV []) w) 
    {w0 : World} {gb : Nat} {v : Value} {l : List Str} {e : TypeId} (h : Acc encS e 1 w0 gb v l) (hl : v ≠ .slice none 0 0) (hlen : l.length ≤ 1000000) :
    Calls P (ρ.f 43) #[v] w0 (Ret fun rv w1 => Acc encS e 1 w1 gb rv (compactUpTo l.toArray l.length) ∧ Mod (Mg gb) w0 w1) := by
  rcases h with ⟨h, _, _⟩ | ⟨b, cap, cur, rfl, rfl, hb, hcap, hm, hsz, ht⟩
  · exact absurd h hl
  · rw [Nat.mul_one] at hsz ht
    have ht' : cur.toList.take l.length = l.map strV := by rw [ht, flat_encS]
    have hd : l.toArray.size = l.length := by simp
    have hinj : ∀ x y : Str, ((⟨x.toArray⟩ : ByteArray).toList == (⟨y.toArray⟩ : ByteArray).toList) = decide (x = y) := by
      intro x y; rw [toList_mk, toList_mk]; by_cases h : x = y <;> simp [h]
    have heq : EqlAt P (ρ.t 23) strV (fun x y => decide (x = y)) := ⟨fun x y w => by
      have := (EqlAt.string P (ρ.t 23)).1 ⟨x.toArray⟩ ⟨y.toArray⟩ w
      simp only [hinj] at this; exact this, fun op a b x y w => (EqlAt.string P (ρ.t 23)).2 op a b ⟨x.toArray⟩ ⟨y.toArray⟩ w⟩
    have hne : NeqAt P (ρ.t 23) strV (fun x y => decide (x = y)) := ⟨fun x y w => by
      have := (NeqAt.string P (ρ.t 23)).1 ⟨x.toArray⟩ ⟨y.toArray⟩ w
      simp only [hinj] at this; exact this, fun op a b x y w => (NeqAt.string P (ρ.t 23)).2 op a b ⟨x.toArray⟩ ⟨y.toArray⟩ w⟩
    have hcon := AnyE.slices_Compact L strV strV_one heq hne [] v23 b 0 cap l.toArray w0 (holds_own hb ht') (by simp; omega) (by simp; omega)
    rw [hd] at hcon
    have hcl : (compactUpTo l.toArray l.length).length ≤ l.length := by
      unfold compactUpTo
      rw [List.length_map]
      exact Nat.le_trans (List.length_filter_le _ _) (by simp)
    refine hcon.mono ?_
    rintro e' w' ⟨rfl, n, rfl⟩
    obtain ⟨p1, p2⟩ := putRow_own hb n #[] (compactUpTo l.toArray l.length ++ List.replicate (l.length - (compactUpTo l.toArray l.length).length) []).toArray
    rw [grow_empty] at p1 p2
    refine ⟨_, rfl, .inr ⟨b, cap, _, rfl, rfl, p1, by omega, hm, ?_, ?_⟩, p2⟩
    · simp [putCells, hsz]
    · rw [Nat.mul_one]
      have := putCells_take (d := (compactUpTo l.toArray l.length ++ List.replicate (l.length - (compactUpTo l.toArray l.length).length) []).toArray) (cur := cur) (by simp; omega) (compactUpTo l.toArray l.length).length (by simp)
      rw [this, flat_encS]
      simp

theorem sortL_mem {l : List Str} {x : Str} : x ∈ sortL l ↔ x ∈ l := List.mem_mergeSort
theorem sortL_sorted (l : List Str) : (sortL l).Pairwise fun a b => ¬ Lib.compareBytes b a < 0 := by
  have h := List.pairwise_mergeSort (le := fun x y => !(ltOf Lib.compareBytes) y x) (fun a b c h1 h2 => by
    simp only [Bool.not_eq_true'] at *
    exact swo_cmp.ntrans _ _ _ h2 h1) (fun a b => by
    simp only [Bool.or_eq_true, Bool.not_eq_true']
    cases h : ltOf Lib.compareBytes b a with
    | false => exact .inl rfl
    | true =>
      refine .inr ?_
      cases h2 : ltOf Lib.compareBytes a b with
      | false => rfl
      | true =>
        have := swo_cmp.trans _ _ _ h h2
        rw [swo_cmp.irrefl] at this; cases this) l
  refine h.imp ?_
  intro a b hab
  unfold ltOf at hab
  simpa using hab

theorem compact_upTo {l : List Str} (hs : l.Pairwise fun a b => ¬ Lib.compareBytes b a < 0) : ∀ m, m ≤ l.length → Ml.Sorted (compactUpTo l.toArray m) ∧ (∀ x, x ∈ compactUpTo l.toArray m ↔ x ∈ l.take m) ∧
    (∀ k, m = k + 1 → ∀ x ∈ compactUpTo l.toArray m, x = l[k]! ∨ Ml.ltT x l[k]!)
  | 0, _ => ⟨by simp [compactUpTo, Ml.Sorted], by simp [compactUpTo], by intro k h; omega⟩
  | m + 1, hm => by
    obtain ⟨h1, h2, h3⟩ := compact_upTo hs m (by omega)
    have hlt : m < l.length := by omega
    have hg : l.toArray[m]! = l[m]! := by simp
    have ht : ∀ x, x ∈ l.take (m + 1) ↔ x ∈ l.take m ∨ x = l[m]! := by
      intro x
      rw [List.take_add_one, List.getElem?_eq_getElem hlt, List.mem_append, getElem!_pos l m hlt]
      simp only [Option.toList_some, List.mem_singleton]
    rw [compactUpTo_succ]
    cases hk : keeps l.toArray m with
    | true =>
      rw [if_pos rfl, hg]
      have hlow : ∀ x ∈ compactUpTo l.toArray m, Ml.ltT x l[m]! := by
        intro x hx
        cases m with
        | zero => simp [compactUpTo] at hx
        | succ k =>
          unfold keeps at hk
          simp only [decide_eq_true_eq] at hk
          have hne : l[k + 1]! ≠ l[k]! := by
            rcases hk with h | h
            · omega
            · simpa using h
          have hkl : k < l.length := by omega
          have hw : ¬ Lib.compareBytes l[k + 1]! l[k]! < 0 := by
            have := List.pairwise_iff_getElem.1 hs k (k + 1) hkl hlt (by omega)
            simpa [hkl, hlt] using this
          have hstep : Ml.ltT l[k]! l[k + 1]! := Ml.lt_tri hw hne
          rcases h3 k rfl x hx with rfl | h
          · exact hstep
          · exact Ml.lt_trans h hstep
      refine ⟨?_, ?_, ?_⟩
      · refine List.pairwise_append.2 ⟨h1, by simp, ?_⟩
        intro a ha b hb
        simp only [List.mem_singleton] at hb
        subst hb
        exact hlow a ha
      · intro x
        rw [List.mem_append, h2, ht, List.mem_singleton]
      · intro k hk2 x hx
        have : k = m := by omega
        subst this
        rcases List.mem_append.1 hx with hx | hx
        · exact .inr (hlow x hx)
        · exact .inl (by simpa using hx)
    | false =>
      rw [if_neg (by simp), List.append_nil]
      unfold keeps at hk
      simp only [decide_eq_false_iff_not, not_or] at hk
      cases m with
      | zero => exact absurd rfl hk.1
      | succ k =>
        have he : l[k + 1]! = l[k]! := by
          have := Classical.not_not.1 hk.2
          simpa using this
        have hkl : k < l.length := by omega
        have hin : l[k]! ∈ l.take (k + 1) := by
          rw [List.take_add_one, List.getElem?_eq_getElem hkl, List.mem_append, getElem!_pos l k hkl]
          simp only [Option.toList_some, List.mem_singleton, or_true]
        refine ⟨h1, ?_, ?_⟩
        · intro x
          rw [h2, ht, he]
          constructor
          · exact .inl
          · rintro (h | rfl)
            · exact h
            · exact hin
        · intro j hj x hx
          have : j = k + 1 := by omega
          subst this
          rw [he]
          exact h3 k rfl x hx
end Go.Ik
