/-
  The document's near words: a table of distances, items put where they belong; that they are the code's.
-/
import Derived.Test.YtjhbobjjkbppkaaPlNext
import Derived.Test.YtjhbobjjkbppkaaLwLeast
set_option linter.unusedVariables false
set_option linter.unusedSimpArgs false
namespace Go.Ml
open Go.Ik

theorem snocInd {α : Type} {p : List α → Prop} (h0 : p []) (h1 : ∀ l a, p l → p (l ++ [a])) : ∀ l, p l := by
  intro l
  rw [← List.reverse_reverse l]
  generalize l.reverse = r
  induction r with
  | nil => exact h0
  | cons a r ih => rw [List.reverse_cons]; exact h1 _ _ ih
/-! the table -/
def tabL (a b : List Int) : List (List Int) := (List.range (a.length + 1)).map fun i => rowL b.length (rowF b (a.take i))
theorem tabL_len (a b : List Int) : (tabL a b).length = a.length + 1 := by simp [tabL]
theorem tabL_at {a b : List Int} {i : Nat} {l : List Int} (h : (tabL a b)[i]? = some l) : l = rowL b.length (rowF b (a.take i)) := by
  obtain ⟨hi, h1⟩ := List.getElem?_eq_some_iff.1 h
  rw [tabL_len] at hi
  unfold tabL at h
  rw [List.getElem?_map, List.getElem?_range hi] at h
  simpa using h.symm
theorem tab_at {a b : List Int} {n i : Nat} {l : List Int} (h : ((tabL a b).take n)[i]? = some l) : l = rowL b.length (rowF b (a.take i)) ∧ i < n := by
  rw [List.getElem?_take] at h
  split at h
  · exact ⟨tabL_at h, by assumption⟩
  · cases h
theorem tab_take {a b : List Int} {i : Nat} {l : List Int} (hi : i ≤ a.length) (hl : l = rowL b.length (rowF b (a.take i))) : (tabL a b).take i ++ [l] = (tabL a b).take (i + 1) := by
  rw [List.take_add_one]
  congr 1
  unfold tabL
  rw [List.getElem?_map, List.getElem?_range (by omega), hl]; rfl
theorem row_take {n k : Nat} {f : Nat → Int} {l : List Int} {d : Int} (h : l = (rowL n f).take k) (hk : k ≤ n) (hd : d = f k) : l ++ [d] = (rowL n f).take (k + 1) := by
  rw [List.take_add_one, h, hd]
  congr 1
  unfold rowL
  rw [List.getElem?_map, List.getElem?_range (by omega)]; rfl
theorem row_all {n k : Nat} {f : Nat → Int} {l : List Int} (h : l = (rowL n f).take k) (hk : n < k) : l = rowL n f := by
  rw [h, List.take_of_length_le (by rw [rowL_len]; omega)]
theorem row_at {n k i : Nat} {f : Nat → Int} {x : Int} (h : ((rowL n f).take k)[i]? = some x) : x = f i := by
  rw [List.getElem?_take] at h
  split at h
  · exact (rowL_at h).1
  · cases h
theorem rowF_zero (q p : List Int) : rowF q p 0 = p.length := by
  refine snocInd (p := fun p => rowF q p 0 = p.length) rfl (fun p r ih => ?_) p
  rw [rowF_snoc]; unfold stepF; rw [ih]; simp
theorem rowF_le (q p : List Int) (i : Nat) : 0 ≤ rowF q p i ∧ rowF q p i ≤ p.length + i := by
  have h := lip_row q p
  have h1 := h.pos i
  have h2 := lip_any h i 0
  rw [rowF_zero] at h2
  constructor <;> omega
theorem rowF_nil (q : List Int) (k : Nat) : rowF q [] k = k := rfl
theorem tab_cell0 {a b : List Int} {i k : Nat} (hi : i = 0) : (k : Int) = rowF b (a.take i) k := by subst hi; rfl
theorem tab_celli {a b : List Int} {i k : Nat} (hk : k = 0) (hi : i ≤ a.length) : (i : Int) = rowF b (a.take i) k := by subst hk; rw [rowF_zero, List.length_take, Nat.min_eq_left hi]
theorem tab_cell {a b : List Int} {i k j m : Nat} (hj : j + 1 = i) (hm : m + 1 = k) {r c x y z t : Int} (hr : a[j]? = some r) (hc : b[m]? = some c) (hx : x = rowF b (a.take j) m) (hy : y = rowF b (a.take j) k) (hz : z = rowF b (a.take i) m) (ht : t = x + if r ≠ c then 1 else 0) :
    min (min t (y + 1)) (z + 1) = rowF b (a.take i) k := by
  subst hj hm
  have h1 : a.take (j + 1) = a.take j ++ [r] := by rw [List.take_add_one, hr]; rfl
  rw [h1, rowF_snoc] at hz ⊢
  show _ = min (min (rowF b (a.take j) (m + 1) + 1) (stepF b (rowF b (a.take j)) r m + 1)) (rowF b (a.take j) m + if b[m]? = some r then 0 else 1)
  rw [← hx, ← hy, ← hz, hc]
  by_cases he : r = c
  · rw [if_neg (by simp [he])] at ht
    rw [if_pos (by rw [he])]; omega
  · rw [if_pos he] at ht
    rw [if_neg (by simp; exact fun e => he e.symm)]; omega
theorem tab_end {a b : List Int} {i j : Nat} (hi : i = a.length) (hj : j = b.length) {l : List Int} {x : Int} (hl : l = rowL b.length (rowF b (a.take i))) (hx : l[j]? = some x) : x = lev b a := by
  subst hi hj
  rw [hl] at hx
  rw [(rowL_at hx).1, List.take_length]; rfl
theorem lev_le (q p : List Int) : 0 ≤ lev q p ∧ lev q p ≤ p.length + q.length := rowF_le q p q.length
/-- the distance of texts; -1: one is none -/
def distT (a b : Str) : Int := if fineT a = true ∧ fineT b = true then lev (runesI b) (runesI a) else -1
theorem distT_no {a b : Str} (h : fineT a = false ∨ fineT b = false) : (-1 : Int) = distT a b := by
  unfold distT
  rw [if_neg]
  rintro ⟨h1, h2⟩
  rcases h with h | h <;> simp_all
theorem distT_yes {a b : Str} (h1 : fineT a = true) (h2 : fineT b = true) : lev (runesM b) (runesM a) = distT a b := by
  unfold distT runesM
  rw [if_pos h1, if_pos h2, if_pos ⟨h1, h2⟩]
/-! items -/
theorem cmpI_lt {a b : Int} : cmpI a b < 0 ↔ a < b := by unfold cmpI; split <;> (try split) <;> omega
theorem itmLess_iff {a b : Itm} : itmLess a b = true ↔ a.dist < b.dist ∨ a.dist = b.dist ∧ Lib.compareBytes a.word b.word < 0 := by
  unfold itmLess itmCmp
  rw [decide_eq_true_eq]
  have hor : orI [cmpI a.dist b.dist, Lib.compareBytes a.word b.word] = if cmpI a.dist b.dist ≠ 0 then cmpI a.dist b.dist else Lib.compareBytes a.word b.word := by
    simp only [orI]
    split
    · rfl
    · split
      · rfl
      · omega
  rw [hor]
  unfold cmpI
  by_cases h1 : a.dist < b.dist
  · simp [h1]
  · by_cases h2 : a.dist > b.dist
    · simp [h1, h2]; omega
    · have : a.dist = b.dist := by omega
      simp [this]
def ltI (a b : Itm) : Prop := itmLess a b = true
theorem ltI_trans {a b c : Itm} (h1 : ltI a b) (h2 : ltI b c) : ltI a c := by
  unfold ltI at *
  rw [itmLess_iff] at *
  rcases h1 with h1 | ⟨h1, h1'⟩ <;> rcases h2 with h2 | ⟨h2, h2'⟩
  · exact .inl (by omega)
  · exact .inl (by omega)
  · exact .inl (by omega)
  · exact .inr ⟨by omega, lt_trans h1' h2'⟩
theorem ltI_irr {a : Itm} (h : ltI a a) : False := by
  unfold ltI at h
  rw [itmLess_iff] at h
  rcases h with h | ⟨_, h⟩
  · omega
  · rw [cmp_refl] at h; omega
theorem ltI_tri {a b : Itm} (h : ¬ ltI a b) (hne : a ≠ b) : ltI b a := by
  unfold ltI at *
  rw [itmLess_iff] at *
  have h1 : ¬ a.dist < b.dist := fun x => h (.inl x)
  by_cases h2 : b.dist < a.dist
  · exact .inl h2
  · have he : b.dist = a.dist := by omega
    refine .inr ⟨he, ?_⟩
    have h3 : ¬ Lib.compareBytes a.word b.word < 0 := fun x => h (.inr ⟨he.symm, x⟩)
    have h4 : Lib.compareBytes a.word b.word ≠ 0 := fun e => hne (by
      cases a; cases b
      simp only at *
      rw [he, cmp_eq e])
    exact lt_tri h3 fun e => h4 (by rw [e]; exact cmp_refl _)
theorem ltI_ext : ∀ {a b : List Itm}, a.Pairwise ltI → b.Pairwise ltI → (∀ x, x ∈ a ↔ x ∈ b) → a = b
  | [], [], _, _, _ => rfl
  | [], y :: b, _, _, h => by have := (h y).2 (by simp); simp at this
  | x :: a, [], _, _, h => by have := (h x).1 (by simp); simp at this
  | x :: a, y :: b, ha, hb, h => by
    rw [List.pairwise_cons] at ha hb
    have hxy : x = y := by
      by_cases e : x = y
      · exact e
      · exfalso
        have h1 := (h x).1 (by simp)
        have h2 := (h y).2 (by simp)
        rcases List.mem_cons.1 h1 with h1 | h1
        · exact e h1
        · rcases List.mem_cons.1 h2 with h2 | h2
          · exact e h2.symm
          · exact ltI_irr (ltI_trans (ha.1 y h2) (hb.1 x h1))
    subst hxy
    congr 1
    refine ltI_ext ha.2 hb.2 fun z => ?_
    constructor
    · intro hz
      rcases List.mem_cons.1 ((h z).1 (by simp [hz])) with e | e
      · subst e; exact (ltI_irr (ha.1 _ hz)).elim
      · exact e
    · intro hz
      rcases List.mem_cons.1 ((h z).2 (by simp [hz])) with e | e
      · subst e; exact (ltI_irr (hb.1 _ hz)).elim
      · exact e
/-- an item where it belongs -/
def putI (x : Itm) : List Itm → List Itm
  | [] => [x]
  | y :: r => if itmLess x y = true then x :: y :: r else y :: putI x r
theorem mem_putI {x y : Itm} : ∀ {l : List Itm}, y ∈ putI x l ↔ y = x ∨ y ∈ l
  | [] => by simp [putI]
  | z :: r => by
    unfold putI
    split
    · simp
    · rw [List.mem_cons, mem_putI, List.mem_cons]
      constructor
      · rintro (h | h | h)
        · exact .inr (.inl h)
        · exact .inl h
        · exact .inr (.inr h)
      · rintro (h | h | h)
        · exact .inr (.inl h)
        · exact .inl h
        · exact .inr (.inr h)
theorem putI_sorted {x : Itm} : ∀ {l : List Itm}, l.Pairwise ltI → x ∉ l → (putI x l).Pairwise ltI
  | [], _, _ => by simp [putI]
  | z :: r, h, hx => by
    rw [List.pairwise_cons] at h
    unfold putI
    split
    · rename_i hl
      refine List.pairwise_cons.2 ⟨fun y hy => ?_, List.pairwise_cons.2 h⟩
      rcases List.mem_cons.1 hy with rfl | hy
      · exact hl
      · exact ltI_trans hl (h.1 y hy)
    · rename_i hl
      refine List.pairwise_cons.2 ⟨fun y hy => ?_, putI_sorted h.2 fun hm => hx (by simp [hm])⟩
      rcases mem_putI.1 hy with rfl | hy
      · exact ltI_tri hl fun e => hx (by simp [e])
      · exact h.1 y hy
theorem putI_len (x : Itm) : ∀ (l : List Itm), (putI x l).length = l.length + 1
  | [] => rfl
  | z :: r => by
    unfold putI
    split
    · simp
    · simp [putI_len x r]
/-- putting, place by place -/
def PutI (l : List Itm) (x : Itm) (k : Nat) (out : List Itm) (b : Bool) : Prop := putI x l = out ++ (if b = true then l.drop k else putI x (l.drop k)) ∧ out.length = k + if b = true then 1 else 0
theorem PutI.start (l : List Itm) (x : Itm) : PutI l x 0 [] false := ⟨by simp, by simp⟩
theorem PutI.here {l : List Itm} {x y : Itm} {k : Nat} {out : List Itm} (h : PutI l x k out false) (hx : l[k]? = some y) (hl : itmLess x y = true) : PutI l x (k + 1) (out ++ [x] ++ [y]) true := by
  obtain ⟨h1, h2⟩ := h
  refine ⟨?_, by simp at h2 ⊢; omega⟩
  rw [h1, if_neg (by simp), if_pos rfl, drop_el' hx]
  conv => lhs; unfold putI
  rw [if_pos hl]; simp
theorem PutI.past {l : List Itm} {x y : Itm} {k : Nat} {out : List Itm} (h : PutI l x k out false) (hx : l[k]? = some y) (hl : itmLess x y = false) : PutI l x (k + 1) (out ++ [y]) false := by
  obtain ⟨h1, h2⟩ := h
  refine ⟨?_, by simp at h2 ⊢; omega⟩
  rw [h1, if_neg (by simp), if_neg (by simp), drop_el' hx]
  conv => lhs; unfold putI
  rw [if_neg (by simp [hl])]; simp
theorem PutI.next {l : List Itm} {x y : Itm} {k : Nat} {out : List Itm} (h : PutI l x k out true) (hx : l[k]? = some y) : PutI l x (k + 1) (out ++ [y]) true := by
  obtain ⟨h1, h2⟩ := h
  refine ⟨?_, by simp at h2 ⊢; omega⟩
  rw [h1, if_pos rfl, if_pos rfl, drop_el' hx]; simp
theorem PutI.endF {l : List Itm} {x : Itm} {k : Nat} {out : List Itm} (h : PutI l x k out false) (hk : l.length ≤ k) : out ++ [x] = putI x l := by
  obtain ⟨h1, _⟩ := h
  rw [h1, if_neg (by simp), List.drop_of_length_le hk]; rfl
theorem PutI.endT {l : List Itm} {x : Itm} {k : Nat} {out : List Itm} (h : PutI l x k out true) (hk : l.length ≤ k) : out = putI x l := by
  obtain ⟨h1, _⟩ := h
  rw [h1, if_pos rfl, List.drop_of_length_le hk]; simp
/-- all that are near, as the document says -/
def refStep (s : Str) (k : Int) (out : List Itm) (w : Str) : List Itm := if 0 ≤ distT w s ∧ distT w s ≤ k then putI ⟨distT w s, w⟩ out else out
def refAll (words : List Str) (s : Str) (k : Int) : List Itm := words.foldl (refStep s k) []
theorem refAll_take {words : List Str} {s : Str} {k : Int} {i : Nat} {w : Str} (hw : words[i]? = some w) : (words.take (i + 1)).foldl (refStep s k) [] = refStep s k ((words.take i).foldl (refStep s k) []) w := by
  rw [List.take_add_one, hw, List.foldl_append]; rfl
theorem refStep_yes {s : Str} {k : Int} {out : List Itm} {w : Str} (h : 0 ≤ distT w s) (h2 : distT w s ≤ k) : refStep s k out w = putI ⟨distT w s, w⟩ out := by unfold refStep; rw [if_pos ⟨h, h2⟩]
theorem refStep_no {s : Str} {k : Int} {out : List Itm} {w : Str} (h : ¬ (0 ≤ distT w s ∧ distT w s ≤ k)) : refStep s k out w = out := by unfold refStep; rw [if_neg h]
theorem refAll_spec {s : Str} {k : Int} : ∀ {words : List Str}, words.Nodup → (refAll words s k).Pairwise ltI ∧ ∀ x, x ∈ refAll words s k ↔ x.word ∈ words ∧ x.dist = distT x.word s ∧ 0 ≤ x.dist ∧ x.dist ≤ k := by
  intro words
  unfold refAll
  refine snocInd (p := fun words => words.Nodup → (words.foldl (refStep s k) []).Pairwise ltI ∧ ∀ x, x ∈ words.foldl (refStep s k) [] ↔ x.word ∈ words ∧ x.dist = distT x.word s ∧ 0 ≤ x.dist ∧ x.dist ≤ k) ?_ ?_ words
  · intro _; simp
  · intro l w ih hn
    rw [List.nodup_append] at hn
    obtain ⟨h1, _, h3⟩ := hn
    obtain ⟨i1, i2⟩ := ih h1
    have hw : w ∉ l := fun h => h3 w h w (by simp) rfl
    rw [List.foldl_append]
    show (refStep s k (l.foldl (refStep s k) []) w).Pairwise ltI ∧ ∀ x, x ∈ refStep s k (l.foldl (refStep s k) []) w ↔ _
    by_cases hc : 0 ≤ distT w s ∧ distT w s ≤ k
    · rw [refStep_yes hc.1 hc.2]
      refine ⟨putI_sorted i1 fun h => hw ((i2 _).1 h).1, fun x => ?_⟩
      rw [mem_putI, i2]
      constructor
      · rintro (rfl | ⟨h1, h2⟩)
        · exact ⟨by simp, rfl, hc.1, hc.2⟩
        · exact ⟨by simp [h1], h2⟩
      · rintro ⟨h1, h2, h4⟩
        rcases List.mem_append.1 h1 with h1 | h1
        · exact .inr ⟨h1, h2, h4⟩
        · simp only [List.mem_singleton] at h1
          refine .inl ?_
          cases x
          simp only at *
          subst h1; rw [h2]
    · rw [refStep_no hc]
      refine ⟨i1, fun x => ?_⟩
      rw [i2]
      constructor
      · rintro ⟨h1, h2⟩; exact ⟨by simp [h1], h2⟩
      · rintro ⟨h1, h2, h4⟩
        rcases List.mem_append.1 h1 with h1 | h1
        · exact ⟨h1, h2, h4⟩
        · simp only [List.mem_singleton] at h1
          rw [h1] at h2
          exact absurd ⟨by rw [← h2]; exact h4.1, by rw [← h2]; exact h4.2⟩ hc
theorem refAll_len (words : List Str) (s : Str) (k : Int) : (refAll words s k).length ≤ words.length := by
  unfold refAll
  have : ∀ (l : List Str) (out : List Itm), (l.foldl (refStep s k) out).length ≤ out.length + l.length := by
    intro l
    induction l with
    | nil => simp
    | cons w l ih =>
      intro out
      have := ih (refStep s k out w)
      rw [List.foldl_cons, List.length_cons]
      unfold refStep at this ⊢
      split at this
      · rw [if_pos (by assumption)]; rw [putI_len] at this; omega
      · rw [if_neg (by assumption)]; omega
  simpa using this words []
/-- all that are near, distance by distance -/
def itemsM (words : List Str) (q : List Int) (n : Nat) : List Itm := (List.range n).flatMap fun (d : Nat) => (distsM words q d).map fun w => Itm.mk (d : Int) w
theorem itemsM_succ (words : List Str) (q : List Int) (n : Nat) : itemsM words q (n + 1) = itemsM words q n ++ (distsM words q n).map fun w => Itm.mk (n : Int) w := by unfold itemsM; rw [List.range_succ, List.flatMap_append]; simp
theorem mem_itemsM {words : List Str} {q : List Int} {n : Nat} {x : Itm} : x ∈ itemsM words q n ↔ x.word ∈ words ∧ x.dist = lev q (runesI x.word) ∧ x.dist < n := by
  unfold itemsM
  rw [List.mem_flatMap]
  constructor
  · rintro ⟨d, hd, hx⟩
    obtain ⟨w, hw, rfl⟩ := List.mem_map.1 hx
    unfold distsM nearW at hw
    obtain ⟨h1, h2⟩ := List.mem_filter.1 hw
    have := of_decide_eq_true h2
    have := List.mem_range.1 hd
    exact ⟨h1, by simp only; omega, by simp only; omega⟩
  · rintro ⟨h1, h2, h3⟩
    have := (lev_le q (runesI x.word)).1
    refine ⟨x.dist.toNat, List.mem_range.2 (by omega), List.mem_map.2 ⟨x.word, List.mem_filter.2 ⟨h1, by unfold nearW; exact decide_eq_true (by omega)⟩, ?_⟩⟩
    cases x
    simp only at *
    congr 1; omega
theorem itemsM_sorted {words : List Str} {q : List Int} (hs : Sorted words) : ∀ n, (itemsM words q n).Pairwise ltI
  | 0 => by simp [itemsM]
  | n + 1 => by
    rw [itemsM_succ, List.pairwise_append]
    refine ⟨itemsM_sorted hs n, ?_, fun a ha b hb => ?_⟩
    · rw [List.pairwise_map]
      refine (hs.filter _).imp fun {a b} hab => ?_
      exact itmLess_iff.2 (.inr ⟨rfl, hab⟩)
    · obtain ⟨w, _, rfl⟩ := List.mem_map.1 hb
      exact itmLess_iff.2 (.inl (by have := (mem_itemsM.1 ha).2.2; simp only; omega))
theorem distT_eq {w s : Str} (h1 : fineT w = true) (h2 : fineT s = true) : distT w s = lev (runesI s) (runesI w) := by unfold distT; rw [if_pos ⟨h1, h2⟩]
theorem refAll_items {words : List Str} {s : Str} {k : Int} (hs : Sorted words) (hf : ∀ w ∈ words, fineT w = true) (hfs : fineT s = true) (hk : 0 ≤ k) : refAll words s k = itemsM words (runesI s) (k.toNat + 1) := by
  obtain ⟨h1, h2⟩ := refAll_spec (s := s) (k := k) (sorted_nodup hs)
  refine ltI_ext h1 (itemsM_sorted hs _) fun x => ?_
  rw [h2, mem_itemsM]
  constructor
  · rintro ⟨h3, h4, h5, h6⟩
    rw [distT_eq (hf _ h3) hfs] at h4
    exact ⟨h3, h4, by omega⟩
  · rintro ⟨h3, h4, h5⟩
    have := (lev_le (runesI s) (runesI x.word)).1
    rw [distT_eq (hf _ h3) hfs]
    exact ⟨h3, h4, by omega, by omega⟩
/-! batches -/
def okI (first : Bool) (after : Itm) (x : Itm) : Bool := first || itmLess after x
def nextR (words : List Str) (s : Str) (k : Int) (first : Bool) (after : Itm) (batch : Int) : List Itm × Bool :=
  if asked s = true ∧ 0 ≤ k ∧ k ≤ 4 then
    let rest := (refAll words s k).filter (okI first after)
    (rest.take (min (max batch 0) rest.length).toNat, decide (min (max batch 0) (rest.length : Int) = rest.length))
  else ([], true)
theorem nextF_each {first : Bool} {after : Itm} {B : Nat} {d : Int} : ∀ (L : List Str) (X : List Itm), X.length ≤ B → (eachF (nextF first after B d) (X, false) L).1 = ((X ++ (L.map (Itm.mk d)).filter (okI first after)).take B, decide (B < (X ++ (L.map (Itm.mk d)).filter (okI first after)).length))
  | [], X, h => by simp [eachF, List.take_of_length_le h]; omega
  | w :: L, X, h => by
    rw [List.map_cons]
    by_cases hc : okI first after ⟨d, w⟩ = true
    · rw [List.filter_cons_of_pos hc]
      have hor : first = true ∨ itmLess after ⟨d, w⟩ = true := by unfold okI at hc; simpa using hc
      by_cases hb : (X.length : Int) = B
      · unfold eachF
        rw [nextF_full hor hb, if_neg (by simp)]
        have : X.length = B := by omega
        simp only
        rw [List.take_append_of_le_length (by omega), List.take_of_length_le (by omega)]
        congr 1
        symm
        rw [decide_eq_true_eq]
        simp only [List.length_append, List.length_cons]; omega
      · unfold eachF
        rw [nextF_add hor hb, if_pos (by simp)]
        show (eachF (nextF first after B d) (X ++ [⟨d, w⟩], false) L).1 = _
        rw [nextF_each (first := first) (after := after) (d := d) (B := B) L (X ++ [Itm.mk d w]) (by simp only [List.length_append, List.length_cons, List.length_nil]; omega)]
        simp
    · have hc' : okI first after ⟨d, w⟩ = false := by simpa using hc
      rw [List.filter_cons_of_neg hc]
      unfold okI at hc'
      obtain ⟨hf, hl⟩ : first = false ∧ itmLess after ⟨d, w⟩ = false := by simpa using hc'
      subst hf
      unfold eachF
      rw [nextF_skip hl, if_pos (by simp)]
      exact nextF_each (B := B) L X h
theorem nextS_eq {words : List Str} {q : List Int} {first : Bool} {after : Itm} {B : Nat} : ∀ n, nextS words q first after B n = (((itemsM words q n).filter (okI first after)).take B, decide (B < ((itemsM words q n).filter (okI first after)).length))
  | 0 => by simp [nextS, itemsM]
  | n + 1 => by
    have ih := nextS_eq (words := words) (q := q) (first := first) (after := after) (B := B) n
    unfold nextS
    simp only
    rw [ih, itemsM_succ, List.filter_append]
    simp only
    by_cases hm : B < ((itemsM words q n).filter (okI first after)).length
    · rw [if_pos (decide_eq_true hm)]
      rw [List.take_append_of_le_length (by omega)]
      congr 1
      rw [decide_eq_true hm, eq_comm, decide_eq_true_eq, List.length_append]; omega
    · rw [if_neg (by simpa using hm)]
      unfold nextD
      rw [List.take_of_length_le (by omega), decide_eq_false hm, nextF_each (B := B) _ _ (by omega)]
theorem nextA_R {g : List GN} {words : List Str} {s : Str} {k : Int} {first : Bool} {after : Itm} {batch : Int} (hg : g ≠ []) (hs : Sorted words) (hf : ∀ w ∈ words, fineT w = true) : nextA g words s k first after batch = nextR words s k first after batch := by
  unfold nextA nextR
  by_cases hc : asked s = true ∧ 0 ≤ k ∧ k ≤ 4
  · rw [if_pos (mayA_yes hg hc.2 hc.1), if_pos hc]
    simp only
    rw [refAll_items hs hf (asked_fine hc.1) hc.2.1]
    have hB : max batch 0 = ((max batch 0).toNat : Int) := by omega
    rw [hB, nextS_eq]
    simp only
    generalize (itemsM words (runesI s) (k.toNat + 1)).filter (okI first after) = R
    congr 1
    · by_cases h : (max batch 0).toNat ≤ R.length
      · congr 1; omega
      · rw [List.take_of_length_le (by omega), List.take_of_length_le (by omega)]
    · by_cases h : (max batch 0).toNat < R.length
      · rw [decide_eq_true h, decide_eq_false (by omega)]; rfl
      · rw [decide_eq_false h, decide_eq_true (by omega)]; rfl
  · rw [if_neg (fun h => hc ⟨(mayA_iff.1 h).2.2, (mayA_iff.1 h).2.1⟩), if_neg hc]
def distsR (words : List Str) (s : Str) (d : Int) : List Str := if asked s = true ∧ 0 ≤ d ∧ d ≤ 4 then ((refAll words s d).filter fun x => decide (x.dist = d)).map (·.word) else []
theorem distsA_R {g : List GN} {words : List Str} {s : Str} {d : Int} (hg : g ≠ []) (hs : Sorted words) (hf : ∀ w ∈ words, fineT w = true) : distsA g words s d = distsR words s d := by
  unfold distsA distsR
  by_cases hc : asked s = true ∧ 0 ≤ d ∧ d ≤ 4
  · rw [if_pos (mayA_yes hg hc.2 hc.1), if_pos hc, refAll_items hs hf (asked_fine hc.1) hc.2.1, itemsM_succ, List.filter_append]
    have h1 : (itemsM words (runesI s) d.toNat).filter (fun x => decide (x.dist = d)) = [] := by
      rw [List.filter_eq_nil_iff]
      intro x hx
      have := (mem_itemsM.1 hx).2.2
      simp only [decide_eq_true_eq]; omega
    rw [h1, List.nil_append]
    have h2 : ((distsM words (runesI s) (d.toNat : Int)).map fun w => Itm.mk (d.toNat : Int) w).filter (fun x => decide (x.dist = d)) = (distsM words (runesI s) (d.toNat : Int)).map fun w => Itm.mk (d.toNat : Int) w := by
      rw [List.filter_eq_self]
      intro x hx
      obtain ⟨w, _, rfl⟩ := List.mem_map.1 hx
      simp only [decide_eq_true_eq]; omega
    rw [h2, List.map_map]
    rw [show (d.toNat : Int) = d from by omega]
    simp [Function.comp_def]
  · rw [if_neg (fun h => hc ⟨(mayA_iff.1 h).2.2, (mayA_iff.1 h).2.1⟩), if_neg hc]
end Go.Ml
namespace Go.Ml
open Go.Ik
theorem distT_rng (a b : Str) : -1 ≤ distT a b ∧ distT a b ≤ (runesI a).length + (runesI b).length := by
  unfold distT
  split
  · have := lev_le (runesI b) (runesI a); omega
  · omega
theorem less_no1 {a b : Itm} (h1 : ¬ a.dist < b.dist) (h2 : ¬ a.dist = b.dist) : false = itmLess a b := by
  cases h : itmLess a b with
  | false => rfl
  | true => rw [itmLess_iff] at h; rcases h with h | h; exact absurd h h1; exact absurd h.1 h2
theorem less_dec {a b : Itm} {c : Bool} (h2 : a.dist = b.dist) (h : c = decide (Lib.compareBytes a.word b.word < 0)) : c = itmLess a b := by
  cases h' : itmLess a b with
  | true =>
    rw [itmLess_iff] at h'
    rcases h' with h' | h'
    · omega
    · rw [h]; exact decide_eq_true h'.2
  | false =>
    rw [h]
    refine decide_eq_false fun hx => ?_
    have := itmLess_iff.2 (.inr ⟨h2, hx⟩)
    rw [h'] at this; cases this
theorem put_short {x : Itm} {l : List Itm} {n : Nat} (h : ∀ y ∈ l, y.word.length ≤ n) (hx : x.word.length ≤ n) : ∀ y ∈ putI x l, y.word.length ≤ n := fun y hy => by
  rcases mem_putI.1 hy with rfl | hy
  · exact hx
  · exact h y hy
theorem refAll_mem {words : List Str} {s : Str} {k : Int} : ∀ x ∈ refAll words s k, x.word ∈ words := by
  unfold refAll
  have : ∀ (l : List Str) (out : List Itm), ∀ x ∈ l.foldl (refStep s k) out, x ∈ out ∨ x.word ∈ l := by
    intro l
    induction l with
    | nil => intro out x hx; exact .inl hx
    | cons w l ih =>
      intro out x hx
      rw [List.foldl_cons] at hx
      rcases ih _ x hx with h | h
      · unfold refStep at h
        split at h
        · rcases mem_putI.1 h with rfl | h
          · exact .inr (by simp)
          · exact .inl h
        · exact .inl h
      · exact .inr (by simp [h])
  intro x hx
  rcases this words [] x hx with h | h
  · simp at h
  · exact h
theorem refAll_short {words : List Str} {s : Str} {k : Int} (h : ∀ w ∈ words, w.length ≤ 1000) : ∀ x ∈ refAll words s k, x.word.length ≤ 1000 := fun x hx => h _ (refAll_mem x hx)
theorem filter_take {α : Type} {l : List α} {p : α → Bool} {i : Nat} {x : α} (hx : l[i]? = some x) : (l.take (i + 1)).filter p = (l.take i).filter p ++ if p x = true then [x] else [] := by
  rw [List.take_add_one, hx, List.filter_append]
  congr 1
  by_cases h : p x = true <;> simp [h]
theorem rest_yes {l rest : List Itm} {first : Bool} {after x : Itm} {i : Nat} (h : rest = (l.take i).filter (okI first after)) (hx : l[i]? = some x) (hc : first = true ∨ itmLess after x = true) : rest ++ [x] = (l.take (i + 1)).filter (okI first after) := by
  rw [filter_take hx, ← h, if_pos (by unfold okI; rcases hc with h | h <;> simp [h])]
theorem rest_no {l rest : List Itm} {first : Bool} {after x : Itm} {i : Nat} (h : rest = (l.take i).filter (okI first after)) (hx : l[i]? = some x) (hf : first = false) (hc : itmLess after x = false) : rest = (l.take (i + 1)).filter (okI first after) := by
  rw [filter_take hx, ← h, if_neg (by unfold okI; simp [hf, hc])]; simp
section
variable {words : List Str} {s : Str} {k batch : Int} {first : Bool} {after : Itm} {rest : List Itm} {i : Nat}
theorem nextR_z (h : ¬ (asked s = true ∧ 0 ≤ k ∧ k ≤ 4)) : nextR words s k first after batch = ([], true) := by unfold nextR; rw [if_neg h]
theorem nextR_no (h : k < 0 ∨ k > 4) : [] = (nextR words s k first after batch).1 := by rw [nextR_z (fun x => by omega)]
theorem nextR_no2 (h : asked s = false) : [] = (nextR words s k first after batch).1 := by rw [nextR_z (fun x => by simp [h] at x)]
theorem nextR_noB (h : k < 0 ∨ k > 4) : true = (nextR words s k first after batch).2 := by rw [nextR_z (fun x => by omega)]
theorem nextR_noB2 (h : asked s = false) : true = (nextR words s k first after batch).2 := by rw [nextR_z (fun x => by simp [h] at x)]
theorem nextR_y (h : rest = ((refAll words s k).take i).filter (okI first after)) (hi : (refAll words s k).length ≤ i) (ha : asked s = true) (hk : 0 ≤ k ∧ k ≤ 4) : nextR words s k first after batch = (rest.take (min (max batch 0) rest.length).toNat, decide (min (max batch 0) (rest.length : Int) = rest.length)) := by
  unfold nextR
  rw [List.take_of_length_le hi] at h
  rw [if_pos ⟨ha, hk⟩, ← h]
theorem nextR_l (h : rest = ((refAll words s k).take i).filter (okI first after)) (hi : (refAll words s k).length ≤ i) (ha : asked s = true) (hk : 0 ≤ k ∧ k ≤ 4) : rest.take (min (max batch 0) rest.length).toNat = (nextR words s k first after batch).1 := by rw [nextR_y h hi ha hk]
theorem nextR_b {b : Bool} (h : rest = ((refAll words s k).take i).filter (okI first after)) (hi : (refAll words s k).length ≤ i) (ha : asked s = true) (hk : 0 ≤ k ∧ k ≤ 4) (hb : b = decide (min (max batch 0) (rest.length : Int) = rest.length)) : b = (nextR words s k first after batch).2 := by rw [nextR_y h hi ha hk, hb]
theorem nextR_len (words : List Str) (s : Str) (k : Int) (first : Bool) (after : Itm) (batch : Int) : (nextR words s k first after batch).1.length ≤ words.length := by
  unfold nextR
  split
  · have h1 := refAll_len words s k
    have h2 := List.length_filter_le (okI first after) (refAll words s k)
    simp only [List.length_take]; omega
  · simp
end
section
variable {words : List Str} {s : Str} {d : Int} {out : List Str} {i : Nat}
theorem dr_yes {l : List Itm} {x : Itm} (h : out = ((l.take i).filter fun x => decide (x.dist = d)).map (·.word)) (hx : l[i]? = some x) (hc : x.dist = d) : out ++ [x.word] = ((l.take (i + 1)).filter fun x => decide (x.dist = d)).map (·.word) := by
  rw [filter_take hx, if_pos (decide_eq_true hc), List.map_append, ← h]; rfl
theorem dr_no {l : List Itm} {x : Itm} (h : out = ((l.take i).filter fun x => decide (x.dist = d)).map (·.word)) (hx : l[i]? = some x) (hc : ¬ x.dist = d) : out = ((l.take (i + 1)).filter fun x => decide (x.dist = d)).map (·.word) := by
  rw [filter_take hx, if_neg (by simpa using hc), List.append_nil, ← h]
theorem distsR_z (h : ¬ (asked s = true ∧ 0 ≤ d ∧ d ≤ 4)) : [] = distsR words s d := by unfold distsR; rw [if_neg h]
theorem distsR_no (h : d < 0 ∨ d > 4) : [] = distsR words s d := distsR_z fun x => by omega
theorem distsR_no2 (h : asked s = false) : [] = distsR words s d := distsR_z fun x => by simp [h] at x
theorem distsR_yes (h : out = (((refAll words s d).take i).filter fun x => decide (x.dist = d)).map (·.word)) (hi : (refAll words s d).length ≤ i) (ha : asked s = true) (hd : 0 ≤ d ∧ d ≤ 4) : out = distsR words s d := by
  unfold distsR
  rw [if_pos ⟨ha, hd⟩, h, List.take_of_length_le hi]
theorem distsR_len (words : List Str) (s : Str) (d : Int) : (distsR words s d).length ≤ words.length := by
  unfold distsR
  split
  · have h1 := refAll_len words s d
    have h2 := List.length_filter_le (fun x : Itm => decide (x.dist = d)) (refAll words s d)
    rw [List.length_map]; omega
  · simp
end
end Go.Ml
theorem Go.Ml.PutI.len {l : List Go.Ml.Itm} {x : Go.Ml.Itm} {k : Nat} {out : List Go.Ml.Itm} {b : Bool} (h : Go.Ml.PutI l x k out b) : out.length ≤ k + 1 := by
  have := h.2
  split at this <;> omega
theorem Go.Ml.refAll_shortE (words : List Go.Ik.Str) (s : Go.Ik.Str) (k : Int) (h : ∀ w ∈ words, w.length ≤ 1000) : ∀ x ∈ Go.Ml.refAll words s k, x.word.length ≤ 1000 := Go.Ml.refAll_short h
