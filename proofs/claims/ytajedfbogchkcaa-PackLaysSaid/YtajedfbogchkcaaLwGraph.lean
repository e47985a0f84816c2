/-
  Plain laws of chapter 8: words from a text on, in pieces; one word's graph.
-/
import Derived.Test.YtajedfbogchkcaaMGraph3
import Derived.Test.YtajedfbogchkcaaPlList
set_option linter.unusedVariables false
set_option linter.unusedSimpArgs false
namespace Go.Ml
open Go.Ik

/-! words from a text on -/
def geF (words : List Str) (w : Str) : List Str := words.filter fun x => decide (Lib.compareBytes x w ≥ 0)
theorem fromF_all (w : Str) (most : Int) : ∀ (words l : List Str), (l.length : Int) < most → (eachF (fromF w most) l words).1 = (l ++ geF words w).take most.toNat
  | [], l, h => by
    simp only [eachF, geF, List.filter_nil, List.append_nil]
    rw [List.take_of_length_le (by omega)]
  | x :: words, l, h => by
    unfold eachF
    have hf : fromF w most l x = (if Lib.compareBytes x w ≥ 0 then l ++ [x] else l, decide (((if Lib.compareBytes x w ≥ 0 then l ++ [x] else l).length : Int) < most)) := by
      unfold fromF
      simp only [h, true_and]
    rw [hf]
    by_cases hc : Lib.compareBytes x w ≥ 0
    · simp only [if_pos hc]
      have hg : geF (x :: words) w = x :: geF words w := by unfold geF; rw [List.filter_cons_of_pos (by simpa using hc)]
      rw [hg]
      by_cases hl : ((l ++ [x]).length : Int) < most
      · rw [if_pos (by simpa using hl), fromF_all w most words (l ++ [x]) hl]
        simp
      · rw [if_neg (by simpa using hl)]
        simp only [List.length_append, List.length_cons, List.length_nil] at hl
        have : most.toNat = (l ++ [x]).length := by simp only [List.length_append, List.length_cons, List.length_nil]; omega
        rw [this, show l ++ x :: geF words w = (l ++ [x]) ++ geF words w by simp, List.take_left]
    · simp only [if_neg hc]
      have hg : geF (x :: words) w = geF words w := by unfold geF; rw [List.filter_cons_of_neg (by simpa using hc)]
      rw [hg, if_pos (by simpa using h), fromF_all w most words l h]
theorem fromM_take (words : List Str) (w : Str) (most : Int) : fromM words w most = (geF words w).take most.toNat := by
  unfold fromM
  by_cases h : (0 : Int) < most
  · rw [fromF_all w most words [] (by simpa using h)]; simp
  · have h0 : most.toNat = 0 := by omega
    rw [h0, List.take_zero]
    cases words with
    | nil => rfl
    | cons x words =>
      unfold eachF
      have hf : fromF w most [] x = ([], false) := by
        unfold fromF
        have h1 : ¬ (((([] : List Str).length : Nat) : Int) < most ∧ Lib.compareBytes x w ≥ 0) := fun e => h (by simpa using e.1)
        simp only [if_neg h1]
        simpa using h
      rw [hf]; simp
theorem geF_len (words : List Str) (w : Str) : (geF words w).length ≤ words.length := List.length_filter_le _ _
theorem cmp_nil (x : Str) : Lib.compareBytes x [] ≥ 0 := by
  cases x with
  | nil => decide
  | cons a x => show (1 : Int) ≥ 0; omega
theorem geF_nil (words : List Str) : geF words [] = words := by
  unfold geF
  rw [List.filter_eq_self.2]
  intro x _
  have := cmp_nil x
  simpa using this
theorem geF_drop : ∀ {words : List Str}, Sorted words → ∀ {k : Nat} {x : Str}, words[k]? = some x → geF words x = words.drop k
  | [], _, k, x, hx => by simp at hx
  | y :: words, hs, 0, x, hx => by
    simp only [List.getElem?_cons_zero, Option.some.injEq] at hx
    subst hx
    obtain ⟨h1, h2⟩ := List.pairwise_cons.1 hs
    unfold geF
    rw [List.drop_zero, List.filter_eq_self.2]
    intro z hz
    rcases List.mem_cons.1 hz with rfl | hz
    · rw [cmp_refl]; simp
    · have := h1 z hz
      unfold ltT at this
      have h3 := cmp_anti z y
      simp only [decide_eq_true_eq]; omega
  | y :: words, hs, k + 1, x, hx => by
    simp only [List.getElem?_cons_succ] at hx
    obtain ⟨h1, h2⟩ := List.pairwise_cons.1 hs
    have hy := h1 x (List.mem_of_getElem? hx)
    unfold ltT at hy
    have hn : ¬ Lib.compareBytes y x ≥ 0 := by omega
    have := geF_drop h2 hx
    unfold geF at this ⊢
    rw [List.filter_cons_of_neg (by simpa using hn), List.drop_succ_cons, this]
theorem geF_sorted {words : List Str} (h : Sorted words) (w : Str) : Sorted (geF words w) := List.Pairwise.filter _ h
theorem geF_geF {words : List Str} (hs : Sorted words) {w x : Str} {k : Nat} (hx : (geF words w)[k]? = some x) : geF words x = (geF words w).drop k := by
  rw [← geF_drop (geF_sorted hs w) hx]
  unfold geF
  rw [List.filter_filter]
  refine (List.filter_congr fun z _ => ?_)
  have hxw : Lib.compareBytes x w ≥ 0 := by
    have := List.mem_of_getElem? hx
    have := (List.mem_filter.1 this).2
    simpa using this
  by_cases hz : Lib.compareBytes z x ≥ 0
  · have : Lib.compareBytes z w ≥ 0 := by
      rcases (by omega : Lib.compareBytes z w ≥ 0 ∨ Lib.compareBytes z w < 0) with h | h
      · exact h
      · exfalso
        by_cases he : x = w
        · subst he; omega
        · have h1 : ltT w x := lt_tri (by omega) he
          have h2 := lt_trans (a := z) (b := w) (c := x) h h1
          unfold ltT at h2; omega
    simp [hz, this]
  · simp [hz]
/-- pieces: all from 'w' on; the first 'a'; from the last of these on -/
theorem pieces {words : List Str} (hg : goodL words = 0) (w : Str) {a b : Int} (ha : 0 ≤ a) (hb : 0 ≤ b) :
    ((fromM words w a).length : Int) = min a ((fromM words w 100).length : Int) ∧ fromM words w a = (fromM words w 100).take (fromM words w a).length ∧
    (∀ x, (fromM words w a)[(fromM words w a).length - 1]? = some x → fromM words x (b + 1) = ((fromM words w 100).drop ((fromM words w a).length - 1)).take (min (b + 1).toNat ((fromM words w 100).drop ((fromM words w a).length - 1)).length)) ∧
    fromM words [] 100 = words ∧ fromM words w (-a) = [] := by
  have hs := good_sorted hg
  have hl := good_len hg
  have hfl := geF_len words w
  have h100 : fromM words w 100 = geF words w := by rw [fromM_take, List.take_of_length_le (by simp; omega)]
  rw [h100]
  have hA := fromM_take words w a
  refine ⟨by rw [hA, List.length_take]; omega, ?_, fun x hx => ?_, ?_, ?_⟩
  · rw [hA, List.length_take]
    by_cases h : a.toNat ≤ (geF words w).length
    · rw [Nat.min_eq_left h]
    · rw [Nat.min_eq_right (by omega), List.take_of_length_le (by omega), List.take_of_length_le (Nat.le_refl _)]
  · have hlt := (List.getElem?_eq_some_iff.1 hx).1
    have hx' : (geF words w)[(fromM words w a).length - 1]? = some x := by
      rw [hA, List.getElem?_take] at hx
      rw [hA]
      split at hx
      · exact hx
      · cases hx
    rw [fromM_take, geF_geF hs hx']
    by_cases h : (b + 1).toNat ≤ ((geF words w).drop ((fromM words w a).length - 1)).length
    · rw [Nat.min_eq_left h]
    · rw [Nat.min_eq_right (by omega), List.take_of_length_le (by omega), List.take_of_length_le (Nat.le_refl _)]
  · rw [fromM_take, geF_nil, List.take_of_length_le (by simp; omega)]
  · rw [fromM_take, show (-a).toNat = 0 from by omega, List.take_zero]
theorem gnodes_ne {words : List Str} (h : goodL words = 0) : gnodes words ≠ [] := by
  rw [gnodes_yes h]
  unfold graphB gnOf
  split
  · simp
  · rename_i hne
    obtain ⟨es, he⟩ := (graphM_ok (good_deep h).2 (good_deep h).1 hne).root
    intro e
    rw [List.map_eq_nil_iff] at e
    rw [e] at he; simp at he
theorem nodeAt_nil (n : Int) : nodeAt ([] : List GN) n = (false, []) := nodeAt_no (by simp only [List.length_nil]; omega)

theorem eqb3 {a b p q : Bool} (ha : a = p) (hb : b = q) (h : p = q) : (a == b) = true := by rw [ha, hb, h]; simp
/-! one word's graph -/
def chain : Nat → List Nat → GS
  | _, [] => [([[]], [])]
  | k, c :: cs => ([encT (c :: cs)], [⟨(c : Int), ((k + 1 : Nat) : Int)⟩]) :: chain (k + 1) cs
theorem encT_cons (c : Nat) (cs : List Nat) : encT (c :: cs) = encL c ++ encT cs := rfl
theorem isPrefix_app (p t : Str) : p.isPrefixOf (p ++ t) = true := by
  rw [List.isPrefixOf_iff_prefix]; exact List.prefix_append p t
theorem dec_encL {c : Nat} (hc : goodN c) (t : Str) : hdN (encL c ++ t) = c ∧ pfx (encL c ++ t) = encL c := by
  have h : runes (encL c ++ t) = c :: runes t := runes_app hc t
  have hne : encL c ++ t ≠ [] := by
    intro e
    rw [e] at h; simp [runes_nil] at h
  have hd : hdN (encL c ++ t) = c := by
    rw [runes_cons hne] at h
    exact (List.cons.inj h).1
  refine ⟨hd, ?_⟩
  have hd' : (dec (encL c ++ t)).1 = c := hd
  have := (enc_dec hne (by rw [hd']; exact hc.2.2)).2
  rw [hd'] at this
  exact this.symm
theorem groups_one {c : Nat} (hc : goodN c) (t : Str) : groups [encL c ++ t] = [(c, [t])] := by
  obtain ⟨h1, h2⟩ := dec_encL hc t
  rw [groups_cons, h1, h2]
  have hs : stripP (encL c) [encL c ++ t] = [t] := by
    unfold stripP
    rw [List.takeWhile_cons, if_pos (isPrefix_app _ _)]
    simp
  have hm : moreP (encL c) [encL c ++ t] = [] := by
    unfold moreP
    rw [List.dropWhile_cons, if_pos (isPrefix_app _ _)]
    rfl
  rw [hs, hm, groups_nil]
theorem encT_inj {a b : List Nat} (ha : ∀ c ∈ a, goodN c) (hb : ∀ c ∈ b, goodN c) (h : encT a = encT b) : a = b := by
  rw [← runes_encT a ha, ← runes_encT b hb, h]
theorem no_find {s : GS} {r : List Str} (h : ∀ x ∈ s, x.1 ≠ r) : (s.findIdx? fun x => x.1 == r) = none := by
  rw [List.findIdx?_eq_none_iff]
  intro x hx
  exact beq_eq_false_iff_ne.2 (h x hx)
theorem add_chain : ∀ (rs : List Nat) (f : Nat) (s : GS), rs.length ≤ f → (∀ c ∈ rs, goodN c) → (∀ x ∈ s, ∀ u : List Nat, (∀ c ∈ u, goodN c) → u.length ≤ rs.length → x.1 ≠ [encT u]) → addM (f + 1) s [encT rs] = (s ++ chain s.length rs, s.length)
  | [], f, s, _, hg, hs => by
    have hno := no_find fun x hx => hs x hx [] hg (Nat.le_refl _)
    have he : edgesM (addM f) (s ++ [([encT []], [])]) (groups (dropE [encT []])) = (s ++ ([encT []], []) :: [], []) := rfl
    rw [addM_miss hno he]
    rfl
  | c :: cs, 0, s, hf, _, _ => by simp at hf
  | c :: cs, f + 1, s, hf, hg, hs => by
    have hcg := hg c (by simp)
    have hno := no_find fun x hx => hs x hx (c :: cs) hg (Nat.le_refl _)
    have hne : encT (c :: cs) ≠ [] := by
      intro e
      have := runes_encT (c :: cs) hg
      rw [e] at this; simp [runes_nil] at this
    have hd : groups (dropE [encT (c :: cs)]) = [(c, [encT cs])] := by
      rw [(dropE_cons (l := [encT (c :: cs)]) rfl hne).1, encT_cons]
      exact groups_one hcg _
    have ih := add_chain cs f (s ++ [([encT (c :: cs)], [])]) (by simp only [List.length_cons] at hf; omega) (fun d hd => hg d (by simp [hd])) (fun x hx u hu hl => by
      rcases List.mem_append.1 hx with hx | hx
      · exact hs x hx u hu (by simp only [List.length_cons]; omega)
      · simp only [List.mem_singleton] at hx
        subst hx
        intro e
        have e2 := encT_inj hg hu (List.cons.inj e).1
        rw [← e2] at hl
        simp only [List.length_cons] at hl
        omega)
    have he : edgesM (addM (f + 1)) (s ++ [([encT (c :: cs)], [])]) (groups (dropE [encT (c :: cs)])) = (s ++ ([encT (c :: cs)], []) :: chain (s.length + 1) cs, [⟨(c : Int), ((s.length + 1 : Nat) : Int)⟩]) := by
      rw [hd]
      simp only [edgesM, ih, List.length_append, List.length_cons, List.length_nil, List.append_assoc, List.cons_append, List.nil_append, Nat.zero_add]
    rw [addM_miss hno he]
    rfl
theorem chain_at : ∀ (rs : List Nat) (k i : Nat), i ≤ rs.length → (chain k rs)[i]? = some ([encT (rs.drop i)], match rs[i]? with | some c => [⟨(c : Int), ((k + i + 1 : Nat) : Int)⟩] | none => [])
  | [], k, 0, _ => rfl
  | [], k, i + 1, h => by simp at h
  | c :: cs, k, 0, _ => rfl
  | c :: cs, k, i + 1, h => by
    have := chain_at cs (k + 1) i (by simp only [List.length_cons] at h; omega)
    simp only [chain, List.getElem?_cons_succ, List.drop_succ_cons, this]
    rw [show k + 1 + i + 1 = k + (i + 1) + 1 by omega]
theorem chain_len : ∀ (rs : List Nat) (k : Nat), (chain k rs).length = rs.length + 1
  | [], _ => rfl
  | c :: cs, k => by simp [chain, chain_len cs (k + 1)]
theorem good_one {w : Str} (h : word w = true) : goodL [w] = 0 := by
  unfold goodL
  rw [if_neg (by simp), if_pos (by simp [h]), if_pos (by rfl)]
theorem one_graph {w : Str} (h : word w = true) : graphB [w] = chain 0 (runes w) ∧ ∀ c ∈ runes w, goodN c := by
  have hg := good_one h
  obtain ⟨hgr, hd⟩ := good_deep hg
  have hf := hgr.fine w (by simp)
  obtain ⟨he, hgn⟩ := encT_runes w hf
  refine ⟨?_, hgn⟩
  have := add_chain (runes w) 12 [] (hd w (by simp)) hgn (by simp)
  rw [he] at this
  unfold graphB graphM
  rw [if_neg (by simp), this]
  rfl
theorem runesM_word {w : Str} (h : word w = true) : runesM w = (runes w).map fun n : Nat => (n : Int) := by
  have hf : Fine w := ((good_deep (good_one h)).1).fine w (by simp)
  unfold runesM
  rw [if_pos (fine_iff.2 hf)]; rfl
/-- one word's graph, node by node -/
theorem one_len {w : Str} (h : word w = true) : (((gnodes [w]).length : Nat) : Int) = (((runesM w).length + 1 : Nat) : Int) := by
  rw [gnodes_yes (good_one h), gnOf_len, (one_graph h).1, chain_len, runesM_word h, List.length_map]
theorem one_node {w : Str} (h : word w = true) {i : Nat} (hi : i ≤ (runesM w).length) :
    (nodeAt (gnodes [w]) (i : Int)).1 = ((i : Int) == ((runesM w).length : Int)) ∧ (∀ r, (runesM w)[i]? = some r → (nodeAt (gnodes [w]) (i : Int)).2 = [⟨r, ((i + 1 : Nat) : Int)⟩]) ∧ (i = (runesM w).length → (nodeAt (gnodes [w]) (i : Int)).2 = []) := by
  obtain ⟨hg, hgn⟩ := one_graph h
  have hr := runesM_word h
  have hl : (runesM w).length = (runes w).length := by rw [hr, List.length_map]
  have hc := chain_at (runes w) 0 i (by omega)
  have hn : nodeAt (gnodes [w]) (i : Int) = (finB [encT ((runes w).drop i)], match (runes w)[i]? with | some c => [⟨(c : Int), ((0 + i + 1 : Nat) : Int)⟩] | none => []) := by
    rw [gnodes_yes (good_one h), hg]; exact gnOf_at hc
  rw [hn]
  refine ⟨?_, fun r hri => ?_, fun hi => ?_⟩
  · by_cases he : i = (runes w).length
    · rw [List.drop_of_length_le (by omega)]
      rw [beq_iff_eq.2 (by omega)]; rfl
    · rw [beq_eq_false_iff_ne.2 (by omega)]
      have hne : encT ((runes w).drop i) ≠ [] := by
        intro e
        have := runes_encT ((runes w).drop i) fun c hc => hgn c (List.mem_of_mem_drop hc)
        rw [e, runes_nil] at this
        have := congrArg List.length this
        rw [List.length_drop] at this
        simp only [List.length_nil] at this
        omega
      unfold finB
      simpa using hne
  · rw [hr, List.getElem?_map] at hri
    obtain ⟨c, hc, rfl⟩ := Option.map_eq_some_iff.1 hri
    rw [hc]
    simp
  · rw [List.getElem?_eq_none (by omega)]
end Go.Ml
