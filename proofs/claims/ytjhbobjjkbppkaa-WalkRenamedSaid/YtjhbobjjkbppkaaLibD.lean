import Derived.Test.YtjhbobjjkbppkaaLibC
import Derived.Laws.BytesArg
import Derived.Laws.IdiomStrings
import Derived.Laws.Cover4
/-
  Plain laws of chapter 8: words from a text on, in pieces; one word's graph.
-/
set_option linter.unusedVariables false
set_option linter.unusedSimpArgs false
namespace Go.Ml
open Go.Ik

/-! words from a text on -/
def geF (words : List Str) (w : Str) : List Str := words.filter fun x => decide (Lib.compareBytes x w ≥ 0)
theorem fromF_all (w : Str) (most : Int) : ∀ (words l : List Str), (l.length : Int) < most → (eachF (fromF w most) l words).1 = (l ++ geF words w).take most.toNat
  | [], l, h => by
    simp only [eachF, geF, List.filter_nil, List.append_nil]
    rw [List.take_of_length_le (by omega)]
  | x :: words, l, h => by
    unfold eachF
    have hf : fromF w most l x = (if Lib.compareBytes x w ≥ 0 then l ++ [x] else l, decide (((if Lib.compareBytes x w ≥ 0 then l ++ [x] else l).length : Int) < most)) := by
      unfold fromF
      simp only [h, true_and]
    rw [hf]
    by_cases hc : Lib.compareBytes x w ≥ 0
    · simp only [if_pos hc]
      have hg : geF (x :: words) w = x :: geF words w := by unfold geF; rw [List.filter_cons_of_pos (by simpa using hc)]
      rw [hg]
      by_cases hl : ((l ++ [x]).length : Int) < most
      · rw [if_pos (by simpa using hl), fromF_all w most words (l ++ [x]) hl]
        simp
      · rw [if_neg (by simpa using hl)]
        simp only [List.length_append, List.length_cons, List.length_nil] at hl
        have : most.toNat = (l ++ [x]).length := by simp only [List.length_append, List.length_cons, List.length_nil]; omega
        rw [this, show l ++ x :: geF words w = (l ++ [x]) ++ geF words w by simp, List.take_left]
    · simp only [if_neg hc]
      have hg : geF (x :: words) w = geF words w := by unfold geF; rw [List.filter_cons_of_neg (by simpa using hc)]
      rw [hg, if_pos (by simpa using h), fromF_all w most words l h]
theorem fromM_take (words : List Str) (w : Str) (most : Int) : fromM words w most = (geF words w).take most.toNat := by
  unfold fromM
  by_cases h : (0 : Int) < most
  · rw [fromF_all w most words [] (by simpa using h)]; simp
  · have h0 : most.toNat = 0 := by omega
    rw [h0, List.take_zero]
    cases words with
    | nil => rfl
    | cons x words =>
      unfold eachF
      have hf : fromF w most [] x = ([], false) := by
        unfold fromF
        have h1 : ¬ (((([] : List Str).length : Nat) : Int) < most ∧ Lib.compareBytes x w ≥ 0) := fun e => h (by simpa using e.1)
        simp only [if_neg h1]
        simpa using h
      rw [hf]; simp
theorem geF_len (words : List Str) (w : Str) : (geF words w).length ≤ words.length := List.length_filter_le _ _
theorem cmp_nil (x : Str) : Lib.compareBytes x [] ≥ 0 := by
  cases x with
  | nil => decide
  | cons a x => show (1 : Int) ≥ 0; omega
theorem geF_nil (words : List Str) : geF words [] = words := by
  unfold geF
  rw [List.filter_eq_self.2]
  intro x _
  have := cmp_nil x
  simpa using this
theorem geF_drop : ∀ {words : List Str}, Sorted words → ∀ {k : Nat} {x : Str}, words[k]? = some x → geF words x = words.drop k
  | [], _, k, x, hx => by simp at hx
  | y :: words, hs, 0, x, hx => by
    simp only [List.getElem?_cons_zero, Option.some.injEq] at hx
    subst hx
    obtain ⟨h1, h2⟩ := List.pairwise_cons.1 hs
    unfold geF
    rw [List.drop_zero, List.filter_eq_self.2]
    intro z hz
    rcases List.mem_cons.1 hz with rfl | hz
    · rw [cmp_refl]; simp
    · have := h1 z hz
      unfold ltT at this
      have h3 := cmp_anti z y
      simp only [decide_eq_true_eq]; omega
  | y :: words, hs, k + 1, x, hx => by
    simp only [List.getElem?_cons_succ] at hx
    obtain ⟨h1, h2⟩ := List.pairwise_cons.1 hs
    have hy := h1 x (List.mem_of_getElem? hx)
    unfold ltT at hy
    have hn : ¬ Lib.compareBytes y x ≥ 0 := by omega
    have := geF_drop h2 hx
    unfold geF at this ⊢
    rw [List.filter_cons_of_neg (by simpa using hn), List.drop_succ_cons, this]
theorem geF_sorted {words : List Str} (h : Sorted words) (w : Str) : Sorted (geF words w) := List.Pairwise.filter _ h
theorem geF_geF {words : List Str} (hs : Sorted words) {w x : Str} {k : Nat} (hx : (geF words w)[k]? = some x) : geF words x = (geF words w).drop k := by
  rw [← geF_drop (geF_sorted hs w) hx]
  unfold geF
  rw [List.filter_filter]
  refine (List.filter_congr fun z _ => ?_)
  have hxw : Lib.compareBytes x w ≥ 0 := by
    have := List.mem_of_getElem? hx
    have := (List.mem_filter.1 this).2
    simpa using this
  by_cases hz : Lib.compareBytes z x ≥ 0
  · have : Lib.compareBytes z w ≥ 0 := by
      rcases (by omega : Lib.compareBytes z w ≥ 0 ∨ Lib.compareBytes z w < 0) with h | h
      · exact h
      · exfalso
        by_cases he : x = w
        · subst he; omega
        · have h1 : ltT w x := lt_tri (by omega) he
          have h2 := lt_trans (a := z) (b := w) (c := x) h h1
          unfold ltT at h2; omega
    simp [hz, this]
  · simp [hz]
/-- pieces: all from 'w' on; the first 'a'; from the last of these on -/
theorem pieces {words : List Str} (hg : goodL words = 0) (w : Str) {a b : Int} (ha : 0 ≤ a) (hb : 0 ≤ b) :
    ((fromM words w a).length : Int) = min a ((fromM words w 100).length : Int) ∧ fromM words w a = (fromM words w 100).take (fromM words w a).length ∧
    (∀ x, (fromM words w a)[(fromM words w a).length - 1]? = some x → fromM words x (b + 1) = ((fromM words w 100).drop ((fromM words w a).length - 1)).take (min (b + 1).toNat ((fromM words w 100).drop ((fromM words w a).length - 1)).length)) ∧
    fromM words [] 100 = words ∧ fromM words w (-a) = [] := by
  have hs := good_sorted hg
  have hl := good_len hg
  have hfl := geF_len words w
  have h100 : fromM words w 100 = geF words w := by rw [fromM_take, List.take_of_length_le (by simp; omega)]
  rw [h100]
  have hA := fromM_take words w a
  refine ⟨by rw [hA, List.length_take]; omega, ?_, fun x hx => ?_, ?_, ?_⟩
  · rw [hA, List.length_take]
    by_cases h : a.toNat ≤ (geF words w).length
    · rw [Nat.min_eq_left h]
    · rw [Nat.min_eq_right (by omega), List.take_of_length_le (by omega), List.take_of_length_le (Nat.le_refl _)]
  · have hlt := (List.getElem?_eq_some_iff.1 hx).1
    have hx' : (geF words w)[(fromM words w a).length - 1]? = some x := by
      rw [hA, List.getElem?_take] at hx
      rw [hA]
      split at hx
      · exact hx
      · cases hx
    rw [fromM_take, geF_geF hs hx']
    by_cases h : (b + 1).toNat ≤ ((geF words w).drop ((fromM words w a).length - 1)).length
    · rw [Nat.min_eq_left h]
    · rw [Nat.min_eq_right (by omega), List.take_of_length_le (by omega), List.take_of_length_le (Nat.le_refl _)]
  · rw [fromM_take, geF_nil, List.take_of_length_le (by simp; omega)]
  · rw [fromM_take, show (-a).toNat = 0 from by omega, List.take_zero]
theorem gnodes_ne {words : List Str} (h : goodL words = 0) : gnodes words ≠ [] := by
  rw [gnodes_yes h]
  unfold graphB gnOf
  split
  · simp
  · rename_i hne
    obtain ⟨es, he⟩ := (graphM_ok (good_deep h).2 (good_deep h).1 hne).root
    intro e
    rw [List.map_eq_nil_iff] at e
    rw [e] at he; simp at he
theorem nodeAt_nil (n : Int) : nodeAt ([] : List GN) n = (false, []) := nodeAt_no (by simp only [List.length_nil]; omega)

theorem eqb3 {a b p q : Bool} (ha : a = p) (hb : b = q) (h : p = q) : (a == b) = true := by rw [ha, hb, h]; simp
/-! one word's graph -/
def chain : Nat → List Nat → GS
  | _, [] => [([[]], [])]
  | k, c :: cs => ([encT (c :: cs)], [⟨(c : Int), ((k + 1 : Nat) : Int)⟩]) :: chain (k + 1) cs
theorem encT_cons (c : Nat) (cs : List Nat) : encT (c :: cs) = encL c ++ encT cs := rfl
theorem isPrefix_app (p t : Str) : p.isPrefixOf (p ++ t) = true := by
  rw [List.isPrefixOf_iff_prefix]; exact List.prefix_append p t
theorem dec_encL {c : Nat} (hc : goodN c) (t : Str) : hdN (encL c ++ t) = c ∧ pfx (encL c ++ t) = encL c := by
  have h : runes (encL c ++ t) = c :: runes t := runes_app hc t
  have hne : encL c ++ t ≠ [] := by
    intro e
    rw [e] at h; simp [runes_nil] at h
  have hd : hdN (encL c ++ t) = c := by
    rw [runes_cons hne] at h
    exact (List.cons.inj h).1
  refine ⟨hd, ?_⟩
  have hd' : (dec (encL c ++ t)).1 = c := hd
  have := (enc_dec hne (by rw [hd']; exact hc.2.2)).2
  rw [hd'] at this
  exact this.symm
theorem groups_one {c : Nat} (hc : goodN c) (t : Str) : groups [encL c ++ t] = [(c, [t])] := by
  obtain ⟨h1, h2⟩ := dec_encL hc t
  rw [groups_cons, h1, h2]
  have hs : stripP (encL c) [encL c ++ t] = [t] := by
    unfold stripP
    rw [List.takeWhile_cons, if_pos (isPrefix_app _ _)]
    simp
  have hm : moreP (encL c) [encL c ++ t] = [] := by
    unfold moreP
    rw [List.dropWhile_cons, if_pos (isPrefix_app _ _)]
    rfl
  rw [hs, hm, groups_nil]
theorem encT_inj {a b : List Nat} (ha : ∀ c ∈ a, goodN c) (hb : ∀ c ∈ b, goodN c) (h : encT a = encT b) : a = b := by
  rw [← runes_encT a ha, ← runes_encT b hb, h]
theorem no_find {s : GS} {r : List Str} (h : ∀ x ∈ s, x.1 ≠ r) : (s.findIdx? fun x => x.1 == r) = none := by
  rw [List.findIdx?_eq_none_iff]
  intro x hx
  exact beq_eq_false_iff_ne.2 (h x hx)
theorem add_chain : ∀ (rs : List Nat) (f : Nat) (s : GS), rs.length ≤ f → (∀ c ∈ rs, goodN c) → (∀ x ∈ s, ∀ u : List Nat, (∀ c ∈ u, goodN c) → u.length ≤ rs.length → x.1 ≠ [encT u]) → addM (f + 1) s [encT rs] = (s ++ chain s.length rs, s.length)
  | [], f, s, _, hg, hs => by
    have hno := no_find fun x hx => hs x hx [] hg (Nat.le_refl _)
    have he : edgesM (addM f) (s ++ [([encT []], [])]) (groups (dropE [encT []])) = (s ++ ([encT []], []) :: [], []) := rfl
    rw [addM_miss hno he]
    rfl
  | c :: cs, 0, s, hf, _, _ => by simp at hf
  | c :: cs, f + 1, s, hf, hg, hs => by
    have hcg := hg c (by simp)
    have hno := no_find fun x hx => hs x hx (c :: cs) hg (Nat.le_refl _)
    have hne : encT (c :: cs) ≠ [] := by
      intro e
      have := runes_encT (c :: cs) hg
      rw [e] at this; simp [runes_nil] at this
    have hd : groups (dropE [encT (c :: cs)]) = [(c, [encT cs])] := by
      rw [(dropE_cons (l := [encT (c :: cs)]) rfl hne).1, encT_cons]
      exact groups_one hcg _
    have ih := add_chain cs f (s ++ [([encT (c :: cs)], [])]) (by simp only [List.length_cons] at hf; omega) (fun d hd => hg d (by simp [hd])) (fun x hx u hu hl => by
      rcases List.mem_append.1 hx with hx | hx
      · exact hs x hx u hu (by simp only [List.length_cons]; omega)
      · simp only [List.mem_singleton] at hx
        subst hx
        intro e
        have e2 := encT_inj hg hu (List.cons.inj e).1
        rw [← e2] at hl
        simp only [List.length_cons] at hl
        omega)
    have he : edgesM (addM (f + 1)) (s ++ [([encT (c :: cs)], [])]) (groups (dropE [encT (c :: cs)])) = (s ++ ([encT (c :: cs)], []) :: chain (s.length + 1) cs, [⟨(c : Int), ((s.length + 1 : Nat) : Int)⟩]) := by
      rw [hd]
      simp only [edgesM, ih, List.length_append, List.length_cons, List.length_nil, List.append_assoc, List.cons_append, List.nil_append, Nat.zero_add]
    rw [addM_miss hno he]
    rfl
theorem chain_at : ∀ (rs : List Nat) (k i : Nat), i ≤ rs.length → (chain k rs)[i]? = some ([encT (rs.drop i)], match rs[i]? with | some c => [⟨(c : Int), ((k + i + 1 : Nat) : Int)⟩] | none => [])
  | [], k, 0, _ => rfl
  | [], k, i + 1, h => by simp at h
  | c :: cs, k, 0, _ => rfl
  | c :: cs, k, i + 1, h => by
    have := chain_at cs (k + 1) i (by simp only [List.length_cons] at h; omega)
    simp only [chain, List.getElem?_cons_succ, List.drop_succ_cons, this]
    rw [show k + 1 + i + 1 = k + (i + 1) + 1 by omega]
theorem chain_len : ∀ (rs : List Nat) (k : Nat), (chain k rs).length = rs.length + 1
  | [], _ => rfl
  | c :: cs, k => by simp [chain, chain_len cs (k + 1)]
theorem good_one {w : Str} (h : word w = true) : goodL [w] = 0 := by
  unfold goodL
  rw [if_neg (by simp), if_pos (by simp [h]), if_pos (by rfl)]
theorem one_graph {w : Str} (h : word w = true) : graphB [w] = chain 0 (runes w) ∧ ∀ c ∈ runes w, goodN c := by
  have hg := good_one h
  obtain ⟨hgr, hd⟩ := good_deep hg
  have hf := hgr.fine w (by simp)
  obtain ⟨he, hgn⟩ := encT_runes w hf
  refine ⟨?_, hgn⟩
  have := add_chain (runes w) 12 [] (hd w (by simp)) hgn (by simp)
  rw [he] at this
  unfold graphB graphM
  rw [if_neg (by simp), this]
  rfl
theorem runesM_word {w : Str} (h : word w = true) : runesM w = (runes w).map fun n : Nat => (n : Int) := by
  have hf : Fine w := ((good_deep (good_one h)).1).fine w (by simp)
  unfold runesM
  rw [if_pos (fine_iff.2 hf)]; rfl
/-- one word's graph, node by node -/
theorem one_len {w : Str} (h : word w = true) : (((gnodes [w]).length : Nat) : Int) = (((runesM w).length + 1 : Nat) : Int) := by
  rw [gnodes_yes (good_one h), gnOf_len, (one_graph h).1, chain_len, runesM_word h, List.length_map]
theorem one_node {w : Str} (h : word w = true) {i : Nat} (hi : i ≤ (runesM w).length) :
    (nodeAt (gnodes [w]) (i : Int)).1 = ((i : Int) == ((runesM w).length : Int)) ∧ (∀ r, (runesM w)[i]? = some r → (nodeAt (gnodes [w]) (i : Int)).2 = [⟨r, ((i + 1 : Nat) : Int)⟩]) ∧ (i = (runesM w).length → (nodeAt (gnodes [w]) (i : Int)).2 = []) := by
  obtain ⟨hg, hgn⟩ := one_graph h
  have hr := runesM_word h
  have hl : (runesM w).length = (runes w).length := by rw [hr, List.length_map]
  have hc := chain_at (runes w) 0 i (by omega)
  have hn : nodeAt (gnodes [w]) (i : Int) = (finB [encT ((runes w).drop i)], match (runes w)[i]? with | some c => [⟨(c : Int), ((0 + i + 1 : Nat) : Int)⟩] | none => []) := by
    rw [gnodes_yes (good_one h), hg]; exact gnOf_at hc
  rw [hn]
  refine ⟨?_, fun r hri => ?_, fun hi => ?_⟩
  · by_cases he : i = (runes w).length
    · rw [List.drop_of_length_le (by omega)]
      rw [beq_iff_eq.2 (by omega)]; rfl
    · rw [beq_eq_false_iff_ne.2 (by omega)]
      have hne : encT ((runes w).drop i) ≠ [] := by
        intro e
        have := runes_encT ((runes w).drop i) fun c hc => hgn c (List.mem_of_mem_drop hc)
        rw [e, runes_nil] at this
        have := congrArg List.length this
        rw [List.length_drop] at this
        simp only [List.length_nil] at this
        omega
      unfold finB
      simpa using hne
  · rw [hr, List.getElem?_map] at hri
    obtain ⟨c, hc, rfl⟩ := Option.map_eq_some_iff.1 hri
    rw [hc]
    simp
  · rw [List.getElem?_eq_none (by omega)]
end Go.Ml
/-
  Near words of a graph, place by place on a stack.
-/
set_option linter.unusedVariables false
set_option linter.unusedSimpArgs false
namespace Go.Ml
open Go.Ik

/-- is a text at just a distance? -/
def nearW (q : List Int) (d : Int) (w : Str) : Bool := decide (lev q (runesI w) = d)
/-- a place on the way: the node's number, its rests and edges, the text that led to it -/
structure PZ where
  n : Nat
  x : List Str × List Ed
  word : Str
def PZ.p (z : PZ) : List Int := runesI z.word
/-- words below a place that are near -/
def zNear (q : List Int) (d : Int) (z : PZ) : List Str := (z.x.1.map (z.word ++ ·)).filter (nearW q d)
def todoZ (q : List Int) (d : Int) (S : List PZ) : List Str := S.reverse.flatMap (zNear q d)
structure ZOk (s : GS) (z : PZ) : Prop where
  at_ : s[z.n]? = some z.x
  fine : Fine z.word
theorem runesI_app {c : Nat} (hc : goodN c) (w : Str) (hw : Fine w) : runesI (w ++ encL c) = runesI w ++ [(c : Int)] := by
  obtain ⟨h1, h2⟩ := encT_runes w hw
  have key : ∀ (rs : List Nat), (∀ d ∈ rs, goodN d) → runes (encT rs ++ encL c) = rs ++ [c] := by
    intro rs h
    have : encT rs ++ encL c = encT (rs ++ [c]) := by
      clear h
      induction rs with
      | nil => simp [encT]
      | cons a rs ih => rw [encT_cons, List.append_assoc, ih]; rfl
    rw [this]
    exact runes_encT _ fun d hd => by
      rcases List.mem_append.1 hd with hd | hd
      · exact h d hd
      · simp only [List.mem_singleton] at hd; subst hd; exact hc
  have := key (runes w) h2
  rw [h1] at this
  unfold runesI
  rw [this, List.map_append]; rfl
theorem fine_app' {c : Nat} (hc : goodN c) {w : Str} (hw : Fine w) : Fine (w ++ encL c) := by
  unfold Fine
  have h := runesI_app hc w hw
  intro hm
  have : (65533 : Int) ∈ runesI (w ++ encL c) := List.mem_map.2 ⟨65533, hm, rfl⟩
  rw [h] at this
  rcases List.mem_append.1 this with h1 | h1
  · obtain ⟨a, ha, he⟩ := List.mem_map.1 h1
    have : a = 65533 := by omega
    subst this; exact hw ha
  · simp only [List.mem_singleton] at h1
    have := hc.2.2
    omega
theorem runesI_more : ∀ (t : Str), Fine t → ∀ (w : Str), Fine w → ∃ u, runesI (w ++ t) = runesI w ++ u ∧ Fine (w ++ t) := by
  intro t ht
  refine fine_ind (p := fun t => ∀ (w : Str), Fine w → ∃ u, runesI (w ++ t) = runesI w ++ u ∧ Fine (w ++ t)) ?_ ?_ t ht
  · intro w hw; exact ⟨[], by simp, by simpa using hw⟩
  · intro c t hc _ ih w hw
    obtain ⟨u, h1, h2⟩ := ih (w ++ encL c) (fine_app' hc hw)
    rw [runesI_app hc w hw] at h1
    rw [List.append_assoc] at h1 h2
    exact ⟨(c : Int) :: u, by rw [h1]; simp, h2⟩
/-- below a dead place nothing is near -/
theorem dead_near {q : List Int} {d : Int} (hd : 0 ≤ d) {w : Str} (hw : Fine w) (h : stateP q d (runesI w) = []) {l : List Str} (hl : ∀ t ∈ l, Fine t) : (l.map (w ++ ·)).filter (nearW q d) = [] := by
  rw [List.filter_eq_nil_iff]
  intro x hx
  obtain ⟨t, ht, rfl⟩ := List.mem_map.1 hx
  obtain ⟨u, h1, _⟩ := runesI_more t (hl t ht) w hw
  have := dead_far (dead_row hd h) u
  unfold nearW
  rw [h1]
  simp only [decide_eq_true_eq]; omega
/-! what is below a place: its word, if it is final and near; then edge by edge -/
def eNear (q : List Int) (d : Int) (z : PZ) (g : Nat × List Str) : List Str := (g.2.map ((z.word ++ encL g.1) ++ ·)).filter (nearW q d)
theorem zNear_eq {q : List Int} {d : Int} {z : PZ} (h : GoodR z.x.1) : zNear q d z = (if finB z.x.1 = true ∧ nearW q d z.word = true then [z.word] else []) ++ (groups (dropE z.x.1)).flatMap (eNear q d z) := by
  unfold zNear
  rw [map_rests h, List.filter_append]
  congr 1
  · by_cases hf : finB z.x.1 = true
    · rw [if_pos hf]
      by_cases hn : nearW q d z.word = true
      · rw [if_pos ⟨hf, hn⟩, List.filter_cons_of_pos hn]; rfl
      · rw [if_neg (fun h => hn h.2), List.filter_cons_of_neg hn]; rfl
    · rw [if_neg hf, if_neg (fun h => hf h.1)]; rfl
  · unfold restL
    rw [List.drop_zero, List.filter_flatMap]
    congr 1
    funext g
    unfold eNear
    congr 1
    exact List.map_congr_left fun t _ => by simp
/-- edges from one on -/
def eFrom (q : List Int) (d : Int) (z : PZ) (k : Nat) : List Str := ((groups (dropE z.x.1)).drop k).flatMap (eNear q d z)
theorem eFrom_zero {q : List Int} {d : Int} {z : PZ} : eFrom q d z 0 = (groups (dropE z.x.1)).flatMap (eNear q d z) := by unfold eFrom; rw [List.drop_zero]
theorem eFrom_end {q : List Int} {d : Int} {z : PZ} {k : Nat} (h : (groups (dropE z.x.1)).length ≤ k) : eFrom q d z k = [] := by unfold eFrom; rw [List.drop_of_length_le h]; rfl
theorem eFrom_step {q : List Int} {d : Int} {z : PZ} {k : Nat} {g : Nat × List Str} (h : (groups (dropE z.x.1))[k]? = some g) : eFrom q d z k = eNear q d z g ++ eFrom q d z (k + 1) := by
  unfold eFrom; rw [drop_el' h, List.flatMap_cons]
theorem todo_pop {q : List Int} {d : Int} {S : List PZ} {z : PZ} : todoZ q d (S ++ [z]) = zNear q d z ++ todoZ q d S := by
  unfold todoZ; rw [List.reverse_append]; simp
theorem todo_push {q : List Int} {d : Int} {S : List PZ} {z y : PZ} {g : Nat × List Str} (hy : y.x.1 = g.2) (hw : y.word = z.word ++ encL g.1) : todoZ q d (S ++ [y]) = eNear q d z g ++ todoZ q d S := by
  rw [todo_pop]
  congr 1
  unfold zNear eNear
  rw [hy, hw]
/-! how much is still to go -/
def wgt (l : List Str) : Nat := 1 + (l.map fun t => (runes t).length).sum
def wgtS (S : List PZ) : Nat := (S.map fun z => wgt z.x.1).sum
theorem wgtS_snoc (S : List PZ) (z : PZ) : wgtS (S ++ [z]) = wgtS S + wgt z.x.1 := by simp [wgtS]
theorem rsum_app (a b : List Str) : ((a ++ b).map fun t => (runes t).length).sum = (a.map fun t => (runes t).length).sum + (b.map fun t => (runes t).length).sum := by simp
theorem rsum_enc {c : Nat} (hc : goodN c) (l : List Str) : ((l.map (encL c ++ ·)).map fun t => (runes t).length).sum = l.length + (l.map fun t => (runes t).length).sum := by
  induction l with
  | nil => rfl
  | cons a l ih =>
    simp only [List.map_cons, List.sum_cons, List.length_cons]
    rw [ih, runes_app hc]
    simp only [List.length_cons]; omega
def wgtE (l : List (Nat × List Str)) : Nat := (l.map fun g => wgt g.2).sum
theorem wgt_groups : ∀ (n : Nat) (l : List Str), l.length ≤ n → GoodR l → (∀ s ∈ l, s ≠ []) → wgtE (groups l) ≤ (l.map fun t => (runes t).length).sum
  | _, [], _, _, _ => by simp [groups_nil, wgtE]
  | 0, _ :: _, h, _, _ => by simp at h
  | n + 1, s :: r, h, hg, hn => by
    have hs := hn s (by simp)
    have hf := hg.fine s (by simp)
    obtain ⟨hc0, hsp, _⟩ := hf.split hs
    have hc : goodN (hdN s) := hc0
    have hp : pfx s = encL (hdN s) := (enc_dec hs ((fine_cons hs).1 hf).1).2.symm
    have happ := strip_app (pfx s) (s :: r)
    have hsum := congrArg (fun l : List Str => (l.map fun t => (runes t).length).sum) happ
    have hsum' : (((stripP (pfx s) (s :: r)).map (pfx s ++ ·) ++ moreP (pfx s) (s :: r)).map fun t => (runes t).length).sum = ((s :: r).map fun t => (runes t).length).sum := hsum
    replace hsum := hsum'
    rw [rsum_app, hp, rsum_enc hc] at hsum
    have hm := more_len s r
    have hlen : 1 ≤ (stripP (pfx s) (s :: r)).length := by
      unfold stripP
      rw [List.takeWhile_cons, if_pos (pfx_is s)]; simp
    have ih := wgt_groups n (moreP (pfx s) (s :: r)) (by simp only [List.length_cons] at h; omega) (hg.more _) fun t ht => hn t ((List.dropWhile_sublist _).subset ht)
    rw [groups_cons]
    unfold wgtE at ih ⊢
    rw [hp] at ih hlen ⊢
    simp only [List.map_cons, List.sum_cons]
    unfold wgt at ih ⊢
    simp only [List.map_cons, List.sum_cons] at hsum
    omega
theorem wgt_edges {l : List Str} (h : GoodR l) : wgtE (groups (dropE l)) + 1 ≤ wgt l := by
  have hd := dropE_good h
  have := wgt_groups _ _ (Nat.le_refl _) hd.1 hd.2
  have hs : ((dropE l).map fun t => (runes t).length).sum = (l.map fun t => (runes t).length).sum := by
    cases l with
    | nil => rfl
    | cons a r => cases a with
      | nil => simp [dropE, runes_nil]
      | cons b a => rfl
  unfold wgt
  omega
def wgtFrom (l : List (Nat × List Str)) (k : Nat) : Nat := wgtE (l.drop k)
theorem wgtFrom_step {l : List (Nat × List Str)} {k : Nat} {g : Nat × List Str} (h : l[k]? = some g) : wgtFrom l k = wgt g.2 + wgtFrom l (k + 1) := by
  unfold wgtFrom wgtE; rw [drop_el' h]; simp
theorem wgtFrom_zero (l : List (Nat × List Str)) : wgtFrom l 0 = wgtE l := by unfold wgtFrom; rw [List.drop_zero]
theorem wgt_pos (l : List Str) : 1 ≤ wgt l := by unfold wgt; omega
/-! words, near, of a list -/
def distsM (words : List Str) (q : List Int) (d : Int) : List Str := words.filter (nearW q d)
theorem todo_root {q : List Int} {d : Int} {words : List Str} {es : List Ed} {n : Nat} : todoZ q d [⟨n, (words, es), []⟩] = distsM words q d := by
  unfold todoZ zNear distsM
  simp
/-- the distance as Dist tells it -/
theorem dist_near {q : List Int} {d : Int} (hd : 0 ≤ d) {w : Str} {D : Int} (hD : D = spreadF q.length d (stateP q d (runesI w)) q.length) : (D ≤ d ∧ D = d) ↔ nearW q d w = true := by
  rw [dist_state hd] at hD
  unfold nearW
  rw [decide_eq_true_eq]
  omega
end Go.Ml
/-
  Places on a stack; functions that are handed in, by what they hold; an own slice cut short.
-/
set_option linter.unusedVariables false
set_option linter.unusedSimpArgs false
set_option linter.unusedSectionVars false
namespace Go.Ik
open Go

/-- an own slice cut short -/
theorem Acc.cut {P : Program} {α : Type} {enc : α → List Value} {e : TypeId} {sz g : Nat} {w : World} {v : Value} {l : List α} {t : TypeId} {by_ : Nat} {gg : Bool} {z : List Value} (h : Acc enc e sz w g v l) (ht : P.underlying t = some (.slice e)) (he : tyI P e = some (gg, sz, by_, z)) (hsz : ∀ x, (enc x).length = sz)
    {k : IntKind} {n : Int} (j : Nat) (hn : n = (j : Int)) (hj : j ≤ l.length) : ∃ v', (∀ w, (Instr.sliceAt t v none (some (.int k n)) none).run P w = .ok v' w) ∧ Acc enc e sz w g v' (l.take j) := by
  rcases h with ⟨h1, h2, h3⟩ | ⟨b, cap, cur, h0, h1, h2, h3, h4, h5, h6⟩
  · subst h2
    have hj0 : j = 0 := by simpa using hj
    subst hj0
    refine ⟨.slice none 0 0, fun w => ?_, .inl ⟨rfl, rfl, h3⟩⟩
    subst h1
    simp [Instr.sliceAt, Instr.slice, Instr.sliceBounds, run_underlying ht, run_sizeOf he, sliceBound_ok (P := P) (k := k) _ hn (Nat.le_refl 0)]
  · refine ⟨.slice (some ⟨b, 0, none⟩) j cap, fun w => ?_, .inr ⟨b, cap, cur, h0, by rw [List.length_take, Nat.min_eq_left hj], h2, by rw [List.length_take]; omega, h4, h5, ?_⟩⟩
    · subst h1
      have hb := fun c w => sliceBound_ok (P := P) (k := k) c hn (Nat.le_trans hj h3) w
      by_cases hc : cap = 0
      · subst hc
        have hj0 : j = 0 := by omega
        subst hj0
        simp [Instr.sliceAt, Instr.slice, Instr.sliceBounds, run_underlying ht, run_sizeOf he, hb]
      · simp [Instr.sliceAt, Instr.slice, Instr.sliceBounds, run_underlying ht, run_sizeOf he, hb, hc, add_lit]
    · rw [List.length_take, Nat.min_eq_left hj, ← flat_take hsz, ← h6, List.take_take, Nat.min_eq_left (Nat.mul_le_mul_right _ hj)]
/-- a graph's blocks are not written -/
theorem Gr.keepM {gt : TypeId} {w w' : World} {lo hi : Nat} {M : Nat → Prop} {v : Value} {N : List GN} (h : Gr gt w lo hi v N) (hm : Mod M w w') (hd : ∀ b, lo ≤ b → b < hi → ¬ M b) : Gr gt w' lo hi v N := by
  rcases h with h | ⟨b, vn, nds, h1, h2, h3, h4, h5⟩
  · exact .inl h
  · exact .inr ⟨b, vn, nds, h1, h2, ⟨h3.1, h3.2.1, h3.2.2.keep hm (hd b h3.1 h3.2.1)⟩, h4.keep hm fun b hb => hd b hb.1 hb.2, h5.keep hm fun b hb => hd b hb.1 hb.2⟩
/-- a function that is handed in, by what it holds -/
structure YieldS (P : Program) {σ : Type} (ky : FuncId) (first cap : List Value) (A : σ → Res (fun _ => False)) (ok : σ → Str → Prop) (f : σ → Str → σ × Bool) : Prop where
  cl : clB P ky = true
  call : ∀ s F w x, (A s).p F w → (∀ b, F b → b < w.heap.size) → ok s x → Calls P ky (first ++ [strV x] ++ cap).toArray w (Ret fun rv w' => rv = .bool (f s x).2 ∧ Mod F w w' ∧ ∃ F', (A (f s x).1).p F' w' ∧ ∀ b, F' b → b < w'.heap.size ∧ (F b ∨ w.heap.size ≤ b))
section
variable {R F0 : Nat → Prop} {w0 w w' : World} {L : List (Res R)} {i j : Nat} {α : Type} {enc : α → List Value}
theorem St.slMem {vs : List (Value × List α)} {v : Value} {l : List α} (h : St R F0 w0 w L) (hi : L[i]? = some (slR enc vs)) (hm : (v, l) ∈ vs) : Sl enc w (Iv 0 w.heap.size) v l := by
  obtain ⟨k, hk, he⟩ := List.getElem_of_mem hm
  exact h.sl hi (List.getElem?_eq_some_iff.2 ⟨hk, he⟩)
theorem sl_app {V V' : List (Value × List α)} {F : Nat → Prop} (h : (boxR (R := R) [slR enc V, slR enc V']).p F w) : (slR (R := R) enc (V ++ V')).p F w := by
  obtain ⟨Fs, h1, h2, _⟩ := h
  intro x hx
  rcases List.mem_append.1 hx with hx | hx
  · exact (h1 0 _ rfl x hx).mono fun b hb => hb.imp (fun h => (h2 0 b h).1.1) id
  · exact (h1 1 _ rfl x hx).mono fun b hb => hb.imp (fun h => (h2 1 b h).1.1) id
end
/-! places on a stack -/
structure PW where
  node : Int
  st : SH
  word : Str
def encPW (x : PW) : List Value := [.int .i64 x.node, x.st.val, strV x.word]
theorem encPW_len (x : PW) : (encPW x).length = 3 := rfl
theorem encPW_one (x : PW) : (encPW x).all (·.oneCell') = true := rfl
open Ml
structure PWR (q : List Int) (d : Int) (s : GS) (V : List (Value × List Pos)) (p : PW) (z : PZ) : Prop where
  node : p.node = (z.n : Int)
  word : p.word = z.word
  st : (p.st.val, stateP q d (runesI z.word)) ∈ V
  na : nodeAt (gnOf s) (z.n : Int) = (finB z.x.1, z.x.2)
  corr : Corr s z.x
  good : GoodR z.x.1
  fine : Fine z.word
  lt : z.n ≤ 1000000
  deep : ∃ e, Deep e z.x.1 ∧ z.word.length + 4 * e ≤ 48
theorem PWR.mono {q : List Int} {d : Int} {s : GS} {V V' : List (Value × List Pos)} {p : PW} {z : PZ} (h : PWR q d s V p z) (hV : ∀ x ∈ V, x ∈ V') : PWR q d s V' p z := { h with st := hV _ h.st }
theorem PWR.start {q : List Int} {d : Int} (hd : 0 ≤ d) {s : GS} {words : List Str} {es : List Ed} {sh : SH} {v : Value} (hv : v = sh.val) (hna : nodeAt (gnOf s) 0 = (finB words, es)) (hc : Corr s (words, es)) (hg : GoodR words) (hdp : Deep 12 words) :
    All2 (PWR q d s [(v, [⟨0, 0⟩])]) [PW.mk 0 sh []] [⟨0, (words, es), []⟩] :=
  .cons ⟨rfl, rfl, by rw [hv, show runesI ([] : Str) = [] from rfl, stateP_start hd]; simp, hna, hc, hg, by simp [Fine, runes_nil], by simp, 12, hdp, by simp⟩ .nil
theorem All2.snoc {α β : Type} {R : α → β → Prop} {l : List α} {m : List β} {a : α} {b : β} (h : All2 R l m) (hab : R a b) : All2 R (l ++ [a]) (m ++ [b]) := by
  induction h with
  | nil => exact .cons hab .nil
  | cons x _ ih => exact .cons x ih
theorem All2.pop {α β : Type} {R : α → β → Prop} : ∀ {l : List α} {m : List β} {n : Nat} {a : α}, All2 R l m → l[n]? = some a → n + 1 = l.length → ∃ m1 b, m = m1 ++ [b] ∧ All2 R (l.take n) m1 ∧ R a b
  | _, _, n, a, .nil, hx, _ => by simp at hx
  | _, _, 0, a, .cons (l := l) (m := m) hab h, hx, hn => by
    have : l = [] := List.eq_nil_of_length_eq_zero (by simp only [List.length_cons] at hn; omega)
    subst this
    cases h
    simp only [List.getElem?_cons_zero, Option.some.injEq] at hx
    subst hx
    exact ⟨[], _, rfl, .nil, hab⟩
  | _, _, n + 1, a, .cons (l := l) (m := m) hab h, hx, hn => by
    obtain ⟨m1, b, h1, h2, h3⟩ := All2.pop h (by simpa using hx) (by simp only [List.length_cons] at hn; omega)
    exact ⟨_ :: m1, b, by rw [h1]; rfl, .cons hab h2, h3⟩
theorem PWR.pop {q : List Int} {d : Int} {s : GS} {V : List (Value × List Pos)} {ps : List PW} {zs : List PZ} {n : Nat} {x : PW} (h : All2 (PWR q d s V) ps zs) (hx : ps[n]? = some x) (hn : n + 1 = ps.length) :
    ∃ zs1 z sh, zs = zs1 ++ [z] ∧ x = PW.mk (z.n : Int) sh z.word ∧ All2 (PWR q d s V) (ps.take n) zs1 ∧ (sh.val, stateP q d (runesI z.word)) ∈ V ∧ nodeAt (gnOf s) (z.n : Int) = (finB z.x.1, z.x.2) ∧ Corr s z.x ∧ GoodR z.x.1 ∧ Fine z.word ∧ z.n ≤ 1000000 ∧ ∃ e, Deep e z.x.1 ∧ z.word.length + 4 * e ≤ 48 := by
  obtain ⟨zs1, z, h1, h2, h3⟩ := All2.pop h hx hn
  refine ⟨zs1, z, x.st, h1, ?_, h2, h3.st, h3.na, h3.corr, h3.good, h3.fine, h3.lt, h3.deep⟩
  rw [← h3.node, ← h3.word]
theorem PWR.push {q : List Int} {d : Int} (hd : 0 ≤ d) {s : GS} {V : List (Value × List Pos)} {ps : List PW} {zs : List PZ} (h : All2 (PWR q d s V) ps zs) (hsz : s.length ≤ 1000000) (hnode : ∀ y ∈ s, Corr s y ∧ GoodR y.1 ∧ Deep 12 y.1) {w : Str} (hw : Fine w) {g : Nat × List Str} {j : Nat} {es : List Ed} {r : Int} {sh : SH} {L : List Pos} {wd : Str} {de : Nat}
    (hru : r = (g.1 : Int)) (hj : s[j]? = some (g.2, es)) (hg : goodN g.1) (hL : L = stateF (q.length + 1) d (cstepF d q (spreadF q.length d (stateP q d (runesI w))) r)) (hwd : wd = w ++ encL g.1) (hde : Deep de g.2) (hlen : w.length + 4 * (de + 1) ≤ 48) {to : Int} (hto : to = (j : Int)) :
    All2 (PWR q d s (V ++ [(sh.val, L)])) (ps ++ [PW.mk to sh wd]) (zs ++ [⟨j, (g.2, es), w ++ encL g.1⟩]) := by
  have hn := hnode _ (List.mem_of_getElem? hj)
  have h4 := encL_len4 g.1
  refine All2.snoc (h.imp fun a b hab => hab.mono fun x hx => by simp [hx]) ⟨hto, hwd, ?_, gnOf_at hj, hn.1, hn.2.1, fine_app' hg hw, by have := (List.getElem?_eq_some_iff.1 hj).1; simp only; omega, de, hde, by simp only [List.length_append]; omega⟩
  rw [hL, hru, stateP_step hd, ← runesI_app hg w hw]
  simp
theorem wgt_len : ∀ {ps : List PW} {zs : List PZ} {R : PW → PZ → Prop}, All2 R ps zs → ps.length ≤ wgtS zs
  | _, _, _, .nil => by simp
  | _, _, _, .cons (b := b) (m := m) _ h => by
    have := wgt_len h
    have h1 := wgt_pos b.x.1
    simp only [List.length_cons, wgtS, List.map_cons, List.sum_cons] at this ⊢
    omega
end Go.Ik
namespace Go.Ml
open Go.Ik
/-! going on behind a place -/
section
variable {σ : Type} {f : σ → Str → σ × Bool} {ok : σ → Str → Prop} {s0 sk : σ} {L E T : List Str} {w : Str} {P : Prop} [Decidable P]
theorem yz_no (h : eachF f s0 L = eachF f sk (((if P then [w] else []) ++ E) ++ T)) (hp : ¬ P) : eachF f s0 L = eachF f sk (E ++ T) := by rw [if_neg hp] at h; exact h
theorem yz_okno (h : OkAll ok f sk (((if P then [w] else []) ++ E) ++ T)) (hp : ¬ P) : OkAll ok f sk (E ++ T) := by rw [if_neg hp] at h; exact h
theorem yz_yes (h : eachF f s0 L = eachF f sk (((if P then [w] else []) ++ E) ++ T)) (hp : P) (hy : (f sk w).2 = true) : eachF f s0 L = eachF f (f sk w).1 (E ++ T) := by
  rw [if_pos hp, List.append_assoc] at h; rw [h]; exact each_first hy
theorem yz_stop (h : eachF f s0 L = eachF f sk (((if P then [w] else []) ++ E) ++ T)) (hp : P) (hy : (f sk w).2 = false) : eachF f s0 L = ((f sk w).1, false) := by
  rw [if_pos hp, List.append_assoc] at h; rw [h]; exact each_first_no hy
theorem yz_ok (h : OkAll ok f sk (((if P then [w] else []) ++ E) ++ T)) (hp : P) : ok sk w := by
  rw [if_pos hp, List.append_assoc] at h; exact h.1
theorem yz_okyes (h : OkAll ok f sk (((if P then [w] else []) ++ E) ++ T)) (hp : P) (hy : (f sk w).2 = true) : OkAll ok f (f sk w).1 (E ++ T) := by
  rw [if_pos hp, List.append_assoc] at h; exact h.2 hy
end
theorem far_yes {D d : Int} (h : decide (D ≤ d) = true) (h2 : (if D > d then 0 else D) = d) : D ≤ d ∧ D = d := by
  have := of_decide_eq_true h
  rw [if_neg (by omega)] at h2
  exact ⟨this, h2⟩
theorem far_no {D d : Int} (h2 : ¬ (if D > d then 0 else D) = d) (hc : D ≤ d ∧ D = d) : False := by rw [if_neg (by omega)] at h2; exact h2 hc.2
theorem far_no2 {D d : Int} (h : decide (D ≤ d) = false) (hc : D ≤ d ∧ D = d) : False := (of_decide_eq_false h) hc.1
/-- an edge that leads to nothing near -/
theorem eNear_dead {s : GS} {q : List Int} {d : Int} (hd : 0 ≤ d) {z : PZ} {g : Nat × List Str} {j : Nat} {es : List Ed} {r : Int} {L : List Pos} (hf : Fine z.word) (hru : r = (g.1 : Int)) (hg : goodN g.1) (hj : s[j]? = some (g.2, es)) (hnode : ∀ y ∈ s, Corr s y ∧ GoodR y.1 ∧ Deep 12 y.1)
    (hL : L = stateF (q.length + 1) d (cstepF d q (spreadF q.length d (stateP q d (runesI z.word))) r)) (hdead : L.isEmpty = true) : eNear q d z g = [] := by
  have hn := hnode _ (List.mem_of_getElem? hj)
  rw [hru, stateP_step hd, ← runesI_app hg z.word hf] at hL
  have he : L = [] := List.isEmpty_iff.1 hdead
  rw [he] at hL
  exact dead_near hd (fine_app' hg hf) hL.symm hn.2.1.fine
end Go.Ml
namespace Go.Ml
open Go.Ik
theorem eFrom_at {q : List Int} {d : Int} {z : PZ} {i : Int} (h : i < 0) : eFrom q d z (i + 1).toNat = eFrom q d z 0 := by rw [show (i + 1).toNat = 0 from by omega]
theorem wgtFrom_at {l : List (Nat × List Str)} {i : Int} (h : i < 0) : wgtFrom l (i + 1).toNat = wgtE l := by rw [show (i + 1).toNat = 0 from by omega, wgtFrom_zero]
theorem eFrom_to {q : List Int} {d : Int} {z : PZ} {i : Int} {X : List Str} (h : 0 ≤ i) (hx : eFrom q d z i.toNat = X ++ eFrom q d z (i.toNat + 1)) : eFrom q d z (i - 1 + 1).toNat = X ++ eFrom q d z (i + 1).toNat := by
  rw [show (i - 1 + 1).toNat = i.toNat from by omega, show (i + 1).toNat = i.toNat + 1 from by omega]; exact hx
theorem wgtFrom_to {l : List (Nat × List Str)} {i : Int} {x : Nat} (h : 0 ≤ i) (hx : wgtFrom l i.toNat = x + wgtFrom l (i.toNat + 1)) : wgtFrom l (i - 1 + 1).toNat = x + wgtFrom l (i + 1).toNat := by
  rw [show (i - 1 + 1).toNat = i.toNat from by omega, show (i + 1).toNat = i.toNat + 1 from by omega]; exact hx
theorem grp_len {s : GS} {x : List Str × List Ed} (hc : Corr s x) : (groups (dropE x.1)).length = x.2.length := (All2.get hc).1
theorem zs_nil {q : List Int} {d : Int} {s : GS} {V : List (Value × List Pos)} {ps : List PW} {zs : List PZ} (h : All2 (PWR q d s V) ps zs) (hp : ps.length = 0) : zs = [] := by
  have := (All2.get h).1
  exact List.eq_nil_of_length_eq_zero (by omega)
end Go.Ml
namespace Go.Ml
open Go.Ik
theorem wgtFrom_le (l : List (Nat × List Str)) (k : Nat) : wgtFrom l k ≤ wgtE l := by
  unfold wgtFrom wgtE
  conv => rhs; rw [← List.take_append_drop k l]
  rw [List.map_append, List.sum_append]; omega
end Go.Ml
/-
  Near words in batches, plainly.
-/
set_option linter.unusedVariables false
set_option linter.unusedSimpArgs false
namespace Go.Ml
open Go.Ik

structure Itm where
  dist : Int
  word : Str
deriving DecidableEq
def encItm (x : Itm) : List Value := [.int .i64 x.dist, strV x.word]
theorem encItm_len (x : Itm) : (encItm x).length = 2 := rfl
theorem encItm_one (x : Itm) : (encItm x).all (·.oneCell') = true := rfl
structure Itm.Ok (x : Itm) : Prop where
  dist : I64 x.dist
  word : x.word.length ≤ maxLen
def itmCmp (a b : Itm) : Int := orI [cmpI a.dist b.dist, Lib.compareBytes a.word b.word]
def itmLess (a b : Itm) : Bool := decide (itmCmp a b < 0)
/-! may it be asked? -/
def mayA (g : List GN) (s : Str) (k : Int) : Bool := (!g.isEmpty) && decide (0 ≤ k ∧ k ≤ 4) && asked s
def qM (g : List GN) (s : Str) (k : Int) : List Int := if mayA g s k = true then runesI s else []
theorem mayA_g {s : Str} {k : Int} : mayA [] s k = false := rfl
theorem mayA_k {g : List GN} {s : Str} {k : Int} (h : k < 0 ∨ k > 4) : mayA g s k = false := by unfold mayA; rw [decide_eq_false (by omega)]; simp
theorem mayA_s {g : List GN} {s : Str} {k : Int} (h : asked s = false) : mayA g s k = false := by unfold mayA; rw [h]; simp
theorem mayA_yes {g : List GN} {s : Str} {k : Int} (hg : g ≠ []) (hk : 0 ≤ k ∧ k ≤ 4) (h : asked s = true) : mayA g s k = true := by
  unfold mayA; rw [h, decide_eq_true hk]; cases g <;> simp at *
theorem mayA_iff {g : List GN} {s : Str} {k : Int} : mayA g s k = true ↔ g ≠ [] ∧ (0 ≤ k ∧ k ≤ 4) ∧ asked s = true := by
  constructor
  · intro h
    unfold mayA at h
    simp only [Bool.and_eq_true, decide_eq_true_eq, Bool.not_eq_true', List.isEmpty_eq_false_iff] at h
    exact ⟨h.1.1, h.1.2, h.2⟩
  · rintro ⟨h1, h2, h3⟩; exact mayA_yes h1 h2 h3
theorem asked_fine {s : Str} (h : asked s = true) : fineT s = true := by
  unfold asked at h
  simp only [Bool.and_eq_true, decide_eq_true_eq] at h
  have := h.1
  unfold lenT at this
  unfold fineT
  split at this
  · omega
  · exact decide_eq_true (by assumption)
theorem qM_no {g : List GN} {s : Str} {k : Int} (h : mayA g s k = false) : ([] : List Int) = qM g s k := by unfold qM; rw [h]; rfl
theorem qM_yes {g : List GN} {s : Str} {k : Int} (h : mayA g s k = true) : runesM s = qM g s k := by
  unfold qM; rw [if_pos h, runesM, if_pos (asked_fine (mayA_iff.1 h).2.2)]
theorem qM_eq {g : List GN} {s : Str} {k : Int} (h : mayA g s k = true) : qM g s k = runesI s := by unfold qM; rw [if_pos h]
theorem asked_len {s : Str} (h : asked s = true) : (runesI s).length ≤ 16 := by
  have hf := asked_fine h
  unfold asked at h
  simp only [Bool.and_eq_true, decide_eq_true_eq] at h
  unfold lenT at h
  unfold fineT at hf
  rw [if_neg (of_decide_eq_true hf)] at h
  unfold runesI
  rw [List.length_map]; omega
theorem qM_len (g : List GN) (s : Str) (k : Int) : (qM g s k).length ≤ 16 := by
  unfold qM
  split
  · exact asked_len (mayA_iff.1 (by assumption)).2.2
  · simp
/-- words at just a distance -/
def distsA (g : List GN) (words : List Str) (s : Str) (d : Int) : List Str := if mayA g s d = true then distsM words (runesI s) d else []
theorem distsM_len (words : List Str) (q : List Int) (d : Int) : (distsM words q d).length ≤ words.length := List.length_filter_le _ _
theorem distsA_len (g : List GN) (words : List Str) (s : Str) (d : Int) : (distsA g words s d).length ≤ words.length := by
  unfold distsA
  split
  · exact distsM_len _ _ _
  · simp
theorem wgt_short {words : List Str} (hd : Deep 12 words) (hl : words.length ≤ 1000) : wgt words ≤ 500000 := by
  have : (words.map fun t => (runes t).length).sum ≤ words.length * 12 := by
    clear hl
    induction words with
    | nil => simp
    | cons a l ih =>
      have h1 := hd a (by simp)
      have h2 := ih fun t ht => hd t (by simp [ht])
      simp only [List.map_cons, List.sum_cons, List.length_cons]
      omega
  unfold wgt; omega
theorem distsA_end {g : List GN} {words : List Str} {s : Str} {d : Int} (h : mayA g s d = true) : (eachF (fun (l : List Str) x => (l ++ [x], true)) [] (distsM words (qM g s d) d)).1 = distsA g words s d := by
  unfold distsA
  rw [if_pos h, qM_eq h, eachF_all]; rfl
/-! batches -/
/-- one word more: what is told, and whether there is more -/
def nextF (first : Bool) (after : Itm) (batch d : Int) (s : List Itm × Bool) (w : Str) : (List Itm × Bool) × Bool :=
  if first = false ∧ itmLess after ⟨d, w⟩ = false then (s, !s.2)
  else if (s.1.length : Int) = batch then ((s.1, true), false)
  else ((s.1 ++ [⟨d, w⟩], s.2), !s.2)
/-- distance by distance -/
def nextD (words : List Str) (q : List Int) (first : Bool) (after : Itm) (batch : Int) (d : Nat) : List Itm × Bool → List Itm × Bool := fun s => (eachF (nextF first after batch d) s (distsM words q d)).1
def nextS (words : List Str) (q : List Int) (first : Bool) (after : Itm) (batch : Int) : Nat → List Itm × Bool
  | 0 => ([], false)
  | d + 1 => let s := nextS words q first after batch d; if s.2 = true then s else nextD words q first after batch d s
def nextA (g : List GN) (words : List Str) (s : Str) (k : Int) (first : Bool) (after : Itm) (batch : Int) : List Itm × Bool :=
  if mayA g s k = true then ((nextS words (runesI s) first after (max batch 0) (k.toNat + 1)).1, !(nextS words (runesI s) first after (max batch 0) (k.toNat + 1)).2) else ([], true)
end Go.Ml
namespace Go.Ik
open Go Go.Ml
theorem far_gr {F F0 : Nat → Prop} {w0 w : World} {R : Nat → Prop} {hi : Nat} (h : ∀ b, F b → ((F0 b ∨ w0.heap.size ≤ b) ∧ ¬ R b) ∧ b < w.heap.size) (hF : ∀ b, F0 b → False) (hhi : hi ≤ w0.heap.size) {lo : Nat} : ∀ b, lo ≤ b → b < hi → ¬ F b := fun b _ h2 hb => by
  rcases (h b hb).1.1 with h3 | h3
  · exact hF b h3
  · omega
end Go.Ik
namespace Go.Ml
open Go.Ik
theorem distsA_no {g : List GN} {words : List Str} {s : Str} {d : Int} (h : mayA g s d = false) : ([] : List Str) = distsA g words s d := by unfold distsA; rw [h]; rfl
theorem nextA_no {g : List GN} {words : List Str} {s : Str} {k batch : Int} {first : Bool} {after : Itm} (h : mayA g s k = false) : nextA g words s k first after batch = ([], true) := by unfold nextA; rw [h]; rfl
end Go.Ml
namespace Go.Ml
open Go.Ik
theorem nextF_skip {after : Itm} {batch d : Int} {s : List Itm × Bool} {w : Str} (h : itmLess after ⟨d, w⟩ = false) : nextF false after batch d s w = (s, !s.2) := by unfold nextF; rw [if_pos ⟨rfl, h⟩]
theorem nextF_full {first : Bool} {after : Itm} {batch d : Int} {s : List Itm × Bool} {w : Str} (h : first = true ∨ itmLess after ⟨d, w⟩ = true) (hb : (s.1.length : Int) = batch) : nextF first after batch d s w = ((s.1, true), false) := by
  unfold nextF
  rw [if_neg (by rintro ⟨h1, h2⟩; rcases h with h | h <;> simp_all), if_pos hb]
theorem nextF_add {first : Bool} {after : Itm} {batch d : Int} {s : List Itm × Bool} {w : Str} (h : first = true ∨ itmLess after ⟨d, w⟩ = true) (hb : ¬ (s.1.length : Int) = batch) : nextF first after batch d s w = ((s.1 ++ [⟨d, w⟩], s.2), !s.2) := by
  unfold nextF
  rw [if_neg (by rintro ⟨h1, h2⟩; rcases h with h | h <;> simp_all), if_neg hb]
theorem nextF_len (first : Bool) (after : Itm) (batch d : Int) (s : List Itm × Bool) (w : Str) : (nextF first after batch d s w).1.1.length ≤ s.1.length + 1 := by
  unfold nextF
  split
  · simp
  · split
    · simp
    · simp
theorem okAll_next (first : Bool) (after : Itm) (batch d : Int) (m : Nat) : ∀ (L : List Str) (s : List Itm × Bool), s.1.length + L.length ≤ m → OkAll (fun (s : List Itm × Bool) (_ : Str) => s.1.length ≤ m) (nextF first after batch d) s L
  | [], s, _ => trivial
  | x :: L, s, h => ⟨by simp only [List.length_cons] at h; omega, fun _ => okAll_next first after batch d m L _ (by
      have := nextF_len first after batch d s x
      simp only [List.length_cons] at h; omega)⟩
theorem eachF_nlen (first : Bool) (after : Itm) (batch d : Int) : ∀ (L : List Str) (s : List Itm × Bool), (eachF (nextF first after batch d) s L).1.1.length ≤ s.1.length + L.length
  | [], s => by simp [eachF]
  | x :: L, s => by
    have h1 := nextF_len first after batch d s x
    have h2 := eachF_nlen first after batch d L (nextF first after batch d s x).1
    unfold eachF
    split
    · simp only [List.length_cons]; omega
    · simp only [List.length_cons]; omega
theorem nextS_len (words : List Str) (q : List Int) (first : Bool) (after : Itm) (batch : Int) : ∀ d, (nextS words q first after batch d).1.length ≤ d * words.length
  | 0 => by simp [nextS]
  | d + 1 => by
    have ih := nextS_len words q first after batch d
    unfold nextS
    simp only
    split
    · rw [Nat.succ_mul]; omega
    · have h1 := eachF_nlen first after batch d (distsM words q d) (nextS words q first after batch d)
      have h2 := distsM_len words q d
      unfold nextD
      rw [Nat.succ_mul]; omega
theorem nextS_go {words : List Str} {q : List Int} {first : Bool} {after : Itm} {batch : Int} {d : Nat} (h : false = (nextS words q first after batch d).2) : (eachF (nextF first after batch d) (nextS words q first after batch d) (distsM words q d)).1 = nextS words q first after batch (d + 1) := by
  conv => rhs; unfold nextS
  simp only
  rw [← h]; rfl
theorem nextS_stop {words : List Str} {q : List Int} {first : Bool} {after : Itm} {batch : Int} {n : Nat} (h : (nextS words q first after batch n).2 = true) : ∀ m, nextS words q first after batch (n + m) = nextS words q first after batch n
  | 0 => rfl
  | m + 1 => by
    have ih := nextS_stop h m
    rw [← Nat.add_assoc]
    conv => lhs; unfold nextS
    simp only
    rw [ih, if_pos h]
theorem nextA_end {g : List GN} {words : List Str} {s : Str} {k batch : Int} {first : Bool} {after : Itm} (hm : mayA g s k = true) {n : Nat} (h : (nextS words (qM g s k) first after (max batch 0) n).2 = true ∧ (n : Int) ≤ k + 1 ∨ (n : Int) = k + 1) :
    nextA g words s k first after batch = ((nextS words (qM g s k) first after (max batch 0) n).1, !(nextS words (qM g s k) first after (max batch 0) n).2) := by
  have hk := (mayA_iff.1 hm).2.1
  unfold nextA
  rw [if_pos hm, ← qM_eq hm]
  rcases h with ⟨h, hn⟩ | h
  · have := nextS_stop h (k.toNat + 1 - n)
    rw [show n + (k.toNat + 1 - n) = k.toNat + 1 from by omega] at this
    rw [this]
  · rw [show n = k.toNat + 1 from by omega]
theorem nextA_end2 {g : List GN} {words : List Str} {s : Str} {k batch : Int} {first : Bool} {after : Itm} (hm : mayA g s k = true) {n : Nat} (h : (nextS words (qM g s k) first after (max batch 0) n).2 = true ∧ (n : Int) ≤ k + 1 ∨ (n : Int) = k + 1) {b : Bool} (hb : (nextS words (qM g s k) first after (max batch 0) n).2 = b) :
    (!b) = (nextA g words s k first after batch).2 := by rw [nextA_end hm h, hb]
theorem nextA_len {g : List GN} {words : List Str} {s : Str} {k batch : Int} {first : Bool} {after : Itm} : (nextA g words s k first after batch).1.length ≤ 5 * words.length := by
  unfold nextA
  split
  · have hk := (mayA_iff.1 (by assumption)).2.1
    have := nextS_len words (runesI s) first after (max batch 0) (k.toNat + 1)
    have h2 : (k.toNat + 1) * words.length ≤ 5 * words.length := Nat.mul_le_mul_right _ (by omega)
    simp only; omega
  · simp
end Go.Ml
namespace Go.Ik
open Go Go.Ml
/-- what is told so far, and whether there is more, in two boxes -/
def nb0R {R : Nat → Prop} (te e tb : TypeId) (bl bm : Nat) (s : List Itm × Bool) : Res R := exR fun v : Value => boxR [bkR bl [v] te, accR encItm e 2 v s.1, bkR bm [.bool s.2] tb]
end Go.Ik
theorem Go.Ml.nextA_lenE (g : List Go.Ik.GN) (words : List Go.Ik.Str) (s : Go.Ik.Str) (k : Int) (first : Bool) (after : Go.Ml.Itm) (batch : Int) : (Go.Ml.nextA g words s k first after batch).1.length ≤ 5 * words.length := Go.Ml.nextA_len
/-
  Conversions between bytes, runes and texts; quotients of runes.
-/
set_option linter.unusedVariables false
set_option linter.unusedSimpArgs false
set_option linter.unusedSectionVars false
namespace Go.Ik
open Go

section
variable {P : Program} {E : Env} {C : World → Prop} {d : Option Tmp} {ty : TypeId} {pos : String} {af : Array Edge} {gd : Option (Nat × Bool)} {w : World} {K : Value → World → Prop}
theorem Q1.quo32 {x y : Operand} {xt yt : TypeId} {p q : Int} (r : Int) (hx : ev E x = some (.int .i32 p)) (hy : ev E y = some (.int .i32 q)) (hr : 0 ≤ p ∧ p ≤ 2147483647 ∧ 1 ≤ q ∧ p / q = r) : Q1 P ⟨d, .binOp .quo xt x y yt, ty, pos, af, gd⟩ E C (.int .i32 r) := by
  have h := Q1.quo (P := P) (C := C) (d := d) (xt := xt) (yt := yt) (ty := ty) (pos := pos) (af := af) (gd := gd) hx hy (by omega)
  have e : IntKind.i32.wrap (p.tdiv q) = r := by
    rw [Int.tdiv_eq_ediv_of_nonneg hr.1, hr.2.2.2]
    have h0 := Int.ediv_nonneg hr.1 (by omega : 0 ≤ q)
    have h1 := Int.ediv_le_self q hr.1
    exact IntWalk.i32_in _ (by omega)
  rw [e] at h; exact h
theorem row_byte {b off : Nat} {l : Str} (hr : Row w b off (l.flatMap encB)) (j : Nat) (hj : j < l.length) : w.cell? ((⟨b, off, none⟩ : Addr).add j) = some (.int .u8 (l[j].toNat : Int)) := by
  have hf : l.flatMap encB = l.map fun c => Value.int .u8 (c.toNat : Int) := by
    clear hr hj
    induction l with
    | nil => rfl
    | cons a l ih => simp [encB, ih]
  rw [add_lit]
  exact hr.cell j _ (by rw [hf, List.getElem?_map, List.getElem?_eq_getElem hj]; rfl)
theorem AW.bytesStr {s t e : TypeId} {x : Operand} {v : Value} {F : Nat → Prop} {l : Str} (hs : P.underlying s = some (.slice e)) (he : P.underlying e = some (.int .u8)) (ht : P.underlying t = some .string) (hx : ev E x = some v) (h : Sl encB w F v l) (hK : K (strV l) w) :
    AW P ⟨d, .convert s t x, ty, pos, af, gd⟩ E w K := fun a ha => by
  obtain ⟨ad, cap, rfl, h2, h3, h4⟩ := h
  have hr : (convert s t (.slice ad l.length cap)).run P w = .ok (strV l) w := by
    rcases h4 with rfl | ⟨b, off, rfl, _, hr⟩
    · show (convert s t (.slice ad 0 cap)).run P w = _
      rw [run_convert_bytes_string w s t e ad 0 cap hs he ht]
      cases ad <;> simp [Conv.bytesToString, loadCells, loadCellsFrom, strV] <;> rfl
    · exact run_convert_bytes_back w s t e _ cap l hs he ht (row_byte hr)
  simp [execOp, ha.ev hx, hr, out]
  exact hK
end
end Go.Ik
namespace Go.Ik
open Go
/-- a byte out of a number -/
def byN (n : Int) : UInt8 := UInt8.ofNat (n % 256).toNat
theorem byN_toNat (n : Int) : ((byN n).toNat : Int) = n % 256 := by
  have h0 := Int.emod_nonneg n (by omega : (256 : Int) ≠ 0)
  have h1 := Int.emod_lt_of_pos n (by omega : (0 : Int) < 256)
  unfold byN
  rw [UInt8.toNat_ofNat']
  omega
theorem byN_nat (n : Nat) : byN (n : Int) = UInt8.ofNat n := by
  apply UInt8.toNat_inj.1
  have := byN_toNat (n : Int)
  rw [UInt8.toNat_ofNat']
  omega
section
variable {P : Program} {E : Env} {C : World → Prop} {d : Option Tmp} {ty : TypeId} {pos : String} {af : Array Edge} {gd : Option (Nat × Bool)} {w : World} {K : Value → World → Prop}
theorem Q1.convB {s t : TypeId} {x : Operand} {k : IntKind} {p : Int} (hs : (P.underlying s).isSome = true) (ht : P.underlying t = some (.int .u8)) (hx : ev E x = some (.int k p)) : Q1 P ⟨d, .convert s t x, ty, pos, af, gd⟩ E C (.int .u8 ((byN p).toNat : Int)) := by
  have h := Q1.convI (P := P) (C := C) (d := d) (ty := ty) (pos := pos) (af := af) (gd := gd) hs ht hx
  have e : IntKind.u8.wrap p = ((byN p).toNat : Int) := by rw [byN_toNat, IntKind.wrap_u8]
  rw [e] at h; exact h
end
end Go.Ik
namespace Go.Ik
open Go
section
variable {P : Program} {E : Env} {C : World → Prop} {d : Option Tmp} {ty : TypeId} {pos : String} {af : Array Edge} {gd : Option (Nat × Bool)} {w : World} {K : Value → World → Prop}
theorem runes_fold : ∀ (ns : List Int) (s : ByteArray), (ns.foldl (fun r n => r ++ Utf8.encode n) s).data.toList = s.data.toList ++ ns.flatMap encR
  | [], s => by simp
  | n :: ns, s => by
    rw [List.foldl_cons, runes_fold ns]
    simp [encR, ByteArray.data_append]
theorem AW.runesStr {s t e : TypeId} {x : Operand} {v : Value} {F : Nat → Prop} {l : List Int} (hs : P.underlying s = some (.slice e)) (he : P.underlying e = some (.int .i32)) (ht : P.underlying t = some .string) (hx : ev E x = some v) (h : Sl encRn w F v l) (hK : K (strV (l.flatMap encR)) w) :
    AW P ⟨d, .convert s t x, ty, pos, af, gd⟩ E w K := fun a ha => by
  obtain ⟨ad, cap, rfl, h2, h3, h4⟩ := h
  have hr : (convert s t (.slice ad l.length cap)).run P w = .ok (strV (l.flatMap encR)) w := by
    rcases h4 with rfl | ⟨b, off, rfl, _, hr⟩
    · show (convert s t (.slice ad 0 cap)).run P w = _
      rw [run_convert_runes_string w s t e ad 0 cap hs he ht]
      cases ad <;> simp [Conv.runesToString, loadCells, loadCellsFrom, strV] <;> rfl
    · rw [run_convert_runes_string w s t e _ _ cap hs he ht]
      have hf : l.flatMap encRn = l.map (Value.int .i32) := by
        clear hr h2 hx hK
        induction l with
        | nil => rfl
        | cons a l ih => simp [encRn, ih]
      have hl := run_loadCells_list (P := P) w ⟨b, off, none⟩ (l.map (Value.int .i32)) (fun j u hu => by
        rw [add_lit]; exact hr.cell j u (by rw [hf]; exact hu))
      rw [List.length_map] at hl
      rw [run_runesToString w _ l.length cap l hl]
      congr 1
      unfold strV
      congr 1
      apply ByteArray.ext
      apply Array.ext'
      have := runes_fold l ByteArray.empty
      unfold runesBytes
      rw [this]
      simp
  simp [execOp, ha.ev hx, hr, out]
  exact hK
end
end Go.Ik
/-
  The reference of chapter 8, plainly: a rune's bytes, first runes, what is left of rests.
-/
set_option linter.unusedVariables false
set_option linter.unusedSimpArgs false
namespace Go.Ml
open Go.Ik

/-! a rune's bytes -/
theorem by8_N (n : Nat) : byN (n : Int) = by8 n := byN_nat n
theorem enc_b1 {r : Int} (h0 : 0 ≤ r) (h : r < 128) : [byN r] = encL r.toNat := by
  obtain ⟨c, rfl⟩ := Int.eq_ofNat_of_zero_le h0
  rw [Int.toNat_natCast]; unfold encL
  rw [if_pos (by omega), by8_N]
theorem enc_b2 {r : Int} (h0 : 0 ≤ r) (h : ¬ r < 128) (h2 : r < 2048) : [byN (192 + r / 64), byN (128 + r % 64)] = encL r.toNat := by
  obtain ⟨c, rfl⟩ := Int.eq_ofNat_of_zero_le h0
  rw [Int.toNat_natCast]; unfold encL
  rw [if_neg (by omega), if_pos (by omega), ← by8_N, ← by8_N]
  rfl
theorem enc_b3 {r : Int} (h0 : 0 ≤ r) (h : ¬ r < 128) (h2 : ¬ r < 2048) (h3 : r < 65536) : [byN (224 + r / 4096), byN (128 + r / 64 % 64), byN (128 + r % 64)] = encL r.toNat := by
  obtain ⟨c, rfl⟩ := Int.eq_ofNat_of_zero_le h0
  rw [Int.toNat_natCast]; unfold encL
  rw [if_neg (by omega), if_neg (by omega), if_pos (by omega), ← by8_N, ← by8_N, ← by8_N]
  rfl
theorem enc_b4 {r : Int} (h0 : 0 ≤ r) (h : ¬ r < 128) (h2 : ¬ r < 2048) (h3 : ¬ r < 65536) : [byN (240 + r / 262144), byN (128 + r / 4096 % 64), byN (128 + r / 64 % 64), byN (128 + r % 64)] = encL r.toNat := by
  obtain ⟨c, rfl⟩ := Int.eq_ofNat_of_zero_le h0
  rw [Int.toNat_natCast]; unfold encL
  rw [if_neg (by omega), if_neg (by omega), if_neg (by omega), ← by8_N, ← by8_N, ← by8_N, ← by8_N]
  rfl
/-! the text of runes -/
def encI_ (l : List Int) : Str := l.flatMap fun r => encL r.toNat
def rtext (l : List Int) : Str := if l.all goodR = true then encI_ l else []
theorem encI_take {l : List Int} {k : Nat} {x : Int} (hx : l[k]? = some x) : encI_ (l.take (k + 1)) = encI_ (l.take k) ++ encL x.toNat := by
  unfold encI_; rw [List.take_add_one, hx]; simp
theorem rtext_no {l : List Int} {k : Nat} {x : Int} (hx : l[k]? = some x) (h : goodR x = false) : ([] : Str) = rtext l ∧ false = l.all goodR := by
  have : l.all goodR = false := not_all hx h
  unfold rtext; rw [this]; exact ⟨rfl, rfl⟩
theorem rtext_yes {l : List Int} {k : Nat} {s : Str} (ha : (l.take k).all goodR = true) (hs : s = encI_ (l.take k)) (hk : l.length ≤ k) : s = rtext l ∧ true = l.all goodR := by
  rw [List.take_of_length_le hk] at ha hs
  unfold rtext; rw [if_pos ha, ha]; exact ⟨hs, rfl⟩
theorem encL_len4' (c : Nat) : (encL c).length ≤ 4 := encL_len4 c
theorem goodR_of {c : Nat} (h : goodN c) : goodR (c : Int) = true := by
  rw [good_d]; unfold goodN at h; exact decide_eq_true (by omega)
theorem goodR_rng {x : Int} (h : goodR x = true) : 0 ≤ x ∧ x ≤ 1114111 := by
  rw [good_d] at h
  have := of_decide_eq_true h
  omega
theorem fine_head {s : Str} (hf : Fine s) (hne : s ≠ []) : goodN (hdN s) ∧ encL (hdN s) = pfx s ∧ (runesM s)[0]? = some ((hdN s : Nat) : Int) ∧ 1 ≤ (runesM s).length := by
  have h1 := (encT_runes s hf).2 (hdN s) (by rw [runes_cons hne]; simp [hdN])
  have h2 := (enc_dec hne h1.2.2).2
  have h3 : runesM s = ((hdN s : Nat) : Int) :: (runes (s.drop (dec s).2)).map fun n : Nat => (n : Int) := by
    unfold runesM; rw [if_pos (fine_iff.2 hf)]; unfold runesI; rw [runes_cons hne]; rfl
  exact ⟨h1, h2, by rw [h3]; rfl, by rw [h3]; simp⟩
theorem rpfx {s : Str} (hf : Fine s) (hne : s ≠ []) : rtext ((runesM s).take 1) = pfx s := by
  obtain ⟨h1, h2, h3, h4⟩ := fine_head hf hne
  have h5 : (runesM s).take 1 = [((hdN s : Nat) : Int)] := by
    cases hl : runesM s with
    | nil => rw [hl] at h4; simp at h4
    | cons a r => rw [hl] at h3; simp at h3; simp [h3]
  rw [h5]; unfold rtext
  rw [if_pos (by simp [goodR_of h1])]
  unfold encI_; simp [h2]
theorem rpfx1 {s : Str} (hf : Fine s) (hne : s ≠ []) (h : ¬ (1 : Int) < ((runesM s).length : Int)) : rtext (runesM s) = pfx s := by
  rw [← rpfx hf hne, List.take_of_length_le (by omega)]
theorem dec_encL' {c : Nat} (hc : goodN c) (t : Str) : pfx (encL c ++ t) = encL c := by
  have h : runes (encL c ++ t) = c :: runes t := runes_app hc t
  have hne : encL c ++ t ≠ [] := by
    intro e
    rw [e] at h; simp [runes_nil] at h
  have hd : (dec (encL c ++ t)).1 = c := by
    rw [runes_cons hne] at h
    exact (List.cons.inj h).1
  have := (enc_dec hne (by rw [hd]; exact hc.2.2)).2
  rw [hd] at this
  exact this.symm
theorem no_find' {s : GS} {r : List Str} (h : ∀ x ∈ s, x.1 ≠ r) : (s.findIdx? fun x => x.1 == r) = none := by
  rw [List.findIdx?_eq_none_iff]
  intro x hx
  exact beq_eq_false_iff_ne.2 (h x hx)
theorem pfx_eq {x t : Str} (hx : Fine x) (hxn : x ≠ []) (ht : Fine t) (htn : t ≠ []) : (pfx t == pfx x) = (pfx x).isPrefixOf t := by
  obtain ⟨h1, h2, _⟩ := fine_head hx hxn
  rw [Bool.eq_iff_iff, beq_iff_eq]
  constructor
  · intro e; rw [← e]; exact pfx_is t
  · intro h
    have := prefix_drop h
    rw [← h2] at this ⊢
    rw [this]
    exact (dec_encL' h1 _)
/-! what is left of rests at a place -/
def remR (rests : List Str) (i : Nat) : List Str := if i = 0 then dropE rests else rests.drop i
theorem rem_zero (rests : List Str) : remR rests 0 = dropE rests := rfl
theorem pos_ne {l : List Str} (hs : Sorted l) {i : Nat} {x : Str} (hx : l[i]? = some x) (hi : 0 < i) : x ≠ [] := by
  have hlt := (List.getElem?_eq_some_iff.1 hx).1
  have h0 : l[0]? = some l[0] := List.getElem?_eq_getElem (by omega)
  have := sorted_at hs h0 hx hi
  intro e; subst e
  unfold ltT at this
  have h2 : Lib.compareBytes l[0] [] ≥ 0 := by
    cases l[0] with
    | nil => decide
    | cons a r => show (1 : Int) ≥ 0; omega
  omega
theorem ne_at {l : List Str} (hs : Sorted l) {k k1 : Nat} {x y : Str} (hx : l[k]? = some x) (hxn : x ≠ []) (hk : k ≤ k1) (hy : l[k1]? = some y) : y ≠ [] := by
  rcases Nat.eq_or_lt_of_le hk with e | h
  · subst e
    rw [hx] at hy; cases hy; exact hxn
  · exact pos_ne hs hy (by omega)
theorem runesM_r32 (s : Str) : ∀ x ∈ runesM s, -2147483648 ≤ x ∧ x ≤ 2147483647 := by
  intro x hx
  obtain ⟨k, hk⟩ := List.mem_iff_getElem?.1 hx
  have := runesM_rng hk
  omega
theorem rem_skip {rests : List Str} (hg : GoodR rests) {i : Nat} {x : Str} (hx : rests[i]? = some x) (he : x = []) : remR rests i = remR rests (i + 1) ∧ i = 0 := by
  have hi : i = 0 := by
    rcases Nat.eq_zero_or_pos i with h | h
    · exact h
    · exact absurd he (pos_ne hg.sorted hx h)
  subst hi
  refine ⟨?_, rfl⟩
  rw [rem_zero, (dropE_nil hx he).1]; rfl
theorem rem_grp {rests : List Str} {i : Nat} {x : Str} (hx : rests[i]? = some x) (hne : x ≠ []) : remR rests i = rests.drop i := by
  unfold remR
  split
  · rename_i h; subst h
    rw [(dropE_cons hx hne).1]; rfl
  · rfl
theorem rem_end {rests : List Str} {i : Nat} (h : rests.length ≤ i) : remR rests i = [] := by
  unfold remR
  split
  · have : rests = [] := List.eq_nil_of_length_eq_zero (by omega)
    subst this; rfl
  · exact List.drop_of_length_le h
theorem rem_pos {rests : List Str} {i : Nat} (h : 0 < i) : remR rests i = rests.drop i := by unfold remR; rw [if_neg (by omega)]
theorem rem_good {rests : List Str} {f : Nat} (hg : GoodR rests) (hd : Deep f rests) (i : Nat) : GoodR (remR rests i) ∧ (∀ t ∈ remR rests i, t ≠ []) ∧ Deep f (remR rests i) := by
  unfold remR
  split
  · have := dropE_good hg
    exact ⟨this.1, this.2, fun t ht => hd t (dropE_mem ht)⟩
  · rename_i hi
    refine ⟨⟨sorted_suffix hg.sorted (List.drop_suffix _ _), fun t ht => hg.fine t (List.mem_of_mem_drop ht)⟩, fun t ht => ?_, fun t ht => hd t (List.mem_of_mem_drop ht)⟩
    obtain ⟨k, hk⟩ := List.mem_iff_getElem?.1 ht
    rw [List.getElem?_drop] at hk
    exact pos_ne hg.sorted hk (by omega)
theorem rem_sum (rests : List Str) (i : Nat) : sumLen (remR rests i) ≤ sumLen rests := by
  unfold remR
  split
  · rw [sumLen_dropE]; exact Nat.le_refl _
  · have := sumLen_app (rests.take i) (rests.drop i)
    rw [List.take_append_drop] at this
    omega
theorem rem_len (rests : List Str) (i : Nat) : (remR rests i).length ≤ rests.length := by
  unfold remR
  split
  · exact dropE_len rests
  · simp
/-! looked for among names -/
theorem find_at {s : GS} {r : List Str} {k : Nat} {x : List Str × List Ed} (hno : ∀ y ∈ s.take k, y.1 ≠ r) (hx : s[k]? = some x) (he : x.1 = r) : (s.findIdx? fun x => x.1 == r) = some k := by
  obtain ⟨hk, rfl⟩ := List.getElem?_eq_some_iff.1 hx
  rw [List.findIdx?_eq_some_iff_getElem]
  refine ⟨hk, by simpa using he, fun j hj => ?_⟩
  have := hno s[j] (by rw [List.mem_take_iff_getElem]; exact ⟨j, by omega, rfl⟩)
  simpa using this
theorem find_step {s : GS} {r : List Str} {k : Nat} {x : List Str × List Ed} (hno : ∀ y ∈ s.take k, y.1 ≠ r) (hx : s[k]? = some x) (he : x.1 ≠ r) : ∀ y ∈ s.take (k + 1), y.1 ≠ r := by
  intro y hy
  rw [List.take_add_one, hx] at hy
  simp only [Option.toList_some, List.mem_append, List.mem_singleton] at hy
  rcases hy with hy | rfl
  · exact hno y hy
  · exact he
theorem find_no {s : GS} {r : List Str} {k : Nat} (hno : ∀ y ∈ s.take k, y.1 ≠ r) (hk : s.length ≤ k) : (s.findIdx? fun x => x.1 == r) = none := by
  rw [List.take_of_length_le hk] at hno
  exact no_find' hno
theorem names_put' {s : GS} {rests : List Str} (hf : (s.findIdx? fun x => x.1 == rests) = none) (hnd : (names s).Nodup) : (names (s ++ (rests, []) :: [])).Nodup := by
  have hno := findIdx_none hf
  unfold names
  rw [List.map_append, List.nodup_append]
  refine ⟨hnd, by simp, fun a ha b hb => ?_⟩
  simp only [List.map_cons, List.map_nil, List.mem_singleton] at hb
  subst hb
  exact fun e => hno (by rw [← e]; exact ha)
theorem addM_nodup {f : Nat} {s : GS} {rests : List Str} (hd : Deep f rests) (hg : GoodR rests) (hne : rests ≠ []) (hn : (names s).Nodup) : (names (addM (f + 1) s rests).1).Nodup := (addM_ok f s rests hd hg hne hn).apart
end Go.Ml
/-
  The reference's graph as what is held.
-/
set_option linter.unusedVariables false
set_option linter.unusedSimpArgs false
namespace Go.Ik
open Go Go.Ml

structure RNd where
  r : SH
  e : SH
def encRd (x : RNd) : List Value := [x.r.val, x.e.val]
theorem encRd_len (x : RNd) : (encRd x).length = 2 := rfl
theorem encRd_one (x : RNd) : (encRd x).all (·.oneCell') = true := rfl
section
variable {R : Nat → Prop}
def RR (w : World) (F : Nat → Prop) (nds : List RNd) (s : GS) : Prop := All2 (fun n x => Sl encS w F n.r.val x.1 ∧ Sl encE w F n.e.val x.2) nds s
theorem RR.mono {w : World} {F F' : Nat → Prop} {nds : List RNd} {s : GS} (h : RR w F nds s) (hF : ∀ b, F b → F' b) : RR w F' nds s := All2.imp (fun r n ⟨h1, h2⟩ => ⟨h1.mono hF, h2.mono hF⟩) h
theorem RR.keep {M : Nat → Prop} {w w' : World} {F : Nat → Prop} {nds : List RNd} {s : GS} (h : RR w F nds s) (hm : Mod M w w') (hF : ∀ b, F b → ¬ M b) : RR w' F nds s := All2.imp (fun r n ⟨h1, h2⟩ => ⟨h1.keep hm hF, h2.keep hm hF⟩) h
theorem RR.len {w : World} {F : Nat → Prop} {nds : List RNd} {s : GS} (h : RR w F nds s) : nds.length = s.length := (All2.get h).1
theorem RR.at {w : World} {F : Nat → Prop} {nds : List RNd} {s : GS} (h : RR w F nds s) {k : Nat} {n : RNd} (hn : nds[k]? = some n) : ∃ x, s[k]? = some x ∧ Sl encS w F n.r.val x.1 ∧ Sl encE w F n.e.val x.2 := by
  have hg := All2.get h
  have hlt := (List.getElem?_eq_some_iff.1 hn).1
  have hx : s[k]? = some (s[k]'(by rw [← hg.1]; exact hlt)) := by simp
  exact ⟨_, hx, hg.2 k _ _ hn hx⟩
def rrR (nds : List RNd) (s : GS) : Res R := ⟨fun F w => RR w (fun b => F b ∨ R b) nds s, fun h hm hF hR => RR.keep h hm fun b hb => hb.elim (hF b) (hR b)⟩
/-- the graph in block 'bG': its nodes' rests (their headers: 'hs') and edges -/
def rgR (gT nT : TypeId) (bG : Nat) (s : GS) (hs : List Value) : Res R := exR fun x : Value × List RNd => andR (x.2.map (fun n => n.r.val) = hs) (boxR [bkR bG [x.1] gT, accR encRd nT 2 x.1 x.2, rrR x.2 s])
theorem St.and {F0 : Nat → Prop} {w0 w : World} {L : List (Res R)} {i : Nat} {P : Prop} {A : Res R} (h : St R F0 w0 w L) (hi : L[i]? = some (andR P A)) : P ∧ St R F0 w0 w (L.set i A) := by
  obtain ⟨F, h1, _⟩ := h.get hi
  exact ⟨h1.1, h.imp hi fun F hF => hF.2⟩
theorem St.rrAt {F0 : Nat → Prop} {w0 w : World} {L : List (Res R)} {i k : Nat} {nds : List RNd} {s : GS} {n : RNd} (h : St R F0 w0 w L) (hi : L[i]? = some (rrR nds s)) (hn : nds[k]? = some n) : ∃ x, s[k]? = some x ∧ Sl encS w (Iv 0 w.heap.size) n.r.val x.1 ∧ Sl encE w (Iv 0 w.heap.size) n.e.val x.2 := by
  obtain ⟨F, h1, h2⟩ := h.get hi
  have h3 : RR w (Iv 0 w.heap.size) nds s := RR.mono h1 fun b hb => ⟨Nat.zero_le _, hb.elim (h2 b) (h.rlt b)⟩
  exact h3.at hn
theorem St.rrLen {F0 : Nat → Prop} {w0 w : World} {L : List (Res R)} {i : Nat} {nds : List RNd} {s : GS} (h : St R F0 w0 w L) (hi : L[i]? = some (rrR nds s)) : nds.length = s.length := by
  obtain ⟨F, h1, _⟩ := h.get hi
  exact RR.len h1
theorem St.rgAt {F0 : Nat → Prop} {w0 w : World} {L : List (Res R)} {i k : Nat} {gT nT : TypeId} {bG : Nat} {s : GS} {hs : List Value} {v : Value} {x : List Str × List Ed} (h : St R F0 w0 w L) (hi : L[i]? = some (rgR gT nT bG s hs)) (hv : hs[k]? = some v) (hx : s[k]? = some x) : Sl encS w (Iv 0 w.heap.size) v x.1 := by
  obtain ⟨F, ⟨⟨vN, nds⟩, hm, Fs, h1, h2, h3⟩, hF⟩ := h.get hi
  have h4 : RR w (fun b => Fs 2 b ∨ R b) nds s := h1 2 _ rfl
  have h5 : RR w (Iv 0 w.heap.size) nds s := RR.mono h4 fun b hb => ⟨Nat.zero_le _, hb.elim (fun h => (h2 2 b h).2) (h.rlt b)⟩
  have hm' : nds.map (fun n => n.r.val) = hs := hm
  subst hm'
  rw [List.getElem?_map] at hv
  obtain ⟨n, hn, rfl⟩ := Option.map_eq_some_iff.1 hv
  obtain ⟨x', hx', h6, _⟩ := h5.at hn
  rw [hx] at hx'; cases hx'
  exact h6
theorem rr_push {nds : List RNd} {s : GS} {v : Value} {rests : List Str} {n : RNd} {F : Nat → Prop} {w : World} (hv : v = n.r.val) (he : n.e.val = .slice none 0 0) (h : (boxR (R := R) [rrR nds s, slR encS [(v, rests)]]).p F w) : (rrR (R := R) (nds ++ [n]) (s ++ [(rests, [])])).p F w := by
  obtain ⟨F1, F2, h1, h2, h3, h4⟩ := sep_pair h
  exact All2.app (RR.mono h1 fun b hb => hb.imp (h3 b) id) (.cons ⟨hv ▸ (slR_one h2).mono fun b hb => hb.imp (h4 b) id, he ▸ Sl.nil⟩ .nil)
theorem rg_len {gT nT : TypeId} {bG : Nat} {s : GS} {hs : List Value} {F : Nat → Prop} {w : World} (h : (rgR (R := R) gT nT bG s hs).p F w) : hs.length = s.length := by
  obtain ⟨⟨vN, nds⟩, hm, Fs, h1, h2, h3⟩ := h
  have h4 : RR w (fun b => Fs 2 b ∨ R b) nds s := h1 2 _ rfl
  have hm' : nds.map (fun n => n.r.val) = hs := hm
  rw [← hm', List.length_map]; exact RR.len h4
theorem all2_set {α β : Type} {Q : α → β → Prop} : ∀ {a : List α} {b : List β} {i : Nat} {x : α} {y : β}, All2 Q a b → Q x y → All2 Q (a.set i x) (b.set i y)
  | _, _, _, _, _, .nil, _ => .nil
  | _, _, 0, _, _, .cons h r, hq => .cons hq r
  | _, _, i + 1, _, _, .cons h r, hq => .cons h (all2_set r hq)
theorem rr_set {nds : List RNd} {s : GS} {k : Nat} {n : RNd} {hd : SH} {rests : List Str} {es0 es : List Ed} {e : TypeId} {v : Value} {F : Nat → Prop} {w : World} (hn : nds[k]? = some n) (hx : s[k]? = some (rests, es0)) (hv : v = hd.val) (h : (boxR (R := R) [rrR nds s, accR encE e 2 v es]).p F w) :
    (rrR (R := R) (nds.set k (RNd.mk n.r hd)) (s.set k (rests, es))).p F w := by
  obtain ⟨F1, F2, h1, h2, h3, h4⟩ := sep_pair h
  have h5 : RR w (fun b => F b ∨ R b) nds s := RR.mono h1 fun b hb => hb.imp (h3 b) id
  obtain ⟨x, hx', h6, _⟩ := h5.at hn
  rw [hx] at hx'; cases hx'
  exact all2_set h5 ⟨h6, hv ▸ (acc_sl h2).mono fun b hb => .inl (h4 b hb)⟩
theorem rr_set0 {nds : List RNd} {s : GS} {k : Nat} {n : RNd} {hd : SH} {rests : List Str} {es0 : List Ed} {F : Nat → Prop} {w : World} (hn : nds[k]? = some n) (hx : s[k]? = some (rests, es0)) (hv : hd.val = .slice none 0 0) (h : (rrR (R := R) nds s).p F w) :
    (rrR (R := R) (nds.set k (RNd.mk n.r hd)) (s.set k (rests, []))).p F w := by
  obtain ⟨x, hx', h6, _⟩ := RR.at h hn
  rw [hx] at hx'; cases hx'
  exact all2_set h ⟨h6, hv ▸ Sl.nil⟩
end
theorem map_set_r {nds : List RNd} {k : Nat} {n : RNd} {hd : SH} (hn : nds[k]? = some n) : (nds.set k (RNd.mk n.r hd)).map (fun n => n.r.val) = nds.map (fun n => n.r.val) := by
  obtain ⟨h, rfl⟩ := List.getElem?_eq_some_iff.1 hn
  rw [List.map_set]
  refine List.ext_getElem? fun i => ?_
  rw [List.getElem?_set]
  split
  · rename_i e; subst e
    simp [h]
  · rfl
theorem at_mid {α : Type} {a b : List α} {x : α} {n : Nat} (h : n = a.length) : (a ++ x :: b)[n]? = some x := by
  subst h
  rw [List.getElem?_append_right (Nat.le_refl _), Nat.sub_self]; rfl
theorem set_mid {α : Type} {a b : List α} {x y : α} {n : Nat} (h : n = a.length) : (a ++ x :: b).set n y = a ++ y :: b := by
  subst h
  rw [List.set_append_right _ _ (Nat.le_refl _), Nat.sub_self]; rfl
end Go.Ik
namespace Go.Ik
open Go Go.Ml
theorem RR.ext {w w' : World} {F : Nat → Prop} {nds : List RNd} {s : GS} (h : RR w F nds s) (hm : Ext w w') : RR w' F nds s := RR.keep h hm fun _ _ x => x
theorem RR.keepG {w w' : World} {lo hi g : Nat} {nds : List RNd} {s : GS} (h : RR w (Iv lo hi) nds s) (hm : Mod (Mg g) w w') (hg : g ≤ lo ∨ hi < g) : RR w' (Iv lo hi) nds s := RR.keep h hm fun b hb hx => by unfold Iv Mg at *; omega
/-- what a graph of the reference is, when nobody writes it any more -/
theorem rg_facts {R F : Nat → Prop} {gT nT : TypeId} {bG n : Nat} {s : GS} {hs : List Value} {w : World} (h : (rgR (R := R) gT nT bG s hs).p F w) (hF : ∀ b, F b → b < w.heap.size ∧ n ≤ b) (hR : ∀ b, R b → b < w.heap.size) :
    ∃ vN nds, Rw w n w.heap.size bG [vN] ∧ Sl encRd w (Iv n w.heap.size) vN nds ∧ RR w (Iv 0 w.heap.size) nds s := by
  obtain ⟨⟨vN, nds⟩, hm, Fs, h1, h2, h3⟩ := h
  have hF' : ∀ i b, Fs i b → n ≤ b ∧ b < w.heap.size := fun i b hb => ⟨(hF b (h2 i b hb).1.1).2, (h2 i b hb).2⟩
  have k0 := h1 0 _ rfl
  have k1 := h1 1 _ rfl
  have k2 := h1 2 _ rfl
  exact ⟨vN, nds, ⟨(hF' 0 _ k0.2).1, (hF' 0 _ k0.2).2, k0.1.row⟩, (acc_sl k1).mono fun b hb => hF' 1 b hb, RR.mono k2 fun b hb => ⟨Nat.zero_le _, hb.elim (fun h => (hF' 2 b h).2) (hR b)⟩⟩
theorem graphB_add (words : List Str) : (addM 13 [] words).1 = graphB words := by
  unfold graphB
  split
  · rename_i h; subst h; rfl
  · rfl
theorem node_yes {s : GS} {n : Int} {x : List Str × List Ed} (h : 0 ≤ n) (hx : s[n.toNat]? = some x) : nodeAt (gnOf s) n = (finB x.1, x.2) := by
  have := gnOf_at hx
  rw [show ((n.toNat : Nat) : Int) = n from by omega] at this
  exact this
theorem node_no {s : GS} {n : Int} (h : n < 0 ∨ (s.length : Int) ≤ n) : nodeAt (gnOf s) n = (false, []) := nodeAt_no (by rw [gnOf_len]; exact h)
theorem fin_head0 {r : List Str} {x : Str} (hx : r[0]? = some x) {b : Bool} (hb : b = (x == [])) : b = finB r := by
  unfold finB
  rw [hb, List.head?_eq_getElem?, hx]
  cases x <;> simp
theorem fin_nil {r : List Str} (h : ¬ (((r.length : Nat) : Int) > 0)) : false = finB r := by
  have : r = [] := List.eq_nil_of_length_eq_zero (by omega)
  subst this; rfl
/-- the reference's words from a text on -/
structure FromInv (words : List Str) (w : Str) (most : Int) (k : Nat) (l : List Str) : Prop where
  is : l = geF (words.take k) w
  lt : (l.length : Int) ≤ most ∨ l = []
theorem FromInv.start (words : List Str) (w : Str) (most : Int) : FromInv words w most 0 [] := ⟨by simp [geF], .inr rfl⟩
theorem FromInv.yes {words : List Str} {w : Str} {most : Int} {k : Nat} {l : List Str} {x : Str} (h : FromInv words w most k l) (hx : words[k]? = some x) (hc : Lib.compareBytes x w ≥ 0) (hl : (l.length : Int) < most) : FromInv words w most (k + 1) (l ++ [x]) := by
  refine ⟨?_, .inl (by simp only [List.length_append, List.length_cons, List.length_nil]; omega)⟩
  rw [h.is]; unfold geF
  rw [List.take_add_one, hx]
  simp [hc]
theorem FromInv.no {words : List Str} {w : Str} {most : Int} {k : Nat} {l : List Str} {x : Str} (h : FromInv words w most k l) (hx : words[k]? = some x) (hc : ¬ Lib.compareBytes x w ≥ 0) : FromInv words w most (k + 1) l := by
  refine ⟨?_, h.lt⟩
  rw [h.is]; unfold geF
  rw [List.take_add_one, hx]
  simp [hc]
theorem FromInv.fin {words : List Str} {w : Str} {most : Int} {k : Nat} {l : List Str} (h : FromInv words w most k l) (he : words.length ≤ k ∨ ¬ (l.length : Int) < most) : l = fromM words w most := by
  rw [fromM_take]
  have e : geF words w = geF (words.take k) w ++ geF (words.drop k) w := by
    unfold geF; rw [← List.filter_append, List.take_append_drop]
  rw [e, ← h.is]
  rcases he with he | he
  · rw [List.drop_of_length_le he]
    have : geF [] w = [] := rfl
    rw [this, List.append_nil]
    rcases h.lt with h1 | h1
    · rw [List.take_of_length_le (by omega)]
    · rw [h1]; simp
  · rcases h.lt with h1 | h1
    · rw [show most.toNat = l.length from by omega, List.take_left]
    · subst h1
      simp only [List.length_nil] at he
      rw [show most.toNat = 0 from by omega]; simp
end Go.Ik
namespace Go.Ik
open Go Go.Ml
theorem graphB_root {words : List Str} (h : goodL words = 0) : ∃ es, (graphB words)[0]? = some (words, es) := by
  unfold graphB
  split
  · rename_i e; subst e; exact ⟨[], rfl⟩
  · rename_i hne
    exact (graphM_ok (good_deep h).2 (good_deep h).1 hne).root
end Go.Ik
/-
  Plain law of chapter 8: a node's rests out of its edges; nodes' names lie apart.
-/
set_option linter.unusedVariables false
set_option linter.unusedSimpArgs false
namespace Go.Ml
open Go.Ik
theorem runes_enc {rs : List Int} (h : rs.all goodR = true) : rs.flatMap encR = rtext rs := by
  unfold rtext encI_
  rw [if_pos h]
  induction rs with
  | nil => rfl
  | cons r rs ih =>
    rw [List.all_cons, Bool.and_eq_true] at h
    rw [List.flatMap_cons, List.flatMap_cons, ih h.2]
    congr 1
    have hr := h.1
    rw [good_d] at hr
    have hr' := of_decide_eq_true hr
    have := encR_L (c := r.toNat) (by unfold goodN; omega)
    rwa [show ((r.toNat : Nat) : Int) = r from by omega] at this
theorem rtext_one {c : Nat} (h : goodN c) : rtext [(c : Int)] = encL c := by
  unfold rtext encI_
  rw [if_pos (by simp [goodR_of h])]
  simp
theorem rest_start {r : List Str} (h : GoodR r) : (if finB r = true then [[]] else []) ++ restL [] r 0 = r := by
  have := map_rests (ahead := []) h
  rw [← this]; simp
theorem rest_start_t {r : List Str} (h : GoodR r) (hf : finB r = true) : ([] ++ [([] : Str)]) ++ restL [] r 0 = r := by
  have := rest_start h
  rwa [if_pos hf] at this
theorem rest_start_f {r : List Str} (h : GoodR r) (hf : finB r = false) : [] ++ restL [] r 0 = r := by
  have := rest_start h
  rwa [if_neg (by rw [hf]; simp)] at this
theorem rest_in {r out : List Str} {i : Nat} {gg : Nat × List Str} (h : out ++ restL [] r i = r) (hg : (groups (dropE r))[i]? = some gg) : out ++ ((gg.2.drop 0).map (encL gg.1 ++ ·) ++ restL [] r (i + 1)) = r := by
  rw [restL_step hg] at h
  simpa using h
theorem rest_go {r out : List Str} {i k : Nat} {gg : Nat × List Str} {y : Str} (h : out ++ ((gg.2.drop k).map (encL gg.1 ++ ·) ++ restL [] r (i + 1)) = r) (hy : gg.2[k]? = some y) : (out ++ [encL gg.1 ++ y]) ++ ((gg.2.drop (k + 1)).map (encL gg.1 ++ ·) ++ restL [] r (i + 1)) = r := by
  rw [drop_el' hy] at h
  simpa using h
theorem rest_out {r out : List Str} {i k : Nat} {gg : Nat × List Str} (h : out ++ ((gg.2.drop k).map (encL gg.1 ++ ·) ++ restL [] r (i + 1)) = r) (hk : gg.2.length ≤ k) : out ++ restL [] r (i + 1) = r := by
  rw [List.drop_of_length_le hk] at h
  simpa using h
theorem rest_fin {r out : List Str} {i : Nat} (h : out ++ restL [] r i = r) (hi : (groups (dropE r)).length ≤ i) : out = r := by
  rw [restL_end hi, List.append_nil] at h; exact h
theorem rest_len {r out b : List Str} (h : out ++ b = r) : out.length ≤ r.length := by
  have := congrArg List.length h
  rw [List.length_append] at this; omega
/-! names -/
theorem graphB_len {words : List Str} (h : goodL words = 0) : 1 ≤ (graphB words).length ∧ (graphB words).length ≤ 2881 := by
  unfold graphB
  split
  · simp
  · rename_i hne
    obtain ⟨es, he⟩ := (graphM_ok (good_deep h).2 (good_deep h).1 hne).root
    have := (List.getElem?_eq_some_iff.1 he).1
    have := graphM_len h
    omega
theorem graphB_names {words : List Str} (h : goodL words = 0) : (names (graphB words)).Nodup := by
  unfold graphB
  split
  · simp [names]
  · rename_i hne
    exact (graphM_ok (good_deep h).2 (good_deep h).1 hne).apart
theorem graphB_ne {words : List Str} (h : goodL words = 0) (hw : words ≠ []) : ∀ y ∈ graphB words, y.1 ≠ [] := by
  unfold graphB
  rw [if_neg hw]
  intro y hy
  exact ((graphM_ok (good_deep h).2 (good_deep h).1 hw).node y hy).ne
theorem graphB_short {words : List Str} (h : goodL words = 0) : ∀ y ∈ graphB words, y.1.length ≤ 60 := by
  unfold graphB
  split
  · simp
  · exact addM_short 13 [] words (by simp) (good_sum h).1
theorem deep_len {l : List Str} {d : Nat} (hg : GoodR l) (hd : Deep d l) : ∀ t ∈ l, t.length ≤ 4 * d := by
  intro t ht
  have h1 := hd t ht
  have h2 := encT_len (runes t)
  rw [(encT_runes t (hg.fine t ht)).1] at h2
  omega
theorem apart_at {s : GS} (hn : (names s).Nodup) {i k : Nat} {x y : List Str × List Ed} (hx : s[i]? = some x) (hy : s[k]? = some y) (hk : k < i) : y.1 ≠ x.1 := by
  intro e
  unfold names at hn
  have h1 : (s.map Prod.fst)[i]? = some x.1 := by rw [List.getElem?_map, hx]; rfl
  have h2 : (s.map Prod.fst)[k]? = some x.1 := by rw [List.getElem?_map, hy]; simp [e]
  obtain ⟨q1, q2⟩ := List.getElem?_eq_some_iff.1 h1
  obtain ⟨q3, q4⟩ := List.getElem?_eq_some_iff.1 h2
  have := (List.getElem_inj hn).1 (q2.trans q4.symm)
  omega
end Go.Ml
namespace Go.Ik
open Go Go.Ml
/-! lists of lists of texts -/
def encH (h : SH) : List Value := [h.val]
theorem encH_len (x : SH) : (encH x).length = 1 := rfl
theorem encH_one (x : SH) : (encH x).all (·.oneCell') = true := rfl
section
variable {R : Nat → Prop} {α : Type} {enc : α → List Value}
/-- what headers hold -/
def hlR (enc : α → List Value) (hs : List SH) (ls : List (List α)) : Res R := ⟨fun F w => All2 (fun h l => Sl enc w (fun b => F b ∨ R b) h.val l) hs ls, fun h hm hF hR => All2.imp (fun _ _ k => k.keep hm fun b hb => hb.elim (hF b) (hR b)) h⟩
theorem St.hlAt {F0 : Nat → Prop} {w0 w : World} {L : List (Res R)} {i k : Nat} {hs : List SH} {ls : List (List α)} {x : SH} (h : St R F0 w0 w L) (hi : L[i]? = some (hlR enc hs ls)) (hx : hs[k]? = some x) : ∃ l, ls[k]? = some l ∧ Sl enc w (Iv 0 w.heap.size) x.val l := by
  obtain ⟨F, h1, h2⟩ := h.get hi
  have hg := All2.get h1
  have hlt := (List.getElem?_eq_some_iff.1 hx).1
  have hl : ls[k]? = some (ls[k]'(by rw [← hg.1]; exact hlt)) := by simp
  exact ⟨_, hl, (hg.2 k _ _ hx hl).mono fun b hb => ⟨Nat.zero_le _, hb.elim (h2 b) (h.rlt b)⟩⟩
theorem St.hlLen {F0 : Nat → Prop} {w0 w : World} {L : List (Res R)} {i : Nat} {hs : List SH} {ls : List (List α)} (h : St R F0 w0 w L) (hi : L[i]? = some (hlR enc hs ls)) : hs.length = ls.length := by
  obtain ⟨F, h1, _⟩ := h.get hi
  exact (All2.get h1).1
theorem hl_push {e : TypeId} {sz : Nat} {v : Value} {hs : List SH} {ls : List (List α)} {l : List α} {x : SH} {F : Nat → Prop} {w : World} (hv : v = x.val) (h : (boxR (R := R) [hlR enc hs ls, accR enc e sz v l]).p F w) : (hlR (R := R) enc (hs ++ [x]) (ls ++ [l])).p F w := by
  obtain ⟨F1, F2, h1, h2, h3, h4⟩ := sep_pair h
  exact All2.app (All2.imp (fun _ _ k => k.mono fun b hb => hb.imp (h3 b) id) h1) (.cons (hv ▸ (acc_sl h2).mono fun b hb => .inl (h4 b hb)) .nil)
end
end Go.Ik
namespace Go.Ik
open Go Go.Ml
/-- a graph that is held -/
def grR {R : Nat → Prop} (v : Value) (N : List GN) : Res R := ⟨fun F w => ∃ lo hi, Gr 0 w lo hi v N ∧ hi ≤ w.heap.size ∧ ∀ b, lo ≤ b → b < hi → F b, fun ⟨lo, hi, h1, h3, h2⟩ hm hF _ => ⟨lo, hi, by
  rcases h1 with h1 | ⟨b, vn, nds, k1, k2, ⟨k3, k4, k5⟩, k6, k7⟩
  · exact .inl h1
  · exact .inr ⟨b, vn, nds, k1, k2, ⟨k3, k4, k5.keep hm (hF b (h2 b k3 k4))⟩, k6.keep hm fun b hb => hF b (h2 b hb.1 hb.2), k7.keep hm fun b hb => hF b (h2 b hb.1 hb.2)⟩, Nat.le_trans h3 hm.size, h2⟩⟩
theorem St.grAt {R F0 : Nat → Prop} {w0 w : World} {L : List (Res R)} {i : Nat} {v : Value} {N : List GN} (h : St R F0 w0 w L) (hi : L[i]? = some (grR v N)) : ∃ lo up, Gr 0 w lo up v N ∧ up ≤ w.heap.size := by
  obtain ⟨F, ⟨lo, up, h1, h2, _⟩, _⟩ := h.get hi
  exact ⟨lo, up, h1, h2⟩
theorem St.newGr {R F0 : Nat → Prop} {w0 w w' : World} {L : List (Res R)} {lo hi : Nat} {v : Value} {N : List GN} (h : St R F0 w0 w L) (hm : Ext w w') (hg : Gr 0 w' lo hi v N) (h1 : w.heap.size ≤ lo) (h2 : hi ≤ w'.heap.size) : St R F0 w0 w' (L ++ [grR v N]) :=
  h.new (F := Iv lo hi) hm ⟨lo, hi, hg, h2, fun b q1 q2 => ⟨q1, q2⟩⟩ fun b hb => ⟨Nat.le_trans h1 hb.1, Nat.lt_of_lt_of_le hb.2 h2⟩
end Go.Ik
namespace Go.Ml
open Go.Ik
theorem names_take {s : GS} {i : Nat} {x : List Str × List Ed} (hx : s[i]? = some x) : (names s).take (i + 1) = (names s).take i ++ [x.1] := by
  unfold names
  rw [List.take_add_one, List.getElem?_map, hx]; rfl
theorem least_ne {s : GS} (hn : (names s).Nodup) {i k : Nat} {x : List Str × List Ed} {l : List Str} (hx : s[i]? = some x) (hl : ((names s).take i)[k]? = some l) (hk : k < i) : l ≠ x.1 := by
  rw [List.getElem?_take, if_pos hk] at hl
  unfold names at hl
  rw [List.getElem?_map] at hl
  obtain ⟨y, hy, rfl⟩ := Option.map_eq_some_iff.1 hl
  exact apart_at hn hx hy hk
theorem least_len {words : List Str} (h : goodL words = 0) {x : List Str × List Ed} (hx : x ∈ graphB words) (hw : ((words.length : Nat) : Int) > 0) : ¬ ((x.1.length : Nat) : Int) = 0 := by
  have := graphB_ne h (fun e => by subst e; simp at hw) x hx
  intro e
  exact this (List.eq_nil_of_length_eq_zero (by omega))
theorem least_root {words : List Str} (h : goodL words = 0) {i : Nat} {l : List Str} (hl : ((names (graphB words)).take i)[0]? = some l) (hi : 0 < i) : l = words := by
  obtain ⟨es, he⟩ := graphB_root h
  rw [List.getElem?_take, if_pos hi] at hl
  unfold names at hl
  rw [List.getElem?_map, he] at hl
  simpa using hl.symm
theorem fin_idx {s : GS} {x : List Str × List Ed} (hc : Corr s x) (hg : GoodR x.1) {d : Nat} (hd : Deep d x.1) {deep : Int} (hdp : deep = (d : Int)) {i : Nat} (h : x.2.length ≤ i ∨ deep ≤ 0) : (groups (dropE x.1)).length ≤ i := by
  rcases h with h | h
  · rw [(All2.get hc).1]; exact h
  · have hd0 : d = 0 := by omega
    subst hd0
    rcases Nat.eq_zero_or_pos (groups (dropE x.1)).length with h0 | h0
    · omega
    · obtain ⟨e, he, _⟩ := deep_edge hg hd (List.getElem?_eq_getElem h0)
      omega
end Go.Ml
/-
  The document's near words: a table of distances, items put where they belong; that they are the code's.
-/
set_option linter.unusedVariables false
set_option linter.unusedSimpArgs false
namespace Go.Ml
open Go.Ik

theorem snocInd {α : Type} {p : List α → Prop} (h0 : p []) (h1 : ∀ l a, p l → p (l ++ [a])) : ∀ l, p l := by
  intro l
  rw [← List.reverse_reverse l]
  generalize l.reverse = r
  induction r with
  | nil => exact h0
  | cons a r ih => rw [List.reverse_cons]; exact h1 _ _ ih
/-! the table -/
def tabL (a b : List Int) : List (List Int) := (List.range (a.length + 1)).map fun i => rowL b.length (rowF b (a.take i))
theorem tabL_len (a b : List Int) : (tabL a b).length = a.length + 1 := by simp [tabL]
theorem tabL_at {a b : List Int} {i : Nat} {l : List Int} (h : (tabL a b)[i]? = some l) : l = rowL b.length (rowF b (a.take i)) := by
  obtain ⟨hi, h1⟩ := List.getElem?_eq_some_iff.1 h
  rw [tabL_len] at hi
  unfold tabL at h
  rw [List.getElem?_map, List.getElem?_range hi] at h
  simpa using h.symm
theorem tab_at {a b : List Int} {n i : Nat} {l : List Int} (h : ((tabL a b).take n)[i]? = some l) : l = rowL b.length (rowF b (a.take i)) ∧ i < n := by
  rw [List.getElem?_take] at h
  split at h
  · exact ⟨tabL_at h, by assumption⟩
  · cases h
theorem tab_take {a b : List Int} {i : Nat} {l : List Int} (hi : i ≤ a.length) (hl : l = rowL b.length (rowF b (a.take i))) : (tabL a b).take i ++ [l] = (tabL a b).take (i + 1) := by
  rw [List.take_add_one]
  congr 1
  unfold tabL
  rw [List.getElem?_map, List.getElem?_range (by omega), hl]; rfl
theorem row_take {n k : Nat} {f : Nat → Int} {l : List Int} {d : Int} (h : l = (rowL n f).take k) (hk : k ≤ n) (hd : d = f k) : l ++ [d] = (rowL n f).take (k + 1) := by
  rw [List.take_add_one, h, hd]
  congr 1
  unfold rowL
  rw [List.getElem?_map, List.getElem?_range (by omega)]; rfl
theorem row_all {n k : Nat} {f : Nat → Int} {l : List Int} (h : l = (rowL n f).take k) (hk : n < k) : l = rowL n f := by
  rw [h, List.take_of_length_le (by rw [rowL_len]; omega)]
theorem row_at {n k i : Nat} {f : Nat → Int} {x : Int} (h : ((rowL n f).take k)[i]? = some x) : x = f i := by
  rw [List.getElem?_take] at h
  split at h
  · exact (rowL_at h).1
  · cases h
theorem rowF_zero (q p : List Int) : rowF q p 0 = p.length := by
  refine snocInd (p := fun p => rowF q p 0 = p.length) rfl (fun p r ih => ?_) p
  rw [rowF_snoc]; unfold stepF; rw [ih]; simp
theorem rowF_le (q p : List Int) (i : Nat) : 0 ≤ rowF q p i ∧ rowF q p i ≤ p.length + i := by
  have h := lip_row q p
  have h1 := h.pos i
  have h2 := lip_any h i 0
  rw [rowF_zero] at h2
  constructor <;> omega
theorem rowF_nil (q : List Int) (k : Nat) : rowF q [] k = k := rfl
theorem tab_cell0 {a b : List Int} {i k : Nat} (hi : i = 0) : (k : Int) = rowF b (a.take i) k := by subst hi; rfl
theorem tab_celli {a b : List Int} {i k : Nat} (hk : k = 0) (hi : i ≤ a.length) : (i : Int) = rowF b (a.take i) k := by subst hk; rw [rowF_zero, List.length_take, Nat.min_eq_left hi]
theorem tab_cell {a b : List Int} {i k j m : Nat} (hj : j + 1 = i) (hm : m + 1 = k) {r c x y z t : Int} (hr : a[j]? = some r) (hc : b[m]? = some c) (hx : x = rowF b (a.take j) m) (hy : y = rowF b (a.take j) k) (hz : z = rowF b (a.take i) m) (ht : t = x + if r ≠ c then 1 else 0) :
    min (min t (y + 1)) (z + 1) = rowF b (a.take i) k := by
  subst hj hm
  have h1 : a.take (j + 1) = a.take j ++ [r] := by rw [List.take_add_one, hr]; rfl
  rw [h1, rowF_snoc] at hz ⊢
  show _ = min (min (rowF b (a.take j) (m + 1) + 1) (stepF b (rowF b (a.take j)) r m + 1)) (rowF b (a.take j) m + if b[m]? = some r then 0 else 1)
  rw [← hx, ← hy, ← hz, hc]
  by_cases he : r = c
  · rw [if_neg (by simp [he])] at ht
    rw [if_pos (by rw [he])]; omega
  · rw [if_pos he] at ht
    rw [if_neg (by simp; exact fun e => he e.symm)]; omega
theorem tab_end {a b : List Int} {i j : Nat} (hi : i = a.length) (hj : j = b.length) {l : List Int} {x : Int} (hl : l = rowL b.length (rowF b (a.take i))) (hx : l[j]? = some x) : x = lev b a := by
  subst hi hj
  rw [hl] at hx
  rw [(rowL_at hx).1, List.take_length]; rfl
theorem lev_le (q p : List Int) : 0 ≤ lev q p ∧ lev q p ≤ p.length + q.length := rowF_le q p q.length
/-- the distance of texts; -1: one is none -/
def distT (a b : Str) : Int := if fineT a = true ∧ fineT b = true then lev (runesI b) (runesI a) else -1
theorem distT_no {a b : Str} (h : fineT a = false ∨ fineT b = false) : (-1 : Int) = distT a b := by
  unfold distT
  rw [if_neg]
  rintro ⟨h1, h2⟩
  rcases h with h | h <;> simp_all
theorem distT_yes {a b : Str} (h1 : fineT a = true) (h2 : fineT b = true) : lev (runesM b) (runesM a) = distT a b := by
  unfold distT runesM
  rw [if_pos h1, if_pos h2, if_pos ⟨h1, h2⟩]
/-! items -/
theorem cmpI_lt {a b : Int} : cmpI a b < 0 ↔ a < b := by unfold cmpI; split <;> (try split) <;> omega
theorem itmLess_iff {a b : Itm} : itmLess a b = true ↔ a.dist < b.dist ∨ a.dist = b.dist ∧ Lib.compareBytes a.word b.word < 0 := by
  unfold itmLess itmCmp
  rw [decide_eq_true_eq]
  have hor : orI [cmpI a.dist b.dist, Lib.compareBytes a.word b.word] = if cmpI a.dist b.dist ≠ 0 then cmpI a.dist b.dist else Lib.compareBytes a.word b.word := by
    simp only [orI]
    split
    · rfl
    · split
      · rfl
      · omega
  rw [hor]
  unfold cmpI
  by_cases h1 : a.dist < b.dist
  · simp [h1]
  · by_cases h2 : a.dist > b.dist
    · simp [h1, h2]; omega
    · have : a.dist = b.dist := by omega
      simp [this]
def ltI (a b : Itm) : Prop := itmLess a b = true
theorem ltI_trans {a b c : Itm} (h1 : ltI a b) (h2 : ltI b c) : ltI a c := by
  unfold ltI at *
  rw [itmLess_iff] at *
  rcases h1 with h1 | ⟨h1, h1'⟩ <;> rcases h2 with h2 | ⟨h2, h2'⟩
  · exact .inl (by omega)
  · exact .inl (by omega)
  · exact .inl (by omega)
  · exact .inr ⟨by omega, lt_trans h1' h2'⟩
theorem ltI_irr {a : Itm} (h : ltI a a) : False := by
  unfold ltI at h
  rw [itmLess_iff] at h
  rcases h with h | ⟨_, h⟩
  · omega
  · rw [cmp_refl] at h; omega
theorem ltI_tri {a b : Itm} (h : ¬ ltI a b) (hne : a ≠ b) : ltI b a := by
  unfold ltI at *
  rw [itmLess_iff] at *
  have h1 : ¬ a.dist < b.dist := fun x => h (.inl x)
  by_cases h2 : b.dist < a.dist
  · exact .inl h2
  · have he : b.dist = a.dist := by omega
    refine .inr ⟨he, ?_⟩
    have h3 : ¬ Lib.compareBytes a.word b.word < 0 := fun x => h (.inr ⟨he.symm, x⟩)
    have h4 : Lib.compareBytes a.word b.word ≠ 0 := fun e => hne (by
      cases a; cases b
      simp only at *
      rw [he, cmp_eq e])
    exact lt_tri h3 fun e => h4 (by rw [e]; exact cmp_refl _)
theorem ltI_ext : ∀ {a b : List Itm}, a.Pairwise ltI → b.Pairwise ltI → (∀ x, x ∈ a ↔ x ∈ b) → a = b
  | [], [], _, _, _ => rfl
  | [], y :: b, _, _, h => by have := (h y).2 (by simp); simp at this
  | x :: a, [], _, _, h => by have := (h x).1 (by simp); simp at this
  | x :: a, y :: b, ha, hb, h => by
    rw [List.pairwise_cons] at ha hb
    have hxy : x = y := by
      by_cases e : x = y
      · exact e
      · exfalso
        have h1 := (h x).1 (by simp)
        have h2 := (h y).2 (by simp)
        rcases List.mem_cons.1 h1 with h1 | h1
        · exact e h1
        · rcases List.mem_cons.1 h2 with h2 | h2
          · exact e h2.symm
          · exact ltI_irr (ltI_trans (ha.1 y h2) (hb.1 x h1))
    subst hxy
    congr 1
    refine ltI_ext ha.2 hb.2 fun z => ?_
    constructor
    · intro hz
      rcases List.mem_cons.1 ((h z).1 (by simp [hz])) with e | e
      · subst e; exact (ltI_irr (ha.1 _ hz)).elim
      · exact e
    · intro hz
      rcases List.mem_cons.1 ((h z).2 (by simp [hz])) with e | e
      · subst e; exact (ltI_irr (hb.1 _ hz)).elim
      · exact e
/-- an item where it belongs -/
def putI (x : Itm) : List Itm → List Itm
  | [] => [x]
  | y :: r => if itmLess x y = true then x :: y :: r else y :: putI x r
theorem mem_putI {x y : Itm} : ∀ {l : List Itm}, y ∈ putI x l ↔ y = x ∨ y ∈ l
  | [] => by simp [putI]
  | z :: r => by
    unfold putI
    split
    · simp
    · rw [List.mem_cons, mem_putI, List.mem_cons]
      constructor
      · rintro (h | h | h)
        · exact .inr (.inl h)
        · exact .inl h
        · exact .inr (.inr h)
      · rintro (h | h | h)
        · exact .inr (.inl h)
        · exact .inl h
        · exact .inr (.inr h)
theorem putI_sorted {x : Itm} : ∀ {l : List Itm}, l.Pairwise ltI → x ∉ l → (putI x l).Pairwise ltI
  | [], _, _ => by simp [putI]
  | z :: r, h, hx => by
    rw [List.pairwise_cons] at h
    unfold putI
    split
    · rename_i hl
      refine List.pairwise_cons.2 ⟨fun y hy => ?_, List.pairwise_cons.2 h⟩
      rcases List.mem_cons.1 hy with rfl | hy
      · exact hl
      · exact ltI_trans hl (h.1 y hy)
    · rename_i hl
      refine List.pairwise_cons.2 ⟨fun y hy => ?_, putI_sorted h.2 fun hm => hx (by simp [hm])⟩
      rcases mem_putI.1 hy with rfl | hy
      · exact ltI_tri hl fun e => hx (by simp [e])
      · exact h.1 y hy
theorem putI_len (x : Itm) : ∀ (l : List Itm), (putI x l).length = l.length + 1
  | [] => rfl
  | z :: r => by
    unfold putI
    split
    · simp
    · simp [putI_len x r]
/-- putting, place by place -/
def PutI (l : List Itm) (x : Itm) (k : Nat) (out : List Itm) (b : Bool) : Prop := putI x l = out ++ (if b = true then l.drop k else putI x (l.drop k)) ∧ out.length = k + if b = true then 1 else 0
theorem PutI.start (l : List Itm) (x : Itm) : PutI l x 0 [] false := ⟨by simp, by simp⟩
theorem PutI.here {l : List Itm} {x y : Itm} {k : Nat} {out : List Itm} (h : PutI l x k out false) (hx : l[k]? = some y) (hl : itmLess x y = true) : PutI l x (k + 1) (out ++ [x] ++ [y]) true := by
  obtain ⟨h1, h2⟩ := h
  refine ⟨?_, by simp at h2 ⊢; omega⟩
  rw [h1, if_neg (by simp), if_pos rfl, drop_el' hx]
  conv => lhs; unfold putI
  rw [if_pos hl]; simp
theorem PutI.past {l : List Itm} {x y : Itm} {k : Nat} {out : List Itm} (h : PutI l x k out false) (hx : l[k]? = some y) (hl : itmLess x y = false) : PutI l x (k + 1) (out ++ [y]) false := by
  obtain ⟨h1, h2⟩ := h
  refine ⟨?_, by simp at h2 ⊢; omega⟩
  rw [h1, if_neg (by simp), if_neg (by simp), drop_el' hx]
  conv => lhs; unfold putI
  rw [if_neg (by simp [hl])]; simp
theorem PutI.next {l : List Itm} {x y : Itm} {k : Nat} {out : List Itm} (h : PutI l x k out true) (hx : l[k]? = some y) : PutI l x (k + 1) (out ++ [y]) true := by
  obtain ⟨h1, h2⟩ := h
  refine ⟨?_, by simp at h2 ⊢; omega⟩
  rw [h1, if_pos rfl, if_pos rfl, drop_el' hx]; simp
theorem PutI.endF {l : List Itm} {x : Itm} {k : Nat} {out : List Itm} (h : PutI l x k out false) (hk : l.length ≤ k) : out ++ [x] = putI x l := by
  obtain ⟨h1, _⟩ := h
  rw [h1, if_neg (by simp), List.drop_of_length_le hk]; rfl
theorem PutI.endT {l : List Itm} {x : Itm} {k : Nat} {out : List Itm} (h : PutI l x k out true) (hk : l.length ≤ k) : out = putI x l := by
  obtain ⟨h1, _⟩ := h
  rw [h1, if_pos rfl, List.drop_of_length_le hk]; simp
/-- all that are near, as the document says -/
def refStep (s : Str) (k : Int) (out : List Itm) (w : Str) : List Itm := if 0 ≤ distT w s ∧ distT w s ≤ k then putI ⟨distT w s, w⟩ out else out
def refAll (words : List Str) (s : Str) (k : Int) : List Itm := words.foldl (refStep s k) []
theorem refAll_take {words : List Str} {s : Str} {k : Int} {i : Nat} {w : Str} (hw : words[i]? = some w) : (words.take (i + 1)).foldl (refStep s k) [] = refStep s k ((words.take i).foldl (refStep s k) []) w := by
  rw [List.take_add_one, hw, List.foldl_append]; rfl
theorem refStep_yes {s : Str} {k : Int} {out : List Itm} {w : Str} (h : 0 ≤ distT w s) (h2 : distT w s ≤ k) : refStep s k out w = putI ⟨distT w s, w⟩ out := by unfold refStep; rw [if_pos ⟨h, h2⟩]
theorem refStep_no {s : Str} {k : Int} {out : List Itm} {w : Str} (h : ¬ (0 ≤ distT w s ∧ distT w s ≤ k)) : refStep s k out w = out := by unfold refStep; rw [if_neg h]
theorem refAll_spec {s : Str} {k : Int} : ∀ {words : List Str}, words.Nodup → (refAll words s k).Pairwise ltI ∧ ∀ x, x ∈ refAll words s k ↔ x.word ∈ words ∧ x.dist = distT x.word s ∧ 0 ≤ x.dist ∧ x.dist ≤ k := by
  intro words
  unfold refAll
  refine snocInd (p := fun words => words.Nodup → (words.foldl (refStep s k) []).Pairwise ltI ∧ ∀ x, x ∈ words.foldl (refStep s k) [] ↔ x.word ∈ words ∧ x.dist = distT x.word s ∧ 0 ≤ x.dist ∧ x.dist ≤ k) ?_ ?_ words
  · intro _; simp
  · intro l w ih hn
    rw [List.nodup_append] at hn
    obtain ⟨h1, _, h3⟩ := hn
    obtain ⟨i1, i2⟩ := ih h1
    have hw : w ∉ l := fun h => h3 w h w (by simp) rfl
    rw [List.foldl_append]
    show (refStep s k (l.foldl (refStep s k) []) w).Pairwise ltI ∧ ∀ x, x ∈ refStep s k (l.foldl (refStep s k) []) w ↔ _
    by_cases hc : 0 ≤ distT w s ∧ distT w s ≤ k
    · rw [refStep_yes hc.1 hc.2]
      refine ⟨putI_sorted i1 fun h => hw ((i2 _).1 h).1, fun x => ?_⟩
      rw [mem_putI, i2]
      constructor
      · rintro (rfl | ⟨h1, h2⟩)
        · exact ⟨by simp, rfl, hc.1, hc.2⟩
        · exact ⟨by simp [h1], h2⟩
      · rintro ⟨h1, h2, h4⟩
        rcases List.mem_append.1 h1 with h1 | h1
        · exact .inr ⟨h1, h2, h4⟩
        · simp only [List.mem_singleton] at h1
          refine .inl ?_
          cases x
          simp only at *
          subst h1; rw [h2]
    · rw [refStep_no hc]
      refine ⟨i1, fun x => ?_⟩
      rw [i2]
      constructor
      · rintro ⟨h1, h2⟩; exact ⟨by simp [h1], h2⟩
      · rintro ⟨h1, h2, h4⟩
        rcases List.mem_append.1 h1 with h1 | h1
        · exact ⟨h1, h2, h4⟩
        · simp only [List.mem_singleton] at h1
          rw [h1] at h2
          exact absurd ⟨by rw [← h2]; exact h4.1, by rw [← h2]; exact h4.2⟩ hc
theorem refAll_len (words : List Str) (s : Str) (k : Int) : (refAll words s k).length ≤ words.length := by
  unfold refAll
  have : ∀ (l : List Str) (out : List Itm), (l.foldl (refStep s k) out).length ≤ out.length + l.length := by
    intro l
    induction l with
    | nil => simp
    | cons w l ih =>
      intro out
      have := ih (refStep s k out w)
      rw [List.foldl_cons, List.length_cons]
      unfold refStep at this ⊢
      split at this
      · rw [if_pos (by assumption)]; rw [putI_len] at this; omega
      · rw [if_neg (by assumption)]; omega
  simpa using this words []
/-- all that are near, distance by distance -/
def itemsM (words : List Str) (q : List Int) (n : Nat) : List Itm := (List.range n).flatMap fun (d : Nat) => (distsM words q d).map fun w => Itm.mk (d : Int) w
theorem itemsM_succ (words : List Str) (q : List Int) (n : Nat) : itemsM words q (n + 1) = itemsM words q n ++ (distsM words q n).map fun w => Itm.mk (n : Int) w := by unfold itemsM; rw [List.range_succ, List.flatMap_append]; simp
theorem mem_itemsM {words : List Str} {q : List Int} {n : Nat} {x : Itm} : x ∈ itemsM words q n ↔ x.word ∈ words ∧ x.dist = lev q (runesI x.word) ∧ x.dist < n := by
  unfold itemsM
  rw [List.mem_flatMap]
  constructor
  · rintro ⟨d, hd, hx⟩
    obtain ⟨w, hw, rfl⟩ := List.mem_map.1 hx
    unfold distsM nearW at hw
    obtain ⟨h1, h2⟩ := List.mem_filter.1 hw
    have := of_decide_eq_true h2
    have := List.mem_range.1 hd
    exact ⟨h1, by simp only; omega, by simp only; omega⟩
  · rintro ⟨h1, h2, h3⟩
    have := (lev_le q (runesI x.word)).1
    refine ⟨x.dist.toNat, List.mem_range.2 (by omega), List.mem_map.2 ⟨x.word, List.mem_filter.2 ⟨h1, by unfold nearW; exact decide_eq_true (by omega)⟩, ?_⟩⟩
    cases x
    simp only at *
    congr 1; omega
theorem itemsM_sorted {words : List Str} {q : List Int} (hs : Sorted words) : ∀ n, (itemsM words q n).Pairwise ltI
  | 0 => by simp [itemsM]
  | n + 1 => by
    rw [itemsM_succ, List.pairwise_append]
    refine ⟨itemsM_sorted hs n, ?_, fun a ha b hb => ?_⟩
    · rw [List.pairwise_map]
      refine (hs.filter _).imp fun {a b} hab => ?_
      exact itmLess_iff.2 (.inr ⟨rfl, hab⟩)
    · obtain ⟨w, _, rfl⟩ := List.mem_map.1 hb
      exact itmLess_iff.2 (.inl (by have := (mem_itemsM.1 ha).2.2; simp only; omega))
theorem distT_eq {w s : Str} (h1 : fineT w = true) (h2 : fineT s = true) : distT w s = lev (runesI s) (runesI w) := by unfold distT; rw [if_pos ⟨h1, h2⟩]
theorem refAll_items {words : List Str} {s : Str} {k : Int} (hs : Sorted words) (hf : ∀ w ∈ words, fineT w = true) (hfs : fineT s = true) (hk : 0 ≤ k) : refAll words s k = itemsM words (runesI s) (k.toNat + 1) := by
  obtain ⟨h1, h2⟩ := refAll_spec (s := s) (k := k) (sorted_nodup hs)
  refine ltI_ext h1 (itemsM_sorted hs _) fun x => ?_
  rw [h2, mem_itemsM]
  constructor
  · rintro ⟨h3, h4, h5, h6⟩
    rw [distT_eq (hf _ h3) hfs] at h4
    exact ⟨h3, h4, by omega⟩
  · rintro ⟨h3, h4, h5⟩
    have := (lev_le (runesI s) (runesI x.word)).1
    rw [distT_eq (hf _ h3) hfs]
    exact ⟨h3, h4, by omega, by omega⟩
/-! batches -/
def okI (first : Bool) (after : Itm) (x : Itm) : Bool := first || itmLess after x
def nextR (words : List Str) (s : Str) (k : Int) (first : Bool) (after : Itm) (batch : Int) : List Itm × Bool :=
  if asked s = true ∧ 0 ≤ k ∧ k ≤ 4 then
    let rest := (refAll words s k).filter (okI first after)
    (rest.take (min (max batch 0) rest.length).toNat, decide (min (max batch 0) (rest.length : Int) = rest.length))
  else ([], true)
theorem nextF_each {first : Bool} {after : Itm} {B : Nat} {d : Int} : ∀ (L : List Str) (X : List Itm), X.length ≤ B → (eachF (nextF first after B d) (X, false) L).1 = ((X ++ (L.map (Itm.mk d)).filter (okI first after)).take B, decide (B < (X ++ (L.map (Itm.mk d)).filter (okI first after)).length))
  | [], X, h => by simp [eachF, List.take_of_length_le h]; omega
  | w :: L, X, h => by
    rw [List.map_cons]
    by_cases hc : okI first after ⟨d, w⟩ = true
    · rw [List.filter_cons_of_pos hc]
      have hor : first = true ∨ itmLess after ⟨d, w⟩ = true := by unfold okI at hc; simpa using hc
      by_cases hb : (X.length : Int) = B
      · unfold eachF
        rw [nextF_full hor hb, if_neg (by simp)]
        have : X.length = B := by omega
        simp only
        rw [List.take_append_of_le_length (by omega), List.take_of_length_le (by omega)]
        congr 1
        symm
        rw [decide_eq_true_eq]
        simp only [List.length_append, List.length_cons]; omega
      · unfold eachF
        rw [nextF_add hor hb, if_pos (by simp)]
        show (eachF (nextF first after B d) (X ++ [⟨d, w⟩], false) L).1 = _
        rw [nextF_each (first := first) (after := after) (d := d) (B := B) L (X ++ [Itm.mk d w]) (by simp only [List.length_append, List.length_cons, List.length_nil]; omega)]
        simp
    · have hc' : okI first after ⟨d, w⟩ = false := by simpa using hc
      rw [List.filter_cons_of_neg hc]
      unfold okI at hc'
      obtain ⟨hf, hl⟩ : first = false ∧ itmLess after ⟨d, w⟩ = false := by simpa using hc'
      subst hf
      unfold eachF
      rw [nextF_skip hl, if_pos (by simp)]
      exact nextF_each (B := B) L X h
theorem nextS_eq {words : List Str} {q : List Int} {first : Bool} {after : Itm} {B : Nat} : ∀ n, nextS words q first after B n = (((itemsM words q n).filter (okI first after)).take B, decide (B < ((itemsM words q n).filter (okI first after)).length))
  | 0 => by simp [nextS, itemsM]
  | n + 1 => by
    have ih := nextS_eq (words := words) (q := q) (first := first) (after := after) (B := B) n
    unfold nextS
    simp only
    rw [ih, itemsM_succ, List.filter_append]
    simp only
    by_cases hm : B < ((itemsM words q n).filter (okI first after)).length
    · rw [if_pos (decide_eq_true hm)]
      rw [List.take_append_of_le_length (by omega)]
      congr 1
      rw [decide_eq_true hm, eq_comm, decide_eq_true_eq, List.length_append]; omega
    · rw [if_neg (by simpa using hm)]
      unfold nextD
      rw [List.take_of_length_le (by omega), decide_eq_false hm, nextF_each (B := B) _ _ (by omega)]
theorem nextA_R {g : List GN} {words : List Str} {s : Str} {k : Int} {first : Bool} {after : Itm} {batch : Int} (hg : g ≠ []) (hs : Sorted words) (hf : ∀ w ∈ words, fineT w = true) : nextA g words s k first after batch = nextR words s k first after batch := by
  unfold nextA nextR
  by_cases hc : asked s = true ∧ 0 ≤ k ∧ k ≤ 4
  · rw [if_pos (mayA_yes hg hc.2 hc.1), if_pos hc]
    simp only
    rw [refAll_items hs hf (asked_fine hc.1) hc.2.1]
    have hB : max batch 0 = ((max batch 0).toNat : Int) := by omega
    rw [hB, nextS_eq]
    simp only
    generalize (itemsM words (runesI s) (k.toNat + 1)).filter (okI first after) = R
    congr 1
    · by_cases h : (max batch 0).toNat ≤ R.length
      · congr 1; omega
      · rw [List.take_of_length_le (by omega), List.take_of_length_le (by omega)]
    · by_cases h : (max batch 0).toNat < R.length
      · rw [decide_eq_true h, decide_eq_false (by omega)]; rfl
      · rw [decide_eq_false h, decide_eq_true (by omega)]; rfl
  · rw [if_neg (fun h => hc ⟨(mayA_iff.1 h).2.2, (mayA_iff.1 h).2.1⟩), if_neg hc]
def distsR (words : List Str) (s : Str) (d : Int) : List Str := if asked s = true ∧ 0 ≤ d ∧ d ≤ 4 then ((refAll words s d).filter fun x => decide (x.dist = d)).map (·.word) else []
theorem distsA_R {g : List GN} {words : List Str} {s : Str} {d : Int} (hg : g ≠ []) (hs : Sorted words) (hf : ∀ w ∈ words, fineT w = true) : distsA g words s d = distsR words s d := by
  unfold distsA distsR
  by_cases hc : asked s = true ∧ 0 ≤ d ∧ d ≤ 4
  · rw [if_pos (mayA_yes hg hc.2 hc.1), if_pos hc, refAll_items hs hf (asked_fine hc.1) hc.2.1, itemsM_succ, List.filter_append]
    have h1 : (itemsM words (runesI s) d.toNat).filter (fun x => decide (x.dist = d)) = [] := by
      rw [List.filter_eq_nil_iff]
      intro x hx
      have := (mem_itemsM.1 hx).2.2
      simp only [decide_eq_true_eq]; omega
    rw [h1, List.nil_append]
    have h2 : ((distsM words (runesI s) (d.toNat : Int)).map fun w => Itm.mk (d.toNat : Int) w).filter (fun x => decide (x.dist = d)) = (distsM words (runesI s) (d.toNat : Int)).map fun w => Itm.mk (d.toNat : Int) w := by
      rw [List.filter_eq_self]
      intro x hx
      obtain ⟨w, _, rfl⟩ := List.mem_map.1 hx
      simp only [decide_eq_true_eq]; omega
    rw [h2, List.map_map]
    rw [show (d.toNat : Int) = d from by omega]
    simp [Function.comp_def]
  · rw [if_neg (fun h => hc ⟨(mayA_iff.1 h).2.2, (mayA_iff.1 h).2.1⟩), if_neg hc]
end Go.Ml
namespace Go.Ml
open Go.Ik
theorem distT_rng (a b : Str) : -1 ≤ distT a b ∧ distT a b ≤ (runesI a).length + (runesI b).length := by
  unfold distT
  split
  · have := lev_le (runesI b) (runesI a); omega
  · omega
theorem less_no1 {a b : Itm} (h1 : ¬ a.dist < b.dist) (h2 : ¬ a.dist = b.dist) : false = itmLess a b := by
  cases h : itmLess a b with
  | false => rfl
  | true => rw [itmLess_iff] at h; rcases h with h | h; exact absurd h h1; exact absurd h.1 h2
theorem less_dec {a b : Itm} {c : Bool} (h2 : a.dist = b.dist) (h : c = decide (Lib.compareBytes a.word b.word < 0)) : c = itmLess a b := by
  cases h' : itmLess a b with
  | true =>
    rw [itmLess_iff] at h'
    rcases h' with h' | h'
    · omega
    · rw [h]; exact decide_eq_true h'.2
  | false =>
    rw [h]
    refine decide_eq_false fun hx => ?_
    have := itmLess_iff.2 (.inr ⟨h2, hx⟩)
    rw [h'] at this; cases this
theorem put_short {x : Itm} {l : List Itm} {n : Nat} (h : ∀ y ∈ l, y.word.length ≤ n) (hx : x.word.length ≤ n) : ∀ y ∈ putI x l, y.word.length ≤ n := fun y hy => by
  rcases mem_putI.1 hy with rfl | hy
  · exact hx
  · exact h y hy
theorem refAll_mem {words : List Str} {s : Str} {k : Int} : ∀ x ∈ refAll words s k, x.word ∈ words := by
  unfold refAll
  have : ∀ (l : List Str) (out : List Itm), ∀ x ∈ l.foldl (refStep s k) out, x ∈ out ∨ x.word ∈ l := by
    intro l
    induction l with
    | nil => intro out x hx; exact .inl hx
    | cons w l ih =>
      intro out x hx
      rw [List.foldl_cons] at hx
      rcases ih _ x hx with h | h
      · unfold refStep at h
        split at h
        · rcases mem_putI.1 h with rfl | h
          · exact .inr (by simp)
          · exact .inl h
        · exact .inl h
      · exact .inr (by simp [h])
  intro x hx
  rcases this words [] x hx with h | h
  · simp at h
  · exact h
theorem refAll_short {words : List Str} {s : Str} {k : Int} (h : ∀ w ∈ words, w.length ≤ 1000) : ∀ x ∈ refAll words s k, x.word.length ≤ 1000 := fun x hx => h _ (refAll_mem x hx)
theorem filter_take {α : Type} {l : List α} {p : α → Bool} {i : Nat} {x : α} (hx : l[i]? = some x) : (l.take (i + 1)).filter p = (l.take i).filter p ++ if p x = true then [x] else [] := by
  rw [List.take_add_one, hx, List.filter_append]
  congr 1
  by_cases h : p x = true <;> simp [h]
theorem rest_yes {l rest : List Itm} {first : Bool} {after x : Itm} {i : Nat} (h : rest = (l.take i).filter (okI first after)) (hx : l[i]? = some x) (hc : first = true ∨ itmLess after x = true) : rest ++ [x] = (l.take (i + 1)).filter (okI first after) := by
  rw [filter_take hx, ← h, if_pos (by unfold okI; rcases hc with h | h <;> simp [h])]
theorem rest_no {l rest : List Itm} {first : Bool} {after x : Itm} {i : Nat} (h : rest = (l.take i).filter (okI first after)) (hx : l[i]? = some x) (hf : first = false) (hc : itmLess after x = false) : rest = (l.take (i + 1)).filter (okI first after) := by
  rw [filter_take hx, ← h, if_neg (by unfold okI; simp [hf, hc])]; simp
section
variable {words : List Str} {s : Str} {k batch : Int} {first : Bool} {after : Itm} {rest : List Itm} {i : Nat}
theorem nextR_z (h : ¬ (asked s = true ∧ 0 ≤ k ∧ k ≤ 4)) : nextR words s k first after batch = ([], true) := by unfold nextR; rw [if_neg h]
theorem nextR_no (h : k < 0 ∨ k > 4) : [] = (nextR words s k first after batch).1 := by rw [nextR_z (fun x => by omega)]
theorem nextR_no2 (h : asked s = false) : [] = (nextR words s k first after batch).1 := by rw [nextR_z (fun x => by simp [h] at x)]
theorem nextR_noB (h : k < 0 ∨ k > 4) : true = (nextR words s k first after batch).2 := by rw [nextR_z (fun x => by omega)]
theorem nextR_noB2 (h : asked s = false) : true = (nextR words s k first after batch).2 := by rw [nextR_z (fun x => by simp [h] at x)]
theorem nextR_y (h : rest = ((refAll words s k).take i).filter (okI first after)) (hi : (refAll words s k).length ≤ i) (ha : asked s = true) (hk : 0 ≤ k ∧ k ≤ 4) : nextR words s k first after batch = (rest.take (min (max batch 0) rest.length).toNat, decide (min (max batch 0) (rest.length : Int) = rest.length)) := by
  unfold nextR
  rw [List.take_of_length_le hi] at h
  rw [if_pos ⟨ha, hk⟩, ← h]
theorem nextR_l (h : rest = ((refAll words s k).take i).filter (okI first after)) (hi : (refAll words s k).length ≤ i) (ha : asked s = true) (hk : 0 ≤ k ∧ k ≤ 4) : rest.take (min (max batch 0) rest.length).toNat = (nextR words s k first after batch).1 := by rw [nextR_y h hi ha hk]
theorem nextR_b {b : Bool} (h : rest = ((refAll words s k).take i).filter (okI first after)) (hi : (refAll words s k).length ≤ i) (ha : asked s = true) (hk : 0 ≤ k ∧ k ≤ 4) (hb : b = decide (min (max batch 0) (rest.length : Int) = rest.length)) : b = (nextR words s k first after batch).2 := by rw [nextR_y h hi ha hk, hb]
theorem nextR_len (words : List Str) (s : Str) (k : Int) (first : Bool) (after : Itm) (batch : Int) : (nextR words s k first after batch).1.length ≤ words.length := by
  unfold nextR
  split
  · have h1 := refAll_len words s k
    have h2 := List.length_filter_le (okI first after) (refAll words s k)
    simp only [List.length_take]; omega
  · simp
end
section
variable {words : List Str} {s : Str} {d : Int} {out : List Str} {i : Nat}
theorem dr_yes {l : List Itm} {x : Itm} (h : out = ((l.take i).filter fun x => decide (x.dist = d)).map (·.word)) (hx : l[i]? = some x) (hc : x.dist = d) : out ++ [x.word] = ((l.take (i + 1)).filter fun x => decide (x.dist = d)).map (·.word) := by
  rw [filter_take hx, if_pos (decide_eq_true hc), List.map_append, ← h]; rfl
theorem dr_no {l : List Itm} {x : Itm} (h : out = ((l.take i).filter fun x => decide (x.dist = d)).map (·.word)) (hx : l[i]? = some x) (hc : ¬ x.dist = d) : out = ((l.take (i + 1)).filter fun x => decide (x.dist = d)).map (·.word) := by
  rw [filter_take hx, if_neg (by simpa using hc), List.append_nil, ← h]
theorem distsR_z (h : ¬ (asked s = true ∧ 0 ≤ d ∧ d ≤ 4)) : [] = distsR words s d := by unfold distsR; rw [if_neg h]
theorem distsR_no (h : d < 0 ∨ d > 4) : [] = distsR words s d := distsR_z fun x => by omega
theorem distsR_no2 (h : asked s = false) : [] = distsR words s d := distsR_z fun x => by simp [h] at x
theorem distsR_yes (h : out = (((refAll words s d).take i).filter fun x => decide (x.dist = d)).map (·.word)) (hi : (refAll words s d).length ≤ i) (ha : asked s = true) (hd : 0 ≤ d ∧ d ≤ 4) : out = distsR words s d := by
  unfold distsR
  rw [if_pos ⟨ha, hd⟩, h, List.take_of_length_le hi]
theorem distsR_len (words : List Str) (s : Str) (d : Int) : (distsR words s d).length ≤ words.length := by
  unfold distsR
  split
  · have h1 := refAll_len words s d
    have h2 := List.length_filter_le (fun x : Itm => decide (x.dist = d)) (refAll words s d)
    rw [List.length_map]; omega
  · simp
end
end Go.Ml
theorem Go.Ml.PutI.len {l : List Go.Ml.Itm} {x : Go.Ml.Itm} {k : Nat} {out : List Go.Ml.Itm} {b : Bool} (h : Go.Ml.PutI l x k out b) : out.length ≤ k + 1 := by
  have := h.2
  split at this <;> omega
theorem Go.Ml.refAll_shortE (words : List Go.Ik.Str) (s : Go.Ik.Str) (k : Int) (h : ∀ w ∈ words, w.length ≤ 1000) : ∀ x ∈ Go.Ml.refAll words s k, x.word.length ≤ 1000 := Go.Ml.refAll_short h
/-
  What the layers share, as values: queries, events.
-/
set_option linter.unusedVariables false
set_option linter.unusedSimpArgs false
namespace Go.Ml
open Go Go.Ik

structure Qry where
  text : Str
  k : Int
  n : Int
deriving DecidableEq
def encQry (q : Qry) : List Value := [strV q.text, .int .i64 q.k, .int .i64 q.n]
theorem encQry_len (x : Qry) : (encQry x).length = 3 := rfl
theorem encQry_one (x : Qry) : (encQry x).all (·.oneCell') = true := rfl
structure Qry.Ok (x : Qry) : Prop where
  text : x.text.length ≤ maxLen
  k : I64 x.k
  n : I64 x.n
structure Evt where
  kind : Int
  node : Int
  at_ : Int
  x : Int
  q : Qry
deriving DecidableEq
def encEvt (e : Evt) : List Value := [.int .i64 e.kind, .int .i64 e.node, .int .i64 e.at_, .int .i64 e.x, strV e.q.text, .int .i64 e.q.k, .int .i64 e.q.n]
theorem encEvt_len (x : Evt) : (encEvt x).length = 7 := rfl
theorem encEvt_one (x : Evt) : (encEvt x).all (·.oneCell') = true := rfl
structure Evt.Ok (e : Evt) : Prop where
  kind : I64 e.kind
  node : I64 e.node
  at_ : I64 e.at_
  x : I64 e.x
  q : e.q.Ok
end Go.Ml
/-
  Chapter 4 as the document answers: putting words where they belong; no program in sight.
-/
set_option linter.unusedVariables false
set_option linter.unusedSimpArgs false
namespace Go.Ml
open Go.Ik

def SOk (l : List Str) : Prop := ∀ s ∈ l, s.length ≤ 1000000000
theorem SOk.at {l : List Str} (h : SOk l) {k : Nat} {x : Str} (hx : l[k]? = some x) : x.length ≤ 1000000000 := h x (List.mem_of_getElem? hx)
theorem greatT_short {l : List Str} (h : greatT l = false) : SOk l := by
  intro s hs
  unfold greatT at h
  simp only [Bool.or_eq_false_iff, List.any_eq_false, decide_eq_true_eq] at h
  have := h.2 s hs
  omega
/-! a word where it belongs -/
def putG : Bool → List Str → Str → List Str
  | b, [], w => if b = true then [] else [w]
  | b, x :: r, w =>
    if b = false ∧ Lib.compareBytes x w > 0 then w :: x :: putG true r w
    else if Lib.compareBytes x w = 0 then x :: putG true r w
    else x :: putG b r w
theorem drop_el {l : List Str} {k : Nat} {x : Str} (hx : l[k]? = some x) : l.drop k = x :: l.drop (k + 1) := by
  obtain ⟨h, rfl⟩ := List.getElem?_eq_some_iff.1 hx
  exact List.drop_eq_getElem_cons h
theorem put_in {l out r : List Str} {w x : Str} {k : Nat} {b : Bool} (hi : out ++ putG b (l.drop k) w = r) (hx : l[k]? = some x) (hb : b = false) (hc : Lib.compareBytes x w > 0) : ((out ++ [w]) ++ [x]) ++ putG true (l.drop (k + 1)) w = r := by
  rw [← hi, drop_el hx, putG, if_pos ⟨hb, hc⟩]; simp
theorem put_eq {l out r : List Str} {w x : Str} {k : Nat} {b : Bool} (hi : out ++ putG b (l.drop k) w = r) (hx : l[k]? = some x) (hc : Lib.compareBytes x w = 0) : (out ++ [x]) ++ putG true (l.drop (k + 1)) w = r := by
  rw [← hi, drop_el hx, putG, if_neg (by omega), if_pos hc]; simp
theorem put_on {l out r : List Str} {w x : Str} {k : Nat} {b : Bool} (hi : out ++ putG b (l.drop k) w = r) (hx : l[k]? = some x) (h1 : ¬ (b = false ∧ Lib.compareBytes x w > 0)) (hc : Lib.compareBytes x w ≠ 0) : (out ++ [x]) ++ putG b (l.drop (k + 1)) w = r := by
  rw [← hi, drop_el hx, putG, if_neg h1, if_neg hc]; simp
theorem put_end {l out r : List Str} {w : Str} {k : Nat} (hi : out ++ putG false (l.drop k) w = r) (hk : l.length ≤ k) : out ++ [w] = r := by
  rw [← hi, List.drop_of_length_le hk]; rfl
theorem put_end' {l out r : List Str} {w : Str} {k : Nat} (hi : out ++ putG true (l.drop k) w = r) (hk : l.length ≤ k) : out = r := by
  rw [← hi, List.drop_of_length_le hk]; simp [putG]
def putM (l : List Str) (w : Str) : List Str := putG false l w
theorem putG_true : ∀ (l : List Str) (w : Str), putG true l w = l
  | [], w => rfl
  | x :: r, w => by
    rw [putG, if_neg (by simp), putG_true r w]; simp
theorem putM_mem {l : List Str} {w z : Str} : z ∈ putM l w ↔ z ∈ l ∨ z = w := by
  unfold putM
  induction l with
  | nil => simp [putG]
  | cons x r ih =>
    rw [putG, putG_true]
    split
    · simp only [List.mem_cons]
      constructor
      · rintro (h | h | h) <;> simp [h]
      · rintro ((h | h) | h) <;> simp [h]
    · split
      · rename_i h1 h2
        have := cmp_eq h2
        subst this
        simp only [List.mem_cons]
        constructor
        · intro h; exact .inl h
        · rintro (h | rfl)
          · exact h
          · exact .inl rfl
      · simp only [List.mem_cons, ih, or_assoc]
theorem putM_sorted {l : List Str} {w : Str} (hs : Sorted l) : Sorted (putM l w) := by
  unfold putM
  induction l with
  | nil => simp [putG, Sorted]
  | cons x r ih =>
    have hs' := List.pairwise_cons.1 hs
    rw [putG, putG_true]
    split
    · rename_i h
      have hlt : ltT w x := by
        have := cmp_anti x w
        unfold ltT; omega
      refine List.Pairwise.cons (fun y hy => ?_) hs
      rcases List.mem_cons.1 hy with rfl | hy
      · exact hlt
      · exact lt_trans hlt (hs'.1 y hy)
    · split
      · exact hs
      · rename_i h1 h2
        refine List.Pairwise.cons (fun y hy => ?_) (ih hs'.2)
        rcases putM_mem.1 hy with hy | rfl
        · exact hs'.1 y hy
        · have : ¬ Lib.compareBytes x y > 0 := fun h => h1 ⟨rfl, h⟩
          unfold ltT; omega
theorem putM_len (l : List Str) (w : Str) : (putM l w).length ≤ l.length + 1 := by
  unfold putM
  induction l with
  | nil => simp [putG]
  | cons x r ih =>
    rw [putG, putG_true]
    split
    · simp
    · split
      · simp
      · simp only [List.length_cons]; omega
/-! in order, by putting -/
def foldP (l : List Str) (ws : List Str) : List Str := ws.foldl putM l
theorem foldP_spec : ∀ (ws l : List Str), Sorted l → Sorted (foldP l ws) ∧ (∀ z, z ∈ foldP l ws ↔ z ∈ l ∨ z ∈ ws) ∧ (foldP l ws).length ≤ l.length + ws.length
  | [], l, h => ⟨h, by simp [foldP], by simp [foldP]⟩
  | w :: ws, l, h => by
    have ih := foldP_spec ws (putM l w) (putM_sorted h)
    have hl := putM_len l w
    refine ⟨ih.1, fun z => ?_, ?_⟩
    · show z ∈ foldP (putM l w) ws ↔ _
      rw [ih.2.1, putM_mem, List.mem_cons, or_assoc]
    · show (foldP (putM l w) ws).length ≤ _
      simp only [List.length_cons]; omega
theorem foldP_snoc (l ws : List Str) (x : Str) : foldP l (ws ++ [x]) = putM (foldP l ws) x := by unfold foldP; rw [List.foldl_append]; rfl
theorem sorted_ref (l : List Str) : foldP [] ((l.take 1000).filter word) = sortedM l := by
  have h := foldP_spec ((l.take 1000).filter word) [] List.Pairwise.nil
  have h2 := sortedM_spec l
  exact sorted_ext h.1 h2.1 fun x => by rw [h.2.1, h2.2]; simp
theorem merge_ref {a b : List Str} (ha : Sorted a) (hb : Sorted b) : foldP a b = mergeL a b := by
  have h := foldP_spec b a ha
  exact sorted_ext h.1 (merge_sorted ha hb) fun x => by rw [h.2.1, mem_merge]
theorem sref_yes {l out : List Str} {k : Nat} {x : Str} (hi : out = foldP [] ((l.take k).filter word)) (hx : l[k]? = some x) (hw : word x = true) : putM out x = foldP [] ((l.take (k + 1)).filter word) := by
  rw [filter_take_yes hx hw, foldP_snoc, hi]
theorem sref_no {l out : List Str} {k : Nat} {x : Str} (hi : out = foldP [] ((l.take k).filter word)) (hx : l[k]? = some x) (hw : word x = false) : out = foldP [] ((l.take (k + 1)).filter word) := by
  rw [filter_take_no hx hw, hi]
theorem sref_end {l out : List Str} {k : Nat} (hi : out = foldP [] ((l.take k).filter word)) (hk : l.length ≤ k ∨ k = 1000) (hk2 : k ≤ 1000) : out = sortedM l := by
  rw [hi, ← sorted_ref]
  rcases hk with h | h
  · rw [List.take_of_length_le h, List.take_of_length_le (by omega)]
  · rw [h]
theorem foldP_len (ws : List Str) : (foldP [] ws).length ≤ ws.length := by
  have := (foldP_spec ws [] List.Pairwise.nil).2.2; simpa using this
theorem mref_step {a b out : List Str} {k : Nat} {x : Str} (hi : out = foldP a (b.take k)) (hx : b[k]? = some x) : putM out x = foldP a (b.take (k + 1)) := by
  rw [List.take_add_one, hx]; simp only [Option.toList_some]; rw [foldP_snoc, hi]
theorem mref_end {a b out : List Str} {k : Nat} (hi : out = foldP a (b.take k)) (hk : b.length ≤ k) (ha : Sorted a) (hb : Sorted b) : out = mergeL a b := by
  rw [hi, List.take_of_length_le hk, merge_ref ha hb]
/-! where a word stands, by counting -/
theorem belowW_snoc {l : List Str} {w x : Str} {k : Nat} (hx : l[k]? = some x) : belowW (l.take (k + 1)) w = belowW (l.take k) w + (if Lib.compareBytes x w < 0 then 1 else 0) := by
  unfold belowW
  rw [List.take_add_one, hx, List.countP_append]; simp [List.countP_cons]
theorem rat_yes {l : List Str} {w x : Str} {k n : Nat} (hn : n = belowW (l.take k) w) (hx : l[k]? = some x) (hc : Lib.compareBytes x w < 0) : n + 1 = belowW (l.take (k + 1)) w := by
  rw [belowW_snoc hx, if_pos hc, hn]
theorem rat_no {l : List Str} {w x : Str} {k n : Nat} (hn : n = belowW (l.take k) w) (hx : l[k]? = some x) (hc : ¬ Lib.compareBytes x w < 0) : n = belowW (l.take (k + 1)) w := by
  rw [belowW_snoc hx, if_neg hc, hn]; rfl
theorem rat_found {l : List Str} {w x : Str} {k n : Nat} (hs : Sorted l) (hn : n = belowW (l.take k) w) (hx : l[k]? = some x) (he : x = w) : ((n : Nat) : Int) = ((belowW l w : Nat) : Int) ∧ true = l.contains w := by
  subst he
  refine ⟨?_, (List.contains_iff_mem.2 (List.mem_of_getElem? hx)).symm⟩
  have h : belowW l x = belowW (l.take k) x := by
    unfold belowW
    conv => lhs; rw [← List.take_append_drop k l]
    rw [List.countP_append]
    have h2 : (l.drop k).countP (fun y => decide (Lib.compareBytes y x < 0)) = 0 := by
      rw [List.countP_eq_zero]
      intro a ha hlt
      have hlt : ltT a x := (of_decide_eq_true hlt : Lib.compareBytes a x < 0)
      obtain ⟨j, hj⟩ := List.mem_iff_getElem?.1 ha
      rw [List.getElem?_drop] at hj
      rcases Nat.eq_zero_or_pos j with h0 | h0
      · subst h0
        rw [Nat.add_zero, hx] at hj
        cases hj
        exact lt_irrefl _ hlt
      · exact lt_irrefl _ (lt_trans (sorted_at hs hx hj (by omega)) hlt)
    omega
  rw [hn, h]
theorem rat_end {l : List Str} {w : Str} {k n : Nat} (hn : n = belowW (l.take k) w) (hk : l.length ≤ k) (hno : ∀ x ∈ l.take k, x ≠ w) : ((n : Nat) : Int) = ((belowW l w : Nat) : Int) ∧ false = l.contains w := by
  rw [List.take_of_length_le hk] at hn hno
  refine ⟨by rw [hn], ?_⟩
  cases h : l.contains w with
  | false => rfl
  | true => exact absurd rfl (hno w (List.contains_iff_mem.1 h))
theorem none_step {l : List Str} {w x : Str} {k : Nat} (h : ∀ x ∈ l.take k, x ≠ w) (hx : l[k]? = some x) (hn : x ≠ w) : ∀ x ∈ l.take (k + 1), x ≠ w := by
  intro y hy
  rw [List.take_add_one, hx] at hy
  simp only [Option.toList_some, List.mem_append, List.mem_singleton] at hy
  rcases hy with hy | rfl
  · exact h y hy
  · exact hn
theorem foldP_sub : ∀ (ws l : List Str) (z : Str), z ∈ foldP l ws → z ∈ l ∨ z ∈ ws
  | [], l, z, h => .inl h
  | w :: ws, l, z, h => by
    rcases foldP_sub ws (putM l w) z h with h | h
    · rcases putM_mem.1 h with h | rfl
      · exact .inl h
      · exact .inr (by simp)
    · exact .inr (by simp [h])
theorem sref_ok {l o : List Str} {k : Nat} (h : SOk l) (hi : o = foldP [] ((l.take k).filter word)) : SOk o := by
  intro s hs
  rw [hi] at hs
  rcases foldP_sub _ _ s hs with h1 | h1
  · simp at h1
  · exact h s (List.mem_of_mem_take (List.mem_filter.1 h1).1)
theorem mref_ok {a b o : List Str} {k : Nat} (ha : SOk a) (hb : SOk b) (hi : o = foldP a (b.take k)) : SOk o := by
  intro s hs
  rw [hi] at hs
  rcases foldP_sub _ _ s hs with h1 | h1
  · exact ha s h1
  · exact hb s (List.mem_of_mem_take h1)
end Go.Ml
/-
  Plain laws of chapter 11.
-/
set_option linter.unusedVariables false
set_option linter.unusedSimpArgs false
namespace Go.Ml
open Go.Ik

def greatS (words : List Str) (s : Str) : Bool := greatT words || decide (s.length > 100)
theorem greatS_no {words : List Str} {s : Str} (h : greatS words s = false) : greatT words = false ∧ s.length ≤ 100 := by
  unfold greatS at h
  simp only [Bool.or_eq_false_iff, decide_eq_false_iff_not] at h
  exact ⟨h.1, by omega⟩
theorem greatS_t {words : List Str} {s : Str} (h : greatT words = true) : true = greatS words s := by unfold greatS; rw [h]; rfl
theorem greatS_f {words : List Str} {s : Str} {b : Bool} (h : greatT words = false) (hb : b = decide ((s.length : Int) > 100)) : b = greatS words s := by
  unfold greatS; rw [h, hb, Bool.false_or]
  by_cases hc : s.length > 100
  · rw [decide_eq_true hc, decide_eq_true (by omega)]
  · rw [decide_eq_false hc, decide_eq_false (by omega)]
def mayQ (q : Qry) : Bool := asked q.text && decide (0 ≤ q.k ∧ q.k ≤ 4) && decide (1 ≤ q.n ∧ q.n ≤ 10)
theorem mayQ_a {q : Qry} (h : asked q.text = false) : false = mayQ q := by unfold mayQ; rw [h]; rfl
theorem mayQ_b {q : Qry} (h : q.k < 0 ∨ q.k > 4 ∨ q.n < 1) : false = mayQ q := by
  unfold mayQ
  by_cases hk : 0 ≤ q.k ∧ q.k ≤ 4
  · rw [decide_eq_false (p := 1 ≤ q.n ∧ q.n ≤ 10) (by omega)]; simp
  · rw [decide_eq_false hk]; simp
theorem mayQ_y {q : Qry} {b : Bool} (h : asked q.text = true) (hk : 0 ≤ q.k ∧ q.k ≤ 4 ∧ 1 ≤ q.n) (hb : b = decide (q.n ≤ 10)) : b = mayQ q := by
  unfold mayQ
  rw [h, decide_eq_true (p := 0 ≤ q.k ∧ q.k ≤ 4) (by omega), hb]
  by_cases hc : q.n ≤ 10
  · rw [decide_eq_true hc, decide_eq_true (by omega)]; rfl
  · rw [decide_eq_false hc, decide_eq_false (by omega)]; rfl
theorem mayQ_iff {q : Qry} (h : mayQ q = true) : asked q.text = true ∧ (0 ≤ q.k ∧ q.k ≤ 4) ∧ 1 ≤ q.n ∧ q.n ≤ 10 := by
  unfold mayQ at h
  simp only [Bool.and_eq_true, decide_eq_true_eq] at h
  exact ⟨h.1.1, h.1.2, h.2⟩
theorem good_fineT {words : List Str} (h : goodL words = 0) : ∀ w ∈ words, fineT w = true := fun w hw => by
  have := (good_words h).2.1 w hw
  unfold word at this
  simp only [Bool.and_eq_true, decide_eq_true_eq] at this
  have h1 := this.1
  unfold lenT at h1
  unfold fineT
  split at h1
  · omega
  · exact decide_eq_true (by assumption)
theorem gnodes_pos {words : List Str} (h : goodL words = 0) : gnodes words ≠ [] := by
  rw [gnodes_yes h]
  intro e
  have := (graphB_len h).1
  have h2 := congrArg List.length e
  rw [gnOf_len] at h2
  simp only [List.length_nil] at h2; omega
/-- what is in order and behind something -/
theorem filter_tail : ∀ {l : List Itm}, l.Pairwise ltI → ∀ (a : Nat) {z : Itm}, l[a]? = some z → l.filter (itmLess z) = l.drop (a + 1)
  | [], _, a, z, h => by simp at h
  | x :: l, hl, 0, z, h => by
    rw [List.pairwise_cons] at hl
    simp only [List.getElem?_cons_zero, Option.some.injEq] at h
    subst h
    rw [List.filter_cons_of_neg (fun e => ltI_irr e), List.drop_one, List.tail_cons, List.filter_eq_self]
    exact hl.1
  | x :: l, hl, a + 1, z, h => by
    rw [List.pairwise_cons] at hl
    have h' : l[a]? = some z := by simpa using h
    have hx := hl.1 z (List.mem_of_getElem? h')
    rw [List.filter_cons_of_neg (fun e => ltI_irr (ltI_trans hx e))]
    simpa using filter_tail hl.2 a h'
theorem okI_up {first : Bool} {after z y : Itm} (h : okI first after z = true) (hz : itmLess z y = true) : okI first after y = true := by
  unfold okI at *
  cases first with
  | true => rfl
  | false => exact ltI_trans (a := after) (b := z) (c := y) (by unfold ltI; simpa using h) hz
theorem filter_behind {l : List Itm} (hl : l.Pairwise ltI) {first : Bool} {after z : Itm} {a : Nat} (hz : (l.filter (okI first after))[a]? = some z) : l.filter (okI false z) = (l.filter (okI first after)).drop (a + 1) := by
  rw [← filter_tail (hl.filter _) a hz, List.filter_filter]
  refine List.filter_congr fun y _ => ?_
  have hzm := (List.mem_filter.1 (List.mem_of_getElem? hz)).2
  show (false || itmLess z y) = (itmLess z y && okI first after y)
  by_cases hc : itmLess z y = true
  · rw [hc, okI_up hzm hc]; rfl
  · have : itmLess z y = false := by simpa using hc
    rw [this]; rfl
/-- batches of a graph that is one -/
theorem nextA_eq {words : List Str} {s : Str} {k : Int} {first : Bool} {after : Itm} {batch : Int} (hg : goodL words = 0) (ha : asked s = true) (hk : 0 ≤ k ∧ k ≤ 4) (hb : 0 ≤ batch) :
    nextA (gnodes words) words s k first after batch = (((itemsM words (runesI s) (k.toNat + 1)).filter (okI first after)).take batch.toNat, decide (((itemsM words (runesI s) (k.toNat + 1)).filter (okI first after)).length ≤ batch.toNat)) := by
  unfold nextA
  rw [if_pos (mayA_yes (gnodes_pos hg) hk ha), show max batch 0 = ((batch.toNat : Nat) : Int) from by omega, nextS_eq]
  simp only
  congr 1
  generalize ((itemsM words (runesI s) (k.toNat + 1)).filter (okI first after)).length = n
  by_cases h : batch.toNat < n
  · rw [decide_eq_true h, decide_eq_false (by omega)]; rfl
  · rw [decide_eq_false h, decide_eq_true (by omega)]; rfl
structure SplitL (words : List Str) (s : Str) (k : Int) (first : Bool) (after : Itm) (a b : Int) (x : List Itm) (p : Bool) (all : List Itm) (e : Bool) : Prop where
  one : p = true → e = true ∧ x = all
  len : p = false → (x.length : Int) = a
  two : p = false → ∀ z, x[(a - 1).toNat]? = some z → x ++ (nextA (gnodes words) words s k false z b).1 = all ∧ (nextA (gnodes words) words s k false z b).2 = e
theorem split_law {words : List Str} {s : Str} {k : Int} {first : Bool} {after : Itm} {a b : Int} (hg : goodL words = 0) (ha : asked s = true) (hk : 0 ≤ k ∧ k ≤ 4) (h1 : 1 ≤ a) (h2 : 1 ≤ b) :
    SplitL words s k first after a b (nextA (gnodes words) words s k first after a).1 (nextA (gnodes words) words s k first after a).2 (nextA (gnodes words) words s k first after (a + b)).1 (nextA (gnodes words) words s k first after (a + b)).2 := by
  have hs := itemsM_sorted (q := runesI s) (good_sorted hg) (k.toNat + 1)
  have hI : ∀ z b, 0 ≤ b → nextA (gnodes words) words s k false z b = ((((itemsM words (runesI s) (k.toNat + 1)).filter (okI false z)).take b.toNat), decide (((itemsM words (runesI s) (k.toNat + 1)).filter (okI false z)).length ≤ b.toNat)) := fun z b hb => nextA_eq hg ha hk hb
  rw [nextA_eq hg ha hk (by omega), nextA_eq hg ha hk (by omega)]
  generalize itemsM words (runesI s) (k.toNat + 1) = I at hs hI ⊢
  have hab : (a + b).toNat = a.toNat + b.toNat := by omega
  refine ⟨fun hp => ?_, fun hp => ?_, fun hp z hz => ?_⟩
  · have := of_decide_eq_true hp
    simp only
    exact ⟨decide_eq_true (by omega), by rw [List.take_of_length_le this, List.take_of_length_le (by omega)]⟩
  · have := of_decide_eq_false hp
    simp only [List.length_take]; omega
  · have hl := of_decide_eq_false hp
    rw [hI z b (by omega)]
    have hz' : (I.filter (okI first after))[(a - 1).toNat]? = some z := by
      rw [List.getElem?_take] at hz
      split at hz
      · exact hz
      · cases hz
    rw [filter_behind hs hz', show (a - 1).toNat + 1 = a.toNat from by omega]
    simp only
    constructor
    · rw [hab, List.take_add]
    · rw [List.length_drop]
      by_cases h : (I.filter (okI first after)).length - a.toNat ≤ b.toNat
      · rw [decide_eq_true h, decide_eq_true (by omega)]
      · rw [decide_eq_false h, decide_eq_false (by omega)]
/-! far from all words -/
theorem rowF_ge (q : List Int) : ∀ (p : List Int) (i : Nat), (i : Int) - p.length ≤ rowF q p i := by
  refine snocInd (fun i => by rw [rowF_nil]; simp) fun p r ih => ?_
  rw [rowF_snoc]
  intro i
  induction i with
  | zero => simp only [stepF, List.length_append, List.length_cons, List.length_nil]; have := ih 0; omega
  | succ i hi =>
    have h1 := ih (i + 1); have h2 := ih i
    simp only [List.length_append, List.length_cons, List.length_nil] at hi ⊢
    unfold stepF
    split <;> omega
theorem lev_far (q p : List Int) : (q.length : Int) - p.length ≤ lev q p ∧ (p.length : Int) - q.length ≤ lev q p := by
  refine ⟨rowF_ge q p q.length, ?_⟩
  have h2 := lip_any (lip_row q p) 0 q.length
  rw [rowF_zero] at h2
  unfold lev; omega
theorem lenT_I {w : Str} (h : fineT w = true) : lenT w = ((runesI w).length : Int) := by
  unfold fineT at h
  unfold lenT runesI
  rw [if_neg (of_decide_eq_true h), List.length_map]
theorem far_law {words : List Str} {s : Str} {k : Int} (hg : goodL words = 0) (ha : asked s = true) (hk : 0 ≤ k ∧ k ≤ 4) (hf : ∀ w ∈ words, ¬ (lenT w - lenT s ≤ k ∧ -(lenT w - lenT s) ≤ k)) :
    distsA (gnodes words) words s k = [] ∧ ∀ first after batch, nextA (gnodes words) words s k first after batch = ([], true) := by
  have hn : ∀ d : Int, d ≤ k → distsM words (runesI s) d = [] := by
    intro d hd
    unfold distsM
    rw [List.filter_eq_nil_iff]
    intro w hw
    unfold nearW
    rw [decide_eq_true_eq]
    have h1 := hf w hw
    rw [lenT_I (good_fineT hg w hw), lenT_I (asked_fine ha)] at h1
    have := lev_far (runesI s) (runesI w)
    omega
  have hm := mayA_yes (gnodes_pos hg) hk ha
  constructor
  · unfold distsA; rw [if_pos hm]; exact hn k (Int.le_refl _)
  · intro first after batch
    have hS : ∀ n : Nat, (n : Int) ≤ k + 1 → nextS words (runesI s) first after (max batch 0) n = ([], false) := by
      intro n
      induction n with
      | zero => intro _; rfl
      | succ n ih =>
        intro h
        unfold nextS
        simp only
        rw [ih (by omega), if_neg (by simp)]
        unfold nextD
        rw [hn n (by omega)]; rfl
    unfold nextA
    rw [if_pos hm, hS _ (by omega)]; rfl
end Go.Ml
theorem Go.Ml.far_step {words : List Go.Ik.Str} {i : Nat} {w : Go.Ik.Str} {p : Go.Ik.Str → Prop} (h : ∀ x ∈ words.take i, p x) (hx : words[i]? = some w) (hw : p w) : ∀ x ∈ words.take (i + 1), p x := fun x hxm => by
  rw [List.take_add_one, hx] at hxm
  rcases List.mem_append.1 hxm with h1 | h1
  · exact h x h1
  · simp only [Option.toList_some, List.mem_singleton] at h1
    subst h1; exact hw
namespace Go.Ml
open Go.Ik
theorem good_len48 {words : List Str} (h : goodL words = 0) : ∀ w ∈ words, w.length ≤ 1000 := fun w hw => by
  have := word_short ((good_words h).2.1 w hw); omega
theorem lenT_rng (s : Str) : -1 ≤ lenT s ∧ lenT s ≤ s.length := by
  refine ⟨?_, lenT_le s⟩
  unfold lenT; split <;> omega
theorem nextA_mem {words : List Str} {s : Str} {k : Int} {first : Bool} {after : Itm} {batch : Int} (hg : goodL words = 0) (ha : asked s = true) (hk : 0 ≤ k ∧ k ≤ 4) (hb : 0 ≤ batch) {x : Itm} (hx : x ∈ (nextA (gnodes words) words s k first after batch).1) : x.word ∈ words ∧ 0 ≤ x.dist ∧ x.dist ≤ k := by
  rw [nextA_eq hg ha hk hb] at hx
  have h1 := mem_itemsM.1 (List.mem_filter.1 (List.mem_of_mem_take hx)).1
  have := (lev_le (runesI s) (runesI x.word)).1
  exact ⟨h1.1, by omega, by omega⟩
end Go.Ml
/-
  Plain law of chapter 8: words that have a beginning more.
-/
set_option linter.unusedVariables false
set_option linter.unusedSimpArgs false
namespace Go.Ml
open Go.Ik

/-! names alone -/
def nmM : Nat → List (List Str) → List Str → List (List Str)
  | 0, ns, _ => ns
  | f + 1, ns, r => if r ∈ ns then ns else (groups (dropE r)).foldl (fun a g => nmM f a g.2) (ns ++ [r])
theorem nm_succ (f : Nat) (ns : List (List Str)) (r : List Str) : nmM (f + 1) ns r = if r ∈ ns then ns else (groups (dropE r)).foldl (fun a g => nmM f a g.2) (ns ++ [r]) := rfl
theorem edges_names {add : GS → List Str → GS × Nat} {nm : List (List Str) → List Str → List (List Str)} (h : ∀ s r, names (add s r).1 = nm (names s) r) : ∀ (gs : List (Nat × List Str)) (s : GS), names (edgesM add s gs).1 = gs.foldl (fun a g => nm a g.2) (names s)
  | [], s => rfl
  | g :: gs, s => by
    show names (edgesM add (add s g.2).1 gs).1 = _
    rw [edges_names h gs, h, List.foldl_cons]
theorem add_names : ∀ (f : Nat) (s : GS) (r : List Str), names (addM f s r).1 = nmM f (names s) r
  | 0, s, r => rfl
  | f + 1, s, r => by
    unfold addM nmM
    cases hi : s.findIdx? fun x => x.1 == r with
    | some i =>
      obtain ⟨es, he⟩ := findIdx_some hi
      rw [if_pos]
      unfold names
      exact List.mem_map.2 ⟨_, List.mem_of_getElem? he, rfl⟩
    | none =>
      rw [if_neg (findIdx_none hi)]
      have h := edges_names (add_names f) (groups (dropE r)) (s ++ [(r, [])])
      have h2 : names (s ++ [(r, [])]) = names s ++ [r] := by simp [names]
      rw [h2] at h
      rw [← h]
      cases hx : (edgesM (addM f) (s ++ [(r, [])]) (groups (dropE r))).1[s.length]? with
      | none =>
        simp only
        rw [List.set_eq_of_length_le (by have := List.getElem?_eq_none_iff.1 hx; omega)]
      | some y =>
        have hy : y.1 = r := by
          have h3 : (names (edgesM (addM f) (s ++ [(r, [])]) (groups (dropE r))).1)[s.length]? = some y.1 := by unfold names; rw [List.getElem?_map, hx]; rfl
          rw [h] at h3
          have h4 : ∀ (gs : List (Nat × List Str)) (ns : List (List Str)) (k : Nat) (z : List Str), ns[k]? = some z → (gs.foldl (fun a g => nmM f a g.2) ns)[k]? = some z := by
            intro gs
            induction gs with
            | nil => intro ns k z h; exact h
            | cons g gs ih => intro ns k z h; rw [List.foldl_cons]; exact ih _ _ _ (nm_keep f ns g.2 k z h)
          have h5 := h4 (groups (dropE r)) (names s ++ [r]) s.length r (by unfold names; simp)
          rw [h5] at h3
          simpa using h3.symm
        obtain ⟨y1, y2⟩ := y
        simp only at hy
        subst hy
        exact names_set hx
where
  nm_keep : ∀ (f : Nat) (ns : List (List Str)) (r : List Str) (k : Nat) (z : List Str), ns[k]? = some z → (nmM f ns r)[k]? = some z
    | 0, ns, r, k, z, h => h
    | f + 1, ns, r, k, z, h => by
      unfold nmM
      split
      · exact h
      · have h4 : ∀ (gs : List (Nat × List Str)) (ns : List (List Str)), ns[k]? = some z → (gs.foldl (fun a g => nmM f a g.2) ns)[k]? = some z := by
          intro gs
          induction gs with
          | nil => intro ns h; exact h
          | cons g gs ih => intro ns h; rw [List.foldl_cons]; exact ih _ (nm_keep f ns g.2 k z h)
        exact h4 _ _ (by rw [List.getElem?_append_left (List.getElem?_eq_some_iff.1 h).1]; exact h)
theorem deep_mono {l : List Str} {d e : Nat} (h : Deep d l) (hde : d ≤ e) : Deep e l := fun t ht => Nat.le_trans (h t ht) hde
theorem groups_good {r : List Str} (hg : GoodR r) {g : Nat × List Str} (h : g ∈ groups (dropE r)) : GoodR g.2 := by
  have hd := dropE_good hg
  exact ((groups_ok _ _ (Nat.le_refl _) hd.1 hd.2).good g h).2.2
theorem groups_deep {r : List Str} (hg : GoodR r) {d : Nat} (hd : Deep d r) {g : Nat × List Str} (h : g ∈ groups (dropE r)) : ∃ e, d = e + 1 ∧ Deep e g.2 := by
  obtain ⟨k, hk⟩ := List.mem_iff_getElem?.1 h
  exact deep_edge hg hd hk
/-- names that are too deep to be met -/
theorem nm_shift {D : Nat} {A : List (List Str)} (hA : ∀ a ∈ A, ¬ Deep D a) : ∀ (f : Nat) (B : List (List Str)) (r : List Str), GoodR r → Deep D r → nmM f (A ++ B) r = A ++ nmM f B r
  | 0, B, r, _, _ => rfl
  | f + 1, B, r, hg, hd => by
    unfold nmM
    have hr : r ∉ A := fun h => hA r h hd
    by_cases hB : r ∈ B
    · rw [if_pos (by simp [hB]), if_pos hB]
    · rw [if_neg (by simp [hB, hr]), if_neg hB]
      have key : ∀ (gs : List (Nat × List Str)) (B : List (List Str)), (∀ g ∈ gs, g ∈ groups (dropE r)) → gs.foldl (fun a g => nmM f a g.2) (A ++ B) = A ++ gs.foldl (fun a g => nmM f a g.2) B := by
        intro gs
        induction gs with
        | nil => intro B _; rfl
        | cons g gs ih =>
          intro B h
          have hgm := h g (by simp)
          obtain ⟨e, he, hde⟩ := groups_deep hg hd hgm
          rw [List.foldl_cons, List.foldl_cons, nm_shift hA f B g.2 (groups_good hg hgm) (deep_mono hde (by omega))]
          exact ih _ fun g' hg' => h g' (by simp [hg'])
      rw [List.append_assoc]
      exact key _ _ fun g h => h
theorem nm_fuel : ∀ (f f' d : Nat) (ns : List (List Str)) (r : List Str), GoodR r → Deep d r → d < f → d < f' → nmM f ns r = nmM f' ns r
  | 0, _, d, _, _, _, _, h, _ => by omega
  | _, 0, d, _, _, _, _, _, h => by omega
  | f + 1, f' + 1, d, ns, r, hg, hd, h1, h2 => by
    unfold nmM
    split
    · rfl
    · have key : ∀ (gs : List (Nat × List Str)) (B : List (List Str)), (∀ g ∈ gs, g ∈ groups (dropE r)) → gs.foldl (fun a g => nmM f a g.2) B = gs.foldl (fun a g => nmM f' a g.2) B := by
        intro gs
        induction gs with
        | nil => intro B _; rfl
        | cons g gs ih =>
          intro B h
          have hgm := h g (by simp)
          obtain ⟨e, he, hde⟩ := groups_deep hg hd hgm
          rw [List.foldl_cons, List.foldl_cons, nm_fuel f f' e B g.2 (groups_good hg hgm) hde (by omega) (by omega)]
          exact ih _ fun g' hg' => h g' (by simp [hg'])
      exact key _ _ fun g h => h
/-! words with a beginning -/
def putW (p : Str) (l : List Str) : List Str := l.map (p ++ ·)
theorem putW_good {p : Str} (hp : Fine p) {l : List Str} (h : GoodR l) : GoodR (putW p l) := by
  refine ⟨?_, fun t ht => ?_⟩
  · unfold putW Sorted
    rw [List.pairwise_map]
    exact h.sorted.imp fun hab => by unfold ltT at hab ⊢; rw [cmp_app]; exact hab
  · obtain ⟨u, hu, rfl⟩ := List.mem_map.1 ht
    obtain ⟨h1, h2⟩ := encT_runes p hp
    have : ∀ (rs : List Nat), (∀ c ∈ rs, goodN c) → Fine (encT rs ++ u) := by
      intro rs
      induction rs with
      | nil => intro _; simpa [encT] using h.fine u hu
      | cons c rs ih =>
        intro hg
        rw [encT_cons, List.append_assoc]
        exact fine_enc (hg c (by simp)) (ih fun d hd => hg d (by simp [hd]))
    rw [← h1]
    exact this _ h2
where
  fine_enc {c : Nat} (hc : goodN c) {t : Str} (ht : Fine t) : Fine (encL c ++ t) := by
    unfold Fine at ht ⊢
    rw [runes_app hc]
    intro hm
    rcases List.mem_cons.1 hm with h | h
    · exact hc.2.2 h.symm
    · exact ht h
theorem runes_put : ∀ (rs : List Nat) (t : Str), (∀ c ∈ rs, goodN c) → runes (encT rs ++ t) = rs ++ runes t
  | [], t, _ => by simp [encT]
  | c :: rs, t, h => by
    rw [encT_cons, List.append_assoc, runes_app (h c (by simp)), runes_put rs t fun d hd => h d (by simp [hd])]
    rfl
theorem groups_all {c : Nat} (hc : goodN c) {l : List Str} (hl : l ≠ []) : groups (l.map (encL c ++ ·)) = [(c, l)] := by
  cases l with
  | nil => exact absurd rfl hl
  | cons t r =>
    obtain ⟨h1, h2⟩ := dec_encL hc t
    rw [List.map_cons, groups_cons, h1, h2]
    have hall : ∀ x ∈ (encL c ++ t) :: r.map (encL c ++ ·), (encL c).isPrefixOf x = true := by
      intro x hx
      rw [← List.map_cons (f := (encL c ++ ·))] at hx
      obtain ⟨u, _, rfl⟩ := List.mem_map.1 hx
      exact isPrefix_app _ _
    have hw := takeWhile_take (p := fun t => (encL c).isPrefixOf t) (l := (encL c ++ t) :: r.map (encL c ++ ·)) (k := (r.map (encL c ++ ·)).length + 1) (fun x hx => hall x (List.mem_of_mem_take hx)) (fun x hx => by
      rw [List.getElem?_eq_none (by simp)] at hx; cases hx)
    have hs : stripP (encL c) ((encL c ++ t) :: r.map (encL c ++ ·)) = t :: r := by
      unfold stripP
      rw [hw.1, List.take_of_length_le (by simp)]
      simp [Function.comp_def]
    have hm : moreP (encL c) ((encL c ++ t) :: r.map (encL c ++ ·)) = [] := by
      unfold moreP
      rw [hw.2, List.drop_of_length_le (by simp)]
    rw [hs, hm, groups_nil]
theorem nm_put {D : Nat} {l : List Str} (hg : GoodR l) (hd : Deep D l) (hx : ∃ w ∈ l, (runes w).length = D) : ∀ (ps : List Nat) (f : Nat) (ns : List (List Str)), (∀ c ∈ ps, goodN c) → (∀ a ∈ ns, ¬ Deep (D + ps.length) a) →
    (nmM (f + ps.length) ns (putW (encT ps) l)).length = ns.length + ps.length + (nmM f [] l).length
  | [], f, ns, _, hn => by
    have : putW (encT []) l = l := by simp [putW, encT]
    rw [this]
    have := nm_shift hn f [] l hg (by simpa using hd)
    rw [List.append_nil] at this
    simp only [List.length_nil, Nat.add_zero] at this ⊢
    rw [this, List.length_append]
  | c :: cs, f, ns, hc, hn => by
    have hcg := hc c (by simp)
    have hcs : ∀ d ∈ cs, goodN d := fun d hd => hc d (by simp [hd])
    have hlen : ∀ w ∈ l, (runes (encT (c :: cs) ++ w)).length = cs.length + 1 + (runes w).length := by
      intro w hw
      rw [runes_put _ _ hc, List.length_append, List.length_cons]
    have hdeep : Deep (D + (c :: cs).length) (putW (encT (c :: cs)) l) := by
      intro t ht
      obtain ⟨w, hw, rfl⟩ := List.mem_map.1 ht
      rw [hlen w hw, List.length_cons]
      have := hd w hw; omega
    have hno : putW (encT (c :: cs)) l ∉ ns := fun h => hn _ h hdeep
    have hlne : l ≠ [] := by obtain ⟨w, hw, _⟩ := hx; intro e; rw [e] at hw; simp at hw
    have he : putW (encT (c :: cs)) l = (putW (encT cs) l).map (encL c ++ ·) := by
      unfold putW
      rw [List.map_map]
      refine List.map_congr_left fun w _ => ?_
      simp [encT_cons]
    have hdr : dropE (putW (encT (c :: cs)) l) = putW (encT (c :: cs)) l := by
      cases hl : l with
      | nil => exact absurd hl hlne
      | cons a r =>
        show dropE ((encT (c :: cs) ++ a) :: _) = _
        have : encT (c :: cs) ++ a ≠ [] := by
          intro e
          have := hlen a (by rw [hl]; simp)
          rw [e, runes_nil] at this; simp at this
          omega
        exact (dropE_cons (l := (encT (c :: cs) ++ a) :: r.map (encT (c :: cs) ++ ·)) rfl this).1
    have hgr : groups (dropE (putW (encT (c :: cs)) l)) = [(c, putW (encT cs) l)] := by
      rw [hdr, he]
      exact groups_all hcg (by unfold putW; simpa using hlne)
    rw [show f + (c :: cs).length = (f + cs.length) + 1 from by simp only [List.length_cons]; omega]
    rw [nm_succ, if_neg hno, hgr]
    simp only [List.foldl_cons, List.foldl_nil]
    rw [nm_put hg hd hx cs f (ns ++ [putW (encT (c :: cs)) l]) hcs ?_]
    · simp only [List.length_append, List.length_cons, List.length_nil]; omega
    · intro a ha
      rcases List.mem_append.1 ha with ha | ha
      · exact fun h => hn a ha (deep_mono h (by simp only [List.length_cons]; omega))
      · simp only [List.mem_singleton] at ha
        subst ha
        intro h
        obtain ⟨w, hw, hwd⟩ := hx
        have h1 := h _ (List.mem_map.2 ⟨w, hw, rfl⟩)
        have h2 := hlen w hw
        have h1' : (runes (encT (c :: cs) ++ w)).length ≤ D + cs.length := h1
        rw [h2] at h1'
        omega
theorem deepest : ∀ (l : List Str), l ≠ [] → ∃ D, Deep D l ∧ ∃ w ∈ l, (runes w).length = D
  | [], h => absurd rfl h
  | [w], _ => ⟨_, fun t ht => by simp only [List.mem_singleton] at ht; subst ht; exact Nat.le_refl _, w, by simp, rfl⟩
  | w :: v :: r, _ => by
    obtain ⟨D, h1, u, h2, h3⟩ := deepest (v :: r) (by simp)
    by_cases h : (runes w).length ≤ D
    · exact ⟨D, fun t ht => by
        rcases List.mem_cons.1 ht with rfl | ht
        · exact h
        · exact h1 t ht, u, by simp [h2] , h3⟩
    · refine ⟨(runes w).length, fun t ht => ?_, w, by simp, rfl⟩
      rcases List.mem_cons.1 ht with rfl | ht
      · exact Nat.le_refl _
      · have := h1 t ht; omega
theorem sorted_goodL {l : List Str} (hs : Sorted l) (hw : ∀ w ∈ l, word w = true) (hl : l.length ≤ 60) : goodL l = 0 := by
  unfold goodL
  rw [if_neg (by omega), if_pos (List.all_eq_true.2 hw), if_pos (sorted_rising hs)]
/-- the law, plainly -/
theorem put_law {l : List Str} {p : Str} (hg : goodL l = 0) (hne : l ≠ []) (hp : 0 ≤ lenT p) (hs : ∀ w ∈ l, lenT w + lenT p ≤ 12) :
    goodL (putW p l) = 0 ∧ (((gnodes (putW p l)).length : Nat) : Int) = ((gnodes l).length : Int) + lenT p := by
  have hfp : Fine p := by
    intro hm
    unfold lenT at hp; rw [if_pos hm] at hp; omega
  have hlp := lenT_fine hfp
  obtain ⟨hgr, hdp⟩ := good_deep hg
  obtain ⟨hpe, hpg⟩ := encT_runes p hfp
  obtain ⟨hl60, hword, hsort⟩ := good_words hg
  have hgp := putW_good hfp hgr
  have hwl : ∀ w ∈ l, lenT (p ++ w) = lenT p + lenT w := by
    intro w hw
    have hf := hgp.fine (p ++ w) (List.mem_map.2 ⟨w, hw, rfl⟩)
    have hfw := hgr.fine w hw
    rw [lenT_fine hf, lenT_fine hfw, hlp]
    have := runes_put (runes p) w hpg
    rw [hpe] at this
    rw [this, List.length_append]; omega
  have hgood : goodL (putW p l) = 0 := by
    refine sorted_goodL hgp.sorted (fun t ht => ?_) (by unfold putW; rw [List.length_map]; exact hl60)
    obtain ⟨w, hw, rfl⟩ := List.mem_map.1 ht
    have h1 := hword w hw
    unfold word at h1 ⊢
    simp only [Bool.and_eq_true, decide_eq_true_eq] at h1 ⊢
    have h2 := hs w hw
    have h3 := hwl w hw
    rw [h3]
    omega
  refine ⟨hgood, ?_⟩
  have hpne : putW p l ≠ [] := by unfold putW; simpa using hne
  have e1 : (gnodes (putW p l)).length = (nmM 13 [] (putW p l)).length := by
    rw [gnodes_yes hgood, gnOf_len]
    unfold graphB graphM
    rw [if_neg hpne, ← List.length_map (f := Prod.fst)]
    exact congrArg List.length (add_names 13 [] (putW p l))
  have e2 : (gnodes l).length = (nmM 13 [] l).length := by
    rw [gnodes_yes hg, gnOf_len]
    unfold graphB graphM
    rw [if_neg hne, ← List.length_map (f := Prod.fst)]
    exact congrArg List.length (add_names 13 [] l)
  obtain ⟨D, hD, w, hw, hwD⟩ := deepest l hne
  have hDp : D + (runes p).length ≤ 12 := by
    have := hs w hw
    rw [lenT_fine (hgr.fine w hw), hlp, hwD] at this
    omega
  have hput := nm_put hgr hD ⟨w, hw, hwD⟩ (runes p) (13 - (runes p).length) [] hpg (by simp)
  rw [hpe, show 13 - (runes p).length + (runes p).length = 13 from by omega] at hput
  rw [e1, e2, hput, nm_fuel (13 - (runes p).length) 13 D [] l hgr hD (by omega) (by omega), hlp]
  simp only [List.length_nil]; omega
theorem sorted_good {words : List Str} (h : (sortedM words).length ≤ 60) : goodL (sortedM words) = 0 :=
  sorted_goodL (sortedM_spec words).1 (fun w hw => by
    obtain ⟨k, hk⟩ := List.mem_iff_getElem?.1 hw
    exact sortedM_word hk) h
theorem put_take {l : List Str} {p : Str} {i : Nat} {x : Str} {a : List Str} (ha : a = putW p (l.take i)) (hx : l[i]? = some x) : a ++ [p ++ x] = putW p (l.take (i + 1)) := by
  rw [ha]; unfold putW
  rw [List.take_add_one, hx]; simp
theorem put_bound {l : List Str} {p : Str} {i : Nat} {x : Str} (h : ∀ w ∈ l.take i, lenT w + lenT p ≤ 12) (hx : l[i]? = some x) (hc : ¬ lenT x + lenT p > 12) : ∀ w ∈ l.take (i + 1), lenT w + lenT p ≤ 12 := by
  intro w hw
  rw [List.take_add_one, hx] at hw
  simp only [Option.toList_some, List.mem_append, List.mem_singleton] at hw
  rcases hw with hw | rfl
  · exact h w hw
  · omega
end Go.Ml
