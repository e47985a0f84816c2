/-
  Near words of a graph, place by place on a stack.
-/
import Derived.Test.YtjhbobjjkbppkaaPlAuto
import Derived.Test.YtjhbobjjkbppkaaLwGraph
set_option linter.unusedVariables false
set_option linter.unusedSimpArgs false
namespace Go.Ml
open Go.Ik

/-- is a text at just a distance? -/
def nearW (q : List Int) (d : Int) (w : Str) : Bool := decide (lev q (runesI w) = d)
/-- a place on the way: the node's number, its rests and edges, the text that led to it -/
structure PZ where
  n : Nat
  x : List Str × List Ed
  word : Str
def PZ.p (z : PZ) : List Int := runesI z.word
/-- words below a place that are near -/
def zNear (q : List Int) (d : Int) (z : PZ) : List Str := (z.x.1.map (z.word ++ ·)).filter (nearW q d)
def todoZ (q : List Int) (d : Int) (S : List PZ) : List Str := S.reverse.flatMap (zNear q d)
structure ZOk (s : GS) (z : PZ) : Prop where
  at_ : s[z.n]? = some z.x
  fine : Fine z.word
theorem runesI_app {c : Nat} (hc : goodN c) (w : Str) (hw : Fine w) : runesI (w ++ encL c) = runesI w ++ [(c : Int)] := by
  obtain ⟨h1, h2⟩ := encT_runes w hw
  have key : ∀ (rs : List Nat), (∀ d ∈ rs, goodN d) → runes (encT rs ++ encL c) = rs ++ [c] := by
    intro rs h
    have : encT rs ++ encL c = encT (rs ++ [c]) := by
      clear h
      induction rs with
      | nil => simp [encT]
      | cons a rs ih => rw [encT_cons, List.append_assoc, ih]; rfl
    rw [this]
    exact runes_encT _ fun d hd => by
      rcases List.mem_append.1 hd with hd | hd
      · exact h d hd
      · simp only [List.mem_singleton] at hd; subst hd; exact hc
  have := key (runes w) h2
  rw [h1] at this
  unfold runesI
  rw [this, List.map_append]; rfl
theorem fine_app' {c : Nat} (hc : goodN c) {w : Str} (hw : Fine w) : Fine (w ++ encL c) := by
  unfold Fine
  have h := runesI_app hc w hw
  intro hm
  have : (65533 : Int) ∈ runesI (w ++ encL c) := List.mem_map.2 ⟨65533, hm, rfl⟩
  rw [h] at this
  rcases List.mem_append.1 this with h1 | h1
  · obtain ⟨a, ha, he⟩ := List.mem_map.1 h1
    have : a = 65533 := by omega
    subst this; exact hw ha
  · simp only [List.mem_singleton] at h1
    have := hc.2.2
    omega
theorem runesI_more : ∀ (t : Str), Fine t → ∀ (w : Str), Fine w → ∃ u, runesI (w ++ t) = runesI w ++ u ∧ Fine (w ++ t) := by
  intro t ht
  refine fine_ind (p := fun t => ∀ (w : Str), Fine w → ∃ u, runesI (w ++ t) = runesI w ++ u ∧ Fine (w ++ t)) ?_ ?_ t ht
  · intro w hw; exact ⟨[], by simp, by simpa using hw⟩
  · intro c t hc _ ih w hw
    obtain ⟨u, h1, h2⟩ := ih (w ++ encL c) (fine_app' hc hw)
    rw [runesI_app hc w hw] at h1
    rw [List.append_assoc] at h1 h2
    exact ⟨(c : Int) :: u, by rw [h1]; simp, h2⟩
/-- below a dead place nothing is near -/
theorem dead_near {q : List Int} {d : Int} (hd : 0 ≤ d) {w : Str} (hw : Fine w) (h : stateP q d (runesI w) = []) {l : List Str} (hl : ∀ t ∈ l, Fine t) : (l.map (w ++ ·)).filter (nearW q d) = [] := by
  rw [List.filter_eq_nil_iff]
  intro x hx
  obtain ⟨t, ht, rfl⟩ := List.mem_map.1 hx
  obtain ⟨u, h1, _⟩ := runesI_more t (hl t ht) w hw
  have := dead_far (dead_row hd h) u
  unfold nearW
  rw [h1]
  simp only [decide_eq_true_eq]; omega
/-! what is below a place: its word, if it is final and near; then edge by edge -/
def eNear (q : List Int) (d : Int) (z : PZ) (g : Nat × List Str) : List Str := (g.2.map ((z.word ++ encL g.1) ++ ·)).filter (nearW q d)
theorem zNear_eq {q : List Int} {d : Int} {z : PZ} (h : GoodR z.x.1) : zNear q d z = (if finB z.x.1 = true ∧ nearW q d z.word = true then [z.word] else []) ++ (groups (dropE z.x.1)).flatMap (eNear q d z) := by
  unfold zNear
  rw [map_rests h, List.filter_append]
  congr 1
  · by_cases hf : finB z.x.1 = true
    · rw [if_pos hf]
      by_cases hn : nearW q d z.word = true
      · rw [if_pos ⟨hf, hn⟩, List.filter_cons_of_pos hn]; rfl
      · rw [if_neg (fun h => hn h.2), List.filter_cons_of_neg hn]; rfl
    · rw [if_neg hf, if_neg (fun h => hf h.1)]; rfl
  · unfold restL
    rw [List.drop_zero, List.filter_flatMap]
    congr 1
    funext g
    unfold eNear
    congr 1
    exact List.map_congr_left fun t _ => by simp
/-- edges from one on -/
def eFrom (q : List Int) (d : Int) (z : PZ) (k : Nat) : List Str := ((groups (dropE z.x.1)).drop k).flatMap (eNear q d z)
theorem eFrom_zero {q : List Int} {d : Int} {z : PZ} : eFrom q d z 0 = (groups (dropE z.x.1)).flatMap (eNear q d z) := by unfold eFrom; rw [List.drop_zero]
theorem eFrom_end {q : List Int} {d : Int} {z : PZ} {k : Nat} (h : (groups (dropE z.x.1)).length ≤ k) : eFrom q d z k = [] := by unfold eFrom; rw [List.drop_of_length_le h]; rfl
theorem eFrom_step {q : List Int} {d : Int} {z : PZ} {k : Nat} {g : Nat × List Str} (h : (groups (dropE z.x.1))[k]? = some g) : eFrom q d z k = eNear q d z g ++ eFrom q d z (k + 1) := by
  unfold eFrom; rw [drop_el' h, List.flatMap_cons]
theorem todo_pop {q : List Int} {d : Int} {S : List PZ} {z : PZ} : todoZ q d (S ++ [z]) = zNear q d z ++ todoZ q d S := by
  unfold todoZ; rw [List.reverse_append]; simp
theorem todo_push {q : List Int} {d : Int} {S : List PZ} {z y : PZ} {g : Nat × List Str} (hy : y.x.1 = g.2) (hw : y.word = z.word ++ encL g.1) : todoZ q d (S ++ [y]) = eNear q d z g ++ todoZ q d S := by
  rw [todo_pop]
  congr 1
  unfold zNear eNear
  rw [hy, hw]
/-! how much is still to go -/
def wgt (l : List Str) : Nat := 1 + (l.map fun t => (runes t).length).sum
def wgtS (S : List PZ) : Nat := (S.map fun z => wgt z.x.1).sum
theorem wgtS_snoc (S : List PZ) (z : PZ) : wgtS (S ++ [z]) = wgtS S + wgt z.x.1 := by simp [wgtS]
theorem rsum_app (a b : List Str) : ((a ++ b).map fun t => (runes t).length).sum = (a.map fun t => (runes t).length).sum + (b.map fun t => (runes t).length).sum := by simp
theorem rsum_enc {c : Nat} (hc : goodN c) (l : List Str) : ((l.map (encL c ++ ·)).map fun t => (runes t).length).sum = l.length + (l.map fun t => (runes t).length).sum := by
  induction l with
  | nil => rfl
  | cons a l ih =>
    simp only [List.map_cons, List.sum_cons, List.length_cons]
    rw [ih, runes_app hc]
    simp only [List.length_cons]; omega
def wgtE (l : List (Nat × List Str)) : Nat := (l.map fun g => wgt g.2).sum
theorem wgt_groups : ∀ (n : Nat) (l : List Str), l.length ≤ n → GoodR l → (∀ s ∈ l, s ≠ []) → wgtE (groups l) ≤ (l.map fun t => (runes t).length).sum
  | _, [], _, _, _ => by simp [groups_nil, wgtE]
  | 0, _ :: _, h, _, _ => by simp at h
  | n + 1, s :: r, h, hg, hn => by
    have hs := hn s (by simp)
    have hf := hg.fine s (by simp)
    obtain ⟨hc0, hsp, _⟩ := hf.split hs
    have hc : goodN (hdN s) := hc0
    have hp : pfx s = encL (hdN s) := (enc_dec hs ((fine_cons hs).1 hf).1).2.symm
    have happ := strip_app (pfx s) (s :: r)
    have hsum := congrArg (fun l : List Str => (l.map fun t => (runes t).length).sum) happ
    have hsum' : (((stripP (pfx s) (s :: r)).map (pfx s ++ ·) ++ moreP (pfx s) (s :: r)).map fun t => (runes t).length).sum = ((s :: r).map fun t => (runes t).length).sum := hsum
    replace hsum := hsum'
    rw [rsum_app, hp, rsum_enc hc] at hsum
    have hm := more_len s r
    have hlen : 1 ≤ (stripP (pfx s) (s :: r)).length := by
      unfold stripP
      rw [List.takeWhile_cons, if_pos (pfx_is s)]; simp
    have ih := wgt_groups n (moreP (pfx s) (s :: r)) (by simp only [List.length_cons] at h; omega) (hg.more _) fun t ht => hn t ((List.dropWhile_sublist _).subset ht)
    rw [groups_cons]
    unfold wgtE at ih ⊢
    rw [hp] at ih hlen ⊢
    simp only [List.map_cons, List.sum_cons]
    unfold wgt at ih ⊢
    simp only [List.map_cons, List.sum_cons] at hsum
    omega
theorem wgt_edges {l : List Str} (h : GoodR l) : wgtE (groups (dropE l)) + 1 ≤ wgt l := by
  have hd := dropE_good h
  have := wgt_groups _ _ (Nat.le_refl _) hd.1 hd.2
  have hs : ((dropE l).map fun t => (runes t).length).sum = (l.map fun t => (runes t).length).sum := by
    cases l with
    | nil => rfl
    | cons a r => cases a with
      | nil => simp [dropE, runes_nil]
      | cons b a => rfl
  unfold wgt
  omega
def wgtFrom (l : List (Nat × List Str)) (k : Nat) : Nat := wgtE (l.drop k)
theorem wgtFrom_step {l : List (Nat × List Str)} {k : Nat} {g : Nat × List Str} (h : l[k]? = some g) : wgtFrom l k = wgt g.2 + wgtFrom l (k + 1) := by
  unfold wgtFrom wgtE; rw [drop_el' h]; simp
theorem wgtFrom_zero (l : List (Nat × List Str)) : wgtFrom l 0 = wgtE l := by unfold wgtFrom; rw [List.drop_zero]
theorem wgt_pos (l : List Str) : 1 ≤ wgt l := by unfold wgt; omega
/-! words, near, of a list -/
def distsM (words : List Str) (q : List Int) (d : Int) : List Str := words.filter (nearW q d)
theorem todo_root {q : List Int} {d : Int} {words : List Str} {es : List Ed} {n : Nat} : todoZ q d [⟨n, (words, es), []⟩] = distsM words q d := by
  unfold todoZ zNear distsM
  simp
/-- the distance as Dist tells it -/
theorem dist_near {q : List Int} {d : Int} (hd : 0 ≤ d) {w : Str} {D : Int} (hD : D = spreadF q.length d (stateP q d (runesI w)) q.length) : (D ≤ d ∧ D = d) ↔ nearW q d w = true := by
  rw [dist_state hd] at hD
  unfold nearW
  rw [decide_eq_true_eq]
  omega
end Go.Ml
