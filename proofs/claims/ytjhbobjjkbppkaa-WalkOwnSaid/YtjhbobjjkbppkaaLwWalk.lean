/-
  Plain laws of chapter 11.
-/
import Derived.Test.YtjhbobjjkbppkaaPlDist
import Derived.Test.YtjhbobjjkbppkaaPlRef4
set_option linter.unusedVariables false
set_option linter.unusedSimpArgs false
namespace Go.Ml
open Go.Ik

def greatS (words : List Str) (s : Str) : Bool := greatT words || decide (s.length > 100)
theorem greatS_no {words : List Str} {s : Str} (h : greatS words s = false) : greatT words = false ∧ s.length ≤ 100 := by
  unfold greatS at h
  simp only [Bool.or_eq_false_iff, decide_eq_false_iff_not] at h
  exact ⟨h.1, by omega⟩
theorem greatS_t {words : List Str} {s : Str} (h : greatT words = true) : true = greatS words s := by unfold greatS; rw [h]; rfl
theorem greatS_f {words : List Str} {s : Str} {b : Bool} (h : greatT words = false) (hb : b = decide ((s.length : Int) > 100)) : b = greatS words s := by
  unfold greatS; rw [h, hb, Bool.false_or]
  by_cases hc : s.length > 100
  · rw [decide_eq_true hc, decide_eq_true (by omega)]
  · rw [decide_eq_false hc, decide_eq_false (by omega)]
structure Qry where
  text : Str
  k : Int
  n : Int
deriving DecidableEq
def encQry (q : Qry) : List Value := [strV q.text, .int .i64 q.k, .int .i64 q.n]
theorem encQry_len (x : Qry) : (encQry x).length = 3 := rfl
theorem encQry_one (x : Qry) : (encQry x).all (·.oneCell') = true := rfl
structure Qry.Ok (x : Qry) : Prop where
  text : x.text.length ≤ maxLen
  k : I64 x.k
  n : I64 x.n
def mayQ (q : Qry) : Bool := asked q.text && decide (0 ≤ q.k ∧ q.k ≤ 4) && decide (1 ≤ q.n ∧ q.n ≤ 10)
theorem mayQ_a {q : Qry} (h : asked q.text = false) : false = mayQ q := by unfold mayQ; rw [h]; rfl
theorem mayQ_b {q : Qry} (h : q.k < 0 ∨ q.k > 4 ∨ q.n < 1) : false = mayQ q := by
  unfold mayQ
  by_cases hk : 0 ≤ q.k ∧ q.k ≤ 4
  · rw [decide_eq_false (p := 1 ≤ q.n ∧ q.n ≤ 10) (by omega)]; simp
  · rw [decide_eq_false hk]; simp
theorem mayQ_y {q : Qry} {b : Bool} (h : asked q.text = true) (hk : 0 ≤ q.k ∧ q.k ≤ 4 ∧ 1 ≤ q.n) (hb : b = decide (q.n ≤ 10)) : b = mayQ q := by
  unfold mayQ
  rw [h, decide_eq_true (p := 0 ≤ q.k ∧ q.k ≤ 4) (by omega), hb]
  by_cases hc : q.n ≤ 10
  · rw [decide_eq_true hc, decide_eq_true (by omega)]; rfl
  · rw [decide_eq_false hc, decide_eq_false (by omega)]; rfl
theorem mayQ_iff {q : Qry} (h : mayQ q = true) : asked q.text = true ∧ (0 ≤ q.k ∧ q.k ≤ 4) ∧ 1 ≤ q.n ∧ q.n ≤ 10 := by
  unfold mayQ at h
  simp only [Bool.and_eq_true, decide_eq_true_eq] at h
  exact ⟨h.1.1, h.1.2, h.2⟩
theorem good_fineT {words : List Str} (h : goodL words = 0) : ∀ w ∈ words, fineT w = true := fun w hw => by
  have := (good_words h).2.1 w hw
  unfold word at this
  simp only [Bool.and_eq_true, decide_eq_true_eq] at this
  have h1 := this.1
  unfold lenT at h1
  unfold fineT
  split at h1
  · omega
  · exact decide_eq_true (by assumption)
theorem gnodes_pos {words : List Str} (h : goodL words = 0) : gnodes words ≠ [] := by
  rw [gnodes_yes h]
  intro e
  have := (graphB_len h).1
  have h2 := congrArg List.length e
  rw [gnOf_len] at h2
  simp only [List.length_nil] at h2; omega
/-- what is in order and behind something -/
theorem filter_tail : ∀ {l : List Itm}, l.Pairwise ltI → ∀ (a : Nat) {z : Itm}, l[a]? = some z → l.filter (itmLess z) = l.drop (a + 1)
  | [], _, a, z, h => by simp at h
  | x :: l, hl, 0, z, h => by
    rw [List.pairwise_cons] at hl
    simp only [List.getElem?_cons_zero, Option.some.injEq] at h
    subst h
    rw [List.filter_cons_of_neg (fun e => ltI_irr e), List.drop_one, List.tail_cons, List.filter_eq_self]
    exact hl.1
  | x :: l, hl, a + 1, z, h => by
    rw [List.pairwise_cons] at hl
    have h' : l[a]? = some z := by simpa using h
    have hx := hl.1 z (List.mem_of_getElem? h')
    rw [List.filter_cons_of_neg (fun e => ltI_irr (ltI_trans hx e))]
    simpa using filter_tail hl.2 a h'
theorem okI_up {first : Bool} {after z y : Itm} (h : okI first after z = true) (hz : itmLess z y = true) : okI first after y = true := by
  unfold okI at *
  cases first with
  | true => rfl
  | false => exact ltI_trans (a := after) (b := z) (c := y) (by unfold ltI; simpa using h) hz
theorem filter_behind {l : List Itm} (hl : l.Pairwise ltI) {first : Bool} {after z : Itm} {a : Nat} (hz : (l.filter (okI first after))[a]? = some z) : l.filter (okI false z) = (l.filter (okI first after)).drop (a + 1) := by
  rw [← filter_tail (hl.filter _) a hz, List.filter_filter]
  refine List.filter_congr fun y _ => ?_
  have hzm := (List.mem_filter.1 (List.mem_of_getElem? hz)).2
  show (false || itmLess z y) = (itmLess z y && okI first after y)
  by_cases hc : itmLess z y = true
  · rw [hc, okI_up hzm hc]; rfl
  · have : itmLess z y = false := by simpa using hc
    rw [this]; rfl
/-- batches of a graph that is one -/
theorem nextA_eq {words : List Str} {s : Str} {k : Int} {first : Bool} {after : Itm} {batch : Int} (hg : goodL words = 0) (ha : asked s = true) (hk : 0 ≤ k ∧ k ≤ 4) (hb : 0 ≤ batch) :
    nextA (gnodes words) words s k first after batch = (((itemsM words (runesI s) (k.toNat + 1)).filter (okI first after)).take batch.toNat, decide (((itemsM words (runesI s) (k.toNat + 1)).filter (okI first after)).length ≤ batch.toNat)) := by
  unfold nextA
  rw [if_pos (mayA_yes (gnodes_pos hg) hk ha), show max batch 0 = ((batch.toNat : Nat) : Int) from by omega, nextS_eq]
  simp only
  congr 1
  generalize ((itemsM words (runesI s) (k.toNat + 1)).filter (okI first after)).length = n
  by_cases h : batch.toNat < n
  · rw [decide_eq_true h, decide_eq_false (by omega)]; rfl
  · rw [decide_eq_false h, decide_eq_true (by omega)]; rfl
structure SplitL (words : List Str) (s : Str) (k : Int) (first : Bool) (after : Itm) (a b : Int) (x : List Itm) (p : Bool) (all : List Itm) (e : Bool) : Prop where
  one : p = true → e = true ∧ x = all
  len : p = false → (x.length : Int) = a
  two : p = false → ∀ z, x[(a - 1).toNat]? = some z → x ++ (nextA (gnodes words) words s k false z b).1 = all ∧ (nextA (gnodes words) words s k false z b).2 = e
theorem split_law {words : List Str} {s : Str} {k : Int} {first : Bool} {after : Itm} {a b : Int} (hg : goodL words = 0) (ha : asked s = true) (hk : 0 ≤ k ∧ k ≤ 4) (h1 : 1 ≤ a) (h2 : 1 ≤ b) :
    SplitL words s k first after a b (nextA (gnodes words) words s k first after a).1 (nextA (gnodes words) words s k first after a).2 (nextA (gnodes words) words s k first after (a + b)).1 (nextA (gnodes words) words s k first after (a + b)).2 := by
  have hs := itemsM_sorted (q := runesI s) (good_sorted hg) (k.toNat + 1)
  have hI : ∀ z b, 0 ≤ b → nextA (gnodes words) words s k false z b = ((((itemsM words (runesI s) (k.toNat + 1)).filter (okI false z)).take b.toNat), decide (((itemsM words (runesI s) (k.toNat + 1)).filter (okI false z)).length ≤ b.toNat)) := fun z b hb => nextA_eq hg ha hk hb
  rw [nextA_eq hg ha hk (by omega), nextA_eq hg ha hk (by omega)]
  generalize itemsM words (runesI s) (k.toNat + 1) = I at hs hI ⊢
  have hab : (a + b).toNat = a.toNat + b.toNat := by omega
  refine ⟨fun hp => ?_, fun hp => ?_, fun hp z hz => ?_⟩
  · have := of_decide_eq_true hp
    simp only
    exact ⟨decide_eq_true (by omega), by rw [List.take_of_length_le this, List.take_of_length_le (by omega)]⟩
  · have := of_decide_eq_false hp
    simp only [List.length_take]; omega
  · have hl := of_decide_eq_false hp
    rw [hI z b (by omega)]
    have hz' : (I.filter (okI first after))[(a - 1).toNat]? = some z := by
      rw [List.getElem?_take] at hz
      split at hz
      · exact hz
      · cases hz
    rw [filter_behind hs hz', show (a - 1).toNat + 1 = a.toNat from by omega]
    simp only
    constructor
    · rw [hab, List.take_add]
    · rw [List.length_drop]
      by_cases h : (I.filter (okI first after)).length - a.toNat ≤ b.toNat
      · rw [decide_eq_true h, decide_eq_true (by omega)]
      · rw [decide_eq_false h, decide_eq_false (by omega)]
/-! far from all words -/
theorem rowF_ge (q : List Int) : ∀ (p : List Int) (i : Nat), (i : Int) - p.length ≤ rowF q p i := by
  refine snocInd (fun i => by rw [rowF_nil]; simp) fun p r ih => ?_
  rw [rowF_snoc]
  intro i
  induction i with
  | zero => simp only [stepF, List.length_append, List.length_cons, List.length_nil]; have := ih 0; omega
  | succ i hi =>
    have h1 := ih (i + 1); have h2 := ih i
    simp only [List.length_append, List.length_cons, List.length_nil] at hi ⊢
    unfold stepF
    split <;> omega
theorem lev_far (q p : List Int) : (q.length : Int) - p.length ≤ lev q p ∧ (p.length : Int) - q.length ≤ lev q p := by
  refine ⟨rowF_ge q p q.length, ?_⟩
  have h2 := lip_any (lip_row q p) 0 q.length
  rw [rowF_zero] at h2
  unfold lev; omega
theorem lenT_I {w : Str} (h : fineT w = true) : lenT w = ((runesI w).length : Int) := by
  unfold fineT at h
  unfold lenT runesI
  rw [if_neg (of_decide_eq_true h), List.length_map]
theorem far_law {words : List Str} {s : Str} {k : Int} (hg : goodL words = 0) (ha : asked s = true) (hk : 0 ≤ k ∧ k ≤ 4) (hf : ∀ w ∈ words, ¬ (lenT w - lenT s ≤ k ∧ -(lenT w - lenT s) ≤ k)) :
    distsA (gnodes words) words s k = [] ∧ ∀ first after batch, nextA (gnodes words) words s k first after batch = ([], true) := by
  have hn : ∀ d : Int, d ≤ k → distsM words (runesI s) d = [] := by
    intro d hd
    unfold distsM
    rw [List.filter_eq_nil_iff]
    intro w hw
    unfold nearW
    rw [decide_eq_true_eq]
    have h1 := hf w hw
    rw [lenT_I (good_fineT hg w hw), lenT_I (asked_fine ha)] at h1
    have := lev_far (runesI s) (runesI w)
    omega
  have hm := mayA_yes (gnodes_pos hg) hk ha
  constructor
  · unfold distsA; rw [if_pos hm]; exact hn k (Int.le_refl _)
  · intro first after batch
    have hS : ∀ n : Nat, (n : Int) ≤ k + 1 → nextS words (runesI s) first after (max batch 0) n = ([], false) := by
      intro n
      induction n with
      | zero => intro _; rfl
      | succ n ih =>
        intro h
        unfold nextS
        simp only
        rw [ih (by omega), if_neg (by simp)]
        unfold nextD
        rw [hn n (by omega)]; rfl
    unfold nextA
    rw [if_pos hm, hS _ (by omega)]; rfl
end Go.Ml
theorem Go.Ml.far_step {words : List Go.Ik.Str} {i : Nat} {w : Go.Ik.Str} {p : Go.Ik.Str → Prop} (h : ∀ x ∈ words.take i, p x) (hx : words[i]? = some w) (hw : p w) : ∀ x ∈ words.take (i + 1), p x := fun x hxm => by
  rw [List.take_add_one, hx] at hxm
  rcases List.mem_append.1 hxm with h1 | h1
  · exact h x h1
  · simp only [Option.toList_some, List.mem_singleton] at h1
    subst h1; exact hw
namespace Go.Ml
open Go.Ik
theorem good_len48 {words : List Str} (h : goodL words = 0) : ∀ w ∈ words, w.length ≤ 1000 := fun w hw => by
  have := word_short ((good_words h).2.1 w hw); omega
theorem lenT_rng (s : Str) : -1 ≤ lenT s ∧ lenT s ≤ s.length := by
  refine ⟨?_, lenT_le s⟩
  unfold lenT; split <;> omega
theorem nextA_mem {words : List Str} {s : Str} {k : Int} {first : Bool} {after : Itm} {batch : Int} (hg : goodL words = 0) (ha : asked s = true) (hk : 0 ≤ k ∧ k ≤ 4) (hb : 0 ≤ batch) {x : Itm} (hx : x ∈ (nextA (gnodes words) words s k first after batch).1) : x.word ∈ words ∧ 0 ≤ x.dist ∧ x.dist ≤ k := by
  rw [nextA_eq hg ha hk hb] at hx
  have h1 := mem_itemsM.1 (List.mem_filter.1 (List.mem_of_mem_take hx)).1
  have := (lev_le (runesI s) (runesI x.word)).1
  exact ⟨h1.1, by omega, by omega⟩
end Go.Ml
