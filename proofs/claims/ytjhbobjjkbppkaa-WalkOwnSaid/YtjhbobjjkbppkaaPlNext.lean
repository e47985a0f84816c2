/-
  Near words in batches, plainly.
-/
import Derived.Test.YtjhbobjjkbppkaaIkW
set_option linter.unusedVariables false
set_option linter.unusedSimpArgs false
namespace Go.Ml
open Go.Ik

structure Itm where
  dist : Int
  word : Str
deriving DecidableEq
def encItm (x : Itm) : List Value := [.int .i64 x.dist, strV x.word]
theorem encItm_len (x : Itm) : (encItm x).length = 2 := rfl
theorem encItm_one (x : Itm) : (encItm x).all (·.oneCell') = true := rfl
structure Itm.Ok (x : Itm) : Prop where
  dist : I64 x.dist
  word : x.word.length ≤ maxLen
def itmCmp (a b : Itm) : Int := orI [cmpI a.dist b.dist, Lib.compareBytes a.word b.word]
def itmLess (a b : Itm) : Bool := decide (itmCmp a b < 0)
/-! may it be asked? -/
def mayA (g : List GN) (s : Str) (k : Int) : Bool := (!g.isEmpty) && decide (0 ≤ k ∧ k ≤ 4) && asked s
def qM (g : List GN) (s : Str) (k : Int) : List Int := if mayA g s k = true then runesI s else []
theorem mayA_g {s : Str} {k : Int} : mayA [] s k = false := rfl
theorem mayA_k {g : List GN} {s : Str} {k : Int} (h : k < 0 ∨ k > 4) : mayA g s k = false := by unfold mayA; rw [decide_eq_false (by omega)]; simp
theorem mayA_s {g : List GN} {s : Str} {k : Int} (h : asked s = false) : mayA g s k = false := by unfold mayA; rw [h]; simp
theorem mayA_yes {g : List GN} {s : Str} {k : Int} (hg : g ≠ []) (hk : 0 ≤ k ∧ k ≤ 4) (h : asked s = true) : mayA g s k = true := by
  unfold mayA; rw [h, decide_eq_true hk]; cases g <;> simp at *
theorem mayA_iff {g : List GN} {s : Str} {k : Int} : mayA g s k = true ↔ g ≠ [] ∧ (0 ≤ k ∧ k ≤ 4) ∧ asked s = true := by
  constructor
  · intro h
    unfold mayA at h
    simp only [Bool.and_eq_true, decide_eq_true_eq, Bool.not_eq_true', List.isEmpty_eq_false_iff] at h
    exact ⟨h.1.1, h.1.2, h.2⟩
  · rintro ⟨h1, h2, h3⟩; exact mayA_yes h1 h2 h3
theorem asked_fine {s : Str} (h : asked s = true) : fineT s = true := by
  unfold asked at h
  simp only [Bool.and_eq_true, decide_eq_true_eq] at h
  have := h.1
  unfold lenT at this
  unfold fineT
  split at this
  · omega
  · exact decide_eq_true (by assumption)
theorem qM_no {g : List GN} {s : Str} {k : Int} (h : mayA g s k = false) : ([] : List Int) = qM g s k := by unfold qM; rw [h]; rfl
theorem qM_yes {g : List GN} {s : Str} {k : Int} (h : mayA g s k = true) : runesM s = qM g s k := by
  unfold qM; rw [if_pos h, runesM, if_pos (asked_fine (mayA_iff.1 h).2.2)]
theorem qM_eq {g : List GN} {s : Str} {k : Int} (h : mayA g s k = true) : qM g s k = runesI s := by unfold qM; rw [if_pos h]
theorem asked_len {s : Str} (h : asked s = true) : (runesI s).length ≤ 16 := by
  have hf := asked_fine h
  unfold asked at h
  simp only [Bool.and_eq_true, decide_eq_true_eq] at h
  unfold lenT at h
  unfold fineT at hf
  rw [if_neg (of_decide_eq_true hf)] at h
  unfold runesI
  rw [List.length_map]; omega
theorem qM_len (g : List GN) (s : Str) (k : Int) : (qM g s k).length ≤ 16 := by
  unfold qM
  split
  · exact asked_len (mayA_iff.1 (by assumption)).2.2
  · simp
/-- words at just a distance -/
def distsA (g : List GN) (words : List Str) (s : Str) (d : Int) : List Str := if mayA g s d = true then distsM words (runesI s) d else []
theorem distsM_len (words : List Str) (q : List Int) (d : Int) : (distsM words q d).length ≤ words.length := List.length_filter_le _ _
theorem distsA_len (g : List GN) (words : List Str) (s : Str) (d : Int) : (distsA g words s d).length ≤ words.length := by
  unfold distsA
  split
  · exact distsM_len _ _ _
  · simp
theorem wgt_short {words : List Str} (hd : Deep 12 words) (hl : words.length ≤ 1000) : wgt words ≤ 500000 := by
  have : (words.map fun t => (runes t).length).sum ≤ words.length * 12 := by
    clear hl
    induction words with
    | nil => simp
    | cons a l ih =>
      have h1 := hd a (by simp)
      have h2 := ih fun t ht => hd t (by simp [ht])
      simp only [List.map_cons, List.sum_cons, List.length_cons]
      omega
  unfold wgt; omega
theorem distsA_end {g : List GN} {words : List Str} {s : Str} {d : Int} (h : mayA g s d = true) : (eachF (fun (l : List Str) x => (l ++ [x], true)) [] (distsM words (qM g s d) d)).1 = distsA g words s d := by
  unfold distsA
  rw [if_pos h, qM_eq h, eachF_all]; rfl
/-! batches -/
/-- one word more: what is told, and whether there is more -/
def nextF (first : Bool) (after : Itm) (batch d : Int) (s : List Itm × Bool) (w : Str) : (List Itm × Bool) × Bool :=
  if first = false ∧ itmLess after ⟨d, w⟩ = false then (s, !s.2)
  else if (s.1.length : Int) = batch then ((s.1, true), false)
  else ((s.1 ++ [⟨d, w⟩], s.2), !s.2)
/-- distance by distance -/
def nextD (words : List Str) (q : List Int) (first : Bool) (after : Itm) (batch : Int) (d : Nat) : List Itm × Bool → List Itm × Bool := fun s => (eachF (nextF first after batch d) s (distsM words q d)).1
def nextS (words : List Str) (q : List Int) (first : Bool) (after : Itm) (batch : Int) : Nat → List Itm × Bool
  | 0 => ([], false)
  | d + 1 => let s := nextS words q first after batch d; if s.2 = true then s else nextD words q first after batch d s
def nextA (g : List GN) (words : List Str) (s : Str) (k : Int) (first : Bool) (after : Itm) (batch : Int) : List Itm × Bool :=
  if mayA g s k = true then ((nextS words (runesI s) first after (max batch 0) (k.toNat + 1)).1, !(nextS words (runesI s) first after (max batch 0) (k.toNat + 1)).2) else ([], true)
end Go.Ml
namespace Go.Ik
open Go Go.Ml
/-- a box of a slice of one's own -/
def tbR {R : Nat → Prop} {α : Type} (te e : TypeId) (sz : Nat) (enc : α → List Value) (bl : Nat) (l : List α) : Res R := exR fun v : Value => boxR [bkR bl [v] te, accR enc e sz v l]
theorem far_gr {F F0 : Nat → Prop} {w0 w : World} {R : Nat → Prop} {hi : Nat} (h : ∀ b, F b → ((F0 b ∨ w0.heap.size ≤ b) ∧ ¬ R b) ∧ b < w.heap.size) (hF : ∀ b, F0 b → False) (hhi : hi ≤ w0.heap.size) {lo : Nat} : ∀ b, lo ≤ b → b < hi → ¬ F b := fun b _ h2 hb => by
  rcases (h b hb).1.1 with h3 | h3
  · exact hF b h3
  · omega
end Go.Ik
namespace Go.Ml
open Go.Ik
theorem distsA_no {g : List GN} {words : List Str} {s : Str} {d : Int} (h : mayA g s d = false) : ([] : List Str) = distsA g words s d := by unfold distsA; rw [h]; rfl
theorem nextA_no {g : List GN} {words : List Str} {s : Str} {k batch : Int} {first : Bool} {after : Itm} (h : mayA g s k = false) : nextA g words s k first after batch = ([], true) := by unfold nextA; rw [h]; rfl
end Go.Ml
namespace Go.Ml
open Go.Ik
theorem nextF_skip {after : Itm} {batch d : Int} {s : List Itm × Bool} {w : Str} (h : itmLess after ⟨d, w⟩ = false) : nextF false after batch d s w = (s, !s.2) := by unfold nextF; rw [if_pos ⟨rfl, h⟩]
theorem nextF_full {first : Bool} {after : Itm} {batch d : Int} {s : List Itm × Bool} {w : Str} (h : first = true ∨ itmLess after ⟨d, w⟩ = true) (hb : (s.1.length : Int) = batch) : nextF first after batch d s w = ((s.1, true), false) := by
  unfold nextF
  rw [if_neg (by rintro ⟨h1, h2⟩; rcases h with h | h <;> simp_all), if_pos hb]
theorem nextF_add {first : Bool} {after : Itm} {batch d : Int} {s : List Itm × Bool} {w : Str} (h : first = true ∨ itmLess after ⟨d, w⟩ = true) (hb : ¬ (s.1.length : Int) = batch) : nextF first after batch d s w = ((s.1 ++ [⟨d, w⟩], s.2), !s.2) := by
  unfold nextF
  rw [if_neg (by rintro ⟨h1, h2⟩; rcases h with h | h <;> simp_all), if_neg hb]
theorem nextF_len (first : Bool) (after : Itm) (batch d : Int) (s : List Itm × Bool) (w : Str) : (nextF first after batch d s w).1.1.length ≤ s.1.length + 1 := by
  unfold nextF
  split
  · simp
  · split
    · simp
    · simp
theorem okAll_next (first : Bool) (after : Itm) (batch d : Int) (m : Nat) : ∀ (L : List Str) (s : List Itm × Bool), s.1.length + L.length ≤ m → OkAll (fun (s : List Itm × Bool) (_ : Str) => s.1.length ≤ m) (nextF first after batch d) s L
  | [], s, _ => trivial
  | x :: L, s, h => ⟨by simp only [List.length_cons] at h; omega, fun _ => okAll_next first after batch d m L _ (by
      have := nextF_len first after batch d s x
      simp only [List.length_cons] at h; omega)⟩
theorem eachF_nlen (first : Bool) (after : Itm) (batch d : Int) : ∀ (L : List Str) (s : List Itm × Bool), (eachF (nextF first after batch d) s L).1.1.length ≤ s.1.length + L.length
  | [], s => by simp [eachF]
  | x :: L, s => by
    have h1 := nextF_len first after batch d s x
    have h2 := eachF_nlen first after batch d L (nextF first after batch d s x).1
    unfold eachF
    split
    · simp only [List.length_cons]; omega
    · simp only [List.length_cons]; omega
theorem nextS_len (words : List Str) (q : List Int) (first : Bool) (after : Itm) (batch : Int) : ∀ d, (nextS words q first after batch d).1.length ≤ d * words.length
  | 0 => by simp [nextS]
  | d + 1 => by
    have ih := nextS_len words q first after batch d
    unfold nextS
    simp only
    split
    · rw [Nat.succ_mul]; omega
    · have h1 := eachF_nlen first after batch d (distsM words q d) (nextS words q first after batch d)
      have h2 := distsM_len words q d
      unfold nextD
      rw [Nat.succ_mul]; omega
theorem nextS_go {words : List Str} {q : List Int} {first : Bool} {after : Itm} {batch : Int} {d : Nat} (h : false = (nextS words q first after batch d).2) : (eachF (nextF first after batch d) (nextS words q first after batch d) (distsM words q d)).1 = nextS words q first after batch (d + 1) := by
  conv => rhs; unfold nextS
  simp only
  rw [← h]; rfl
theorem nextS_stop {words : List Str} {q : List Int} {first : Bool} {after : Itm} {batch : Int} {n : Nat} (h : (nextS words q first after batch n).2 = true) : ∀ m, nextS words q first after batch (n + m) = nextS words q first after batch n
  | 0 => rfl
  | m + 1 => by
    have ih := nextS_stop h m
    rw [← Nat.add_assoc]
    conv => lhs; unfold nextS
    simp only
    rw [ih, if_pos h]
theorem nextA_end {g : List GN} {words : List Str} {s : Str} {k batch : Int} {first : Bool} {after : Itm} (hm : mayA g s k = true) {n : Nat} (h : (nextS words (qM g s k) first after (max batch 0) n).2 = true ∧ (n : Int) ≤ k + 1 ∨ (n : Int) = k + 1) :
    nextA g words s k first after batch = ((nextS words (qM g s k) first after (max batch 0) n).1, !(nextS words (qM g s k) first after (max batch 0) n).2) := by
  have hk := (mayA_iff.1 hm).2.1
  unfold nextA
  rw [if_pos hm, ← qM_eq hm]
  rcases h with ⟨h, hn⟩ | h
  · have := nextS_stop h (k.toNat + 1 - n)
    rw [show n + (k.toNat + 1 - n) = k.toNat + 1 from by omega] at this
    rw [this]
  · rw [show n = k.toNat + 1 from by omega]
theorem nextA_end2 {g : List GN} {words : List Str} {s : Str} {k batch : Int} {first : Bool} {after : Itm} (hm : mayA g s k = true) {n : Nat} (h : (nextS words (qM g s k) first after (max batch 0) n).2 = true ∧ (n : Int) ≤ k + 1 ∨ (n : Int) = k + 1) {b : Bool} (hb : (nextS words (qM g s k) first after (max batch 0) n).2 = b) :
    (!b) = (nextA g words s k first after batch).2 := by rw [nextA_end hm h, hb]
theorem nextA_len {g : List GN} {words : List Str} {s : Str} {k batch : Int} {first : Bool} {after : Itm} : (nextA g words s k first after batch).1.length ≤ 5 * words.length := by
  unfold nextA
  split
  · have hk := (mayA_iff.1 (by assumption)).2.1
    have := nextS_len words (runesI s) first after (max batch 0) (k.toNat + 1)
    have h2 : (k.toNat + 1) * words.length ≤ 5 * words.length := Nat.mul_le_mul_right _ (by omega)
    simp only; omega
  · simp
end Go.Ml
namespace Go.Ik
open Go Go.Ml
/-- what is told so far, and whether there is more, in two boxes -/
def nb0R {R : Nat → Prop} (te e tb : TypeId) (bl bm : Nat) (s : List Itm × Bool) : Res R := exR fun v : Value => boxR [bkR bl [v] te, accR encItm e 2 v s.1, bkR bm [.bool s.2] tb]
end Go.Ik
theorem Go.Ml.nextA_lenE (g : List Go.Ik.GN) (words : List Go.Ik.Str) (s : Go.Ik.Str) (k : Int) (first : Bool) (after : Go.Ml.Itm) (batch : Int) : (Go.Ml.nextA g words s k first after batch).1.length ≤ 5 * words.length := Go.Ml.nextA_len
