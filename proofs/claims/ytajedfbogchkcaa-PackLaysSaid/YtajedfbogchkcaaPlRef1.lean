/-
  Chapter 1 as the document answers: bytes read one by one give the runes that Go reads; no program in sight.
-/
import Derived.Test.YtajedfbogchkcaaPl1
import Derived.Test.YtajedfbogchkcaaIk7
set_option linter.unusedVariables false
set_option linter.unusedSimpArgs false
namespace Go.Ml
open Go.Ik

/-! chapter 1's own answer: bytes are read one by one -/
def contAt (s : Str) (k : Nat) : Bool := decide (k < s.length ∧ 128 ≤ byteAt s k ∧ byteAt s k ≤ 191)
def moreV (s : Str) (k : Nat) : Int := if contAt s k = true then (byteAt s k : Int) - 128 else 0
def oneM (s : Str) (i : Nat) : Int × Int :=
  let c : Int := (byteAt s i : Int)
  if c < 128 then (c, 1)
  else if c ≥ 194 ∧ c ≤ 223 ∧ contAt s (i + 1) = true then ((c - 192) * 64 + moreV s (i + 1), 2)
  else if c ≥ 224 ∧ c ≤ 239 ∧ contAt s (i + 1) = true ∧ contAt s (i + 2) = true then ((c - 224) * 4096 + moreV s (i + 1) * 64 + moreV s (i + 2), 3)
  else if c ≥ 240 ∧ c ≤ 244 ∧ contAt s (i + 1) = true ∧ contAt s (i + 2) = true ∧ contAt s (i + 3) = true then ((c - 240) * 262144 + moreV s (i + 1) * 4096 + moreV s (i + 2) * 64 + moreV s (i + 3), 4)
  else (0, 0)
def goodR (r : Int) : Bool := decide (r ≥ 0) && decide (r ≤ 1114111) && (decide (r < 55296) || decide (r > 57343)) && !(r == 65533)
def badAt (s : Str) (i : Nat) : Bool := (oneM s i).2 == 0 || !goodR (oneM s i).1 || ((oneM s i).2 == 3 && decide ((oneM s i).1 < 2048)) || ((oneM s i).2 == 4 && decide ((oneM s i).1 < 65536))
theorem get_at (s : Str) (k : Nat) : ((⟨s.toArray⟩ : ByteArray).get! k).toNat = byteAt s k := by
  unfold byteAt
  show (s.toArray[k]!).toNat = _
  simp [List.getElem!_eq_getElem?_getD]
  rfl
theorem cont_b (L i c : Nat) (hc : c < 256) : (decide (i < L) && (c / 64 == 2)) = decide (i < L ∧ 128 ≤ c ∧ c ≤ 191) := by
  rw [Bool.eq_iff_iff]
  simp only [Bool.and_eq_true, decide_eq_true_eq, beq_iff_eq]
  omega
/-- the plain arithmetic of it -/
def decA (c0 c1 c2 c3 : Nat) (k1 k2 k3 : Bool) : Nat × Nat :=
  if c0 < 128 then (c0, 1)
  else if (c0 / 32 == 6 && k1) = true then (if c0 % 32 * 64 + c1 % 64 ≥ 128 then (c0 % 32 * 64 + c1 % 64, 2) else (65533, 1))
  else if (c0 / 16 == 14 && k1 && k2) = true then (if (decide (c0 % 16 * 4096 + c1 % 64 * 64 + c2 % 64 ≥ 2048) && Utf8.valid ((c0 % 16 * 4096 + c1 % 64 * 64 + c2 % 64 : Nat) : Int)) = true then (c0 % 16 * 4096 + c1 % 64 * 64 + c2 % 64, 3) else (65533, 1))
  else if (c0 / 8 == 30 && k1 && k2 && k3) = true then (if (decide (c0 % 8 * 262144 + c1 % 64 * 4096 + c2 % 64 * 64 + c3 % 64 ≥ 65536) && Utf8.valid ((c0 % 8 * 262144 + c1 % 64 * 4096 + c2 % 64 * 64 + c3 % 64 : Nat) : Int)) = true then (c0 % 8 * 262144 + c1 % 64 * 4096 + c2 % 64 * 64 + c3 % 64, 4) else (65533, 1))
  else (65533, 1)
theorem dec_A (s : Str) (i : Nat) : dec (s.drop i) = decA (byteAt s i) (byteAt s (i + 1)) (byteAt s (i + 2)) (byteAt s (i + 3)) (contAt s (i + 1)) (contAt s (i + 2)) (contAt s (i + 3)) := by
  have hsz : (⟨s.toArray⟩ : ByteArray).size = s.length := by simp [ByteArray.size]
  rw [← decode_drop]
  unfold Utf8.decode decA contAt
  simp only [get_at, hsz, Nat.add_zero, Utf8.runeError]
  rw [cont_b _ _ _ (byteAt_lt s (i + 1)), cont_b _ _ _ (byteAt_lt s (i + 2)), cont_b _ _ _ (byteAt_lt s (i + 3))]

def oneA (c0 c1 c2 c3 : Int) (k1 k2 k3 : Bool) : Int × Int :=
  if c0 < 128 then (c0, 1)
  else if c0 ≥ 194 ∧ c0 ≤ 223 ∧ k1 = true then ((c0 - 192) * 64 + (if k1 = true then c1 - 128 else 0), 2)
  else if c0 ≥ 224 ∧ c0 ≤ 239 ∧ k1 = true ∧ k2 = true then ((c0 - 224) * 4096 + (if k1 = true then c1 - 128 else 0) * 64 + (if k2 = true then c2 - 128 else 0), 3)
  else if c0 ≥ 240 ∧ c0 ≤ 244 ∧ k1 = true ∧ k2 = true ∧ k3 = true then ((c0 - 240) * 262144 + (if k1 = true then c1 - 128 else 0) * 4096 + (if k2 = true then c2 - 128 else 0) * 64 + (if k3 = true then c3 - 128 else 0), 4)
  else (0, 0)
theorem one_A (s : Str) (i : Nat) : oneM s i = oneA (byteAt s i) (byteAt s (i + 1)) (byteAt s (i + 2)) (byteAt s (i + 3)) (contAt s (i + 1)) (contAt s (i + 2)) (contAt s (i + 3)) := rfl
def badP (p : Int × Int) : Prop := p.2 = 0 ∨ ¬ (p.1 ≥ 0 ∧ p.1 ≤ 1114111 ∧ (p.1 < 55296 ∨ p.1 > 57343) ∧ p.1 ≠ 65533) ∨ (p.2 = 3 ∧ p.1 < 2048) ∨ (p.2 = 4 ∧ p.1 < 65536)
theorem bad_P (s : Str) (i : Nat) : badAt s i = true ↔ badP (oneM s i) := by
  unfold badAt badP goodR
  generalize (oneM s i).1 = r
  generalize (oneM s i).2 = n
  simp only [Bool.or_eq_true, Bool.and_eq_true, beq_iff_eq, decide_eq_true_eq, Bool.not_eq_true', Bool.and_eq_false_iff, Bool.or_eq_false_iff, decide_eq_false_iff_not, Bool.not_eq_false']
  omega
theorem valid_P (n : Nat) : Utf8.valid (n : Int) = decide (n < 55296 ∨ (57344 ≤ n ∧ n ≤ 1114111)) := by
  unfold Utf8.valid
  rw [Bool.eq_iff_iff]
  simp only [Bool.or_eq_true, Bool.and_eq_true, decide_eq_true_eq]
  omega
theorem arith (c0 c1 c2 c3 : Nat) (h0 : c0 < 256) (k1 k2 k3 : Bool) (h1 : k1 = true → 128 ≤ c1 ∧ c1 ≤ 191) (h2 : k2 = true → 128 ≤ c2 ∧ c2 ≤ 191) (h3 : k3 = true → 128 ≤ c3 ∧ c3 ≤ 191) :
    (badP (oneA c0 c1 c2 c3 k1 k2 k3) → (decA c0 c1 c2 c3 k1 k2 k3).1 = 65533) ∧
    (¬ badP (oneA c0 c1 c2 c3 k1 k2 k3) → ((decA c0 c1 c2 c3 k1 k2 k3).1 : Int) = (oneA c0 c1 c2 c3 k1 k2 k3).1 ∧ ((decA c0 c1 c2 c3 k1 k2 k3).2 : Int) = (oneA c0 c1 c2 c3 k1 k2 k3).2 ∧ (oneA c0 c1 c2 c3 k1 k2 k3).1 ≠ 65533) := by
  unfold decA oneA badP
  simp only [valid_P]
  cases k1 <;> cases k2 <;> cases k3 <;> simp only [Bool.and_true, Bool.and_false, Bool.false_eq_true, if_false, if_true, and_false, and_true, false_and, true_and, forall_const, false_implies, beq_iff_eq, Bool.and_eq_true, decide_eq_true_eq] at * <;> (repeat' split) <;> first | (simp only at *; omega) | omega
theorem dec_at (s : Str) (i : Nat) : (badAt s i = true → (dec (s.drop i)).1 = 65533) ∧ (badAt s i = false → ((dec (s.drop i)).1 : Int) = (oneM s i).1 ∧ ((dec (s.drop i)).2 : Int) = (oneM s i).2 ∧ (oneM s i).1 ≠ 65533) := by
  have hc : ∀ k, contAt s k = true → 128 ≤ byteAt s k ∧ byteAt s k ≤ 191 := fun k h => by unfold contAt at h; exact (of_decide_eq_true h).2
  have h := arith (byteAt s i) (byteAt s (i + 1)) (byteAt s (i + 2)) (byteAt s (i + 3)) (byteAt_lt s i) _ _ _ (hc (i + 1)) (hc (i + 2)) (hc (i + 3))
  rw [← dec_A, ← one_A] at h
  refine ⟨fun hb => h.1 ((bad_P s i).1 hb), fun hb => h.2 (fun hp => ?_)⟩
  rw [(bad_P s i).2 hp] at hb; cases hb

/-! what the walks ask -/
theorem cont_iff {s : Str} {i : Nat} : contAt s i = true ↔ (i < s.length ∧ 128 ≤ byteAt s i ∧ byteAt s i ≤ 191) := by unfold contAt; exact decide_eq_true_iff
theorem cont_yes {s : Str} {i : Nat} (h : i < s.length ∧ 128 ≤ byteAt s i ∧ byteAt s i ≤ 191) : true = contAt s i := (cont_iff.2 h).symm
theorem cont_no {s : Str} {i : Nat} (h : ¬ (i < s.length ∧ 128 ≤ byteAt s i ∧ byteAt s i ≤ 191)) : false = contAt s i := by
  cases hc : contAt s i with
  | false => rfl
  | true => exact absurd (cont_iff.1 hc) h
theorem more_yes {s : Str} {i : Nat} (h : i < s.length ∧ 128 ≤ byteAt s i ∧ byteAt s i ≤ 191) : ((byteAt s i : Nat) : Int) - 128 = moreV s i := by
  unfold moreV; rw [if_pos (cont_iff.2 h)]
theorem more_no {s : Str} {i : Nat} (h : ¬ (i < s.length ∧ 128 ≤ byteAt s i ∧ byteAt s i ≤ 191)) : (0 : Int) = moreV s i := by
  unfold moreV; rw [if_neg (fun hc => h (cont_iff.1 hc))]
theorem more_range (s : Str) (i : Nat) : 0 ≤ moreV s i ∧ moreV s i ≤ 63 := by
  unfold moreV
  split
  · rename_i h; have := cont_iff.1 h; omega
  · omega
theorem one_1 {s : Str} {i : Nat} (h : ((byteAt s i : Nat) : Int) < 128) : ((byteAt s i : Nat) : Int) = (oneM s i).1 ∧ (1 : Int) = (oneM s i).2 := by
  unfold oneM; simp only; rw [if_pos h]; exact ⟨rfl, rfl⟩
theorem one_2 {s : Str} {i : Nat} (h : ¬ ((byteAt s i : Nat) : Int) < 128) (h2 : ((byteAt s i : Nat) : Int) ≥ 194 ∧ ((byteAt s i : Nat) : Int) ≤ 223 ∧ contAt s (i + 1) = true) :
    (((byteAt s i : Nat) : Int) - 192) * 64 + moreV s (i + 1) = (oneM s i).1 ∧ (2 : Int) = (oneM s i).2 := by
  unfold oneM; simp only; rw [if_neg h, if_pos h2]; exact ⟨rfl, rfl⟩
theorem one_3 {s : Str} {i : Nat} (h : ¬ ((byteAt s i : Nat) : Int) < 128) (h2 : ¬ (((byteAt s i : Nat) : Int) ≥ 194 ∧ ((byteAt s i : Nat) : Int) ≤ 223 ∧ contAt s (i + 1) = true))
    (h3 : ((byteAt s i : Nat) : Int) ≥ 224 ∧ ((byteAt s i : Nat) : Int) ≤ 239 ∧ contAt s (i + 1) = true ∧ contAt s (i + 2) = true) :
    (((byteAt s i : Nat) : Int) - 224) * 4096 + moreV s (i + 1) * 64 + moreV s (i + 2) = (oneM s i).1 ∧ (3 : Int) = (oneM s i).2 := by
  unfold oneM; simp only; rw [if_neg h, if_neg h2, if_pos h3]; exact ⟨rfl, rfl⟩
theorem one_4 {s : Str} {i : Nat} (h : ¬ ((byteAt s i : Nat) : Int) < 128) (h2 : ¬ (((byteAt s i : Nat) : Int) ≥ 194 ∧ ((byteAt s i : Nat) : Int) ≤ 223 ∧ contAt s (i + 1) = true))
    (h3 : ¬ (((byteAt s i : Nat) : Int) ≥ 224 ∧ ((byteAt s i : Nat) : Int) ≤ 239 ∧ contAt s (i + 1) = true ∧ contAt s (i + 2) = true))
    (h4 : ((byteAt s i : Nat) : Int) ≥ 240 ∧ ((byteAt s i : Nat) : Int) ≤ 244 ∧ contAt s (i + 1) = true ∧ contAt s (i + 2) = true ∧ contAt s (i + 3) = true) :
    (((byteAt s i : Nat) : Int) - 240) * 262144 + moreV s (i + 1) * 4096 + moreV s (i + 2) * 64 + moreV s (i + 3) = (oneM s i).1 ∧ (4 : Int) = (oneM s i).2 := by
  unfold oneM; simp only; rw [if_neg h, if_neg h2, if_neg h3, if_pos h4]; exact ⟨rfl, rfl⟩
theorem one_0 {s : Str} {i : Nat} (h : ¬ ((byteAt s i : Nat) : Int) < 128) (h2 : ¬ (((byteAt s i : Nat) : Int) ≥ 194 ∧ ((byteAt s i : Nat) : Int) ≤ 223 ∧ contAt s (i + 1) = true))
    (h3 : ¬ (((byteAt s i : Nat) : Int) ≥ 224 ∧ ((byteAt s i : Nat) : Int) ≤ 239 ∧ contAt s (i + 1) = true ∧ contAt s (i + 2) = true))
    (h4 : ¬ (((byteAt s i : Nat) : Int) ≥ 240 ∧ ((byteAt s i : Nat) : Int) ≤ 244 ∧ contAt s (i + 1) = true ∧ contAt s (i + 2) = true ∧ contAt s (i + 3) = true)) :
    (0 : Int) = (oneM s i).1 ∧ (0 : Int) = (oneM s i).2 := by
  unfold oneM; simp only; rw [if_neg h, if_neg h2, if_neg h3, if_neg h4]; exact ⟨rfl, rfl⟩
theorem one_range (s : Str) (i : Nat) : 0 ≤ (oneM s i).1 ∧ (oneM s i).1 ≤ 1500000 ∧ 0 ≤ (oneM s i).2 ∧ (oneM s i).2 ≤ 4 := by
  have h0 := byteAt_lt s i
  have h1 := more_range s (i + 1); have h2 := more_range s (i + 2); have h3 := more_range s (i + 3)
  unfold oneM
  simp only
  repeat' split
  all_goals (simp only; omega)
theorem one_fits (s : Str) (i : Nat) (hi : i < s.length) : (i : Int) + (oneM s i).2 ≤ s.length := by
  unfold oneM
  simp only
  repeat' split
  all_goals simp only
  · omega
  · rename_i h; have := (cont_iff.1 h.2.2).1; omega
  · rename_i h; have := (cont_iff.1 h.2.2.2).1; omega
  · rename_i h; have := (cont_iff.1 h.2.2.2.2).1; omega
  · omega
theorem good_d (r : Int) : goodR r = decide (0 ≤ r ∧ r ≤ 1114111 ∧ (r < 55296 ∨ r > 57343) ∧ r ≠ 65533) := by
  unfold goodR
  rw [Bool.eq_iff_iff]
  simp only [Bool.and_eq_true, Bool.or_eq_true, decide_eq_true_eq, Bool.not_eq_true', beq_eq_false_iff_ne]
  omega
theorem good_ne {r : Int} {b : Bool} (h : 0 ≤ r ∧ r ≤ 1114111 ∧ (r < 55296 ∨ r > 57343)) (hb : b = (r != 65533)) : b = goodR r := by
  rw [hb, good_d, Bool.eq_iff_iff]
  simp only [bne_iff_ne, decide_eq_true_eq]
  omega
theorem good_no {r : Int} (h : ¬ (0 ≤ r ∧ r ≤ 1114111 ∧ (r < 55296 ∨ r > 57343))) : false = goodR r := by
  rw [good_d, decide_eq_false (by omega)]

/-- runes, read one by one -/
structure RunInv (s : Str) (i : Nat) (l : List Int) : Prop where
  ex : ∃ pre, Scan s i pre ∧ l = pre.map (fun n : Nat => (n : Int)) ∧ 65533 ∉ pre
def runesI (s : Str) : List Int := (runes s).map fun n : Nat => (n : Int)
def fineT (s : Str) : Bool := decide (65533 ∉ runes s)
theorem RunInv.start (s : Str) : RunInv s 0 [] := ⟨⟨[], Scan.start s, rfl, by simp⟩⟩
theorem RunInv.next {s : Str} {i j : Nat} {l : List Int} (h : RunInv s i l) (hi : i < s.length) (hb : badAt s i = false) (hj : (j : Int) = (i : Int) + (oneM s i).2) : RunInv s j (l ++ [(oneM s i).1]) := by
  obtain ⟨pre, h1, h2, h3⟩ := h.ex
  have hd := (dec_at s i).2 hb
  have hne : s.drop i ≠ [] := fun e => by have := congrArg List.length e; simp at this; omega
  have hn := h1.next hne
  have e : j = i + (dec (s.drop i)).2 := by omega
  rw [e]
  refine ⟨⟨_, hn, by rw [h2, List.map_append, ← hd.1]; rfl, ?_⟩⟩
  simp only [List.mem_append, List.mem_singleton, not_or]
  exact ⟨h3, fun e => by have := hd.1; rw [← e] at this; exact hd.2.2 this.symm⟩
theorem RunInv.bad {s : Str} {i : Nat} {l : List Int} (h : RunInv s i l) (hi : i < s.length) (hb : badAt s i = true) : false = fineT s := by
  obtain ⟨pre, h1, h2, h3⟩ := h.ex
  have hne : s.drop i ≠ [] := fun e => by have := congrArg List.length e; simp at this; omega
  have := h1.mem hne
  rw [(dec_at s i).1 hb] at this
  unfold fineT; simp [this]
theorem RunInv.fin {s : Str} {i : Nat} {l : List Int} (h : RunInv s i l) (hi : s.length ≤ i) : l = runesI s ∧ true = fineT s := by
  obtain ⟨pre, h1, h2, h3⟩ := h.ex
  have := h1.done (List.drop_of_length_le hi)
  refine ⟨by rw [h2, runesI, this], ?_⟩
  unfold fineT; rw [this]; simp [h3]
theorem RunInv.len {s : Str} {i : Nat} {l : List Int} (h : RunInv s i l) : l.length ≤ i := by
  obtain ⟨pre, h1, h2, h3⟩ := h.ex
  rw [h2, List.length_map]; exact h1.len
theorem lenT_ref (s : Str) : lenT s = if fineT s = true then ((runesI s).length : Int) else -1 := by
  unfold lenT fineT runesI
  by_cases h : 65533 ∈ runes s
  · simp [h]
  · simp [h]
theorem bad_no {s : Str} {i : Nat} (h0 : (oneM s i).2 ≠ 0) (hg : goodR (oneM s i).1 = true) (h3 : ¬ ((oneM s i).2 = 3 ∧ (oneM s i).1 < 2048)) (h4 : ¬ ((oneM s i).2 = 4 ∧ (oneM s i).1 < 65536)) : badAt s i = false := by
  cases hb : badAt s i with
  | false => rfl
  | true =>
    have := (bad_P s i).1 hb
    rw [good_d] at hg
    have := of_decide_eq_true hg
    unfold badP at *
    omega
theorem bad_yes {s : Str} {i : Nat} (h : (oneM s i).2 = 0 ∨ ((oneM s i).2 = 3 ∧ (oneM s i).1 < 2048) ∨ ((oneM s i).2 = 4 ∧ (oneM s i).1 < 65536)) : badAt s i = true := by
  rw [bad_P]; unfold badP; omega
theorem bad_good {s : Str} {i : Nat} (h : goodR (oneM s i).1 = false) : badAt s i = true := by
  rw [bad_P]; unfold badP
  rw [good_d] at h
  have := of_decide_eq_false h
  omega
def runesM (s : Str) : List Int := if fineT s = true then runesI s else []
theorem runesM_no {s : Str} (h : false = fineT s) : [] = runesM s := by unfold runesM; rw [← h]; rfl
theorem runesM_yes {s : Str} (h : true = fineT s) : runesI s = runesM s := by unfold runesM; rw [← h]; rfl
theorem lenT_refM (s : Str) : lenT s = if fineT s = true then ((runesM s).length : Int) else -1 := by
  rw [lenT_ref]
  by_cases h : fineT s = true
  · rw [if_pos h, if_pos h, runesM, if_pos h]
  · rw [if_neg h, if_neg h]
theorem rlen_no {s : Str} (h : fineT s = false) : (-1 : Int) = lenT s := by rw [lenT_refM, h]; rfl
theorem rlen_yes {s : Str} (h : fineT s = true) : (((runesM s).length : Nat) : Int) = lenT s := by rw [lenT_refM, if_pos h]
/-- bytes compared one by one -/
structure CmpInv (a b : Str) (i : Nat) : Prop where
  eq : Lib.compareBytes a b = Lib.compareBytes (a.drop i) (b.drop i)
theorem CmpInv.start (a b : Str) : CmpInv a b 0 := ⟨rfl⟩
theorem drop_at {s : Str} {i : Nat} (h : i < s.length) : s.drop i = s[i] :: s.drop (i + 1) := List.drop_eq_getElem_cons h
theorem byteAt_eq {s : Str} {i : Nat} (h : i < s.length) : byteAt s i = s[i].toNat := by unfold byteAt; rw [List.getElem?_eq_getElem h]; rfl
theorem CmpInv.lt {a b : Str} {i : Nat} (h : CmpInv a b i) (ha : i < a.length) (hb : i < b.length) (hc : byteAt a i < byteAt b i) : (-1 : Int) = Lib.compareBytes a b := by
  rw [byteAt_eq ha, byteAt_eq hb] at hc
  rw [h.eq, drop_at ha, drop_at hb, Lib.compareBytes, if_pos (UInt8.lt_iff_toNat_lt.2 hc)]
theorem CmpInv.gt {a b : Str} {i : Nat} (h : CmpInv a b i) (ha : i < a.length) (hb : i < b.length) (hc : byteAt b i < byteAt a i) : (1 : Int) = Lib.compareBytes a b := by
  rw [byteAt_eq ha, byteAt_eq hb] at hc
  rw [h.eq, drop_at ha, drop_at hb, Lib.compareBytes, if_neg (fun hh => by have := UInt8.lt_iff_toNat_lt.1 hh; omega), if_pos (UInt8.lt_iff_toNat_lt.2 hc)]
theorem CmpInv.next {a b : Str} {i : Nat} (h : CmpInv a b i) (ha : i < a.length) (hb : i < b.length) (hc : byteAt a i = byteAt b i) : CmpInv a b (i + 1) := by
  rw [byteAt_eq ha, byteAt_eq hb] at hc
  refine ⟨?_⟩
  rw [h.eq, drop_at ha, drop_at hb, Lib.compareBytes, if_neg (fun hh => by have := UInt8.lt_iff_toNat_lt.1 hh; omega), if_neg (fun hh => by have := UInt8.lt_iff_toNat_lt.1 hh; omega)]
theorem CmpInv.fin {a b : Str} {i : Nat} (h : CmpInv a b i) (he : a.length ≤ i ∨ b.length ≤ i) (hia : i ≤ a.length) (hib : i ≤ b.length) {r : Int} (hr : (a.length < b.length ∧ r = -1) ∨ (b.length < a.length ∧ r = 1) ∨ (a.length = b.length ∧ r = 0)) : r = Lib.compareBytes a b := by
  rw [h.eq]
  rcases hr with ⟨h1, h2⟩ | ⟨h1, h2⟩ | ⟨h1, h2⟩
  · have hb : i < b.length := by omega
    rw [List.drop_of_length_le (show a.length ≤ i by omega), drop_at hb, h2]; rfl
  · have ha : i < a.length := by omega
    rw [List.drop_of_length_le (show b.length ≤ i by omega), drop_at ha, h2]; rfl
  · rw [List.drop_of_length_le (show a.length ≤ i by omega), List.drop_of_length_le (show b.length ≤ i by omega), h2]; rfl
end Go.Ml
