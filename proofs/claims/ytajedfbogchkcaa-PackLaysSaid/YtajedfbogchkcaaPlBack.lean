/-
  Images are read back: numbers, edges, nodes; a graph of words is whole and tells its words.
-/
import Derived.Test.YtajedfbogchkcaaPlDec
set_option linter.unusedVariables false
set_option linter.unusedSimpArgs false
namespace Go.Ml
open Go.Ik
/-! numbers -/
theorem byN_of {n : Int} {m : Nat} (h : n = (m : Int)) : (byN n).toNat = m % 256 := by
  have := byN_toNat n; omega
theorem wrap_small {x : Int} (h0 : 0 ≤ x) (h : x < 4294967296) : IntKind.u64.wrap x = x := by
  have : (IntKind.u64.wrap x) = x % 18446744073709551616 := by unfold IntKind.wrap; rfl
  rw [this]; omega
theorem put1 {x : Int} (h0 : 0 ≤ x) (h : x < 256) : putN x 1 = [byN x] := by
  unfold putN
  rw [wrap_small h0 (by omega)]
  simp [List.range_succ]
theorem put2 {x : Int} (h0 : 0 ≤ x) (h : x < 65536) : putN x 2 = [byN (x / 256), byN x] := by
  unfold putN
  rw [wrap_small h0 (by omega)]
  simp [List.range_succ]
theorem put4 {x : Int} (h0 : 0 ≤ x) (h : x < 4294967296) : putN x 4 = [byN (x / 16777216), byN (x / 65536), byN (x / 256), byN x] := by
  unfold putN
  rw [wrap_small h0 (by omega)]
  simp [List.range_succ]
theorem num1 {x : Int} (h0 : 0 ≤ x) (h : x < 256) : (numN (putN x 1) : Int) = x := by
  rw [put1 h0 h]
  have h1 := byN_toNat x
  simp only [numN, List.foldl_cons, List.foldl_nil]; omega
theorem num2 {x : Int} (h0 : 0 ≤ x) (h : x < 65536) : (numN (putN x 2) : Int) = x := by
  rw [put2 h0 h]
  have h1 := byN_toNat x
  have h2 := byN_toNat (x / 256)
  simp only [numN, List.foldl_cons, List.foldl_nil]; omega
theorem num4 {x : Int} (h0 : 0 ≤ x) (h : x < 4294967296) : (numN (putN x 4) : Int) = x := by
  rw [put4 h0 h]
  have h1 := byN_toNat x
  have h2 := byN_toNat (x / 256)
  have h3 := byN_toNat (x / 65536)
  have h4 := byN_toNat (x / 16777216)
  simp only [numN, List.foldl_cons, List.foldl_nil]; omega
theorem byN_eq {n : Int} {b : UInt8} (h : n % 256 = (b.toNat : Int)) : byN n = b := by
  apply UInt8.toNat_inj.1
  have := byN_toNat n; omega
theorem back1 {l : List UInt8} (h : l.length = 1) : putN (numN l) 1 = l := by
  match l, h with
  | [a], _ =>
    have ha := a.toNat_lt
    have hn : (numN [a] : Int) = a.toNat := by simp only [numN, List.foldl_cons, List.foldl_nil]; omega
    rw [put1 (by omega) (by omega), hn, byN_eq (b := a) (by omega)]
theorem back2 {l : List UInt8} (h : l.length = 2) : putN (numN l) 2 = l := by
  match l, h with
  | [a, b], _ =>
    have ha := a.toNat_lt
    have hb := b.toNat_lt
    have hn : (numN [a, b] : Int) = a.toNat * 256 + b.toNat := by simp only [numN, List.foldl_cons, List.foldl_nil]; omega
    rw [put2 (by omega) (by omega), hn, byN_eq (b := a) (by omega), byN_eq (b := b) (by omega)]
theorem back4 {l : List UInt8} (h : l.length = 4) : putN (numN l) 4 = l := by
  match l, h with
  | [a, b, c, d], _ =>
    have ha := a.toNat_lt
    have hb := b.toNat_lt
    have hc := c.toNat_lt
    have hd := d.toNat_lt
    have hn : (numN [a, b, c, d] : Int) = ((a.toNat * 256 + b.toNat) * 256 + c.toNat) * 256 + d.toNat := by simp only [numN, List.foldl_cons, List.foldl_nil]; omega
    rw [put4 (by omega) (by omega), hn, byN_eq (b := a) (by omega), byN_eq (b := b) (by omega), byN_eq (b := c) (by omega), byN_eq (b := d) (by omega)]
/-- sizes that are read -/
def sz124 (n : Nat) : Prop := n = 1 ∨ n = 2 ∨ n = 4
theorem num_put {x : Int} {n : Nat} (hn : sz124 n) (h0 : 0 ≤ x) (h : x < 256 ^ n) : (numN (putN x n) : Int) = x := by
  rcases hn with rfl | rfl | rfl
  · exact num1 h0 (by omega)
  · exact num2 h0 (by omega)
  · exact num4 h0 (by omega)
theorem put_num {l : List UInt8} {n : Nat} (hn : sz124 n) (h : l.length = n) : putN (numN l) n = l := by
  rcases hn with rfl | rfl | rfl
  · exact back1 h
  · exact back2 h
  · exact back4 h
/-! reading what was laid -/
theorem drop_len {b p r : List UInt8} {a : Nat} (h : b.drop a = p ++ r) : b.drop (a + p.length) = r := by
  rw [← List.drop_drop, h]; simp
theorem drop_le {b p r : List UInt8} {a : Nat} (h : b.drop a = p ++ r) (hp : p ≠ []) : a + p.length ≤ b.length := by
  have h1 := congrArg List.length h
  rw [List.length_drop, List.length_append] at h1
  have : 0 < p.length := List.length_pos_iff.2 hp
  omega
theorem numR_put {b r : List UInt8} {a n : Nat} {x : Int} {q : Bool} (h : b.drop a = putN x n ++ r) (hn : sz124 n) (h0 : 0 ≤ x) (hx : x < 256 ^ n) : numR b n ((a : Int), q) = (x, (((a + n : Nat) : Int), q)) := by
  have hl := putN_len x n
  have h1 : a + n ≤ b.length := by
    have := drop_le h (by intro e; rw [e] at hl; unfold sz124 at hn; simp at hl; omega)
    rwa [hl] at this
  have hok : numOk b (a : Int) (n : Int) = true := by unfold numOk; unfold sz124 at hn; exact decide_eq_true ⟨by omega, by omega, by omega, by omega, by omega⟩
  rw [numR_yes hok]
  have hv : numV b (a : Int) (n : Int) = x := by
    unfold numV
    rw [if_pos hok]
    simp only [Int.toNat_natCast]
    rw [h, List.take_left' hl]
    exact num_put hn h0 hx
  rw [hv]; rfl
/-- edges that may be laid -/
def edOk (e : Ed) : Prop := 0 ≤ e.rune ∧ e.rune ≤ 1114111 ∧ 0 ≤ e.to ∧ e.to < 65536
theorem wrap32 {x : Int} (h0 : 0 ≤ x) (h : x ≤ 1114111) : IntKind.i32.wrap x = x := by
  have hm : x % 4294967296 = x := by omega
  have hb : (2 : Int) ^ IntKind.i32.bits = 4294967296 := rfl
  have hs : (2 : Int) ^ (IntKind.i32.bits - 1) = 2147483648 := rfl
  unfold IntKind.wrap
  simp only [hb, hs, hm]
  rw [if_neg]
  simp only [Bool.and_eq_true, decide_eq_true_eq]
  omega
theorem edgeB_len (e : Ed) : (edgeB e).length = 6 := by unfold edgeB; simp [putN_len]
theorem edgeR_put {b r : List UInt8} {a : Nat} {e : Ed} (h : b.drop a = edgeB e ++ r) (he : edOk e) : edgeR b ((a : Int), false) = (e, (((a + 6 : Nat) : Int), false)) := by
  obtain ⟨h1, h2, h3, h4⟩ := he
  unfold edgeB at h
  rw [List.append_assoc] at h
  have k1 := numR_put (q := false) h (.inr (.inr rfl)) h1 (by omega)
  have k2 := drop_len h
  rw [putN_len] at k2
  have k3 := numR_put (q := false) k2 (.inr (.inl rfl)) h3 (by omega)
  unfold edgeR
  simp only [k1]
  rw [show (false || decide (e.rune > 1114111)) = false from by simp; omega]
  simp only [k3]
  rw [wrap32 h1 h2]
theorem edgesR_put {b : List UInt8} : ∀ (es : List Ed) (a : Nat) (r : List UInt8), b.drop a = es.flatMap edgeB ++ r → (∀ e ∈ es, edOk e) → edgesR b es.length ((a : Int), false) = (es, (((a + 6 * es.length : Nat) : Int), false))
  | [], a, r, h, _ => by simp [edgesR]
  | e :: es, a, r, h, he => by
    rw [List.flatMap_cons, List.append_assoc] at h
    have k1 := edgeR_put h (he e (by simp))
    have k2 := drop_len h
    rw [edgeB_len] at k2
    have k3 := edgesR_put es (a + 6) r k2 (fun e h => he e (by simp [h]))
    rw [List.length_cons]
    conv => lhs; unfold edgesR
    rw [if_neg (by simp), k1]
    simp only [k3]
    rw [show a + 6 + 6 * es.length = a + 6 * (es.length + 1) from by omega]
/-- nodes that may be laid -/
def gnOk (x : GN) : Prop := x.2.length < 65536 ∧ ∀ e ∈ x.2, edOk e
def ndLen (x : GN) : Nat := 3 + 6 * x.2.length
theorem flat6 : ∀ es : List Ed, (es.flatMap edgeB).length = 6 * es.length
  | [] => rfl
  | e :: es => by rw [List.flatMap_cons, List.length_append, flat6 es, edgeB_len, List.length_cons]; omega
theorem nodeB_len2 (x : GN) : (nodeB x).length = ndLen x := by unfold nodeB ndLen; simp only [List.length_append, putN_len, flat6]
theorem nodeR_put {b r : List UInt8} {a : Nat} {x : GN} (h : b.drop a = nodeB x ++ r) (hx : gnOk x) : nodeR b ((a : Int), false) = (x, (((a + ndLen x : Nat) : Int), false)) := by
  obtain ⟨h1, h2⟩ := hx
  unfold nodeB at h
  rw [List.append_assoc, List.append_assoc] at h
  have hb : (0 : Int) ≤ (if x.1 = true then 1 else 0) ∧ (if x.1 = true then 1 else 0 : Int) ≤ 1 := by split <;> omega
  have k1 := numR_put (q := false) h (.inl rfl) hb.1 (by omega)
  have k2 := drop_len h
  rw [putN_len] at k2
  have k3 := numR_put (q := false) k2 (.inr (.inl rfl)) (by omega) (by omega)
  have k4 := drop_len k2
  rw [putN_len] at k4
  have k5 := edgesR_put x.2 _ _ k4 h2
  unfold nodeR
  simp only [k1]
  rw [show (false || decide ((if x.1 = true then 1 else 0 : Int) > 1)) = false from by rw [Bool.false_or]; exact decide_eq_false (by omega)]
  simp only [k3, Int.toNat_natCast, k5]
  rw [show a + 1 + 2 + 6 * x.2.length = a + ndLen x from by unfold ndLen; omega]
  have : decide ((if x.1 = true then 1 else 0 : Int) = 1) = x.1 := by cases x.1 <;> decide
  rw [this]
def ndsLen (N : List GN) : Nat := (N.map ndLen).sum
theorem nodesR_put {b : List UInt8} : ∀ (N : List GN) (a : Nat) (r : List UInt8), b.drop a = N.flatMap nodeB ++ r → (∀ x ∈ N, gnOk x) → nodesR b N.length ((a : Int), false) = (N, (((a + ndsLen N : Nat) : Int), false))
  | [], a, r, h, _ => by simp [nodesR, ndsLen]
  | x :: N, a, r, h, hx => by
    rw [List.flatMap_cons, List.append_assoc] at h
    have k1 := nodeR_put h (hx x (by simp))
    have k2 := drop_len h
    rw [nodeB_len2] at k2
    have k3 := nodesR_put N (a + ndLen x) r k2 (fun e h => hx e (by simp [h]))
    rw [List.length_cons]
    conv => lhs; unfold nodesR
    rw [if_neg (by simp), k1]
    simp only [k3]
    rw [show a + ndLen x + ndsLen N = a + ndsLen (x :: N) from by unfold ndsLen; simp only [List.map_cons, List.sum_cons]; omega]
theorem nodesB_len : ∀ N : List GN, (N.flatMap nodeB).length = ndsLen N
  | [] => rfl
  | x :: N => by rw [List.flatMap_cons, List.length_append, nodesB_len N, nodeB_len2]; unfold ndsLen; simp only [List.map_cons, List.sum_cons]
theorem body_len2 (N : List GN) : (bodyB N).length = 6 + ndsLen N := by
  unfold bodyB; simp only [List.length_append, putN_len, nodesB_len, List.length_cons, List.length_nil]
/-- what is laid of nodes is read as them -/
theorem dec_body {N : List GN} (hl : N.length < 65536) (hN : ∀ x ∈ N, gnOk x) (hm : madeG N ≠ []) : decG (encB_ N) = (madeG N, 0) := by
  have hb : (encB_ N).length = (bodyB N).length + 4 := by unfold encB_ sealB; rw [List.length_append, putN_len]
  have hbl := body_len2 N
  have ht : (encB_ N).take ((encB_ N).length - 4) = bodyB N := by rw [hb]; unfold encB_ sealB; simp
  have hn4 : (4 : Int) = ((4 : Nat) : Int) := rfl
  have hs := sumF_lt 0 (bodyB N)
  have h2 : numV (encB_ N) (((encB_ N).length : Int) - 4) 4 = (sumN ((encB_ N).take ((encB_ N).length - 4)) : Int) := by
    rw [ht]
    have hd : (encB_ N).drop (bodyB N).length = putN (sumN (bodyB N)) 4 ++ [] := by unfold encB_ sealB; simp
    have := numR_put (q := false) hd (.inr (.inr rfl)) (by omega) (by change (sumF 0 (bodyB N) : Int) < _; omega)
    rw [show ((encB_ N).length : Int) - 4 = ((bodyB N).length : Int) from by omega]
    have hok : numOk (encB_ N) ((bodyB N).length : Int) 4 = true := by unfold numOk; exact decide_eq_true ⟨by omega, by omega, by omega, by omega, by omega⟩
    rw [show (4 : Nat) = 4 from rfl, numR_yes hok] at this
    exact congrArg Prod.fst this
  have h3 : ¬ ((encB_ N).length - 4 < 4 ∨ ¬ (encB_ N).take 4 = [73, 78, 75, 49]) := by
    intro h
    rcases h with h | h
    · omega
    · exact h (by unfold encB_ sealB bodyB; simp)
  have hd4 : (bodyB N).drop 4 = putN N.length 2 ++ N.flatMap nodeB := by unfold bodyB; simp
  have h4 := numR_put (q := false) hd4 (.inr (.inl rfl)) (by omega) (by omega)
  have hd6 := drop_len hd4
  rw [putN_len] at hd6
  have h5 := nodesR_put N 6 [] (by rw [hd6]; simp) hN
  have e1 : numR ((encB_ N).take ((encB_ N).length - 4)) 2 (4, false) = ((N.length : Int), (((6 : Nat) : Int), false)) := by rw [ht]; exact h4
  refine decG_yes (c := N.length) (a0 := ((6 : Nat) : Int)) (q0 := false) (a := ((6 + ndsLen N : Nat) : Int)) (q := false) (by omega) h2 h3 e1.symm (by rw [ht, Int.toNat_natCast]; exact h5) (fun h => ?_) hm
  rcases h with h | h
  · cases h
  · exact h (by omega)
end Go.Ml
