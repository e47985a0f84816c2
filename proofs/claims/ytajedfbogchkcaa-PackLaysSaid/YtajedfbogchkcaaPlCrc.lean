/-
  Check sums, numbers laid into bytes, images of graphs, plainly.
-/
import Derived.Test.YtajedfbogchkcaaIkBits
import Derived.Test.YtajedfbogchkcaaMGraph3
set_option linter.unusedVariables false
set_option linter.unusedSimpArgs false
namespace Go.Ml
open Go.Ik

def crcS (c : Nat) : Nat := if c % 2 = 1 then (c / 2) ^^^ 3988292384 else c / 2
def crcK : Nat → Nat → Nat
  | 0, c => c
  | k + 1, c => crcS (crcK k c)
def turnN (c b : Nat) : Nat := crcK 8 (c ^^^ b)
def crcF (c : Nat) (l : List UInt8) : Nat := l.foldl (fun c x => turnN c x.toNat) c
def sumF (c : Nat) (l : List UInt8) : Nat := 4294967295 - crcF (4294967295 - c) l
def sumN (l : List UInt8) : Nat := sumF 0 l
theorem crcS_lt {c : Nat} (h : c < 4294967296) : crcS c < 4294967296 := by
  unfold crcS
  split
  · exact xor_lt32 (by omega) (by omega)
  · omega
theorem crcK_lt {c : Nat} (h : c < 4294967296) : ∀ k, crcK k c < 4294967296
  | 0 => h
  | k + 1 => crcS_lt (crcK_lt h k)
theorem turnN_lt {c b : Nat} (h : c < 4294967296) (hb : b < 256) : turnN c b < 4294967296 := crcK_lt (xor_lt32 h (by omega)) 8
theorem turnN_ltE (c : Nat) (b : UInt8) (h : c < 4294967296) : turnN c b.toNat < 4294967296 := turnN_lt h b.toNat_lt
theorem crcF_lt : ∀ (l : List UInt8) {c : Nat}, c < 4294967296 → crcF c l < 4294967296
  | [], c, h => h
  | x :: l, c, h => crcF_lt l (turnN_lt h x.toNat_lt)
theorem crcF_take {c : Nat} {l : List UInt8} {k : Nat} {x : UInt8} (hx : l[k]? = some x) : crcF c (l.take (k + 1)) = turnN (crcF c (l.take k)) x.toNat := by
  unfold crcF
  rw [List.take_add_one, hx, List.foldl_append]; rfl
theorem sumF_lt (c : Nat) (l : List UInt8) : sumF c l < 4294967296 := by unfold sumF; omega
theorem crc_one {c c0 : Nat} {k : Nat} (h : c = crcK k c0) (h1 : c % 2 = 1) : (c / 2) ^^^ 3988292384 = crcK (k + 1) c0 := by
  show _ = crcS (crcK k c0)
  rw [← h]; unfold crcS; rw [if_pos h1]
theorem crc_nil {c c0 : Nat} {k : Nat} (h : c = crcK k c0) (h1 : ¬ c % 2 = 1) : c / 2 = crcK (k + 1) c0 := by
  show _ = crcS (crcK k c0)
  rw [← h]; unfold crcS; rw [if_neg h1]
theorem xor_half (a b : Nat) : (a ^^^ b) / 2 = (a / 2) ^^^ (b / 2) := by
  have := Nat.shiftRight_xor_distrib (a := a) (b := b) (i := 1)
  simpa [Nat.shiftRight_eq_div_pow] using this
theorem xor_low (a b : Nat) : (a ^^^ b) % 2 = (a % 2 + b % 2) % 2 := by
  have := Nat.xor_mod_two_pow (a := a) (b := b) (n := 1)
  simp only [Nat.pow_one] at this
  rw [this]
  rcases Nat.mod_two_eq_zero_or_one a with h | h <;> rcases Nat.mod_two_eq_zero_or_one b with h' | h' <;> rw [h, h'] <;> rfl
/-- the document's sum, bit by bit -/
def RefK (c0 b : Nat) (k c : Nat) : Prop := crcK k (c0 ^^^ b) = c ^^^ (b / 2 ^ k) ∧ c < 4294967296
theorem RefK.start {c0 b : Nat} (h : c0 < 4294967296) : RefK c0 b 0 c0 := ⟨by simp [crcK], h⟩
theorem refK_step {c0 b k c : Nat} (h : RefK c0 b k c) (hb : b < 256) : crcK (k + 1) (c0 ^^^ b) = (if c % 2 ≠ b / 2 ^ k % 2 then (c / 2) ^^^ 3988292384 else c / 2) ^^^ (b / 2 ^ (k + 1)) := by
  show crcS (crcK k (c0 ^^^ b)) = _
  rw [h.1]
  unfold crcS
  rw [xor_low, xor_half, Nat.pow_succ, ← Nat.div_div_eq_div_mul]
  by_cases hc : c % 2 = b / 2 ^ k % 2
  · rw [if_neg (by omega), if_neg (by omega)]
  · rw [if_pos (by omega), if_pos hc, Nat.xor_assoc, Nat.xor_comm (b / 2 ^ k / 2), ← Nat.xor_assoc]
theorem RefK.one {c0 b k c : Nat} (h : RefK c0 b k c) (hb : b < 256) (hc : c % 2 ≠ b / 2 ^ k % 2) : RefK c0 b (k + 1) ((c / 2) ^^^ 3988292384) := ⟨by rw [refK_step h hb, if_pos hc], xor_lt32 (by have := h.2; omega) (by omega)⟩
theorem RefK.nil {c0 b k c : Nat} (h : RefK c0 b k c) (hb : b < 256) (hc : c % 2 = b / 2 ^ k % 2) : RefK c0 b (k + 1) (c / 2) := ⟨by rw [refK_step h hb, if_neg (by omega)], by have := h.2; omega⟩
theorem RefK.fin {c0 b c : Nat} (h : RefK c0 b 8 c) (hb : b < 256) : c = turnN c0 b := by
  have := h.1
  rw [Nat.div_eq_of_lt (by omega : b < 2 ^ 8), Nat.xor_zero] at this
  exact this.symm
/-! numbers -/
def putN (n : Int) (size : Nat) : List UInt8 := (List.range size).map fun i => byN (IntKind.u64.wrap n / 2 ^ (8 * (size - 1 - i)))
theorem putN_len (n : Int) (size : Nat) : (putN n size).length = size := by simp [putN]
theorem putN_take {n : Int} {size i : Nat} {b out : List UInt8} {x : UInt8} (h : out = b ++ (putN n size).take i) (hi : i < size) (hx : x = byN (IntKind.u64.wrap n / 2 ^ (8 * (size - 1 - i)))) : out ++ [x] = b ++ (putN n size).take (i + 1) := by
  rw [h, List.append_assoc]
  congr 1
  rw [List.take_add_one]
  congr 1
  unfold putN
  rw [List.getElem?_map, List.getElem?_range hi, hx]; rfl
def numN (l : List UInt8) : Nat := l.foldl (fun n x => n * 256 + x.toNat) 0
theorem numN_lt : ∀ (l : List UInt8) (n : Nat), l.foldl (fun n x => n * 256 + x.toNat) n < (n + 1) * 256 ^ l.length
  | [], n => by simp
  | x :: l, n => by
    have := numN_lt l (n * 256 + x.toNat)
    have hx := x.toNat_lt
    rw [List.foldl_cons, List.length_cons, Nat.pow_succ]
    calc _ < (n * 256 + x.toNat + 1) * 256 ^ l.length := this
      _ ≤ ((n + 1) * 256) * 256 ^ l.length := Nat.mul_le_mul_right _ (by omega)
      _ = _ := by rw [Nat.mul_assoc, Nat.mul_comm 256]
theorem numN_take {l : List UInt8} {k : Nat} {x : UInt8} (hx : l[k]? = some x) : numN (l.take (k + 1)) = numN (l.take k) * 256 + x.toNat := by
  unfold numN
  rw [List.take_add_one, hx, List.foldl_append]; rfl
/-- may a number be read? -/
def numOk (b : List UInt8) (at_ size : Int) : Bool := decide (1 ≤ size ∧ size ≤ 8 ∧ 0 ≤ at_ ∧ at_ ≤ b.length ∧ size ≤ b.length - at_)
def numV (b : List UInt8) (at_ size : Int) : Int := if numOk b at_ size = true then (numN ((b.drop at_.toNat).take size.toNat) : Int) else 0
theorem numV_no {b : List UInt8} {at_ size : Int} (h : ¬ (1 ≤ size ∧ size ≤ 8 ∧ 0 ≤ at_ ∧ at_ ≤ b.length ∧ size ≤ b.length - at_)) : (0 : Int) = numV b at_ size ∧ false = numOk b at_ size := by
  have : numOk b at_ size = false := decide_eq_false h
  unfold numV; rw [this]; exact ⟨rfl, rfl⟩
theorem numV_yes {b : List UInt8} {at_ size : Int} (h : 1 ≤ size ∧ size ≤ 8 ∧ 0 ≤ at_ ∧ at_ ≤ b.length ∧ size ≤ b.length - at_) : (numN ((b.drop at_.toNat).take size.toNat) : Int) = numV b at_ size ∧ true = numOk b at_ size := by
  have : numOk b at_ size = true := decide_eq_true h
  unfold numV; rw [this]; exact ⟨rfl, rfl⟩
theorem numN_pow {l : List UInt8} : numN l < 256 ^ l.length := by
  have := numN_lt l 0
  unfold numN; simpa using this
/-! images -/
def edgeB (e : Ed) : List UInt8 := putN e.rune 4 ++ putN e.to 2
def nodeB (x : GN) : List UInt8 := putN (if x.1 = true then 1 else 0) 1 ++ putN x.2.length 2 ++ x.2.flatMap edgeB
def bodyB (N : List GN) : List UInt8 := [73, 78, 75, 49] ++ putN N.length 2 ++ N.flatMap nodeB
def sealB (b : List UInt8) : List UInt8 := b ++ putN (sumN b) 4
def encB_ (N : List GN) : List UInt8 := sealB (bodyB N)
end Go.Ml
namespace Go.Ml
open Go.Ik
theorem put_down {n i : Int} {size : Nat} {b out : List UInt8} (h : out = b ++ (putN n size).take ((size : Int) - 1 - i).toNat) (h0 : 0 ≤ i) (hi : i < (size : Int)) : out ++ [byN (IntKind.u64.wrap n / 2 ^ (8 * i).toNat)] = b ++ (putN n size).take ((size : Int) - 1 - (i - 1)).toNat := by
  have := putN_take (x := byN (IntKind.u64.wrap n / 2 ^ (8 * i).toNat)) h (by omega) (by congr 3; omega)
  rw [this]
  congr 2; omega
theorem num_small {l : List UInt8} {i : Nat} (h : i ≤ 4) : numN (l.take i) < 4294967296 := by
  have h1 := numN_pow (l := l.take i)
  have h2 : (l.take i).length ≤ 4 := by rw [List.length_take]; omega
  have h3 : 256 ^ (l.take i).length ≤ 256 ^ 4 := Nat.pow_le_pow_right (by omega) h2
  omega
theorem num_step {at_ : Int} {b : List UInt8} {m i : Nat} {x : UInt8} (h : m = numN ((b.drop at_.toNat).take i)) (hx : b[(at_ + (i : Int)).toNat]? = some x) (h0 : 0 ≤ at_) : m * 256 + x.toNat = numN ((b.drop at_.toNat).take (i + 1)) := by
  rw [h]
  symm
  refine numN_take ?_
  rw [List.getElem?_drop, ← hx]
  congr 1; omega
theorem numV_rng (b : List UInt8) (at_ : Int) (size : Nat) : 0 ≤ numV b at_ size := by unfold numV; split <;> omega
end Go.Ml
namespace Go.Ml
open Go.Ik
theorem nodeAt_some {g : List GN} {i : Nat} (h : i < g.length) : g[i]? = some (nodeAt g (i : Int)) := by
  rw [nodeAt_yes (by omega) (List.getElem?_eq_getElem h)]
  exact List.getElem?_eq_getElem h
theorem enc_start (g : List GN) : [73, 78, 75, 49] ++ putN (g.length : Int) 2 ++ (g.drop 0).flatMap nodeB = bodyB g := rfl
theorem enc_node {g : List GN} {B out : List UInt8} {i : Nat} {x : GN} {f : Int} (h : out ++ (g.drop i).flatMap nodeB = B) (hx : g[i]? = some x) (hf : f = if x.1 = true then 1 else 0) : out ++ putN f 1 ++ putN (x.2.length : Int) 2 ++ ((x.2.drop 0).flatMap edgeB ++ (g.drop (i + 1)).flatMap nodeB) = B := by
  rw [← h, drop_el' hx, List.flatMap_cons, hf]
  unfold nodeB
  simp
theorem enc_edge {B out : List UInt8} {es : List Ed} {R : List UInt8} {k : Nat} {e : Ed} (h : out ++ ((es.drop k).flatMap edgeB ++ R) = B) (hx : es[k]? = some e) : out ++ putN e.rune 4 ++ putN e.to 2 ++ ((es.drop (k + 1)).flatMap edgeB ++ R) = B := by
  rw [← h, drop_el' hx, List.flatMap_cons]
  unfold edgeB
  simp
theorem enc_next {B out : List UInt8} {es : List Ed} {R : List UInt8} {k : Nat} (h : out ++ ((es.drop k).flatMap edgeB ++ R) = B) (hk : es.length ≤ k) : out ++ R = B := by
  rw [List.drop_of_length_le hk] at h
  simpa using h
theorem enc_len {B out R : List UInt8} (h : out ++ R = B) : out.length ≤ B.length := by rw [← h, List.length_append]; omega
theorem enc_len4 {B out R : List UInt8} {es : List Ed} {k : Nat} {e : Ed} (h : out ++ ((es.drop k).flatMap edgeB ++ R) = B) (hx : es[k]? = some e) : out.length + 6 ≤ B.length := by
  have := enc_len (enc_edge h hx)
  simp only [List.length_append, putN_len] at this; omega
theorem enc_lenN {g : List GN} {B out : List UInt8} {i : Nat} {x : GN} (h : out ++ (g.drop i).flatMap nodeB = B) (hx : g[i]? = some x) : out.length + 3 ≤ B.length := by
  have := enc_len (enc_node (f := if x.1 = true then 1 else 0) h hx rfl)
  simp only [List.length_append, putN_len] at this; omega
theorem enc_fin {g : List GN} {out : List UInt8} {i : Nat} (h : out ++ (g.drop i).flatMap nodeB = bodyB g) (hi : g.length ≤ i) : out = bodyB g := by
  rw [List.drop_of_length_le hi] at h
  simpa using h
def encA (g : List GN) : List UInt8 := if g.isEmpty = true then [] else encB_ g
theorem encA_no {g : List GN} (h : g = []) : encA g = [] := by subst h; rfl
theorem encA_yes {g : List GN} (h : g ≠ []) : encA g = encB_ g := by
  unfold encA; rw [if_neg]; cases g <;> simp at *
def errA (g : List GN) : Int := if g.isEmpty = true then 2 else 0
theorem errA_yes {g : List GN} (h : g ≠ []) : (0 : Int) = errA g := by
  unfold errA; rw [if_neg]; cases g <;> simp at *
def imgM (words : List Str) : List UInt8 := if goodL words = 0 then encB_ (gnodes words) else []
theorem imgM_no {words : List Str} (h : goodL words ≠ 0) : ([] : List UInt8) = imgM words := by unfold imgM; rw [if_neg h]
theorem gnOf_get {g : GS} {i : Nat} {x : List Str × List Ed} (h : g[i]? = some x) : (gnOf g)[i]? = some (finB x.1, x.2) := by unfold gnOf; rw [List.getElem?_map, h]; rfl
end Go.Ml
namespace Go.Ml
open Go.Ik
theorem edges_flat (es : List Ed) : (es.flatMap edgeB).length = 6 * es.length := by
  induction es with
  | nil => rfl
  | cons e es ih => rw [List.flatMap_cons, List.length_append, ih, List.length_cons]; unfold edgeB; rw [List.length_append, putN_len, putN_len]; omega
def edgeCount (N : List GN) : Nat := (N.map fun x => x.2.length).sum
theorem nodes_flat (N : List GN) : (N.flatMap nodeB).length = 3 * N.length + 6 * edgeCount N := by
  unfold edgeCount
  induction N with
  | nil => rfl
  | cons x N ih =>
    rw [List.flatMap_cons, List.length_append, ih, List.length_cons, List.map_cons, List.sum_cons]
    unfold nodeB
    rw [List.length_append, List.length_append, putN_len, putN_len, edges_flat]; omega
theorem bodyB_len (N : List GN) : (bodyB N).length = 6 + 3 * N.length + 6 * edgeCount N := by
  unfold bodyB
  rw [List.length_append, List.length_append, putN_len, nodes_flat]
  simp only [List.length_cons, List.length_nil]; omega
theorem encB_len (N : List GN) : (encB_ N).length = 10 + 3 * N.length + 6 * edgeCount N := by
  unfold encB_ sealB
  rw [List.length_append, putN_len, bodyB_len]; omega
theorem edgeCount_le {N : List GN} {m : Nat} (h : ∀ x ∈ N, x.2.length ≤ m) : edgeCount N ≤ N.length * m := by
  unfold edgeCount
  induction N with
  | nil => simp
  | cons x N ih =>
    have h1 := h x (by simp)
    have h2 := ih fun y hy => h y (by simp [hy])
    rw [List.map_cons, List.sum_cons, List.length_cons, Nat.succ_mul]; omega
end Go.Ml
namespace Go.Ml
open Go.Ik
theorem enc_nodeT {g : GS} {out : List UInt8} {i : Nat} {gx : List Str × List Ed} (h : out ++ ((gnOf g).drop i).flatMap nodeB = bodyB (gnOf g)) (hx : g[i]? = some gx) (hb : (nodeAt (gnOf g) (i : Int)).1 = true) : out ++ putN 1 1 ++ putN (gx.2.length : Int) 2 ++ ((gx.2.drop 0).flatMap edgeB ++ ((gnOf g).drop (i + 1)).flatMap nodeB) = bodyB (gnOf g) := by
  rw [gnOf_at hx] at hb
  exact enc_node (x := (finB gx.1, gx.2)) h (gnOf_get hx) (by rw [if_pos hb])
theorem enc_nodeF {g : GS} {out : List UInt8} {i : Nat} {gx : List Str × List Ed} (h : out ++ ((gnOf g).drop i).flatMap nodeB = bodyB (gnOf g)) (hx : g[i]? = some gx) (hb : (nodeAt (gnOf g) (i : Int)).1 = false) : out ++ putN 0 1 ++ putN (gx.2.length : Int) 2 ++ ((gx.2.drop 0).flatMap edgeB ++ ((gnOf g).drop (i + 1)).flatMap nodeB) = bodyB (gnOf g) := by
  rw [gnOf_at hx] at hb
  have hb' : finB gx.1 = false := hb
  exact enc_node (x := (finB gx.1, gx.2)) h (gnOf_get hx) (by rw [if_neg (by simp [hb'])])
end Go.Ml
