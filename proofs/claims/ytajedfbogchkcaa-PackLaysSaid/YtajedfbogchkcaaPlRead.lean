/-
  Bytes read as nodes, plainly.
-/
import Derived.Test.YtajedfbogchkcaaPlImg
import Derived.Test.YtajedfbogchkcaaMGraphS
set_option linter.unusedVariables false
set_option linter.unusedSimpArgs false
namespace Go.Ml
open Go.Ik
/-- a number more: what it is, the place and whether it went wrong -/
def numR (b : List UInt8) (size : Nat) (s : Int × Bool) : Int × (Int × Bool) := if numOk b s.1 size = true then (numV b s.1 size, (s.1 + size, s.2)) else (0, (s.1, true))
theorem numR_no {b : List UInt8} {size : Nat} {a : Int} {q : Bool} (h : numOk b a size = false) : numR b size (a, q) = (0, (a, true)) := by unfold numR; rw [if_neg (by simp [h])]
theorem numR_yes {b : List UInt8} {size : Nat} {a : Int} {q : Bool} (h : numOk b a size = true) : numR b size (a, q) = (numV b a size, (a + size, q)) := by unfold numR; rw [if_pos h]
theorem numV_lt {b : List UInt8} {a : Int} {size : Nat} (h : size ≤ 4) : numV b a size < 4294967296 := by
  unfold numV
  split
  · have := num_small (i := size) (l := b.drop a.toNat) h
    simp only [Int.toNat_natCast]; omega
  · omega
theorem numR_rng {b : List UInt8} {size : Nat} {a f a2 : Int} {q q2 : Bool} (hs : size ≤ 4) (ha : 0 ≤ a ∧ a ≤ b.length) (h : numR b size (a, q) = (f, (a2, q2))) : 0 ≤ f ∧ f < 4294967296 ∧ a ≤ a2 ∧ a2 ≤ b.length ∧ a2 ≤ a + size ∧ (q = true → q2 = true) ∧ (q2 = false → a2 = a + size) := by
  have h0 := numV_rng b a size
  have h1 := numV_lt (b := b) (a := a) hs
  cases hok : numOk b a size with
  | false =>
    rw [numR_no hok] at h
    simp only [Prod.mk.injEq] at h
    obtain ⟨rfl, rfl, rfl⟩ := h
    exact ⟨by omega, by omega, by omega, by omega, by omega, fun _ => rfl, fun h => by cases h⟩
  | true =>
    rw [numR_yes hok] at h
    simp only [Prod.mk.injEq] at h
    obtain ⟨rfl, rfl, rfl⟩ := h
    unfold numOk at hok
    have := of_decide_eq_true hok
    exact ⟨h0, h1, by omega, by omega, by omega, id, fun _ => rfl⟩
theorem numR_byte {b : List UInt8} {a f a2 : Int} {q q2 : Bool} {size : Nat} (h : numR b size (a, q) = (f, (a2, q2))) (hs : size ≤ 2) : f < 65536 := by
  cases hok : numOk b a size with
  | false =>
    rw [numR_no hok] at h
    simp only [Prod.mk.injEq] at h; omega
  | true =>
    rw [numR_yes hok] at h
    simp only [Prod.mk.injEq] at h
    rw [← h.1]
    unfold numV
    rw [if_pos hok]
    have h1 := numN_pow (l := (b.drop a.toNat).take size)
    have h2 : ((b.drop a.toNat).take size).length ≤ 2 := by rw [List.length_take]; omega
    have h3 : 256 ^ ((b.drop a.toNat).take size).length ≤ 256 ^ 2 := Nat.pow_le_pow_right (by omega) h2
    simp only [Int.toNat_natCast]; omega
/-- an edge, edges, a node, nodes -/
def edgeR (b : List UInt8) (s : Int × Bool) : Ed × (Int × Bool) :=
  let r := numR b 4 s
  let t := numR b 2 (r.2.1, r.2.2 || decide (r.1 > 1114111))
  (Ed.mk (IntKind.i32.wrap r.1) t.1, t.2)
def edgesR (b : List UInt8) : Nat → Int × Bool → List Ed × (Int × Bool)
  | 0, s => ([], s)
  | n + 1, s => if s.2 = true then ([], s) else ((edgeR b s).1 :: (edgesR b n (edgeR b s).2).1, (edgesR b n (edgeR b s).2).2)
def nodeR (b : List UInt8) (s : Int × Bool) : GN × (Int × Bool) :=
  let f := numR b 1 s
  let c := numR b 2 (f.2.1, f.2.2 || decide (f.1 > 1))
  let r := edgesR b c.1.toNat c.2
  ((decide (f.1 = 1), r.1), r.2)
def nodesR (b : List UInt8) : Nat → Int × Bool → List GN × (Int × Bool)
  | 0, s => ([], s)
  | n + 1, s => if s.2 = true then ([], s) else ((nodeR b s).1 :: (nodesR b n (nodeR b s).2).1, (nodesR b n (nodeR b s).2).2)
/-- going over edges: those that were read, those that come -/
def EdsR (b : List UInt8) (n : Nat) (s0 : Int × Bool) (i : Nat) (es : List Ed) (s : Int × Bool) : Prop := edgesR b n s0 = (es ++ (edgesR b (n - i) s).1, (edgesR b (n - i) s).2)
theorem EdsR.start (b : List UInt8) (n : Nat) (s : Int × Bool) : EdsR b n s 0 [] s := by unfold EdsR; simp
theorem EdsR.step {b : List UInt8} {n i : Nat} {s0 : Int × Bool} {a : Int} {es : List Ed} {e : Ed} {s' : Int × Bool} (h : EdsR b n s0 i es (a, false)) (hi : i < n) (he : edgeR b (a, false) = (e, s')) : EdsR b n s0 (i + 1) (es ++ [e]) s' := by
  unfold EdsR at *
  rw [h]
  obtain ⟨m, hm⟩ : ∃ m, n - i = m + 1 := ⟨n - i - 1, by omega⟩
  rw [hm, show n - (i + 1) = m from by omega]
  conv => lhs; unfold edgesR
  rw [if_neg (by simp), he]
  simp
theorem EdsR.bad {b : List UInt8} {n i : Nat} {s0 : Int × Bool} {a : Int} {es : List Ed} (h : EdsR b n s0 i es (a, true)) : edgesR b n s0 = (es, (a, true)) := by
  unfold EdsR at h
  rw [h]
  cases n - i with
  | zero => simp [edgesR]
  | succ m => unfold edgesR; simp
theorem EdsR.fin {b : List UInt8} {n i : Nat} {s0 : Int × Bool} {es : List Ed} {s : Int × Bool} (h : EdsR b n s0 i es s) (hi : n ≤ i) : edgesR b n s0 = (es, s) := by
  unfold EdsR at h
  rw [show n - i = 0 from by omega] at h
  rw [h]; simp [edgesR]
end Go.Ml
namespace Go.Ml
open Go.Ik
theorem edge_eq {b : List UInt8} {s : Int × Bool} {f a1 t a2 : Int} {q1 X q2 : Bool} (h1 : (f, a1, q1) = numR b 4 s) (hX : X = (q1 || decide (f > 1114111))) (h2 : (t, a2, q2) = numR b 2 (a1, X)) : edgeR b s = (Ed.mk (IntKind.i32.wrap f) t, (a2, q2)) := by
  unfold edgeR
  simp only [← h1, ← hX, ← h2]
theorem node_eq {b : List UInt8} {a : Int} {q : Bool} {f a1 c a2 a3 : Int} {q1 X q2 q3 fin : Bool} {es : List Ed} (h1 : (f, a1, q1) = numR b 1 (a, q)) (hX : X = (q1 || decide (f > 1))) (h2 : (c, a2, q2) = numR b 2 (a1, X)) (h3 : edgesR b c.toNat (a2, q2) = (es, (a3, q3))) (hf : fin = (f == 1)) : nodeR b (a, q) = ((fin, es), (a3, q3)) := by
  unfold nodeR
  simp only [← h1, ← hX, ← h2, h3, hf]
  rfl
end Go.Ml
namespace Go.Ik
open Go Go.Ml
/-- a node that is read: its cell and its edges -/
def nbR {R : Nat → Prop} (nT eT : TypeId) (b : Nat) (fin : Bool) (es : List Ed) : Res R := exR fun v : Value => boxR [bkR b [.bool fin, v] nT, accR encE eT 2 v es]
end Go.Ik
