/-
  Images that are read: which graph they tell, plainly; and what is held on the way.
-/
import Derived.Test.YtajedfbogchkcaaPlMade
set_option linter.unusedVariables false
set_option linter.unusedSimpArgs false
namespace Go.Ml
open Go.Ik
/-- going over nodes: those that were read, those that come -/
def NdsR (b : List UInt8) (n : Nat) (s0 : Int × Bool) (i : Nat) (N : List GN) (s : Int × Bool) : Prop := nodesR b n s0 = (N ++ (nodesR b (n - i) s).1, (nodesR b (n - i) s).2)
theorem NdsR.start (b : List UInt8) (n : Nat) (s : Int × Bool) : NdsR b n s 0 [] s := by unfold NdsR; simp
theorem NdsR.step {b : List UInt8} {n i : Nat} {s0 : Int × Bool} {a : Int} {N : List GN} {e : GN} {s' : Int × Bool} (h : NdsR b n s0 i N (a, false)) (hi : i < n) (he : (e, s') = nodeR b (a, false)) : NdsR b n s0 (i + 1) (N ++ [e]) s' := by
  unfold NdsR at *
  rw [h]
  obtain ⟨m, hm⟩ : ∃ m, n - i = m + 1 := ⟨n - i - 1, by omega⟩
  rw [hm, show n - (i + 1) = m from by omega]
  conv => lhs; unfold nodesR
  rw [if_neg (by simp), ← he]
  simp
theorem NdsR.bad {b : List UInt8} {n i : Nat} {s0 : Int × Bool} {a : Int} {N : List GN} (h : NdsR b n s0 i N (a, true)) : nodesR b n s0 = (N, (a, true)) := by
  unfold NdsR at h
  rw [h]
  cases n - i with
  | zero => simp [nodesR]
  | succ m => unfold nodesR; simp
theorem NdsR.fin {b : List UInt8} {n i : Nat} {s0 : Int × Bool} {N : List GN} {s : Int × Bool} (h : NdsR b n s0 i N s) (hi : n ≤ i) : nodesR b n s0 = (N, s) := by
  unfold NdsR at h
  rw [show n - i = 0 from by omega] at h
  rw [h]; simp [nodesR]
theorem edgesR_len (b : List UInt8) : ∀ (n : Nat) (s : Int × Bool), (edgesR b n s).1.length ≤ n
  | 0, s => by simp [edgesR]
  | n + 1, s => by
    unfold edgesR
    split
    · simp
    · simp only [List.length_cons]; have := edgesR_len b n (edgeR b s).2; omega
theorem nodeR_len (b : List UInt8) (s : Int × Bool) : (nodeR b s).1.2.length ≤ 65535 := by
  unfold nodeR
  simp only
  generalize hz : numR b 2 ((numR b 1 s).2.1, (numR b 1 s).2.2 || decide ((numR b 1 s).1 > 1)) = z
  obtain ⟨z1, z2, z3⟩ := z
  have h2 := numR_byte hz (by omega)
  have h1 := edgesR_len b z1.toNat (z2, z3)
  simp only
  omega
theorem numR_at {b : List UInt8} {size : Nat} {s : Int × Bool} (hs : size ≤ 4) (ha : 0 ≤ s.1 ∧ s.1 ≤ b.length) : 0 ≤ (numR b size s).2.1 ∧ (numR b size s).2.1 ≤ b.length := by
  have := numR_rng (a := s.1) (q := s.2) hs ha (f := (numR b size s).1) (a2 := (numR b size s).2.1) (q2 := (numR b size s).2.2) rfl
  omega
theorem edgeR_at {b : List UInt8} {s : Int × Bool} (ha : 0 ≤ s.1 ∧ s.1 ≤ b.length) : 0 ≤ (edgeR b s).2.1 ∧ (edgeR b s).2.1 ≤ b.length := by
  unfold edgeR
  exact numR_at (by omega) (numR_at (by omega) ha)
theorem edgesR_at {b : List UInt8} : ∀ (n : Nat) (s : Int × Bool), 0 ≤ s.1 ∧ s.1 ≤ b.length → 0 ≤ (edgesR b n s).2.1 ∧ (edgesR b n s).2.1 ≤ b.length
  | 0, s, ha => ha
  | n + 1, s, ha => by
    unfold edgesR
    split
    · exact ha
    · exact edgesR_at n _ (edgeR_at ha)
theorem nodeR_at {b : List UInt8} {a a2 : Int} {q q2 : Bool} {x : GN} (ha : 0 ≤ a ∧ a ≤ b.length) (h : (x, (a2, q2)) = nodeR b (a, q)) : 0 ≤ a2 ∧ a2 ≤ b.length := by
  have : (nodeR b (a, q)).2.1 = a2 := by rw [← h]
  rw [← this]
  unfold nodeR
  exact edgesR_at _ _ (numR_at (s := (_, _)) (by omega) (numR_at (s := (_, _)) (by omega) ha))
/-- the graph that an image tells, and what is wrong -/
def decG (b : List UInt8) : List GN × Int :=
  if b.length < 4 then ([], 9) else
  if ¬ numV b ((b.length : Int) - 4) 4 = (sumN (b.take (b.length - 4)) : Int) then ([], 9) else
  if b.length - 4 < 4 ∨ ¬ b.take 4 = [73, 78, 75, 49] then ([], 8) else
  if (nodesR (b.take (b.length - 4)) (numR (b.take (b.length - 4)) 2 (4, false)).1.toNat (numR (b.take (b.length - 4)) 2 (4, false)).2).2.2 = true ∨ ¬ (nodesR (b.take (b.length - 4)) (numR (b.take (b.length - 4)) 2 (4, false)).1.toNat (numR (b.take (b.length - 4)) 2 (4, false)).2).2.1 = (b.length : Int) - 4 then ([], 8) else
  if madeG (nodesR (b.take (b.length - 4)) (numR (b.take (b.length - 4)) 2 (4, false)).1.toNat (numR (b.take (b.length - 4)) 2 (4, false)).2).1 = [] then ([], 8) else
  (madeG (nodesR (b.take (b.length - 4)) (numR (b.take (b.length - 4)) 2 (4, false)).1.toNat (numR (b.take (b.length - 4)) 2 (4, false)).2).1, 0)
section
variable {b : List UInt8}
theorem decG_short (h : b.length < 4) : decG b = ([], 9) := by unfold decG; rw [if_pos h]
theorem decG_sum (h1 : ¬ b.length < 4) (h2 : ¬ numV b ((b.length : Int) - 4) 4 = (sumN (b.take (b.length - 4)) : Int)) : decG b = ([], 9) := by unfold decG; rw [if_neg h1, if_pos h2]
theorem decG_head (h1 : ¬ b.length < 4) (h2 : numV b ((b.length : Int) - 4) 4 = (sumN (b.take (b.length - 4)) : Int)) (h3 : b.length - 4 < 4 ∨ ¬ b.take 4 = [73, 78, 75, 49]) : decG b = ([], 8) := by unfold decG; rw [if_neg h1, if_neg (fun k => k h2), if_pos h3]
variable {N : List GN} {a c a0 : Int} {q q0 : Bool}
theorem decG_form (h1 : ¬ b.length < 4) (h2 : numV b ((b.length : Int) - 4) 4 = (sumN (b.take (b.length - 4)) : Int)) (h3 : ¬ (b.length - 4 < 4 ∨ ¬ b.take 4 = [73, 78, 75, 49])) (h4 : (c, (a0, q0)) = numR (b.take (b.length - 4)) 2 (4, false)) (h5 : nodesR (b.take (b.length - 4)) c.toNat (a0, q0) = (N, (a, q))) (h6 : q = true ∨ ¬ a = (b.length : Int) - 4) : decG b = ([], 8) := by
  unfold decG; rw [if_neg h1, if_neg (fun k => k h2), if_neg h3, ← h4]; simp only [h5]; rw [if_pos h6]
theorem decG_none (h1 : ¬ b.length < 4) (h2 : numV b ((b.length : Int) - 4) 4 = (sumN (b.take (b.length - 4)) : Int)) (h3 : ¬ (b.length - 4 < 4 ∨ ¬ b.take 4 = [73, 78, 75, 49])) (h4 : (c, (a0, q0)) = numR (b.take (b.length - 4)) 2 (4, false)) (h5 : nodesR (b.take (b.length - 4)) c.toNat (a0, q0) = (N, (a, q))) (h6 : ¬ (q = true ∨ ¬ a = (b.length : Int) - 4)) (h7 : madeG N = []) : decG b = ([], 8) := by
  unfold decG; rw [if_neg h1, if_neg (fun k => k h2), if_neg h3, ← h4]; simp only [h5]; rw [if_neg h6, if_pos h7]
theorem decG_yes (h1 : ¬ b.length < 4) (h2 : numV b ((b.length : Int) - 4) 4 = (sumN (b.take (b.length - 4)) : Int)) (h3 : ¬ (b.length - 4 < 4 ∨ ¬ b.take 4 = [73, 78, 75, 49])) (h4 : (c, (a0, q0)) = numR (b.take (b.length - 4)) 2 (4, false)) (h5 : nodesR (b.take (b.length - 4)) c.toNat (a0, q0) = (N, (a, q))) (h6 : ¬ (q = true ∨ ¬ a = (b.length : Int) - 4)) (h7 : madeG N ≠ []) : decG b = (madeG N, 0) := by
  unfold decG; rw [if_neg h1, if_neg (fun k => k h2), if_neg h3, ← h4]; simp only [h5]; rw [if_neg h6, if_neg h7]
end
end Go.Ml
namespace Go.Ik
open Go Go.Ml
/-- nodes' edges -/
def relR {R : Nat → Prop} (nds : List RNode) (N : List GN) : Res R := ⟨fun F w => NRel w F nds N, fun h hm hF _ => h.keep hm hF⟩
theorem rel_push {R F : Nat → Prop} {w : World} {e : TypeId} {nds : List RNode} {N : List GN} {x : RNode} {n : GN} {v : Value} {es : List Ed} (hv : v = x.e.val) (hf : x.fin = n.1) (hn : es = n.2) (h : (boxR (R := R) [relR nds N, accR encE e 2 v es]).p F w) : (relR (R := R) (nds ++ [x]) (N ++ [n])).p F w := by
  obtain ⟨F1, F2, h1, h2, h3, h4⟩ := sep_pair h
  exact All2.app (NRel.mono h1 h3) (.cons ⟨hf, hv ▸ hn ▸ (acc_sl h2).mono h4⟩ .nil)
end Go.Ik
