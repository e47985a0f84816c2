import Derived.Test.YtajedfbogchkcaaLibD
/-
  Images of which a byte is another one, that are cut, or have a byte more; what is read as an image is one, plainly.
-/
set_option linter.unusedVariables false
set_option linter.unusedSimpArgs false
namespace Go.Ml
open Go.Ik
theorem xor_cancel {a b c : Nat} (h : a ^^^ c = b ^^^ c) : a = b := by
  have := congrArg (· ^^^ c) h
  simpa [Nat.xor_assoc] using this
theorem xor_cancelL {a b c : Nat} (h : c ^^^ a = c ^^^ b) : a = b := by
  rw [Nat.xor_comm c a, Nat.xor_comm c b] at h; exact xor_cancel h
theorem top_xor {a : Nat} (h : a < 2147483648) : 2147483648 ≤ a ^^^ 3988292384 := by
  have h1 : (a ^^^ 3988292384).testBit 31 = true := by
    rw [Nat.testBit_xor, Nat.testBit_lt_two_pow (show a < 2 ^ 31 from h)]; rfl
  refine Nat.le_of_not_lt fun k => ?_
  rw [Nat.testBit_lt_two_pow (show a ^^^ 3988292384 < 2 ^ 31 from k)] at h1
  cases h1
theorem crcS_inj {a b : Nat} (ha : a < 4294967296) (hb : b < 4294967296) (h : crcS a = crcS b) : a = b := by
  unfold crcS at h
  have ta := top_xor (a := a / 2) (by omega)
  have tb := top_xor (a := b / 2) (by omega)
  split at h <;> split at h
  · have := xor_cancel h; omega
  · omega
  · omega
  · omega
theorem crcK_inj {a b : Nat} (ha : a < 4294967296) (hb : b < 4294967296) : ∀ k, crcK k a = crcK k b → a = b
  | 0, h => h
  | k + 1, h => crcK_inj ha hb k (crcS_inj (crcK_lt ha k) (crcK_lt hb k) h)
theorem turnN_injL {c d x : Nat} (hc : c < 4294967296) (hd : d < 4294967296) (hx : x < 256) (h : turnN c x = turnN d x) : c = d :=
  xor_cancel (crcK_inj (xor_lt32 hc (by omega)) (xor_lt32 hd (by omega)) 8 h)
theorem turnN_injR {c x y : Nat} (hc : c < 4294967296) (hx : x < 256) (hy : y < 256) (h : turnN c x = turnN c y) : x = y :=
  xor_cancelL (crcK_inj (xor_lt32 hc (by omega)) (xor_lt32 hc (by omega)) 8 h)
theorem crcF_inj : ∀ (l : List UInt8) {c d : Nat}, c < 4294967296 → d < 4294967296 → crcF c l = crcF d l → c = d
  | [], c, d, _, _, h => h
  | x :: l, c, d, hc, hd, h => turnN_injL hc hd x.toNat_lt (crcF_inj l (turnN_lt hc x.toNat_lt) (turnN_lt hd x.toNat_lt) h)
theorem crcF_app (c : Nat) (a b : List UInt8) : crcF c (a ++ b) = crcF (crcF c a) b := by unfold crcF; rw [List.foldl_append]
theorem sumN_set {l : List UInt8} {k : Nat} {x y : UInt8} (hx : l[k]? = some x) (hy : y ≠ x) : sumN (l.set k y) ≠ sumN l := by
  intro h
  have hk := (List.getElem?_eq_some_iff.1 hx).1
  have e1 : l = l.take k ++ x :: l.drop (k + 1) := by
    have := (List.getElem?_eq_some_iff.1 hx).2
    rw [← this]; simp
  have e2 : l.set k y = l.take k ++ y :: l.drop (k + 1) := by rw [List.set_eq_take_append_cons_drop, if_pos hk]
  unfold sumN sumF at h
  have a1 := crcF_lt (l.set k y) (c := 4294967295 - 0) (by omega)
  have a2 := crcF_lt l (c := 4294967295 - 0) (by omega)
  have h2 : crcF (4294967295 - 0) (l.set k y) = crcF (4294967295 - 0) l := by omega
  rw [e2] at h2
  conv at h2 => rhs; rw [e1]
  rw [crcF_app, crcF_app] at h2
  have b1 := crcF_lt (l.take k) (c := 4294967295 - 0) (by omega)
  have h3 := crcF_inj (l.drop (k + 1)) (turnN_lt b1 y.toNat_lt) (turnN_lt b1 x.toNat_lt) h2
  have h4 := turnN_injR b1 y.toNat_lt x.toNat_lt h3
  exact hy (UInt8.toNat.inj h4)
/-- the number at the end -/
theorem numV_tail {b l : List UInt8} (h : l.length = 4) : numV (b ++ l) (((b ++ l).length : Int) - 4) 4 = (numN l : Int) := by
  have hl : (b ++ l).length = b.length + 4 := by rw [List.length_append, h]
  have hok : numOk (b ++ l) (((b ++ l).length : Int) - 4) 4 = true := by unfold numOk; exact decide_eq_true ⟨by omega, by omega, by omega, by omega, by omega⟩
  unfold numV
  rw [if_pos hok, show (((b ++ l).length : Int) - 4).toNat = b.length from by omega, List.drop_left, show (4 : Int).toNat = 4 from rfl, List.take_of_length_le (by omega)]
theorem take_tail {b l : List UInt8} (h : l.length = 4) : (b ++ l).take ((b ++ l).length - 4) = b := by
  rw [List.length_append, h, Nat.add_sub_cancel]; simp
/-- a byte that is another one is found -/
theorem dec_turned {N : List GN} {k : Nat} {x y : UInt8} (hx : (encB_ N)[k]? = some x) (hy : y ≠ x) : decG ((encB_ N).set k y) = ([], 9) := by
  have hp := putN_len (sumN (bodyB N)) 4
  have hs := sumF_lt 0 (bodyB N)
  have hnp := num_put (x := (sumN (bodyB N) : Int)) (.inr (.inr rfl) : sz124 4) (by omega) (by change (sumF 0 (bodyB N) : Int) < _; omega)
  have hk := (List.getElem?_eq_some_iff.1 hx).1
  unfold encB_ sealB at hx hk ⊢
  rw [List.length_append, hp] at hk
  by_cases h : k < (bodyB N).length
  · rw [List.set_append_left _ _ h]
    rw [List.getElem?_append_left h] at hx
    refine decG_sum (by rw [List.length_append, hp]; omega) ?_
    rw [numV_tail hp, take_tail hp, hnp]
    intro e
    exact sumN_set hx hy (by omega)
  · rw [List.set_append_right _ _ (by omega)]
    rw [List.getElem?_append_right (by omega)] at hx
    have hp2 : ((putN (sumN (bodyB N) : Int) 4).set (k - (bodyB N).length) y).length = 4 := by rw [List.length_set, hp]
    refine decG_sum (by rw [List.length_append, hp2]; omega) ?_
    rw [numV_tail hp2, take_tail hp2]
    intro e
    have e2 := put_num (.inr (.inr rfl) : sz124 4) hp2
    rw [e] at e2
    have e3 : (putN (sumN (bodyB N) : Int) 4)[k - (bodyB N).length]? = some y := by
      rw [e2, List.getElem?_set_self (by rw [hp]; omega)]
    rw [hx] at e3
    exact hy (Option.some.inj e3).symm
/-! reading on where more stands behind -/
theorem numR_ext {b r : List UInt8} {n : Nat} {a f a2 : Int} {q : Bool} (h : numR b n (a, q) = (f, (a2, false))) : numR (b ++ r) n (a, q) = (f, (a2, false)) := by
  cases hok : numOk b a n with
  | false => rw [numR_no hok] at h; simp at h
  | true =>
    rw [numR_yes hok] at h
    have hk := hok
    unfold numOk at hk
    have hk := of_decide_eq_true hk
    have hok2 : numOk (b ++ r) a n = true := by unfold numOk; rw [List.length_append]; exact decide_eq_true ⟨by omega, by omega, by omega, by omega, by omega⟩
    rw [numR_yes hok2, ← h]
    have hv : numV (b ++ r) a n = numV b a n := by
      unfold numV
      rw [if_pos hok, if_pos hok2, List.drop_append_of_le_length (by omega), List.take_append_of_le_length (by rw [List.length_drop]; omega)]
    rw [hv]
theorem numR_flag {b : List UInt8} {n : Nat} {s : Int × Bool} (h : (numR b n s).2.2 = false) : s.2 = false := by
  unfold numR at h
  split at h
  · exact h
  · cases h
theorem edgeR_ext {b r : List UInt8} {s : Int × Bool} {e : Ed} {a2 : Int} (h : edgeR b s = (e, (a2, false))) : edgeR (b ++ r) s = (e, (a2, false)) := by
  obtain ⟨a, q⟩ := s
  unfold edgeR at h ⊢
  simp only [Prod.mk.injEq] at h
  have h1 := numR_flag (s := (_, _)) (by rw [h.2])
  have h2 := (Bool.or_eq_false_iff.1 h1).1
  generalize hr : numR b 4 (a, q) = x at *
  obtain ⟨f, a1, q1⟩ := x
  dsimp only at h h1 h2 ⊢
  subst h2
  rw [numR_ext hr]
  dsimp only
  generalize hr2 : numR b 2 (a1, false || decide (f > 1114111)) = y at *
  obtain ⟨f2, a3, q3⟩ := y
  dsimp only at h ⊢
  rw [numR_ext (hr2.trans (by rw [h.2]))]
  rw [h.1]
theorem edgesR_stop {b : List UInt8} {s : Int × Bool} (h : s.2 = true) : ∀ n, (edgesR b n s).2 = s
  | 0 => rfl
  | n + 1 => by unfold edgesR; rw [if_pos h]
theorem edgesR_ext {b r : List UInt8} : ∀ (n : Nat) {s : Int × Bool} {es : List Ed} {a2 : Int}, edgesR b n s = (es, (a2, false)) → edgesR (b ++ r) n s = (es, (a2, false))
  | 0, s, es, a2, h => h
  | n + 1, s, es, a2, h => by
    unfold edgesR at h ⊢
    split at h
    · rename_i hs; simp only [Prod.mk.injEq] at h; rw [h.2] at hs; cases hs
    · rename_i hs
      rw [if_neg hs]
      simp only [Prod.mk.injEq] at h
      generalize hr : edgeR b s = x at *
      obtain ⟨e, a1, q1⟩ := x
      dsimp only at h
      cases q1 with
      | true => rw [edgesR_stop rfl] at h; simp at h
      | false =>
        rw [edgeR_ext hr]
        dsimp only
        generalize hr2 : edgesR b n (a1, false) = y at *
        obtain ⟨es2, s2⟩ := y
        dsimp only at h
        rw [edgesR_ext n (hr2.trans (by rw [h.2]))]
        rw [h.1]
theorem edgesR_flag {b : List UInt8} : ∀ (n : Nat) {s : Int × Bool}, (edgesR b n s).2.2 = false → s.2 = false := fun n s h => by
  cases hs : s.2 with
  | false => rfl
  | true => rw [edgesR_stop hs, hs] at h; cases h
theorem nodeR_ext {b r : List UInt8} {s : Int × Bool} {e : GN} {a2 : Int} (h : nodeR b s = (e, (a2, false))) : nodeR (b ++ r) s = (e, (a2, false)) := by
  obtain ⟨a, q⟩ := s
  unfold nodeR at h ⊢
  simp only [Prod.mk.injEq] at h
  have h0 := edgesR_flag _ (by rw [h.2])
  have h1 := numR_flag (s := (_, _)) h0
  have h2 := (Bool.or_eq_false_iff.1 h1).1
  generalize hr : numR b 1 (a, q) = x at *
  obtain ⟨f, a1, q1⟩ := x
  dsimp only at h h0 h1 h2 ⊢
  subst h2
  rw [numR_ext hr]
  dsimp only
  generalize hr2 : numR b 2 (a1, false || decide (f > 1)) = y at *
  obtain ⟨c, a3, q3⟩ := y
  dsimp only at h h0 ⊢
  subst h0
  rw [numR_ext hr2]
  dsimp only
  generalize hr3 : edgesR b c.toNat (a3, false) = z at *
  obtain ⟨es, s4⟩ := z
  dsimp only at h ⊢
  rw [edgesR_ext _ (hr3.trans (by rw [h.2]))]
  rw [h.1]
theorem nodesR_stop {b : List UInt8} {s : Int × Bool} (h : s.2 = true) : ∀ n, (nodesR b n s).2 = s
  | 0 => rfl
  | n + 1 => by unfold nodesR; rw [if_pos h]
theorem nodesR_ext {b r : List UInt8} : ∀ (n : Nat) {s : Int × Bool} {es : List GN} {a2 : Int}, nodesR b n s = (es, (a2, false)) → nodesR (b ++ r) n s = (es, (a2, false))
  | 0, s, es, a2, h => h
  | n + 1, s, es, a2, h => by
    unfold nodesR at h ⊢
    split at h
    · rename_i hs; simp only [Prod.mk.injEq] at h; rw [h.2] at hs; cases hs
    · rename_i hs
      rw [if_neg hs]
      simp only [Prod.mk.injEq] at h
      generalize hr : nodeR b s = x at *
      obtain ⟨e, a1, q1⟩ := x
      dsimp only at h
      cases q1 with
      | true => rw [nodesR_stop rfl] at h; simp at h
      | false =>
        rw [nodeR_ext hr]
        dsimp only
        generalize hr2 : nodesR b n (a1, false) = y at *
        obtain ⟨es2, s2⟩ := y
        dsimp only at h
        rw [nodesR_ext n (hr2.trans (by rw [h.2]))]
        rw [h.1]
theorem nodesR_flag {b : List UInt8} : ∀ (n : Nat) {s : Int × Bool}, (nodesR b n s).2.2 = false → s.2 = false := fun n s h => by
  cases hs : s.2 with
  | false => rfl
  | true => rw [nodesR_stop hs, hs] at h; cases h
/-- what an image that is read is -/
theorem decG_ok {b : List UInt8} (h : (decG b).2 = 0) : ∃ c a0 N, 8 ≤ b.length ∧ numV b ((b.length : Int) - 4) 4 = (sumN (b.take (b.length - 4)) : Int) ∧ b.take 4 = [73, 78, 75, 49] ∧ numR (b.take (b.length - 4)) 2 (4, false) = (c, (a0, false)) ∧ nodesR (b.take (b.length - 4)) c.toNat (a0, false) = (N, ((b.length : Int) - 4, false)) ∧ madeG N ≠ [] ∧ (decG b).1 = madeG N := by
  by_cases h1 : b.length < 4
  · rw [decG_short h1] at h; cases h
  by_cases h2 : ¬ numV b ((b.length : Int) - 4) 4 = (sumN (b.take (b.length - 4)) : Int)
  · rw [decG_sum h1 h2] at h; cases h
  have h2 := Classical.not_not.1 h2
  by_cases h3 : b.length - 4 < 4 ∨ ¬ b.take 4 = [73, 78, 75, 49]
  · rw [decG_head h1 h2 h3] at h; cases h
  obtain ⟨⟨c, a0, q0⟩, h4⟩ : ∃ x, numR (b.take (b.length - 4)) 2 (4, false) = x := ⟨_, rfl⟩
  obtain ⟨⟨N, a, q⟩, h5⟩ : ∃ x, nodesR (b.take (b.length - 4)) c.toNat (a0, q0) = x := ⟨_, rfl⟩
  by_cases h6 : q = true ∨ ¬ a = (b.length : Int) - 4
  · rw [decG_form h1 h2 h3 h4.symm h5 h6] at h; cases h
  by_cases h7 : madeG N = []
  · rw [decG_none h1 h2 h3 h4.symm h5 h6 h7] at h; cases h
  have hq : q = false := by cases q with
    | false => rfl
    | true => exact absurd (.inl rfl) h6
  have ha : a = (b.length : Int) - 4 := Classical.byContradiction fun k => h6 (.inr k)
  subst hq; subst ha
  have hq0 : q0 = false := nodesR_flag _ (by rw [h5])
  subst hq0
  exact ⟨c, a0, N, by omega, h2, Classical.byContradiction fun k => h3 (.inr k), h4, h5, h7, by rw [decG_yes h1 h2 h3 h4.symm h5 h6 h7]⟩
theorem decG_no {b : List UInt8} (h : (decG b).2 ≠ 0) : (decG b).1 = [] := by
  unfold decG at h ⊢
  split
  · rfl
  split
  · rfl
  split
  · rfl
  split
  · rfl
  split
  · rfl
  · rename_i h1 h2 h3 h4 h5
    rw [if_neg h1, if_neg h2, if_neg h3, if_neg h4, if_neg h5] at h
    exact absurd rfl h
theorem body_read {N : List GN} (hl : N.length < 65536) (hN : ∀ x ∈ N, gnOk x) : numR (bodyB N) 2 (4, false) = ((N.length : Int), ((6 : Int), false)) ∧ nodesR (bodyB N) N.length (6, false) = (N, (((bodyB N).length : Int), false)) := by
  have hbl := body_len2 N
  have hd4 : (bodyB N).drop 4 = putN N.length 2 ++ N.flatMap nodeB := by unfold bodyB; simp
  have h4 := numR_put (q := false) hd4 (.inr (.inl rfl)) (by omega) (by omega)
  have hd6 := drop_len hd4
  rw [putN_len] at hd6
  have h5 := nodesR_put N 6 [] (by rw [hd6]; simp) hN
  refine ⟨h4, ?_⟩
  rw [hbl]; exact h5
theorem encB_len4 (N : List GN) : (encB_ N).length = (bodyB N).length + 4 := by unfold encB_ sealB; rw [List.length_append, putN_len]
/-- an image that is cut short is none -/
theorem dec_cut {N : List GN} (hl : N.length < 65536) (hN : ∀ x ∈ N, gnOk x) : (decG ((encB_ N).take ((encB_ N).length - 1))).2 ≠ 0 := by
  intro h
  obtain ⟨c, a0, M, h1, _, _, h2, h3, _, _⟩ := decG_ok h
  obtain ⟨k1, k2⟩ := body_read hl hN
  have hb := encB_len4 N
  have hbl := body_len2 N
  rw [List.length_take] at h1 h2 h3
  rw [List.take_take, hb] at h2 h3
  have e1 : (encB_ N).take (min ((bodyB N).length + 4 - 1) ((bodyB N).length + 4) - 4) = (bodyB N).take ((bodyB N).length - 1) := by
    unfold encB_ sealB
    rw [List.take_append_of_le_length (by omega)]
    congr 1; omega
  rw [show min (min ((bodyB N).length + 4 - 1) ((bodyB N).length + 4) - 4) ((bodyB N).length + 4 - 1) = min ((bodyB N).length + 4 - 1) ((bodyB N).length + 4) - 4 from by omega, e1] at h2 h3
  have e2 : bodyB N = (bodyB N).take ((bodyB N).length - 1) ++ (bodyB N).drop ((bodyB N).length - 1) := (List.take_append_drop _ _).symm
  have h4 := numR_ext (r := (bodyB N).drop ((bodyB N).length - 1)) h2
  rw [← e2, k1] at h4
  simp only [Prod.mk.injEq] at h4
  obtain ⟨rfl, rfl, _⟩ := h4
  have h5 := nodesR_ext (r := (bodyB N).drop ((bodyB N).length - 1)) _ h3
  rw [← e2, Int.toNat_natCast, k2] at h5
  simp only [Prod.mk.injEq] at h5
  omega
/-- an image that has a byte more is none -/
theorem dec_more {N : List GN} (hl : N.length < 65536) (hN : ∀ x ∈ N, gnOk x) (y : UInt8) : (decG (encB_ N ++ [y])).2 ≠ 0 := by
  intro h
  obtain ⟨c, a0, M, h1, _, _, h2, h3, _, _⟩ := decG_ok h
  obtain ⟨k1, k2⟩ := body_read hl hN
  have hb := encB_len4 N
  have hbl := body_len2 N
  have hl5 : (encB_ N ++ [y]).length = (bodyB N).length + 5 := by rw [List.length_append, hb]; rfl
  rw [hl5] at h2 h3
  obtain ⟨z, hz⟩ : ∃ z, (encB_ N ++ [y]).take ((bodyB N).length + 5 - 4) = bodyB N ++ z := by
    refine ⟨((putN (sumN (bodyB N)) 4) ++ [y]).take 1, ?_⟩
    unfold encB_ sealB
    rw [List.append_assoc, List.take_append]
    rw [List.take_of_length_le (by omega), show (bodyB N).length + 5 - 4 - (bodyB N).length = 1 from by omega]
  rw [hz] at h2 h3
  have h4 := numR_ext (r := z) k1
  rw [h2] at h4
  simp only [Prod.mk.injEq] at h4
  obtain ⟨rfl, rfl, _⟩ := h4
  have h5 := nodesR_ext (r := z) _ k2
  rw [Int.toNat_natCast, h5] at h3
  simp only [Prod.mk.injEq] at h3
  omega
/-! edges and nodes -/
def ec (s : GS) : Nat := (s.map fun x => x.2.length).sum
theorem ec_cons (x : List Str × List Ed) (s : GS) : ec (x :: s) = x.2.length + ec s := by unfold ec; simp
theorem ec_app (s t : GS) : ec (s ++ t) = ec s + ec t := by unfold ec; simp
theorem edgesM_cnt {add : GS → List Str → GS × Nat} (h : ∀ s r, ∃ t, (add s r).1 = s ++ t ∧ t.length ≤ ec t + 1) : ∀ (gs : List (Nat × List Str)) (s : GS), (∃ t, (edgesM add s gs).1 = s ++ t ∧ t.length ≤ ec t + gs.length) ∧ (edgesM add s gs).2.length = gs.length
  | [], s => ⟨⟨[], by simp [edgesM], by simp⟩, rfl⟩
  | g :: gs, s => by
    obtain ⟨t1, e1, h1⟩ := h s g.2
    obtain ⟨⟨t2, e2, h2⟩, h3⟩ := edgesM_cnt h gs (add s g.2).1
    refine ⟨⟨t1 ++ t2, ?_, ?_⟩, ?_⟩
    · show (edgesM add (add s g.2).1 gs).1 = _
      rw [e2, e1, List.append_assoc]
    · rw [List.length_append, ec_app, List.length_cons]; omega
    · show (edgesM add (add s g.2).1 gs).2.length + 1 = _
      rw [h3]; rfl
theorem addM_cnt : ∀ (f : Nat) (s : GS) (r : List Str), ∃ t, (addM f s r).1 = s ++ t ∧ t.length ≤ ec t + 1
  | 0, s, r => ⟨[], by simp [addM], by simp⟩
  | f + 1, s, r => by
    unfold addM
    cases hi : s.findIdx? fun x => x.1 == r with
    | some i => exact ⟨[], by simp, by simp⟩
    | none =>
      obtain ⟨⟨t, e, h⟩, h3⟩ := edgesM_cnt (add := addM f) (addM_cnt f) (groups (dropE r)) (s ++ [(r, [])])
      refine ⟨(r, (edgesM (addM f) (s ++ [(r, [])]) (groups (dropE r))).2) :: t, ?_, ?_⟩
      · simp only
        rw [e, List.append_assoc, List.set_append_right _ _ (Nat.le_refl _)]
        simp
      · rw [ec_cons, List.length_cons, h3]; omega
theorem edges_nodes {words : List Str} (h : goodL words = 0) : (gnodes words).length ≤ edgeCount (gnodes words) + 1 := by
  by_cases hw : words = []
  · rw [gnodes_nil hw]; decide
  obtain ⟨t, e, k⟩ := addM_cnt 13 [] words
  have hgm : graphM words = t := e
  rw [gnodes_yes h]
  unfold graphB
  rw [if_neg hw, hgm]
  unfold edgeCount gnOf
  rw [List.length_map, List.map_map]
  exact k
theorem edgeCount_take {N : List GN} {i : Nat} (h : i < N.length) : edgeCount (N.take (i + 1)) = edgeCount (N.take i) + (nodeAt N (i : Int)).2.length := by
  unfold edgeCount
  rw [List.take_add_one, nodeAt_some h]
  simp
theorem edgeCount_all {N : List GN} {i : Nat} (h : N.length ≤ i) : edgeCount (N.take i) = edgeCount N := by rw [List.take_of_length_le h]
/-! a byte turned -/
def turnX (x : Int) : UInt8 := byN (1 + (IntKind.u64.wrap x) % 255)
def turnAt (b : List UInt8) (at_ : Int) : Nat := (lowM at_ (b.length : Int)).toNat
def turnB (b : List UInt8) (at_ x : Int) : List UInt8 := match b[turnAt b at_]? with
  | none => b
  | some y => b.set (turnAt b at_) (y ^^^ turnX x)
theorem turnX_ne (x : Int) : turnX x ≠ 0 := by
  unfold turnX
  intro h
  have h1 := byN_toNat (1 + (IntKind.u64.wrap x) % 255)
  rw [h] at h1
  have h2 := Int.emod_nonneg (IntKind.u64.wrap x) (by omega : (255 : Int) ≠ 0)
  have h3 := Int.emod_lt_of_pos (IntKind.u64.wrap x) (by omega : (0 : Int) < 255)
  have h4 : ((0 : UInt8).toNat : Int) = 0 := rfl
  omega
theorem xor_other (y : UInt8) {z : UInt8} (h : z ≠ 0) : y ^^^ z ≠ y := by
  intro e
  apply h
  have e2 := congrArg UInt8.toNat e
  rw [UInt8.toNat_xor] at e2
  have e3 : y.toNat ^^^ z.toNat = y.toNat ^^^ 0 := by rw [e2]; simp
  exact UInt8.toNat.inj (xor_cancelL e3)
theorem turnAt_lt {b : List UInt8} (h : 1 ≤ b.length) (at_ : Int) : turnAt b at_ < b.length := by
  unfold turnAt lowM
  have h2 := Int.emod_nonneg (IntKind.u64.wrap at_) (by omega : (b.length : Int) ≠ 0)
  have h3 := Int.emod_lt_of_pos (IntKind.u64.wrap at_) (by omega : (0 : Int) < (b.length : Int))
  omega
theorem turnB_yes {b : List UInt8} {at_ x : Int} {y : UInt8} (h : b[turnAt b at_]? = some y) : turnB b at_ x = b.set (turnAt b at_) (y ^^^ turnX x) := by unfold turnB; rw [h]
theorem turnB_len (b : List UInt8) (at_ x : Int) : (turnB b at_ x).length = b.length := by
  unfold turnB; split
  · rfl
  · rw [List.length_set]
theorem turnB_at {b : List UInt8} (h : 1 ≤ b.length) (at_ x : Int) : ∃ y, b[turnAt b at_]? = some y ∧ turnB b at_ x = b.set (turnAt b at_) (y ^^^ turnX x) ∧ y ^^^ turnX x ≠ y := by
  have := turnAt_lt h at_
  exact ⟨_, List.getElem?_eq_getElem this, turnB_yes (List.getElem?_eq_getElem this), xor_other _ (turnX_ne x)⟩
theorem turnB_ne {b : List UInt8} (h : 1 ≤ b.length) (at_ x : Int) : turnB b at_ x ≠ b := by
  obtain ⟨y, h1, h2, h3⟩ := turnB_at h at_ x
  intro e
  rw [h2] at e
  have e2 := congrArg (fun l : List UInt8 => l[turnAt b at_]?) e
  rw [List.getElem?_set_self (turnAt_lt h at_), h1] at e2
  exact h3 (Option.some.inj e2)
theorem img_len {words : List Str} (h : goodL words = 0) : 10 ≤ (imgM words).length := by
  rw [← enc_img h, encB_len]; omega
theorem dec_turnB {words : List Str} (h : goodL words = 0) (at_ x : Int) : decG (turnB (imgM words) at_ x) = ([], 9) := by
  have hl := img_len h
  obtain ⟨y, h1, h2, h3⟩ := turnB_at (b := imgM words) (by omega) at_ x
  rw [h2]
  rw [← enc_img h] at h1 ⊢
  exact dec_turned h1 h3
theorem cut_img {words : List Str} (h : goodL words = 0) : (decG ((imgM words).take ((imgM words).length - 1))).2 ≠ 0 ∧ (decG ((imgM words).take ((imgM words).length - 1))).1 = [] := by
  have := dec_cut (N := gnodes words) (by have := (gnodes_len h).2; omega) (gnodes_ok h)
  rw [enc_img h] at this
  exact ⟨this, decG_no this⟩
theorem more_img {words : List Str} (h : goodL words = 0) (y : UInt8) : (decG (imgM words ++ [y])).2 ≠ 0 ∧ (decG (imgM words ++ [y])).1 = [] := by
  have := dec_more (N := gnodes words) (by have := (gnodes_len h).2; omega) (gnodes_ok h) y
  rw [enc_img h] at this
  exact ⟨this, decG_no this⟩
end Go.Ml
/-
  What is read as an image is an image; the document's own reading, plainly.
-/
set_option linter.unusedVariables false
set_option linter.unusedSimpArgs false
namespace Go.Ml
open Go.Ik
theorem numR_back {b : List UInt8} {n : Nat} {a f a2 : Int} {q : Bool} (hn : sz124 n) (h : numR b n (a, q) = (f, (a2, false))) : q = false ∧ 0 ≤ a ∧ a2 = a + n ∧ a2 ≤ b.length ∧ 0 ≤ f ∧ f < 256 ^ n ∧ b.drop a.toNat = putN f n ++ b.drop a2.toNat := by
  cases hok : numOk b a n with
  | false => rw [numR_no hok] at h; simp at h
  | true =>
    rw [numR_yes hok] at h
    have hk := hok
    unfold numOk at hk
    have hk := of_decide_eq_true hk
    simp only [Prod.mk.injEq] at h
    obtain ⟨rfl, rfl, rfl⟩ := h
    have hv : numV b a n = (numN ((b.drop a.toNat).take n) : Int) := by
      unfold numV
      rw [if_pos hok, Int.toNat_natCast]
    have hl : ((b.drop a.toNat).take n).length = n := by rw [List.length_take, List.length_drop]; omega
    have hp := numN_pow (l := (b.drop a.toNat).take n)
    rw [hl] at hp
    refine ⟨rfl, by omega, rfl, by omega, by omega, by rw [hv]; have h2 := Int.ofNat_lt.2 hp; rw [Int.natCast_pow] at h2; exact h2, ?_⟩
    rw [hv, put_num hn hl, show (a + (n : Int)).toNat = a.toNat + n from by omega, ← List.drop_drop, List.take_append_drop]
theorem edgeR_back {b : List UInt8} {a a2 : Int} {q : Bool} {e : Ed} (h : edgeR b (a, q) = (e, (a2, false))) : q = false ∧ 0 ≤ a ∧ 0 ≤ a2 ∧ edOk e ∧ b.drop a.toNat = edgeB e ++ b.drop a2.toNat := by
  unfold edgeR at h
  simp only [Prod.mk.injEq] at h
  generalize hr : numR b 4 (a, q) = x at *
  obtain ⟨f, a1, q1⟩ := x
  dsimp only at h
  generalize hr2 : numR b 2 (a1, q1 || decide (f > 1114111)) = y at *
  obtain ⟨t, a3, q3⟩ := y
  dsimp only at h
  obtain ⟨rfl, h⟩ := h
  simp only [Prod.mk.injEq] at h
  obtain ⟨rfl, rfl⟩ := h
  obtain ⟨k1, k2, k3, k4, k5, k6, k7⟩ := numR_back (.inr (.inl rfl)) hr2
  obtain ⟨rfl, k8⟩ := Bool.or_eq_false_iff.1 k1
  obtain ⟨rfl, l2, l3, l4, l5, l6, l7⟩ := numR_back (.inr (.inr rfl)) hr
  have hf : ¬ f > 1114111 := of_decide_eq_false k8
  have hw := wrap32 l5 (by omega)
  refine ⟨rfl, l2, by omega, ⟨by dsimp only; rw [hw]; exact l5, by dsimp only; rw [hw]; omega, k5, by dsimp only; omega⟩, ?_⟩
  rw [l7, k7]
  unfold edgeB
  rw [hw, List.append_assoc]
theorem edgesR_back {b : List UInt8} : ∀ (n : Nat) {a a2 : Int} {es : List Ed}, edgesR b n (a, false) = (es, (a2, false)) → 0 ≤ a → es.length = n ∧ (∀ e ∈ es, edOk e) ∧ 0 ≤ a2 ∧ b.drop a.toNat = es.flatMap edgeB ++ b.drop a2.toNat
  | 0, a, a2, es, h, ha => by
    unfold edgesR at h
    simp only [Prod.mk.injEq] at h
    obtain ⟨rfl, rfl, _⟩ := h
    exact ⟨rfl, by simp, ha, by simp⟩
  | n + 1, a, a2, es, h, ha => by
    unfold edgesR at h
    rw [if_neg (by simp)] at h
    simp only [Prod.mk.injEq] at h
    generalize hr : edgeR b (a, false) = x at *
    obtain ⟨e, a1, q1⟩ := x
    dsimp only at h
    generalize hr2 : edgesR b n (a1, q1) = y at *
    obtain ⟨es2, s2⟩ := y
    dsimp only at h
    obtain ⟨rfl, rfl⟩ := h
    have hq := edgesR_flag n (s := (a1, q1)) (by rw [hr2])
    dsimp only at hq
    subst hq
    obtain ⟨_, k2, k3, k4, k5⟩ := edgeR_back hr
    obtain ⟨l1, l2, l3, l4⟩ := edgesR_back n hr2 k3
    refine ⟨by rw [List.length_cons, l1], fun e' he => ?_, l3, by rw [k5, l4, List.flatMap_cons, List.append_assoc]⟩
    rcases List.mem_cons.1 he with rfl | he
    · exact k4
    · exact l2 e' he
theorem nodeR_back {b : List UInt8} {a a2 : Int} {q : Bool} {x : GN} (h : nodeR b (a, q) = (x, (a2, false))) : q = false ∧ 0 ≤ a ∧ 0 ≤ a2 ∧ gnOk x ∧ b.drop a.toNat = nodeB x ++ b.drop a2.toNat := by
  unfold nodeR at h
  simp only [Prod.mk.injEq] at h
  generalize hr : numR b 1 (a, q) = x1 at *
  obtain ⟨f, a1, q1⟩ := x1
  dsimp only at h
  generalize hr2 : numR b 2 (a1, q1 || decide (f > 1)) = y at *
  obtain ⟨c, a3, q3⟩ := y
  dsimp only at h
  generalize hr3 : edgesR b c.toNat (a3, q3) = z at *
  obtain ⟨es, s4⟩ := z
  dsimp only at h
  obtain ⟨rfl, rfl⟩ := h
  have hq := edgesR_flag _ (s := (a3, q3)) (by rw [hr3])
  dsimp only at hq
  subst hq
  obtain ⟨k1, k2, k3, k4, k5, k6, k7⟩ := numR_back (.inr (.inl rfl)) hr2
  obtain ⟨rfl, k8⟩ := Bool.or_eq_false_iff.1 k1
  obtain ⟨rfl, l2, l3, l4, l5, l6, l7⟩ := numR_back (.inl rfl) hr
  obtain ⟨m1, m2, m3, m4⟩ := edgesR_back _ hr3 (by omega)
  have hf : ¬ f > 1 := of_decide_eq_false k8
  refine ⟨rfl, l2, m3, ⟨by dsimp only; omega, m2⟩, ?_⟩
  rw [l7, k7, m4]
  unfold nodeB
  dsimp only
  have e1 : (if decide (f = 1) = true then (1 : Int) else 0) = f := by
    by_cases h1 : f = 1
    · rw [if_pos (decide_eq_true h1)]; exact h1.symm
    · rw [if_neg (by simpa using h1)]; omega
  rw [e1, m1, show ((c.toNat : Nat) : Int) = c from by omega]
  simp only [List.append_assoc]
theorem nodesR_back {b : List UInt8} : ∀ (n : Nat) {a a2 : Int} {N : List GN}, nodesR b n (a, false) = (N, (a2, false)) → 0 ≤ a → N.length = n ∧ (∀ x ∈ N, gnOk x) ∧ 0 ≤ a2 ∧ b.drop a.toNat = N.flatMap nodeB ++ b.drop a2.toNat
  | 0, a, a2, N, h, ha => by
    unfold nodesR at h
    simp only [Prod.mk.injEq] at h
    obtain ⟨rfl, rfl, _⟩ := h
    exact ⟨rfl, by simp, ha, by simp⟩
  | n + 1, a, a2, N, h, ha => by
    unfold nodesR at h
    rw [if_neg (by simp)] at h
    simp only [Prod.mk.injEq] at h
    generalize hr : nodeR b (a, false) = x at *
    obtain ⟨e, a1, q1⟩ := x
    dsimp only at h
    generalize hr2 : nodesR b n (a1, q1) = y at *
    obtain ⟨es2, s2⟩ := y
    dsimp only at h
    obtain ⟨rfl, rfl⟩ := h
    have hq := nodesR_flag n (s := (a1, q1)) (by rw [hr2])
    dsimp only at hq
    subst hq
    obtain ⟨_, k2, k3, k4, k5⟩ := nodeR_back hr
    obtain ⟨l1, l2, l3, l4⟩ := nodesR_back n hr2 k3
    refine ⟨by rw [List.length_cons, l1], fun e' he => ?_, l3, by rw [k5, l4, List.flatMap_cons, List.append_assoc]⟩
    rcases List.mem_cons.1 he with rfl | he
    · exact k4
    · exact l2 e' he
/-- what is read is an image -/
theorem decG_back {b : List UInt8} (h : (decG b).2 = 0) : ∃ N, b = encB_ N ∧ madeG N ≠ [] ∧ (decG b).1 = madeG N := by
  obtain ⟨c, a0, N, h1, h2, h3, h4, h5, h6, h7⟩ := decG_ok h
  refine ⟨N, ?_, h6, h7⟩
  have hbl : (b.take (b.length - 4)).length = b.length - 4 := by rw [List.length_take]; omega
  obtain ⟨_, _, k3, k4, k5, k6, k7⟩ := numR_back (.inr (.inl rfl)) h4
  obtain ⟨m1, m2, m3, m4⟩ := nodesR_back _ h5 (by omega)
  rw [List.drop_of_length_le (l := b.take (b.length - 4)) (i := ((b.length : Int) - 4).toNat) (by rw [hbl]; omega), List.append_nil] at m4
  have hbody : b.take (b.length - 4) = bodyB N := by
    rw [← List.take_append_drop 4 (b.take (b.length - 4)), List.take_take, show min 4 (b.length - 4) = 4 from by omega, h3]
    have k7' : (b.take (b.length - 4)).drop 4 = putN c 2 ++ (b.take (b.length - 4)).drop a0.toNat := k7
    rw [k7', m4]
    unfold bodyB
    rw [m1, show ((c.toNat : Nat) : Int) = c from by omega, List.append_assoc]
  have hd : (b.drop (b.length - 4)).length = 4 := by rw [List.length_drop]; omega
  have e1 : b = b.take (b.length - 4) ++ b.drop (b.length - 4) := (List.take_append_drop _ _).symm
  have h2' := numV_tail (b := b.take (b.length - 4)) hd
  rw [← e1, h2] at h2'
  have e2 := put_num (.inr (.inr rfl) : sz124 4) hd
  rw [← h2'] at e2
  unfold encB_ sealB
  rw [← hbody, e2]
  exact e1
theorem read_img {b : List UInt8} (h : (decG b).2 = 0) : ∃ words, goodL words = 0 ∧ b = imgM words ∧ (decG b).1 = gnodes words := by
  obtain ⟨N, h1, h2, h3⟩ := decG_back h
  by_cases hc : rightE N = true ∧ N.length ≠ 0 ∧ N.length ≤ 721 ∧ wholeM N = true ∧ (someM N).2 = true ∧ goodL (someM N).1 = 0 ∧ gnodes (someM N).1 = N
  · refine ⟨(someM N).1, hc.2.2.2.2.2.1, ?_, by rw [h3, madeG_yes hc]⟩
    rw [← enc_img hc.2.2.2.2.2.1, hc.2.2.2.2.2.2]; exact h1
  · exact absurd (madeG_no hc) h2
/-! the document's own -/
abbrev RP := Bool × List (Int × Int)
def edgeP (b : List UInt8) (s : Int × Bool) : (Int × Int) × (Int × Bool) := (((numR b 4 s).1, (numR b 2 (numR b 4 s).2).1), (numR b 2 (numR b 4 s).2).2)
def edgesP (b : List UInt8) : Nat → Int × Bool → List (Int × Int) × (Int × Bool)
  | 0, s => ([], s)
  | n + 1, s => if s.2 = true then ([], s) else ((edgeP b s).1 :: (edgesP b n (edgeP b s).2).1, (edgesP b n (edgeP b s).2).2)
def nodeP (b : List UInt8) (s : Int × Bool) : RP × (Int × Bool) :=
  ((decide ((numR b 1 s).1 = 1), (edgesP b (numR b 2 (numR b 1 s).2).1.toNat (numR b 2 (numR b 1 s).2).2).1), (edgesP b (numR b 2 (numR b 1 s).2).1.toNat (numR b 2 (numR b 1 s).2).2).2)
def nodesP (b : List UInt8) : Nat → Int × Bool → List RP × (Int × Bool)
  | 0, s => ([], s)
  | n + 1, s => if s.2 = true then ([], s) else ((nodeP b s).1 :: (nodesP b n (nodeP b s).2).1, (nodesP b n (nodeP b s).2).2)
def edP (e : Ed) : Int × Int := (e.rune, e.to)
def gnP (x : GN) : RP := (x.1, x.2.map edP)
theorem edgeP_put {b r : List UInt8} {a : Nat} {e : Ed} (h : b.drop a = edgeB e ++ r) (he : edOk e) : edgeP b ((a : Int), false) = (edP e, (((a + 6 : Nat) : Int), false)) := by
  unfold edOk at he
  unfold edgeB at h
  rw [List.append_assoc] at h
  have k1 := numR_put (q := false) h (.inr (.inr rfl)) (by omega) (by omega)
  have k2 := drop_len h
  rw [putN_len] at k2
  have k3 := numR_put (q := false) k2 (.inr (.inl rfl)) (by omega) (by omega)
  unfold edgeP edP
  rw [k1]; dsimp only; rw [k3]
theorem edgesP_put {b : List UInt8} : ∀ (es : List Ed) (a : Nat) (r : List UInt8), b.drop a = es.flatMap edgeB ++ r → (∀ e ∈ es, edOk e) → edgesP b es.length ((a : Int), false) = (es.map edP, (((a + 6 * es.length : Nat) : Int), false))
  | [], a, r, h, _ => by simp [edgesP]
  | e :: es, a, r, h, hx => by
    rw [List.flatMap_cons, List.append_assoc] at h
    have k1 := edgeP_put h (hx e (by simp))
    have k2 := drop_len h
    rw [edgeB_len] at k2
    have k3 := edgesP_put es (a + 6) r k2 (fun e h => hx e (by simp [h]))
    rw [List.length_cons]
    conv => lhs; unfold edgesP
    rw [if_neg (by simp), k1]
    simp only [k3, List.map_cons]
    rw [show a + 6 + 6 * es.length = a + 6 * (es.length + 1) from by omega]
theorem nodeP_put {b r : List UInt8} {a : Nat} {x : GN} (h : b.drop a = nodeB x ++ r) (hx : gnOk x) : nodeP b ((a : Int), false) = (gnP x, (((a + ndLen x : Nat) : Int), false)) := by
  unfold gnOk at hx
  unfold nodeB at h
  rw [List.append_assoc, List.append_assoc] at h
  have hf : 0 ≤ (if x.1 = true then (1 : Int) else 0) ∧ (if x.1 = true then (1 : Int) else 0) < 256 := by split <;> omega
  have k1 := numR_put (q := false) h (.inl rfl) hf.1 (by have := hf.2; omega)
  have k2 := drop_len h
  rw [putN_len] at k2
  have k3 := numR_put (q := false) k2 (.inr (.inl rfl)) (by omega) (by have := hx.1; omega)
  have k4 := drop_len k2
  rw [putN_len] at k4
  have k5 := edgesP_put x.2 _ r k4 hx.2
  unfold nodeP gnP ndLen
  rw [k1]; dsimp only; rw [k3]; dsimp only
  rw [Int.toNat_natCast, k5]; dsimp only
  have e1 : decide ((if x.1 = true then (1 : Int) else 0) = 1) = x.1 := by cases x.1 <;> rfl
  rw [e1, show a + 1 + 2 + 6 * x.2.length = a + (3 + 6 * x.2.length) from by omega]
theorem nodesP_put {b : List UInt8} : ∀ (N : List GN) (a : Nat) (r : List UInt8), b.drop a = N.flatMap nodeB ++ r → (∀ x ∈ N, gnOk x) → nodesP b N.length ((a : Int), false) = (N.map gnP, (((a + ndsLen N : Nat) : Int), false))
  | [], a, r, h, _ => by simp [nodesP, ndsLen]
  | x :: N, a, r, h, hx => by
    rw [List.flatMap_cons, List.append_assoc] at h
    have k1 := nodeP_put h (hx x (by simp))
    have k2 := drop_len h
    rw [nodeB_len2] at k2
    have k3 := nodesP_put N (a + ndLen x) r k2 (fun e h => hx e (by simp [h]))
    rw [List.length_cons]
    conv => lhs; unfold nodesP
    rw [if_neg (by simp), k1]
    simp only [k3, List.map_cons]
    rw [show a + ndLen x + ndsLen N = a + ndsLen (x :: N) from by unfold ndsLen; simp only [List.map_cons, List.sum_cons]; omega]
/-- an edge after the other: each has to tell a word at least -/
def eachP (g : List Str → Int × Int → List Str × Bool) : List Str → List (Int × Int) → List Str × Bool
  | out, [] => (out, true)
  | out, e :: es => if e.1 > 1114111 then (out, false) else if (g out e).2 = false ∨ (g out e).1.length = out.length then ((g out e).1, false) else eachP g (g out e).1 es
/-- the words that nodes tell, as the document reads them -/
def wordsP (N : List RP) : Nat → Int → Int → Str → List Str → List Str × Bool
  | 0, _, _, _, out => (out, false)
  | f + 1, n, d, a, out => if n < 0 ∨ n ≥ N.length ∨ d > 12 ∨ out.length > 60 then (out, false) else match N[n.toNat]? with
    | none => (out, false)
    | some x => eachP (fun out e => wordsP N f e.2 (d + 1) (a ++ encR e.1) out) (if x.1 = true then out ++ [a] else out) x.2
theorem eachP_len {g : List Str → Int × Int → List Str × Bool} (h : ∀ out e, out.length ≤ 61 → (g out e).1.length ≤ 61) : ∀ (es : List (Int × Int)) (out : List Str), out.length ≤ 61 → (eachP g out es).1.length ≤ 61
  | [], out, ho => ho
  | e :: es, out, ho => by
    unfold eachP
    split
    · exact ho
    · split
      · exact h out e ho
      · exact eachP_len h es _ (h out e ho)
theorem wordsP_len (N : List RP) : ∀ (f : Nat) (n d : Int) (a : Str) (out : List Str), out.length ≤ 61 → (wordsP N f n d a out).1.length ≤ 61
  | 0, _, _, _, out, h => h
  | f + 1, n, d, a, out, h => by
    unfold wordsP
    split
    · exact h
    · rename_i hn
      split
      · exact h
      · refine eachP_len (fun out e h => wordsP_len N f _ _ _ out h) _ _ ?_
        split
        · rw [List.length_append]; simp only [List.length_cons, List.length_nil]
          have : ¬ out.length > 60 := fun k => hn (.inr (.inr (.inr k)))
          omega
        · exact h
theorem eachP_short {g : List Str → Int × Int → List Str × Bool} (h : ∀ out e, (∀ t ∈ out, t.length ≤ 1000) → ∀ t ∈ (g out e).1, t.length ≤ 1000) : ∀ (es : List (Int × Int)) (out : List Str), (∀ t ∈ out, t.length ≤ 1000) → ∀ t ∈ (eachP g out es).1, t.length ≤ 1000
  | [], out, ho => ho
  | e :: es, out, ho => by
    unfold eachP
    split
    · exact ho
    · split
      · exact h out e ho
      · exact eachP_short h es _ (h out e ho)
theorem wordsP_short (N : List RP) : ∀ (f : Nat) (n d : Int) (a : Str) (out : List Str), (a.length : Int) ≤ 4 * d → (∀ t ∈ out, t.length ≤ 1000) → ∀ t ∈ (wordsP N f n d a out).1, t.length ≤ 1000
  | 0, _, _, _, out, _, h => h
  | f + 1, n, d, a, out, ha, h => by
    unfold wordsP
    split
    · exact h
    · rename_i hn
      split
      · exact h
      · refine eachP_short (fun out e h => wordsP_short N f _ _ _ out (by have := encR_le e.1; simp only [List.length_append]; omega) h) _ _ ?_
        have : ¬ d > 12 := fun k => hn (.inr (.inr (.inl k)))
        split
        · intro t ht
          rcases List.mem_append.1 ht with ht | ht
          · exact h t ht
          · simp only [List.mem_singleton] at ht; subst ht; omega
        · exact h
section
variable {s : GS}
theorem eachP_ok {a : Str} {d : Int} {f : Nat} {N : List RP} (hih : ∀ (n : Nat) (a : Str) (l : List Str) (y : List Str × List Ed), s[n]? = some y → d + 1 + dpL y.1 ≤ 12 → l.length + y.1.length ≤ 60 → wordsP N f (n : Int) (d + 1) a l = (l ++ y.1.map (a ++ ·), true)) :
    ∀ {gs : List (Nat × List Str)} {es : List Ed}, All2 (fun g e => e.rune = (g.1 : Int) ∧ ∃ (j : Nat) (es : List Ed), e.to = (j : Int) ∧ s[j]? = some (g.2, es)) gs es → (∀ g ∈ gs, goodN g.1 ∧ g.2 ≠ [] ∧ d + 1 + dpL g.2 ≤ 12) → ∀ l : List Str, l.length + (gs.flatMap fun g => g.2.map (encL g.1 ++ ·)).length ≤ 60 →
      eachP (fun out e => wordsP N f e.2 (d + 1) (a ++ encR e.1) out) l (es.map edP) = (l ++ (gs.flatMap fun g => g.2.map (encL g.1 ++ ·)).map (a ++ ·), true) := by
  intro gs es h
  induction h with
  | nil => intro _ l _; simp [eachP]
  | @cons g e gs es hge hr ih2 =>
    intro hg l hl
    obtain ⟨h1, j, es', h2, h3⟩ := hge
    obtain ⟨k1, k3, k2⟩ := hg g (by simp)
    have k1' := k1
    unfold goodN at k1'
    rw [List.flatMap_cons, List.length_append, List.length_map] at hl
    have hcall : wordsP N f (edP e).2 (d + 1) (a ++ encR (edP e).1) l = (l ++ g.2.map ((a ++ encL g.1) ++ ·), true) := by
      show wordsP N f e.to (d + 1) (a ++ encR e.rune) l = _
      rw [h2, h1, encR_L k1]
      exact hih j _ l (g.2, es') h3 k2 (by simp only; omega)
    have hpos : 0 < g.2.length := List.length_pos_iff.2 k3
    rw [List.map_cons]
    unfold eachP
    rw [if_neg (by show ¬ e.rune > _; omega), hcall, if_neg (by rintro (h | h); cases h; simp only [List.length_append, List.length_map] at h; omega)]
    rw [ih2 (fun g' hg' => hg g' (by simp [hg'])) _ (by simp only [List.length_append, List.length_map]; omega)]
    rw [List.flatMap_cons, List.map_append, List.map_map, List.append_assoc]
    congr 3
    apply List.map_congr_left
    intro t _
    simp
theorem wordsP_ok (hnode : ∀ y ∈ s, Corr s y ∧ GoodR y.1) : ∀ (f n : Nat) (a : Str) (d : Int) (l : List Str) (y : List Str × List Ed), s[n]? = some y → 0 ≤ d → d + dpL y.1 ≤ 12 → 13 ≤ d + f → l.length + y.1.length ≤ 60 → wordsP ((gnOf s).map gnP) (f + 1) (n : Int) d a l = (l ++ y.1.map (a ++ ·), true) := by
  intro f
  induction f with
  | zero => intro n a d l y hn h0 h1 h2 _; omega
  | succ f ih =>
    intro n a d l y hn h0 h1 h2 hl
    obtain ⟨hc, hg⟩ := hnode y (List.mem_of_getElem? hn)
    have hlt := (List.getElem?_eq_some_iff.1 hn).1
    have hgl : ((gnOf s).map gnP).length = s.length := by rw [List.length_map, gnOf_len]
    have hall := rests_all (x := y) hg
    have hx : ((gnOf s).map gnP)[((n : Int)).toNat]? = some (gnP (finB y.1, y.2)) := by rw [Int.toNat_natCast, List.getElem?_map, gnOf_get' hn]; rfl
    conv => lhs; unfold wordsP
    rw [if_neg (by rw [hgl]; rintro (h | h | h | h) <;> omega), hx]
    rw [show gnP (finB y.1, y.2) = (finB y.1, y.2.map edP) from rfl]
    dsimp only
    have hlen := congrArg List.length hall
    rw [List.length_append] at hlen
    have key := fun l0 hl0 => eachP_ok (s := s) (a := a) (d := d) (f := f + 1) (N := (gnOf s).map gnP) (fun n a l y hn hd hl => ih n a (d + 1) l y hn (by omega) hd (by omega) hl) hc (fun g hgm => ⟨(mem_group hg hgm).1, (mem_group hg hgm).2.1, by have := dpL_group hg hgm; omega⟩) l0 hl0
    cases hf : finB y.1 with
    | true =>
      rw [hf, if_pos rfl] at hall
      rw [hf, if_pos rfl] at hlen
      rw [if_pos rfl, key _ (by simp only [List.length_append, List.length_cons, List.length_nil] at hlen ⊢; omega)]
      conv => rhs; rw [hall]
      simp
    | false =>
      rw [hf, if_neg (by decide)] at hall
      rw [hf, if_neg (by decide)] at hlen
      rw [if_neg (by decide), key _ (by simp only [List.length_nil] at hlen ⊢; omega)]
      conv => rhs; rw [hall]
      simp
end
/-- are the last four bytes the sum of the others? -/
def openB (b : List UInt8) : Bool := decide (¬ b.length < 4 ∧ numV b ((b.length : Int) - 4) 4 = (sumN (b.take (b.length - 4)) : Int))
/-- the words of an image, as the document reads it, and what is wrong -/
def decP (b : List UInt8) : List Str × Int :=
  if openB b = false then ([], 9) else
  if (nodesP b (numR b 2 (4, false)).1.toNat (numR b 2 (4, false)).2).2.2 = true then ([], 8) else
  if (wordsP (nodesP b (numR b 2 (4, false)).1.toNat (numR b 2 (4, false)).2).1 14 0 0 [] []).2 = false then ([], 8) else
  if ¬ goodL (wordsP (nodesP b (numR b 2 (4, false)).1.toNat (numR b 2 (4, false)).2).1 14 0 0 [] []).1 = 0 ∨ ¬ imgM (wordsP (nodesP b (numR b 2 (4, false)).1.toNat (numR b 2 (4, false)).2).1 14 0 0 [] []).1 = b then ([], 8) else
  ((wordsP (nodesP b (numR b 2 (4, false)).1.toNat (numR b 2 (4, false)).2).1 14 0 0 [] []).1, 0)
theorem decP_shut {b : List UInt8} (h : openB b = false) : decP b = ([], 9) := by unfold decP; rw [if_pos h]
section
variable {b : List UInt8} {c a0 a : Int} {q0 q ok : Bool} {N : List RP} {l : List Str}
theorem decP_bad (h : openB b = true) (h1 : (c, (a0, q0)) = numR b 2 (4, false)) (h2 : nodesP b c.toNat (a0, q0) = (N, (a, q))) (h3 : q = true) : decP b = ([], 8) := by
  unfold decP; rw [if_neg (by simp [h]), ← h1]; simp only [h2]; rw [if_pos h3]
theorem decP_no (h : openB b = true) (h1 : (c, (a0, q0)) = numR b 2 (4, false)) (h2 : nodesP b c.toNat (a0, q0) = (N, (a, q))) (h3 : q = false) (h4 : wordsP N 14 0 0 [] [] = (l, ok)) (h5 : ok = false) : decP b = ([], 8) := by
  unfold decP; rw [if_neg (by simp [h]), ← h1]; simp only [h2]; rw [if_neg (by simp [h3]), if_pos (by rw [h4]; exact h5)]
theorem decP_other (h : openB b = true) (h1 : (c, (a0, q0)) = numR b 2 (4, false)) (h2 : nodesP b c.toNat (a0, q0) = (N, (a, q))) (h3 : q = false) (h4 : wordsP N 14 0 0 [] [] = (l, ok)) (h5 : ok = true) (h6 : ¬ goodL l = 0 ∨ ¬ imgM l = b) : decP b = ([], 8) := by
  unfold decP; rw [if_neg (by simp [h]), ← h1]; simp only [h2, h4]; rw [if_neg (by simp [h3]), if_neg (by simp [h5]), if_pos h6]
theorem decP_yes (h : openB b = true) (h1 : (c, (a0, q0)) = numR b 2 (4, false)) (h2 : nodesP b c.toNat (a0, q0) = (N, (a, q))) (h3 : q = false) (h4 : wordsP N 14 0 0 [] [] = (l, ok)) (h5 : ok = true) (h6 : ¬ (¬ goodL l = 0 ∨ ¬ imgM l = b)) : decP b = (l, 0) := by
  unfold decP; rw [if_neg (by simp [h]), ← h1]; simp only [h2, h4]; rw [if_neg (by simp [h3]), if_neg (by simp [h5]), if_neg h6]
end
theorem decP_range (b : List UInt8) : decP b = ([], 9) ∧ openB b = false ∨ (decP b = ([], 8) ∧ openB b = true) ∨ (openB b = true ∧ (decP b).2 = 0 ∧ goodL (decP b).1 = 0 ∧ imgM (decP b).1 = b) := by
  cases ho : openB b with
  | false => exact .inl ⟨decP_shut ho, rfl⟩
  | true =>
    right
    obtain ⟨⟨c, a0, q0⟩, h1⟩ : ∃ x, x = numR b 2 (4, false) := ⟨_, rfl⟩
    obtain ⟨⟨N, a, q⟩, h2⟩ : ∃ x, nodesP b c.toNat (a0, q0) = x := ⟨_, rfl⟩
    cases h3 : q with
    | true => exact .inl ⟨decP_bad ho h1 h2 h3, rfl⟩
    | false =>
      obtain ⟨⟨l, ok⟩, h4⟩ : ∃ x, wordsP N 14 0 0 [] [] = x := ⟨_, rfl⟩
      cases h5 : ok with
      | false => exact .inl ⟨decP_no ho h1 h2 h3 h4 h5, rfl⟩
      | true =>
        by_cases h6 : ¬ goodL l = 0 ∨ ¬ imgM l = b
        · exact .inl ⟨decP_other ho h1 h2 h3 h4 h5 h6, rfl⟩
        · rw [decP_yes ho h1 h2 h3 h4 h5 h6]
          exact .inr ⟨rfl, rfl, Classical.byContradiction fun k => h6 (.inl k), Classical.byContradiction fun k => h6 (.inr k)⟩
theorem decG_shut {b : List UInt8} (h : openB b = false) : decG b = ([], 9) := by
  unfold openB at h
  have h := of_decide_eq_false h
  by_cases h1 : b.length < 4
  · exact decG_short h1
  · exact decG_sum h1 fun k => h ⟨h1, k⟩
theorem decG_open {b : List UInt8} (h : openB b = true) : (decG b).2 = 0 ∨ decG b = ([], 8) := by
  unfold openB at h
  obtain ⟨h1, h2⟩ := of_decide_eq_true h
  unfold decG
  rw [if_neg h1, if_neg (fun k => k h2)]
  split
  · exact .inr rfl
  split
  · exact .inr rfl
  split
  · exact .inr rfl
  · exact .inl rfl
/-- the document reads an image of words as them -/
theorem decP_img {words : List Str} (h : goodL words = 0) : decP (imgM words) = (words, 0) := by
  have hgn := gnodes_ok h
  have hl := (gnodes_len h).2
  have hdec := dec_img h
  have hopen : openB (imgM words) = true := by
    cases ho : openB (imgM words) with
    | true => rfl
    | false => rw [decG_shut ho] at hdec; simp at hdec
  have he : imgM words = bodyB (gnodes words) ++ putN (sumN (bodyB (gnodes words))) 4 := by rw [← enc_img h]; rfl
  have hd4 : (imgM words).drop 4 = putN (gnodes words).length 2 ++ ((gnodes words).flatMap nodeB ++ putN (sumN (bodyB (gnodes words))) 4) := by rw [he]; unfold bodyB; simp
  have h4 := numR_put (q := false) hd4 (.inr (.inl rfl)) (by omega) (by omega)
  have hd6 := drop_len hd4
  rw [putN_len] at hd6
  have h5 := nodesP_put _ 6 _ hd6 hgn
  have hw : wordsP ((gnodes words).map gnP) 14 0 0 [] [] = (words, true) := by
    by_cases hw : words = []
    · subst hw
      rw [gnodes_nil rfl]; decide
    · have hgd := good_deep h
      have hok := graphM_ok hgd.2 hgd.1 hw
      have hN := gnodes_yes h
      unfold graphB at hN
      rw [if_neg hw] at hN
      obtain ⟨es0, h0⟩ := hok.root
      have hdw := dpL_le hgd.2
      have := wordsP_ok (s := graphM words) (fun y hy => ⟨(hok.node y hy).corr, (hok.node y hy).good⟩) 13 0 [] 0 [] (words, es0) h0 (by omega) (by simp only; omega) (by omega) (by have := (good_words h).1; simp only [List.length_nil]; omega)
      rw [hN]
      simpa using this
  exact decP_yes hopen h4.symm (by rw [Int.toNat_natCast]; exact h5) rfl hw rfl (by rintro (k | k); exact k h; exact k rfl)
/-- both read alike -/
theorem reads_same (b : List UInt8) : (decG b).2 = (decP b).2 ∧ ((decG b).2 = 0 → goodL (decP b).1 = 0 ∧ (decG b).1 = gnodes (decP b).1) := by
  rcases decP_range b with ⟨h1, h2⟩ | ⟨h1, h2⟩ | ⟨h1, h2, h3, h4⟩
  · rw [decG_shut h2, h1]
    exact ⟨rfl, fun h => by cases h⟩
  · rcases decG_open h2 with h | h
    · obtain ⟨words, k1, k2, k3⟩ := read_img h
      rw [k2, decP_img k1] at h1
      simp at h1
    · rw [h, h1]
      exact ⟨rfl, fun h => by cases h⟩
  · have k := dec_img h3
    rw [h4] at k
    rw [k, h2]
    exact ⟨rfl, fun _ => ⟨h3, rfl⟩⟩
end Go.Ml
/-
  Plain law of chapter 8: words that have a beginning more.
-/
set_option linter.unusedVariables false
set_option linter.unusedSimpArgs false
namespace Go.Ml
open Go.Ik

/-! names alone -/
def nmM : Nat → List (List Str) → List Str → List (List Str)
  | 0, ns, _ => ns
  | f + 1, ns, r => if r ∈ ns then ns else (groups (dropE r)).foldl (fun a g => nmM f a g.2) (ns ++ [r])
theorem nm_succ (f : Nat) (ns : List (List Str)) (r : List Str) : nmM (f + 1) ns r = if r ∈ ns then ns else (groups (dropE r)).foldl (fun a g => nmM f a g.2) (ns ++ [r]) := rfl
theorem edges_names {add : GS → List Str → GS × Nat} {nm : List (List Str) → List Str → List (List Str)} (h : ∀ s r, names (add s r).1 = nm (names s) r) : ∀ (gs : List (Nat × List Str)) (s : GS), names (edgesM add s gs).1 = gs.foldl (fun a g => nm a g.2) (names s)
  | [], s => rfl
  | g :: gs, s => by
    show names (edgesM add (add s g.2).1 gs).1 = _
    rw [edges_names h gs, h, List.foldl_cons]
theorem add_names : ∀ (f : Nat) (s : GS) (r : List Str), names (addM f s r).1 = nmM f (names s) r
  | 0, s, r => rfl
  | f + 1, s, r => by
    unfold addM nmM
    cases hi : s.findIdx? fun x => x.1 == r with
    | some i =>
      obtain ⟨es, he⟩ := findIdx_some hi
      rw [if_pos]
      unfold names
      exact List.mem_map.2 ⟨_, List.mem_of_getElem? he, rfl⟩
    | none =>
      rw [if_neg (findIdx_none hi)]
      have h := edges_names (add_names f) (groups (dropE r)) (s ++ [(r, [])])
      have h2 : names (s ++ [(r, [])]) = names s ++ [r] := by simp [names]
      rw [h2] at h
      rw [← h]
      cases hx : (edgesM (addM f) (s ++ [(r, [])]) (groups (dropE r))).1[s.length]? with
      | none =>
        simp only
        rw [List.set_eq_of_length_le (by have := List.getElem?_eq_none_iff.1 hx; omega)]
      | some y =>
        have hy : y.1 = r := by
          have h3 : (names (edgesM (addM f) (s ++ [(r, [])]) (groups (dropE r))).1)[s.length]? = some y.1 := by unfold names; rw [List.getElem?_map, hx]; rfl
          rw [h] at h3
          have h4 : ∀ (gs : List (Nat × List Str)) (ns : List (List Str)) (k : Nat) (z : List Str), ns[k]? = some z → (gs.foldl (fun a g => nmM f a g.2) ns)[k]? = some z := by
            intro gs
            induction gs with
            | nil => intro ns k z h; exact h
            | cons g gs ih => intro ns k z h; rw [List.foldl_cons]; exact ih _ _ _ (nm_keep f ns g.2 k z h)
          have h5 := h4 (groups (dropE r)) (names s ++ [r]) s.length r (by unfold names; simp)
          rw [h5] at h3
          simpa using h3.symm
        obtain ⟨y1, y2⟩ := y
        simp only at hy
        subst hy
        exact names_set hx
where
  nm_keep : ∀ (f : Nat) (ns : List (List Str)) (r : List Str) (k : Nat) (z : List Str), ns[k]? = some z → (nmM f ns r)[k]? = some z
    | 0, ns, r, k, z, h => h
    | f + 1, ns, r, k, z, h => by
      unfold nmM
      split
      · exact h
      · have h4 : ∀ (gs : List (Nat × List Str)) (ns : List (List Str)), ns[k]? = some z → (gs.foldl (fun a g => nmM f a g.2) ns)[k]? = some z := by
          intro gs
          induction gs with
          | nil => intro ns h; exact h
          | cons g gs ih => intro ns h; rw [List.foldl_cons]; exact ih _ (nm_keep f ns g.2 k z h)
        exact h4 _ _ (by rw [List.getElem?_append_left (List.getElem?_eq_some_iff.1 h).1]; exact h)
theorem deep_mono {l : List Str} {d e : Nat} (h : Deep d l) (hde : d ≤ e) : Deep e l := fun t ht => Nat.le_trans (h t ht) hde
theorem groups_good {r : List Str} (hg : GoodR r) {g : Nat × List Str} (h : g ∈ groups (dropE r)) : GoodR g.2 := by
  have hd := dropE_good hg
  exact ((groups_ok _ _ (Nat.le_refl _) hd.1 hd.2).good g h).2.2
theorem groups_deep {r : List Str} (hg : GoodR r) {d : Nat} (hd : Deep d r) {g : Nat × List Str} (h : g ∈ groups (dropE r)) : ∃ e, d = e + 1 ∧ Deep e g.2 := by
  obtain ⟨k, hk⟩ := List.mem_iff_getElem?.1 h
  exact deep_edge hg hd hk
/-- names that are too deep to be met -/
theorem nm_shift {D : Nat} {A : List (List Str)} (hA : ∀ a ∈ A, ¬ Deep D a) : ∀ (f : Nat) (B : List (List Str)) (r : List Str), GoodR r → Deep D r → nmM f (A ++ B) r = A ++ nmM f B r
  | 0, B, r, _, _ => rfl
  | f + 1, B, r, hg, hd => by
    unfold nmM
    have hr : r ∉ A := fun h => hA r h hd
    by_cases hB : r ∈ B
    · rw [if_pos (by simp [hB]), if_pos hB]
    · rw [if_neg (by simp [hB, hr]), if_neg hB]
      have key : ∀ (gs : List (Nat × List Str)) (B : List (List Str)), (∀ g ∈ gs, g ∈ groups (dropE r)) → gs.foldl (fun a g => nmM f a g.2) (A ++ B) = A ++ gs.foldl (fun a g => nmM f a g.2) B := by
        intro gs
        induction gs with
        | nil => intro B _; rfl
        | cons g gs ih =>
          intro B h
          have hgm := h g (by simp)
          obtain ⟨e, he, hde⟩ := groups_deep hg hd hgm
          rw [List.foldl_cons, List.foldl_cons, nm_shift hA f B g.2 (groups_good hg hgm) (deep_mono hde (by omega))]
          exact ih _ fun g' hg' => h g' (by simp [hg'])
      rw [List.append_assoc]
      exact key _ _ fun g h => h
theorem nm_fuel : ∀ (f f' d : Nat) (ns : List (List Str)) (r : List Str), GoodR r → Deep d r → d < f → d < f' → nmM f ns r = nmM f' ns r
  | 0, _, d, _, _, _, _, h, _ => by omega
  | _, 0, d, _, _, _, _, _, h => by omega
  | f + 1, f' + 1, d, ns, r, hg, hd, h1, h2 => by
    unfold nmM
    split
    · rfl
    · have key : ∀ (gs : List (Nat × List Str)) (B : List (List Str)), (∀ g ∈ gs, g ∈ groups (dropE r)) → gs.foldl (fun a g => nmM f a g.2) B = gs.foldl (fun a g => nmM f' a g.2) B := by
        intro gs
        induction gs with
        | nil => intro B _; rfl
        | cons g gs ih =>
          intro B h
          have hgm := h g (by simp)
          obtain ⟨e, he, hde⟩ := groups_deep hg hd hgm
          rw [List.foldl_cons, List.foldl_cons, nm_fuel f f' e B g.2 (groups_good hg hgm) hde (by omega) (by omega)]
          exact ih _ fun g' hg' => h g' (by simp [hg'])
      exact key _ _ fun g h => h
/-! words with a beginning -/
def putW (p : Str) (l : List Str) : List Str := l.map (p ++ ·)
theorem putW_good {p : Str} (hp : Fine p) {l : List Str} (h : GoodR l) : GoodR (putW p l) := by
  refine ⟨?_, fun t ht => ?_⟩
  · unfold putW Sorted
    rw [List.pairwise_map]
    exact h.sorted.imp fun hab => by unfold ltT at hab ⊢; rw [cmp_app]; exact hab
  · obtain ⟨u, hu, rfl⟩ := List.mem_map.1 ht
    obtain ⟨h1, h2⟩ := encT_runes p hp
    have : ∀ (rs : List Nat), (∀ c ∈ rs, goodN c) → Fine (encT rs ++ u) := by
      intro rs
      induction rs with
      | nil => intro _; simpa [encT] using h.fine u hu
      | cons c rs ih =>
        intro hg
        rw [encT_cons, List.append_assoc]
        exact fine_enc (hg c (by simp)) (ih fun d hd => hg d (by simp [hd]))
    rw [← h1]
    exact this _ h2
where
  fine_enc {c : Nat} (hc : goodN c) {t : Str} (ht : Fine t) : Fine (encL c ++ t) := by
    unfold Fine at ht ⊢
    rw [runes_app hc]
    intro hm
    rcases List.mem_cons.1 hm with h | h
    · exact hc.2.2 h.symm
    · exact ht h
theorem runes_put : ∀ (rs : List Nat) (t : Str), (∀ c ∈ rs, goodN c) → runes (encT rs ++ t) = rs ++ runes t
  | [], t, _ => by simp [encT]
  | c :: rs, t, h => by
    rw [encT_cons, List.append_assoc, runes_app (h c (by simp)), runes_put rs t fun d hd => h d (by simp [hd])]
    rfl
theorem groups_all {c : Nat} (hc : goodN c) {l : List Str} (hl : l ≠ []) : groups (l.map (encL c ++ ·)) = [(c, l)] := by
  cases l with
  | nil => exact absurd rfl hl
  | cons t r =>
    obtain ⟨h1, h2⟩ := dec_encL hc t
    rw [List.map_cons, groups_cons, h1, h2]
    have hall : ∀ x ∈ (encL c ++ t) :: r.map (encL c ++ ·), (encL c).isPrefixOf x = true := by
      intro x hx
      rw [← List.map_cons (f := (encL c ++ ·))] at hx
      obtain ⟨u, _, rfl⟩ := List.mem_map.1 hx
      exact isPrefix_app _ _
    have hw := takeWhile_take (p := fun t => (encL c).isPrefixOf t) (l := (encL c ++ t) :: r.map (encL c ++ ·)) (k := (r.map (encL c ++ ·)).length + 1) (fun x hx => hall x (List.mem_of_mem_take hx)) (fun x hx => by
      rw [List.getElem?_eq_none (by simp)] at hx; cases hx)
    have hs : stripP (encL c) ((encL c ++ t) :: r.map (encL c ++ ·)) = t :: r := by
      unfold stripP
      rw [hw.1, List.take_of_length_le (by simp)]
      simp [Function.comp_def]
    have hm : moreP (encL c) ((encL c ++ t) :: r.map (encL c ++ ·)) = [] := by
      unfold moreP
      rw [hw.2, List.drop_of_length_le (by simp)]
    rw [hs, hm, groups_nil]
theorem nm_put {D : Nat} {l : List Str} (hg : GoodR l) (hd : Deep D l) (hx : ∃ w ∈ l, (runes w).length = D) : ∀ (ps : List Nat) (f : Nat) (ns : List (List Str)), (∀ c ∈ ps, goodN c) → (∀ a ∈ ns, ¬ Deep (D + ps.length) a) →
    (nmM (f + ps.length) ns (putW (encT ps) l)).length = ns.length + ps.length + (nmM f [] l).length
  | [], f, ns, _, hn => by
    have : putW (encT []) l = l := by simp [putW, encT]
    rw [this]
    have := nm_shift hn f [] l hg (by simpa using hd)
    rw [List.append_nil] at this
    simp only [List.length_nil, Nat.add_zero] at this ⊢
    rw [this, List.length_append]
  | c :: cs, f, ns, hc, hn => by
    have hcg := hc c (by simp)
    have hcs : ∀ d ∈ cs, goodN d := fun d hd => hc d (by simp [hd])
    have hlen : ∀ w ∈ l, (runes (encT (c :: cs) ++ w)).length = cs.length + 1 + (runes w).length := by
      intro w hw
      rw [runes_put _ _ hc, List.length_append, List.length_cons]
    have hdeep : Deep (D + (c :: cs).length) (putW (encT (c :: cs)) l) := by
      intro t ht
      obtain ⟨w, hw, rfl⟩ := List.mem_map.1 ht
      rw [hlen w hw, List.length_cons]
      have := hd w hw; omega
    have hno : putW (encT (c :: cs)) l ∉ ns := fun h => hn _ h hdeep
    have hlne : l ≠ [] := by obtain ⟨w, hw, _⟩ := hx; intro e; rw [e] at hw; simp at hw
    have he : putW (encT (c :: cs)) l = (putW (encT cs) l).map (encL c ++ ·) := by
      unfold putW
      rw [List.map_map]
      refine List.map_congr_left fun w _ => ?_
      simp [encT_cons]
    have hdr : dropE (putW (encT (c :: cs)) l) = putW (encT (c :: cs)) l := by
      cases hl : l with
      | nil => exact absurd hl hlne
      | cons a r =>
        show dropE ((encT (c :: cs) ++ a) :: _) = _
        have : encT (c :: cs) ++ a ≠ [] := by
          intro e
          have := hlen a (by rw [hl]; simp)
          rw [e, runes_nil] at this; simp at this
          omega
        exact (dropE_cons (l := (encT (c :: cs) ++ a) :: r.map (encT (c :: cs) ++ ·)) rfl this).1
    have hgr : groups (dropE (putW (encT (c :: cs)) l)) = [(c, putW (encT cs) l)] := by
      rw [hdr, he]
      exact groups_all hcg (by unfold putW; simpa using hlne)
    rw [show f + (c :: cs).length = (f + cs.length) + 1 from by simp only [List.length_cons]; omega]
    rw [nm_succ, if_neg hno, hgr]
    simp only [List.foldl_cons, List.foldl_nil]
    rw [nm_put hg hd hx cs f (ns ++ [putW (encT (c :: cs)) l]) hcs ?_]
    · simp only [List.length_append, List.length_cons, List.length_nil]; omega
    · intro a ha
      rcases List.mem_append.1 ha with ha | ha
      · exact fun h => hn a ha (deep_mono h (by simp only [List.length_cons]; omega))
      · simp only [List.mem_singleton] at ha
        subst ha
        intro h
        obtain ⟨w, hw, hwd⟩ := hx
        have h1 := h _ (List.mem_map.2 ⟨w, hw, rfl⟩)
        have h2 := hlen w hw
        have h1' : (runes (encT (c :: cs) ++ w)).length ≤ D + cs.length := h1
        rw [h2] at h1'
        omega
theorem deepest : ∀ (l : List Str), l ≠ [] → ∃ D, Deep D l ∧ ∃ w ∈ l, (runes w).length = D
  | [], h => absurd rfl h
  | [w], _ => ⟨_, fun t ht => by simp only [List.mem_singleton] at ht; subst ht; exact Nat.le_refl _, w, by simp, rfl⟩
  | w :: v :: r, _ => by
    obtain ⟨D, h1, u, h2, h3⟩ := deepest (v :: r) (by simp)
    by_cases h : (runes w).length ≤ D
    · exact ⟨D, fun t ht => by
        rcases List.mem_cons.1 ht with rfl | ht
        · exact h
        · exact h1 t ht, u, by simp [h2] , h3⟩
    · refine ⟨(runes w).length, fun t ht => ?_, w, by simp, rfl⟩
      rcases List.mem_cons.1 ht with rfl | ht
      · exact Nat.le_refl _
      · have := h1 t ht; omega
theorem sorted_goodL {l : List Str} (hs : Sorted l) (hw : ∀ w ∈ l, word w = true) (hl : l.length ≤ 60) : goodL l = 0 := by
  unfold goodL
  rw [if_neg (by omega), if_pos (List.all_eq_true.2 hw), if_pos (sorted_rising hs)]
/-- the law, plainly -/
theorem put_law {l : List Str} {p : Str} (hg : goodL l = 0) (hne : l ≠ []) (hp : 0 ≤ lenT p) (hs : ∀ w ∈ l, lenT w + lenT p ≤ 12) :
    goodL (putW p l) = 0 ∧ (((gnodes (putW p l)).length : Nat) : Int) = ((gnodes l).length : Int) + lenT p := by
  have hfp : Fine p := by
    intro hm
    unfold lenT at hp; rw [if_pos hm] at hp; omega
  have hlp := lenT_fine hfp
  obtain ⟨hgr, hdp⟩ := good_deep hg
  obtain ⟨hpe, hpg⟩ := encT_runes p hfp
  obtain ⟨hl60, hword, hsort⟩ := good_words hg
  have hgp := putW_good hfp hgr
  have hwl : ∀ w ∈ l, lenT (p ++ w) = lenT p + lenT w := by
    intro w hw
    have hf := hgp.fine (p ++ w) (List.mem_map.2 ⟨w, hw, rfl⟩)
    have hfw := hgr.fine w hw
    rw [lenT_fine hf, lenT_fine hfw, hlp]
    have := runes_put (runes p) w hpg
    rw [hpe] at this
    rw [this, List.length_append]; omega
  have hgood : goodL (putW p l) = 0 := by
    refine sorted_goodL hgp.sorted (fun t ht => ?_) (by unfold putW; rw [List.length_map]; exact hl60)
    obtain ⟨w, hw, rfl⟩ := List.mem_map.1 ht
    have h1 := hword w hw
    unfold word at h1 ⊢
    simp only [Bool.and_eq_true, decide_eq_true_eq] at h1 ⊢
    have h2 := hs w hw
    have h3 := hwl w hw
    rw [h3]
    omega
  refine ⟨hgood, ?_⟩
  have hpne : putW p l ≠ [] := by unfold putW; simpa using hne
  have e1 : (gnodes (putW p l)).length = (nmM 13 [] (putW p l)).length := by
    rw [gnodes_yes hgood, gnOf_len]
    unfold graphB graphM
    rw [if_neg hpne, ← List.length_map (f := Prod.fst)]
    exact congrArg List.length (add_names 13 [] (putW p l))
  have e2 : (gnodes l).length = (nmM 13 [] l).length := by
    rw [gnodes_yes hg, gnOf_len]
    unfold graphB graphM
    rw [if_neg hne, ← List.length_map (f := Prod.fst)]
    exact congrArg List.length (add_names 13 [] l)
  obtain ⟨D, hD, w, hw, hwD⟩ := deepest l hne
  have hDp : D + (runes p).length ≤ 12 := by
    have := hs w hw
    rw [lenT_fine (hgr.fine w hw), hlp, hwD] at this
    omega
  have hput := nm_put hgr hD ⟨w, hw, hwD⟩ (runes p) (13 - (runes p).length) [] hpg (by simp)
  rw [hpe, show 13 - (runes p).length + (runes p).length = 13 from by omega] at hput
  rw [e1, e2, hput, nm_fuel (13 - (runes p).length) 13 D [] l hgr hD (by omega) (by omega), hlp]
  simp only [List.length_nil]; omega
theorem sorted_good {words : List Str} (h : (sortedM words).length ≤ 60) : goodL (sortedM words) = 0 :=
  sorted_goodL (sortedM_spec words).1 (fun w hw => by
    obtain ⟨k, hk⟩ := List.mem_iff_getElem?.1 hw
    exact sortedM_word hk) h
theorem put_take {l : List Str} {p : Str} {i : Nat} {x : Str} {a : List Str} (ha : a = putW p (l.take i)) (hx : l[i]? = some x) : a ++ [p ++ x] = putW p (l.take (i + 1)) := by
  rw [ha]; unfold putW
  rw [List.take_add_one, hx]; simp
theorem put_bound {l : List Str} {p : Str} {i : Nat} {x : Str} (h : ∀ w ∈ l.take i, lenT w + lenT p ≤ 12) (hx : l[i]? = some x) (hc : ¬ lenT x + lenT p > 12) : ∀ w ∈ l.take (i + 1), lenT w + lenT p ≤ 12 := by
  intro w hw
  rw [List.take_add_one, hx] at hw
  simp only [Option.toList_some, List.mem_append, List.mem_singleton] at hw
  rcases hw with hw | rfl
  · exact h w hw
  · omega
end Go.Ml
/-
  What shards have of the words, plainly: good lists, that come to all words together.
-/
set_option linter.unusedVariables false
set_option linter.unusedSimpArgs false
namespace Go.Ml
open Go.Ik
theorem slice_good {cuts : List Key} {words : List Str} (h : goodL words = 0) (shard : Int) : goodL (sliceM cuts words shard) = 0 := by
  obtain ⟨h1, h2, h3⟩ := good_words h
  refine sorted_goodL (List.Pairwise.filter _ h3) (fun w hw => h2 w (List.mem_filter.1 hw).1) ?_
  have := List.length_filter_le (slP cuts shard) words
  unfold sliceM; omega
theorem cnt_lt (f : Str → Nat) (n : Nat) : ∀ words : List Str, (words.filter fun w => decide (f w < n)).length + (words.filter fun w => decide (f w = n)).length = (words.filter fun w => decide (f w < n + 1)).length
  | [] => rfl
  | w :: ws => by
    have ih := cnt_lt f n ws
    simp only [List.filter_cons]
    by_cases h1 : f w < n
    · rw [decide_eq_true h1, decide_eq_false (by omega : ¬ f w = n), decide_eq_true (by omega : f w < n + 1)]
      simp; omega
    · by_cases h2 : f w = n
      · rw [decide_eq_false h1, decide_eq_true h2, decide_eq_true (by omega : f w < n + 1)]
        simp; omega
      · rw [decide_eq_false h1, decide_eq_false h2, decide_eq_false (by omega : ¬ f w < n + 1)]
        simpa using ih
theorem cnt_sum (f : Str → Nat) (words : List Str) : ∀ n : Nat, ((List.range n).map fun s => (words.filter fun w => decide (f w = s)).length).sum = (words.filter fun w => decide (f w < n)).length
  | 0 => by rw [List.filter_eq_nil_iff.2 (by intro w _; simp)]; rfl
  | n + 1 => by
    rw [List.range_succ, List.map_append, List.sum_append, cnt_sum f words n, ← cnt_lt f n words]
    simp
/-- how many words the first shards have -/
def cntS (c : Cfg) (k : Nat) : Nat := ((List.range k).map fun s : Nat => (wordsM c (s : Int)).length).sum
theorem cntS_succ (c : Cfg) (k : Nat) : cntS c (k + 1) = cntS c k + (wordsM c (k : Int)).length := by
  unfold cntS; rw [List.range_succ, List.map_append, List.sum_append]; simp
theorem may_good {c : Cfg} (h : may c = true) : goodL c.words = 0 := by
  unfold may at h
  simp only [Bool.and_eq_true, beq_iff_eq] at h
  exact h.1.1
theorem cntS_all {c : Cfg} (h : may c = true) : cntS c (shards c) = c.words.length := by
  have hg := good_words (may_good h)
  have hs : shards c = c.cuts.length + 1 := by unfold shards; rw [if_pos h]
  have key : ∀ s : Nat, (wordsM c (s : Int)) = c.words.filter fun w => decide ((ofM c.cuts w).toNat = s) := by
    intro s
    unfold wordsM sliceM
    apply List.filter_congr
    intro w hw
    have hww := hg.2.1 w hw
    unfold slP ofM
    rw [if_pos hww]
    rw [decide_eq_true (by omega : ((belowN c.cuts ⟨lenT w, w⟩ : Nat) : Int) ≥ 0), Bool.true_and]
    by_cases hb : belowN c.cuts ⟨lenT w, w⟩ = s
    · rw [hb]; simp
    · rw [decide_eq_false (by omega)]
      exact beq_eq_false_iff_ne.2 (by omega)
  unfold cntS
  simp only [key]
  rw [cnt_sum, List.filter_eq_self.2]
  intro w hw
  refine decide_eq_true ?_
  have := of_rng c.cuts w
  omega
theorem shard_words_le {c : Cfg} (s : Int) : (wordsM c s).length ≤ c.words.length := List.length_filter_le _ _
theorem shard_good {c : Cfg} (h : may c = true) (s : Int) : goodL (wordsM c s) = 0 := slice_good (may_good h) s
theorem shard_img {c : Cfg} (h : may c = true) {s : Int} (h0 : 0 ≤ s) (h1 : s < (shards c : Int)) : imgC c s = imgM (wordsM c s) ∧ errC c s = 0 := by
  obtain ⟨h2, h3⟩ := imgC_yes (c := c) h0 h1
  exact ⟨h2.symm, h3.symm.trans (shard_good h s)⟩
end Go.Ml
/-
  A disk in memory: its block, a map of numbers to images, the images; one image taken out and put back.
-/
set_option linter.unusedVariables false
set_option linter.unusedSimpArgs false
namespace Go.Ik
open Go
section
variable {R U : Nat → Prop} {w : World}
theorem fm_mid {α : Type} : ∀ (A C B : List α), (List.range' C.length A.length).filterMap (fun i => (C ++ A ++ B)[i]?) = A
  | [], C, B => rfl
  | a :: A, C, B => by
    have := fm_mid A (C ++ [a]) B
    rw [List.length_cons, List.range'_succ, List.filterMap_cons]
    have h1 : (C ++ a :: A ++ B)[C.length]? = some a := by simp
    rw [h1]
    simp only
    rw [List.length_append, List.length_cons, List.length_nil] at this
    rw [show C ++ a :: A ++ B = C ++ [a] ++ A ++ B from by simp, this]
theorem Sep.rot {A B : List (Res R)} (h : Sep (A ++ B) U w) : Sep (B ++ A) U w := by
  have := h.sel (List.range' A.length B.length ++ List.range' 0 A.length) (by
    rw [List.all_eq_true]
    intro i hi
    rw [List.mem_append, List.mem_range'_1, List.mem_range'_1] at hi
    rw [List.length_append]
    exact decide_eq_true (by omega)) (by
    rw [List.nodup_append]
    refine ⟨List.nodup_range', List.nodup_range', fun a ha b hb => ?_⟩
    rw [List.mem_range'_1] at ha hb
    omega)
  rw [List.filterMap_append] at this
  have h1 := fm_mid B A []
  have h2 := fm_mid A [] B
  rw [List.append_nil] at h1
  rw [List.length_nil, List.nil_append] at h2
  rw [h1, h2] at this
  exact this
theorem Sep.mid {A B : List (Res R)} {x : Res R} (h : Sep (A ++ x :: B) U w) : Sep [boxR A, x, boxR B] U w := by
  have h1 : Sep ((A ++ [x]) ++ B) U w := by simpa using h
  have h2 : Sep (A ++ [x, boxR B]) U w := by simpa using h1.close
  have h3 := (h2.rot).close (L1 := [x, boxR B]) (L2 := A)
  exact h3.sel [2, 0, 1] rfl (by decide)
theorem Sep.mid_back {A B : List (Res R)} {x : Res R} (h : Sep [boxR A, x, boxR B] U w) : Sep (A ++ x :: B) U w := by
  have h1 : Sep ([x, boxR B] ++ [boxR A]) U w := h.sel [1, 2, 0] rfl (by decide)
  have h2 := (h1.open).rot
  have h3 : Sep ((A ++ [x]) ++ [boxR B]) U w := by simpa using h2
  have h4 := h3.open
  simpa using h4
def ptrV (b : Nat) : Value := ptr b 0
/-- an image: its shard, its block, as it should be, as it is -/
structure DI where
  shard : Int
  ptr : Nat
  good : List UInt8
  now : List UInt8
def imR (eI u8 : TypeId) (x : DI) : Res R := exR fun vs : Value × Value => boxR [bkR x.ptr [vs.1, vs.2] eI, accR encB u8 1 vs.1 x.good, accR encB u8 1 vs.2 x.now]
/-- all images but one, and that one -/
theorem ims_out {eI u8 : TypeId} {D : List DI} {k : Nat} {x : DI} (hx : D[k]? = some x) : ∀ F : Nat → Prop, (boxR (R := R) (D.map (imR eI u8))).p F w → (boxR (R := R) [boxR ((D.take k).map (imR eI u8)), imR eI u8 x, boxR ((D.drop (k + 1)).map (imR eI u8))]).p F w := by
  intro F h
  have hk := (List.getElem?_eq_some_iff.1 hx).1
  have e : D = D.take k ++ x :: D.drop (k + 1) := by
    have := (List.getElem?_eq_some_iff.1 hx).2
    rw [← this]; simp
  rw [e] at h
  rw [List.map_append, List.map_cons] at h
  exact Sep.mid h
theorem ims_in {eI u8 : TypeId} {D : List DI} {k : Nat} {x y : DI} (hx : D[k]? = some x) : ∀ F : Nat → Prop, (boxR (R := R) [boxR ((D.take k).map (imR eI u8)), imR eI u8 y, boxR ((D.drop (k + 1)).map (imR eI u8))]).p F w → (boxR (R := R) ((D.set k y).map (imR eI u8))).p F w := by
  intro F h
  have hk := (List.getElem?_eq_some_iff.1 hx).1
  have e : D.set k y = D.take k ++ y :: D.drop (k + 1) := by rw [List.set_eq_take_append_cons_drop, if_pos hk]
  rw [e, List.map_append, List.map_cons]
  exact Sep.mid_back h
/-- a disk -/
def dkR (eD eI u8 : TypeId) (bd : Nat) (life : Int) (D : List DI) : Res R := exR fun bm : Nat => boxR [bkR bd [.map (some bm), .int .i64 life] eD, mapR intV ptrV bm (D.map fun x => (x.shard, x.ptr)), boxR (D.map (imR eI u8))]
end
end Go.Ik
/-
  A disk, plainly: of each shard that is kept its right image, and the image as it is.
-/
set_option linter.unusedVariables false
set_option linter.unusedSimpArgs false
namespace Go.Ml
open Go.Ik
/-- shard, right, as it is -/
abbrev DE := Int × List UInt8 × List UInt8
def dkGet (D : List DE) (s : Int) : Option DE := D.find? fun x => decide (x.1 = s)
def dkErr (D : List DE) (s : Int) : Int := match dkGet D s with | none => 4 | some _ => 0
def dkRead (D : List DE) (s : Int) : List UInt8 := match dkGet D s with | none => [] | some x => x.2.2
def dkRotten (D : List DE) (s : Int) : Bool := match dkGet D s with | none => false | some x => decide (x.2.2 ≠ x.2.1)
def dkPut (D : List DE) (s : Int) (f : List UInt8 → List UInt8) : List DE := D.map fun x => if x.1 = s then (x.1, x.2.1, f x.2.1) else x
def dkRot (D : List DE) (s at_ x : Int) : List DE := dkPut D s fun b => turnB b at_ x
def dkMend (D : List DE) (s : Int) : List DE := dkPut D s id
def DkOk (D : List DE) : Prop := (D.map (·.1)).Nodup ∧ ∀ x ∈ D, 1 ≤ x.2.1.length ∧ x.2.1.length ≤ 4000000 ∧ x.2.2.length = x.2.1.length
theorem dkPut_keys (D : List DE) (s : Int) (f : List UInt8 → List UInt8) : (dkPut D s f).map (·.1) = D.map (·.1) := by
  unfold dkPut
  rw [List.map_map]
  apply List.map_congr_left
  intro x _
  simp only [Function.comp]
  split <;> rfl
theorem DkOk.put {D : List DE} (h : DkOk D) (s : Int) {f : List UInt8 → List UInt8} (hf : ∀ b, (f b).length = b.length) : DkOk (dkPut D s f) := by
  refine ⟨by rw [dkPut_keys]; exact h.1, fun x hx => ?_⟩
  unfold dkPut at hx
  obtain ⟨y, hy, rfl⟩ := List.mem_map.1 hx
  have := h.2 y hy
  split
  · exact ⟨this.1, this.2.1, hf _⟩
  · exact this
theorem DkOk.rot {D : List DE} (h : DkOk D) (s at_ x : Int) : DkOk (dkRot D s at_ x) := h.put s fun b => turnB_len b at_ x
theorem DkOk.mend {D : List DE} (h : DkOk D) (s : Int) : DkOk (dkMend D s) := h.put s fun _ => rfl
theorem dkGet_put (D : List DE) (s t : Int) (f : List UInt8 → List UInt8) : dkGet (dkPut D s f) t = (dkGet D t).map fun x => if x.1 = s then (x.1, x.2.1, f x.2.1) else x := by
  unfold dkGet dkPut
  rw [List.find?_map]
  congr 2
  funext x
  simp only [Function.comp]
  split <;> rfl
theorem dkGet_key {D : List DE} {s : Int} {x : DE} (h : dkGet D s = some x) : x.1 = s ∧ x ∈ D := by
  unfold dkGet at h
  have h2 := List.find?_some h
  exact ⟨of_decide_eq_true h2, List.mem_of_find?_eq_some h⟩
theorem dkErr_put (D : List DE) (s t : Int) (f : List UInt8 → List UInt8) : dkErr (dkPut D s f) t = dkErr D t := by
  unfold dkErr
  rw [dkGet_put]
  cases dkGet D t <;> rfl
/-- where an entry stands -/
theorem dkGet_at {D : List DE} {s : Int} {x : DE} (h : dkGet D s = some x) : ∃ k, D[k]? = some x ∧ x.1 = s ∧ ∀ (j : Nat) (y : DE), j < k → D[j]? = some y → y.1 ≠ s := by
  unfold dkGet at h
  induction D with
  | nil => cases h
  | cons y D ih =>
    rw [List.find?_cons] at h
    by_cases hy : y.1 = s
    · rw [decide_eq_true hy] at h
      simp only [Option.some.injEq] at h
      subst h
      exact ⟨0, rfl, hy, fun j y hj => absurd hj (Nat.not_lt_zero _)⟩
    · rw [decide_eq_false hy] at h
      obtain ⟨k, h1, h2, h3⟩ := ih h
      refine ⟨k + 1, h1, h2, fun j z hj hz => ?_⟩
      cases j with
      | zero => simp only [List.getElem?_cons_zero, Option.some.injEq] at hz; subst hz; exact hy
      | succ j => exact h3 j z (by omega) (by simpa using hz)
/-- where keys are all other ones, putting is setting -/
theorem dkPut_at {D : List DE} {s : Int} {x : DE} {k : Nat} {f : List UInt8 → List UInt8} (hn : (D.map (·.1)).Nodup) (hx : D[k]? = some x) (hs : x.1 = s) : dkPut D s f = D.set k (x.1, x.2.1, f x.2.1) := by
  unfold dkPut
  apply List.ext_getElem?
  intro j
  rw [List.getElem?_map, List.getElem?_set]
  have hk := (List.getElem?_eq_some_iff.1 hx).1
  by_cases hj : k = j
  · subst hj
    rw [hx, if_pos rfl, if_pos hk]
    simp [hs]
  · rw [if_neg hj]
    cases hy : D[j]? with
    | none => rfl
    | some y =>
      simp only [Option.map_some, Option.some.injEq]
      rw [if_neg]
      intro e
      have h1 : (D.map (·.1))[k]? = some s := by rw [List.getElem?_map, hx, ← hs]; rfl
      have h2 : (D.map (·.1))[j]? = some s := by rw [List.getElem?_map, hy, ← e]; rfl
      exact hj ((List.getElem?_inj (by rw [List.length_map]; exact hk) hn).1 (h1.trans h2.symm))
theorem dkPut_no {D : List DE} {s : Int} {f : List UInt8 → List UInt8} (h : dkGet D s = none) : dkPut D s f = D := by
  unfold dkPut
  conv => rhs; rw [← List.map_id D]
  apply List.map_congr_left
  intro x hx
  unfold dkGet at h
  have := List.find?_eq_none.1 h x hx
  rw [if_neg (by simpa using this)]
  rfl
def deI (x : DI) : DE := (x.shard, x.good, x.now)
theorem asc_ims (D : List DI) (s : Int) : asc (D.map fun x => (x.shard, x.ptr)) s = (D.find? fun x => decide (x.shard = s)).map (·.ptr) := by
  unfold asc
  rw [List.find?_map, Option.map_map]
  rfl
theorem dkGet_ims (D : List DI) (s : Int) : dkGet (D.map deI) s = (D.find? fun x => decide (x.shard = s)).map deI := by
  unfold dkGet
  rw [List.find?_map]
  rfl
theorem ims_hit {D : List DI} {s : Int} {x : DE} (h : dkGet (D.map deI) s = some x) : ∃ (k : Nat) (y : DI), D[k]? = some y ∧ deI y = x ∧ y.shard = s ∧ asc (D.map fun x => (x.shard, x.ptr)) s = some y.ptr := by
  rw [dkGet_ims] at h
  cases hf : D.find? fun x => decide (x.shard = s) with
  | none => rw [hf] at h; cases h
  | some y =>
    rw [hf] at h
    obtain ⟨k, hk⟩ := List.mem_iff_getElem?.1 (List.mem_of_find?_eq_some hf)
    have h2 := List.find?_some hf
    exact ⟨k, y, hk, by simpa using h, of_decide_eq_true h2, by rw [asc_ims, hf]; rfl⟩
theorem ims_miss {D : List DI} {s : Int} (h : dkGet (D.map deI) s = none) : asc (D.map fun x => (x.shard, x.ptr)) s = none := by
  rw [dkGet_ims] at h
  cases hf : D.find? fun x => decide (x.shard = s) with
  | none => rw [asc_ims, hf]; rfl
  | some y => rw [hf] at h; cases h
theorem ims_set {D : List DI} {k : Nat} {y : DI} {s : Int} {f : List UInt8 → List UInt8} (hn : DkOk (D.map deI)) (hk : D[k]? = some y) (hs : y.shard = s) : (D.set k { y with now := f y.good }).map deI = dkPut (D.map deI) s f := by
  rw [dkPut_at (x := deI y) hn.1 (by rw [List.getElem?_map, hk]; rfl) hs, List.map_set]
  rfl
theorem ims_keys {D : List DI} {k : Nat} {y : DI} {b : List UInt8} (hk : D[k]? = some y) : ((D.set k { y with now := b }).map fun x => (x.shard, x.ptr)) = D.map fun x => (x.shard, x.ptr) := by
  rw [List.map_set]
  apply List.ext_getElem?
  intro j
  rw [List.getElem?_set]
  split
  · rename_i h
    subst h
    split
    · rw [List.getElem?_map, hk]; rfl
    · rw [List.getElem?_eq_none (by omega)]
  · rfl
def mayD (c : Cfg) (w : Int) : Bool := may c && (decide (1 ≤ w) && decide (w ≤ c.workers))
theorem mayD_yes {c : Cfg} {w : Int} (h1 : may c = true) (h2 : 1 ≤ w) (h3 : w ≤ c.workers) : mayD c w = true := by unfold mayD; rw [h1, decide_eq_true h2, decide_eq_true h3]; rfl
theorem mayD_no {c : Cfg} {w : Int} (h : may c = false ∨ w < 1 ∨ c.workers < w) : mayD c w = false := by
  unfold mayD
  rcases h with h | h | h
  · rw [h]; rfl
  · rw [decide_eq_false (by omega : ¬ 1 ≤ w)]; simp
  · rw [decide_eq_false (by omega : ¬ w ≤ c.workers)]; simp
theorem mayD_may {c : Cfg} {w : Int} (h : mayD c w = true) : may c = true ∧ 1 ≤ w ∧ w ≤ c.workers := by
  unfold mayD at h
  simp only [Bool.and_eq_true, decide_eq_true_eq] at h
  exact ⟨h.1, h.2.1, h.2.2⟩
/-- the disk of a worker -/
def dkNew (c : Cfg) (w : Int) : List DE := (keepsM c w).map fun s => (s, imgC c s, imgC c s)
def dkE (c : Cfg) (s : Int) : DE := (s, imgC c s, imgC c s)
theorem dkNew_eq (c : Cfg) (w : Int) : dkNew c w = (keepsM c w).map (dkE c) := rfl
theorem keeps_nodup (c : Cfg) (w : Int) : (keepsM c w).Nodup := by
  unfold keepsM
  refine List.Pairwise.map _ (fun a b h => ?_) ((List.nodup_range (n := shards c)).filter _)
  omega
theorem dkE_step {c : Cfg} {l : List Int} {k : Nat} {x : Int} (hx : l[k]? = some x) : (l.take k).map (dkE c) ++ [(x, imgC c x, imgC c x)] = (l.take (k + 1)).map (dkE c) := by
  rw [List.take_add_one, hx, List.map_append]; rfl
theorem dkE_fresh {c : Cfg} {l : List Int} (hn : l.Nodup) {k : Nat} {x : Int} (hx : l[k]? = some x) {D : List DI} (hD : D.map deI = (l.take k).map (dkE c)) : ∀ y ∈ D, y.shard ≠ x := by
  intro y hy e
  have h1 : deI y ∈ (l.take k).map (dkE c) := hD ▸ List.mem_map_of_mem hy
  obtain ⟨z, hz, hz2⟩ := List.mem_map.1 h1
  have hzx : z = x := (congrArg Prod.fst hz2).trans e
  obtain ⟨j, hj⟩ := List.mem_iff_getElem?.1 hz
  rw [List.getElem?_take] at hj
  split at hj
  · rename_i hjk
    rw [hzx] at hj
    have := (List.getElem?_inj (List.getElem?_eq_some_iff.1 hj).1 hn).1 (hj.trans hx.symm)
    omega
  · cases hj
/-- each shard that is kept has an image of good words -/
theorem keeps_range {c : Cfg} {w s : Int} (h : s ∈ keepsM c w) : 0 ≤ s ∧ s < (shards c : Int) := by
  unfold keepsM at h
  obtain ⟨k, hk, rfl⟩ := List.mem_map.1 h
  have := List.mem_range.1 (List.mem_filter.1 hk).1
  omega
theorem dkNew_ok {c : Cfg} (h : may c = true) (w : Int) : DkOk (dkNew c w) := by
  refine ⟨?_, fun x hx => ?_⟩
  · have : (dkNew c w).map (·.1) = keepsM c w := by
      rw [dkNew_eq, List.map_map]
      conv => rhs; rw [← List.map_id (keepsM c w)]
      rfl
    rw [this]; exact keeps_nodup c w
  · rw [dkNew_eq] at hx
    obtain ⟨s, hs, rfl⟩ := List.mem_map.1 hx
    obtain ⟨h1, h2⟩ := keeps_range hs
    obtain ⟨h3, _⟩ := shard_img h h1 h2
    have h4 := img_len (shard_good h s)
    have h5 := imgC_len c s
    unfold dkE
    dsimp only
    rw [h3] at h5 ⊢
    exact ⟨by omega, by omega, rfl⟩
/-! what is put twice; the disk that a worker has at first -/
theorem dkPut_put (D : List DE) (s : Int) (f g : List UInt8 → List UInt8) : dkPut (dkPut D s f) s g = dkPut D s g := by
  unfold dkPut
  rw [List.map_map]
  apply List.map_congr_left
  intro x _
  simp only [Function.comp]
  split
  · rfl
  · rfl
theorem dkNew_get {c : Cfg} {w s : Int} (h : s ∈ keepsM c w) : dkGet (dkNew c w) s = some (s, imgC c s, imgC c s) := by
  rw [dkNew_eq]
  unfold dkGet
  rw [List.find?_map]
  have : (keepsM c w).find? ((fun x : DE => decide (x.1 = s)) ∘ dkE c) = some s := by
    cases hf : (keepsM c w).find? ((fun x : DE => decide (x.1 = s)) ∘ dkE c) with
    | none => exact absurd (decide_eq_true rfl) (List.find?_eq_none.1 hf s h)
    | some y =>
      have h2 := List.find?_some hf
      have h3 : y = s := of_decide_eq_true h2
      rw [h3]
  rw [this]; rfl
theorem dkNew_none {c : Cfg} {w s : Int} (h : s ∉ keepsM c w) : dkGet (dkNew c w) s = none := by
  cases hg : dkGet (dkNew c w) s with
  | none => rfl
  | some x =>
    obtain ⟨h1, h2⟩ := dkGet_key hg
    rw [dkNew_eq] at h2
    obtain ⟨z, hz, rfl⟩ := List.mem_map.1 h2
    exact absurd (h1 ▸ hz : s ∈ keepsM c w) h
theorem dkMend_new (c : Cfg) (w s : Int) : dkMend (dkNew c w) s = dkNew c w := by
  unfold dkMend dkPut
  conv => rhs; rw [← List.map_id (dkNew c w)]
  apply List.map_congr_left
  intro x hx
  rw [dkNew_eq] at hx
  obtain ⟨z, _, rfl⟩ := List.mem_map.1 hx
  split <;> rfl
theorem dkMend_rot (c : Cfg) (w s a x : Int) : dkMend (dkRot (dkNew c w) s a x) s = dkNew c w := by
  unfold dkMend dkRot
  rw [dkPut_put]
  exact dkMend_new c w s
theorem rot_get {c : Cfg} {w s : Int} (h : s ∈ keepsM c w) (a x : Int) : dkGet (dkRot (dkNew c w) s a x) s = some (s, imgC c s, turnB (imgC c s) a x) := by
  unfold dkRot
  rw [dkGet_put, dkNew_get h]
  simp
theorem get_err {D : List DE} {s : Int} {x : DE} (h : dkGet D s = some x) : dkErr D s = 0 ∧ dkRead D s = x.2.2 ∧ dkRotten D s = decide (x.2.2 ≠ x.2.1) := by
  unfold dkErr dkRead dkRotten; rw [h]; exact ⟨rfl, rfl, rfl⟩
theorem get_no {D : List DE} {s : Int} (h : dkGet D s = none) : dkErr D s = 4 ∧ dkRead D s = [] ∧ dkRotten D s = false := by
  unfold dkErr dkRead dkRotten; rw [h]; exact ⟨rfl, rfl, rfl⟩
theorem new_read {c : Cfg} {w s : Int} (h : s ∈ keepsM c w) : dkErr (dkNew c w) s = 0 ∧ dkRead (dkNew c w) s = imgC c s ∧ dkRotten (dkNew c w) s = false := by
  obtain ⟨h1, h2, h3⟩ := get_err (dkNew_get h)
  exact ⟨h1, h2, by rw [h3]; simp⟩
theorem rot_read {c : Cfg} (hc : may c = true) {w s : Int} (h : s ∈ keepsM c w) (a x : Int) : dkErr (dkNew c w) s = 0 ∧ dkErr (dkRot (dkNew c w) s a x) s = 0 ∧ dkRead (dkRot (dkNew c w) s a x) s = turnB (imgC c s) a x ∧ dkRotten (dkRot (dkNew c w) s a x) s = true := by
  obtain ⟨h1, h2, h3⟩ := get_err (rot_get h a x)
  obtain ⟨k1, k2⟩ := keeps_range h
  have hl := img_len (shard_good hc s)
  rw [← (shard_img hc k1 k2).1] at hl
  exact ⟨(new_read h).1, h1, h2, by rw [h3]; exact decide_eq_true (turnB_ne (by omega) a x)⟩
/-- a small configuration -/
def smallC : Cfg := ⟨[[97], [97, 98, 99], [98]], [⟨2, []⟩], 2, 1, 1, 1, 1, 1, 1, 1, 0, 8⟩
theorem smallC_may : mayD smallC 1 = true := by decide +kernel
theorem smallC_keeps : keepsM smallC 1 = [0] := by decide +kernel
def rightS : List UInt8 := imgC smallC 0
theorem rightS_len : rightS.length = 28 := by decide +kernel
/-- its only image, as it is -/
def oneD (n : List UInt8) : List DE := [(0, rightS, n)]
theorem oneD_new : dkNew smallC 1 = oneD rightS := by rw [dkNew_eq, smallC_keeps]; rfl
theorem oneD_rot (n : List UInt8) (a x : Int) : dkRot (oneD n) 0 a x = oneD (turnB rightS a x) := rfl
theorem oneD_mend (n : List UInt8) : dkMend (oneD n) 0 = oneD rightS := rfl
theorem oneD_get (n : List UInt8) : dkErr (oneD n) 0 = 0 ∧ dkRead (oneD n) 0 = n ∧ dkRotten (oneD n) 0 = decide (n ≠ rightS) := get_err (x := (0, rightS, n)) rfl
theorem oneD_ok {n : List UInt8} (h : n.length = rightS.length) : DkOk (oneD n) := by
  refine ⟨by unfold oneD; simp, fun x hx => ?_⟩
  unfold oneD at hx
  rw [List.mem_singleton] at hx
  subst hx
  have := rightS_len
  exact ⟨by dsimp only; omega, by dsimp only; omega, h⟩
/-- only one byte is another one -/
theorem turn_one {b : List UInt8} (h : 1 ≤ b.length) {a x : Int} {j : Nat} {y z : UInt8} (hy : (turnB b a x)[j]? = some y) (hz : b[j]? = some z) : (y ≠ z) ↔ ((j : Int) = lowM a (b.length : Int)) := by
  obtain ⟨y0, h1, h2, h3⟩ := turnB_at h a x
  have hr := low_range a (b.length : Int) (by omega)
  have ha : ((turnAt b a : Nat) : Int) = lowM a (b.length : Int) := by unfold turnAt; omega
  rw [h2] at hy
  by_cases hj : turnAt b a = j
  · subst hj
    rw [List.getElem?_set_self (turnAt_lt h a)] at hy
    rw [hz] at h1
    obtain rfl := Option.some.inj hy
    obtain rfl := Option.some.inj h1
    exact ⟨fun _ => ha, fun _ => h3⟩
  · rw [List.getElem?_set_ne hj, hz] at hy
    obtain rfl := Option.some.inj hy
    exact ⟨fun k => absurd rfl k, fun k => absurd (by omega) hj⟩
theorem turn_bool {b : List UInt8} (h : 1 ≤ b.length) {a x : Int} {j : Nat} {y z : UInt8} {p q : Bool} (hp : p = ((y.toNat : Int) != (z.toNat : Int))) (hq : q = ((j : Int) == lowM a ((turnB b a x).length : Int))) (hy : (turnB b a x)[j]? = some y) (hz : b[j]? = some z) : (!(p == q)) = false := by
  have k := turn_one h hy hz
  rw [turnB_len] at hq
  have e : p = q := by
    rw [hp, hq]
    by_cases hj : (j : Int) = lowM a (b.length : Int)
    · rw [beq_iff_eq.2 hj]
      refine bne_iff_ne.2 fun e => k.2 hj (UInt8.toNat_inj.1 (by omega))
    · rw [beq_eq_false_iff_ne.2 hj]
      refine bne_eq_false_iff_eq.2 ?_
      have : ¬ y ≠ z := fun e => hj (k.1 e)
      rw [Classical.not_not.1 this]
  rw [e]; simp
end Go.Ml
/-
  The document's disk in memory: rows of images, of each the shard, the right bytes, the bytes as they are.
-/
set_option linter.unusedVariables false
set_option linter.unusedSimpArgs false
namespace Go.Ik
open Go Go.Ml
structure RIm where
  shard : Int
  r : SH
  b : SH
def encIm (x : RIm) : List Value := [.int .i64 x.shard, x.r.val, x.b.val]
theorem encIm_len (x : RIm) : (encIm x).length = 3 := rfl
def IRel (w : World) (F : Nat → Prop) (rows : List RIm) (K : List DE) : Prop := All2 (fun r e => r.shard = e.1 ∧ Sl encB w F r.r.val e.2.1 ∧ Sl encB w F r.b.val e.2.2) rows K
theorem IRel.keep {M : Nat → Prop} {w w' : World} {F : Nat → Prop} {rows : List RIm} {K : List DE} (h : IRel w F rows K) (hm : Mod M w w') (hF : ∀ b, F b → ¬ M b) : IRel w' F rows K :=
  All2.imp (fun _ _ k => ⟨k.1, k.2.1.keep hm hF, k.2.2.keep hm hF⟩) h
theorem IRel.mono {w : World} {F F' : Nat → Prop} {rows : List RIm} {K : List DE} (h : IRel w F rows K) (hF : ∀ b, F b → F' b) : IRel w F' rows K :=
  All2.imp (fun _ _ k => ⟨k.1, k.2.1.mono hF, k.2.2.mono hF⟩) h
theorem IRel.at {w : World} {F : Nat → Prop} {rows : List RIm} {K : List DE} (h : IRel w F rows K) {i : Nat} {r : RIm} (hr : rows[i]? = some r) : ∃ e, K[i]? = some e ∧ r.shard = e.1 ∧ Sl encB w F r.r.val e.2.1 ∧ Sl encB w F r.b.val e.2.2 := by
  obtain ⟨h1, h2⟩ := All2.get h
  have hi := (List.getElem?_eq_some_iff.1 hr).1
  exact ⟨_, List.getElem?_eq_getElem (by omega), h2 i r _ hr (List.getElem?_eq_getElem (by omega))⟩
theorem All2.set {α β : Type} {Q : α → β → Prop} : ∀ {l : List α} {m : List β} (k : Nat) {a : α} {b : β}, All2 Q l m → Q a b → All2 Q (l.set k a) (m.set k b)
  | _, _, _, _, _, .nil, _ => .nil
  | _, _, 0, _, _, .cons _ h, hab => .cons hab h
  | _, _, k + 1, _, _, .cons h1 h, hab => .cons h1 (All2.set k h hab)
section
variable {R F : Nat → Prop} {w : World} {rows : List RIm} {K : List DE}
def irR {R : Nat → Prop} (rows : List RIm) (K : List DE) : Res R := ⟨fun F w => IRel w F rows K, fun h hm hF _ => h.keep hm hF⟩
theorem ir_push {e : TypeId} {x : SH} {v : Value} {s : Int} {img : List UInt8} (hv : v = x.val) (h : (boxR (R := R) [irR rows K, accR encB e 1 v img]).p F w) : (irR (R := R) (rows ++ [⟨s, x, x⟩]) (K ++ [(s, img, img)])).p F w := by
  obtain ⟨F1, F2, h1, h2, h3, h4⟩ := sep_pair h
  exact All2.app (IRel.mono h1 h3) (.cons ⟨rfl, hv ▸ (acc_sl h2).mono h4, hv ▸ (acc_sl h2).mono h4⟩ .nil)
theorem ir_set {e : TypeId} {x : SH} {v : Value} {r : RIm} {k : Nat} {img : List UInt8} (hv : v = x.val) (hr : rows[k]? = some r) {y : DE} (hy : K[k]? = some y) (h : (boxR (R := R) [irR rows K, accR encB e 1 v img]).p F w) : (irR (R := R) (rows.set k { r with b := x }) (K.set k (y.1, y.2.1, img))).p F w := by
  obtain ⟨F1, F2, h1, h2, h3, h4⟩ := sep_pair h
  obtain ⟨e', he, k1, k2, k3⟩ := IRel.at h1 hr
  obtain rfl : e' = y := Option.some.inj (he.symm.trans hy)
  exact All2.set k (IRel.mono h1 h3) ⟨k1, k2.mono h3, hv ▸ (acc_sl h2).mono h4⟩
theorem ir_mend {r : RIm} {k : Nat} (hr : rows[k]? = some r) {y : DE} (hy : K[k]? = some y) (h : (irR (R := R) rows K).p F w) : (irR (R := R) (rows.set k { r with b := r.r }) (K.set k (y.1, y.2.1, y.2.1))).p F w := by
  obtain ⟨e', he, k1, k2, k3⟩ := IRel.at h hr
  obtain rfl : e' = y := Option.some.inj (he.symm.trans hy)
  exact All2.set k h ⟨k1, k2, k2⟩
/-- the document's disk -/
def rdR {R : Nat → Prop} (eW eI : TypeId) (bw : Nat) (lives : Int) (K : List DE) : Res R := exR fun x : Value × List RIm => boxR [bkR bw [x.1, .int .i64 lives] eW, accR encIm eI 3 x.1 x.2, irR x.2 K]
/-- a disk: what it has of each shard -/
def dkK {R : Nat → Prop} (eD eI u8 : TypeId) (bd : Nat) (life : Int) (K : List DE) : Res R := exR fun D : List DI => andR (D.map deI = K) (dkR eD eI u8 bd life D)
end
end Go.Ik
namespace Go.Ik
open Go Go.Ml
section
variable {R F : Nat → Prop} {w : World}
/-- what a disk reads as -/
theorem ims_read {eI u8 : TypeId} {D : List DI} (h : (boxR (R := R) (D.map (imR eI u8))).p F w) {x : DI} (hx : x ∈ D) : ∃ vg vn, Bk w x.ptr [vg, vn] eI ∧ Sl encB w F vg x.good ∧ Sl encB w F vn x.now := by
  obtain ⟨k, hk⟩ := List.mem_iff_getElem?.1 hx
  obtain ⟨Fs, h1, h2, _⟩ := h
  obtain ⟨⟨vg, vn⟩, hb⟩ := h1 k (imR eI u8 x) (by rw [List.getElem?_map, hk]; rfl)
  obtain ⟨Gs, g1, g2, _⟩ := hb
  have q1 := g1 0 _ rfl
  have q2 := g1 1 _ rfl
  have q3 := g1 2 _ rfl
  refine ⟨vg, vn, q1.1, (acc_sl q2).mono fun b hb => ?_, (acc_sl q3).mono fun b hb => ?_⟩
  · exact (h2 k b (g2 1 b hb).1.1).1.1
  · exact (h2 k b (g2 2 b hb).1.1).1.1
theorem dkK_in {eD eI u8 : TypeId} {bd : Nat} {life : Int} {K : List DE} (h : (dkK (R := R) eD eI u8 bd life K).p F w) : ∃ (D : List DI) (bm : Nat), D.map deI = K ∧ Bk w bd [.map (some bm), .int .i64 life] eD ∧ MapO intV ptrV w bm (D.map fun x => (x.shard, x.ptr)) ∧ ∀ x ∈ D, ∃ vg vn, Bk w x.ptr [vg, vn] eI ∧ Sl encB w F vg x.good ∧ Sl encB w F vn x.now := by
  obtain ⟨D, hD, bm, Fs, h1, h2, _⟩ := h
  have q1 := h1 0 _ rfl
  have q2 := h1 1 _ rfl
  have q3 := h1 2 _ rfl
  refine ⟨D, bm, hD, q1.1, q2.1, fun x hx => ?_⟩
  obtain ⟨vg, vn, k1, k2, k3⟩ := ims_read q3 hx
  exact ⟨vg, vn, k1, k2.mono fun b hb => (h2 2 b hb).1.1, k3.mono fun b hb => (h2 2 b hb).1.1⟩
/-- an image of a shard that is kept -/
theorem dk_hit {D : List DI} {K : List DE} {s : Int} {x : DE} (hD : D.map deI = K) (h : dkGet K s = some x) : ∃ (k : Nat) (y : DI), D[k]? = some y ∧ deI y = x ∧ y.shard = s ∧ asc (D.map fun x => (x.shard, x.ptr)) s = some y.ptr := by
  subst hD; exact ims_hit h
theorem dk_miss {D : List DI} {K : List DE} {s : Int} (hD : D.map deI = K) (h : dkGet K s = none) : asc (D.map fun x => (x.shard, x.ptr)) s = none := by
  subst hD; exact ims_miss h
theorem dk_no {K : List DE} {s : Int} (h : dkGet K s = none) : dkErr K s = 4 ∧ dkRead K s = [] ∧ dkRotten K s = false ∧ (∀ f, dkPut K s f = K) := by
  unfold dkErr dkRead dkRotten; rw [h]; exact ⟨rfl, rfl, rfl, fun f => dkPut_no h⟩
theorem dk_yes {K : List DE} {s : Int} {x : DE} (h : dkGet K s = some x) : dkErr K s = 0 ∧ dkRead K s = x.2.2 ∧ dkRotten K s = decide (x.2.2 ≠ x.2.1) := by
  unfold dkErr dkRead dkRotten; rw [h]; exact ⟨rfl, rfl, rfl⟩
/-- an image out of its disk, and back -/
theorem dkK_out {eD eI u8 : TypeId} {bd : Nat} {life : Int} {K : List DE} {s : Int} {x : DE} (h : (dkK (R := R) eD eI u8 bd life K).p F w) (hx : dkGet K s = some x) : ∃ (D : List DI) (k : Nat) (y : DI) (bm : Nat), D.map deI = K ∧ D[k]? = some y ∧ deI y = x ∧ y.shard = s ∧ asc (D.map fun x => (x.shard, x.ptr)) s = some y.ptr ∧
    (boxR (R := R) [bkR bd [.map (some bm), .int .i64 life] eD, mapR intV ptrV bm (D.map fun x => (x.shard, x.ptr)), boxR ((D.take k).map (imR eI u8)), imR eI u8 y, boxR ((D.drop (k + 1)).map (imR eI u8))]).p F w := by
  obtain ⟨D, hD, bm, hS⟩ := h
  obtain ⟨k, y, h1, h2, h3, h4⟩ := dk_hit hD hx
  refine ⟨D, k, y, bm, hD, h1, h2, h3, h4, ?_⟩
  obtain ⟨Fs, g1, g2, g3⟩ := hS
  have q3 := ims_out (R := R) (eI := eI) (u8 := u8) h1 (Fs 2) (g1 2 _ rfl)
  have : Sep (R := R) [bkR bd [.map (some bm), .int .i64 life] eD, mapR intV ptrV bm (D.map fun x => (x.shard, x.ptr)), boxR [boxR ((D.take k).map (imR eI u8)), imR eI u8 y, boxR ((D.drop (k + 1)).map (imR eI u8))]] F w := by
    refine ⟨Fs, fun i A hA => ?_, g2, g3⟩
    match i, hA with
    | 0, hA => exact g1 0 A hA
    | 1, hA => exact g1 1 A hA
    | 2, hA =>
      simp only [List.getElem?_cons_succ, List.getElem?_cons_zero, Option.some.injEq] at hA
      subst hA
      exact q3
    | n + 3, hA => simp at hA
  exact Sep.open (L1 := [_, _]) this
theorem dkK_back {eD eI u8 : TypeId} {bd : Nat} {life : Int} {K : List DE} {D : List DI} {k : Nat} {y : DI} {bm : Nat} {s : Int} {f : List UInt8 → List UInt8} (hD : D.map deI = K) (hK : DkOk K) (hk : D[k]? = some y) (hys : y.shard = s)
    (h : (boxR (R := R) [bkR bd [.map (some bm), .int .i64 life] eD, mapR intV ptrV bm (D.map fun x => (x.shard, x.ptr)), boxR ((D.take k).map (imR eI u8)), imR eI u8 { y with now := f y.good }, boxR ((D.drop (k + 1)).map (imR eI u8))]).p F w) : (dkK (R := R) eD eI u8 bd life (dkPut K s f)).p F w := by
  subst hD; subst hys
  refine ⟨D.set k { y with now := f y.good }, ims_set hK hk rfl, bm, ?_⟩
  have h2 : Sep ([bkR (R := R) bd [.map (some bm), .int .i64 life] eD, mapR intV ptrV bm (D.map fun x => (x.shard, x.ptr))] ++ [boxR ((D.take k).map (imR eI u8)), imR eI u8 { y with now := f y.good }, boxR ((D.drop (k + 1)).map (imR eI u8))]) F w := h
  have h3 := h2.close
  obtain ⟨Fs, g1, g2, g3⟩ := h3
  refine ⟨Fs, fun i A hA => ?_, g2, g3⟩
  match i, hA with
  | 0, hA => exact g1 0 A hA
  | 1, hA =>
    rw [ims_keys hk] at hA
    exact g1 1 A hA
  | 2, hA =>
    simp only [List.getElem?_cons_succ, List.getElem?_cons_zero, Option.some.injEq] at hA
    subst hA
    exact ims_in (R := R) (eI := eI) (u8 := u8) hk (Fs 2) (g1 2 _ rfl)
  | n + 3, hA => simp at hA
theorem dkK_op {eD eI u8 : TypeId} {bd : Nat} {life : Int} {K : List DE} (h : (dkK (R := R) eD eI u8 bd life K).p F w) : ∃ (D : List DI) (bm : Nat), D.map deI = K ∧ (boxR (R := R) [bkR bd [.map (some bm), .int .i64 life] eD, mapR intV ptrV bm (D.map fun x => (x.shard, x.ptr)), boxR (D.map (imR eI u8))]).p F w := by
  obtain ⟨D, hD, bm, hS⟩ := h
  exact ⟨D, bm, hD, hS⟩
theorem dkK_cl {eD eI u8 : TypeId} {bd : Nat} {life : Int} {K : List DE} {D : List DI} {bm : Nat} (hD : D.map deI = K) (h : (boxR (R := R) [bkR bd [.map (some bm), .int .i64 life] eD, mapR intV ptrV bm (D.map fun x => (x.shard, x.ptr)), boxR (D.map (imR eI u8))]).p F w) : (dkK (R := R) eD eI u8 bd life K).p F w := ⟨D, hD, bm, h⟩
theorem dkK_push {eD eI u8 : TypeId} {bd : Nat} {life : Int} {K : List DE} {D : List DI} {bm : Nat} {y : DI} {s : Int} {img : List UInt8} (hD : D.map deI = K) (hy : deI y = (s, img, img))
    (h : (boxR (R := R) [bkR bd [.map (some bm), .int .i64 life] eD, mapR intV ptrV bm ((D.map fun x => (x.shard, x.ptr)) ++ [(s, y.ptr)]), boxR (D.map (imR eI u8)), imR eI u8 y]).p F w) : (dkK (R := R) eD eI u8 bd life (K ++ [(s, img, img)])).p F w := by
  have hs : y.shard = s := congrArg Prod.fst hy
  refine ⟨D ++ [y], by rw [List.map_append, hD, List.map_singleton, hy], bm, ?_⟩
  have h2 : Sep (R := R) ([bkR bd [.map (some bm), .int .i64 life] eD, mapR intV ptrV bm ((D.map fun x => (x.shard, x.ptr)) ++ [(s, y.ptr)])] ++ [boxR (D.map (imR eI u8)), imR eI u8 y]) F w := h
  obtain ⟨Fs, g1, g2, g3⟩ := h2.close
  refine ⟨Fs, fun i A hA => ?_, g2, g3⟩
  match i, hA with
  | 0, hA => exact g1 0 A hA
  | 1, hA =>
    rw [List.map_append, List.map_singleton, hs] at hA
    exact g1 1 A hA
  | 2, hA =>
    simp only [List.getElem?_cons_succ, List.getElem?_cons_zero, Option.some.injEq] at hA
    subst hA
    have k : Sep (R := R) [boxR (D.map (imR eI u8)), imR eI u8 y] (Fs 2) w := g1 2 _ rfl
    have k2 : Sep (R := R) [imR eI u8 y, boxR (D.map (imR eI u8))] (Fs 2) w := Sep.rot (A := [boxR (D.map (imR eI u8))]) (B := [imR eI u8 y]) k
    have k3 := (Sep.open (L1 := [imR (R := R) eI u8 y]) k2)
    have k4 := Sep.rot (A := [imR (R := R) eI u8 y]) (B := D.map (imR eI u8)) k3
    show Sep (R := R) ((D ++ [y]).map (imR eI u8)) (Fs 2) w
    rw [List.map_append, List.map_singleton]
    exact k4
  | n + 3, hA => simp at hA
/-- an empty disk -/
theorem dkK_nil {eD eI u8 : TypeId} {bd bm : Nat} {life : Int} (h : (boxR (R := R) [bkR bd [.map (some bm), .int .i64 life] eD, mapR intV ptrV bm []]).p F w) : (dkK (R := R) eD eI u8 bd life []).p F w := by
  refine ⟨[], rfl, bm, ?_⟩
  obtain ⟨Fs, g1, g2, g3⟩ := h
  refine ⟨fun i b => Fs i b ∧ i < 2, fun i A hA => ?_, fun i b hb => g2 i b hb.1, fun i j b hij hi hj => g3 i j b hij hi.1 hj.1⟩
  match i, hA with
  | 0, hA =>
    have := g1 0 A hA
    simpa using this
  | 1, hA =>
    have := g1 1 A hA
    simpa using this
  | 2, hA =>
    simp only [List.getElem?_cons_succ, List.getElem?_cons_zero, Option.some.injEq] at hA
    subst hA
    exact ⟨fun _ _ => False, fun i A h => by simp at h, fun _ _ h => h.elim, fun _ _ _ _ h => h.elim⟩
  | n + 3, hA => simp at hA
theorem asc_none {D : List DI} {s : Int} (h : ∀ x ∈ D, x.shard ≠ s) : asc (D.map fun x => (x.shard, x.ptr)) s = none := by
  rw [asc_ims, List.find?_eq_none.2]
  · rfl
  · intro x hx
    simpa using h x hx
end
section
variable {P : Program} {E : Env} {C : World → Prop} {d : Option Tmp} {ty : TypeId} {pos : String} {af : Array Edge} {gd : Option (Nat × Bool)} {α β : Type} [DecidableEq α] {key : α → Value} {val : β → Value}
theorem Q1.lookHit {t kt et : TypeId} {x y : Operand} {b : Nat} {m : List (α × β)} {a : α} {z : Value} {u : β} (hk : KeyOk P kt key) (ht : P.underlying t = some (.map kt et)) (hz : ∀ w, (zeroValue et).run P w = .ok z w) (hx : ev E x = some (.map (some b))) (hy : ev E y = some (key a)) (hm : ∀ w, C w → MapO key val w b m) (ha : asc m a = some u) :
    Q1 P ⟨d, .lookup t x y false, ty, pos, af, gd⟩ E C (val u) := by
  have h := Q1.lookup1 (d := d) (ty := ty) (pos := pos) (af := af) (gd := gd) (val := val) hk ht hz hx hy hm
  rw [ha] at h; exact h
theorem Q1.lookMiss {t kt et : TypeId} {x y : Operand} {b : Nat} {m : List (α × β)} {a : α} {z : Value} (hk : KeyOk P kt key) (ht : P.underlying t = some (.map kt et)) (hz : ∀ w, (zeroValue et).run P w = .ok z w) (hx : ev E x = some (.map (some b))) (hy : ev E y = some (key a)) (hm : ∀ w, C w → MapO key val w b m) (ha : asc m a = none) :
    Q1 P ⟨d, .lookup t x y false, ty, pos, af, gd⟩ E C z := by
  have h := Q1.lookup1 (d := d) (ty := ty) (pos := pos) (af := af) (gd := gd) (val := val) hk ht hz hx hy hm
  rw [ha] at h; exact h
end
end Go.Ik
namespace Go.Ik
open Go Go.Ml
/-- what is done to a disk -/
structure ActD where
  do_ : Int
  shard : Int
  at_ : Int
  x : Int
def encAct (a : ActD) : List Value := [.int .i64 a.do_, .int .i64 a.shard, .int .i64 a.at_, .int .i64 a.x]
theorem encAct_len (a : ActD) : (encAct a).length = 4 := rfl
structure ActD.Ok (a : ActD) : Prop where
  do_ : I64 a.do_
  shard : I64 a.shard
  at_ : I64 a.at_
  x : I64 a.x
end Go.Ik
