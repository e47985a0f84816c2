/-
  What the law WorkerOnce needs, part 3 of 7: theory, and walks through the code.
-/
import Derived.Test.YtjideiielmlccaaGreatSWorkerOnceB
set_option linter.unusedVariables false
set_option linter.unusedSimpArgs false
namespace Go.Ml
open Go.Ik
theorem xor_cancel {a b c : Nat} (h : a ^^^ c = b ^^^ c) : a = b := by
  have := congrArg (· ^^^ c) h
  simpa [Nat.xor_assoc] using this
theorem xor_cancelL {a b c : Nat} (h : c ^^^ a = c ^^^ b) : a = b := by
  rw [Nat.xor_comm c a, Nat.xor_comm c b] at h; exact xor_cancel h
theorem top_xor {a : Nat} (h : a < 2147483648) : 2147483648 ≤ a ^^^ 3988292384 := by
  have h1 : (a ^^^ 3988292384).testBit 31 = true := by
    rw [Nat.testBit_xor, Nat.testBit_lt_two_pow (show a < 2 ^ 31 from h)]; rfl
  refine Nat.le_of_not_lt fun k => ?_
  rw [Nat.testBit_lt_two_pow (show a ^^^ 3988292384 < 2 ^ 31 from k)] at h1
  cases h1
theorem crcS_inj {a b : Nat} (ha : a < 4294967296) (hb : b < 4294967296) (h : crcS a = crcS b) : a = b := by
  unfold crcS at h
  have ta := top_xor (a := a / 2) (by omega)
  have tb := top_xor (a := b / 2) (by omega)
  split at h <;> split at h
  · have := xor_cancel h; omega
  · omega
  · omega
  · omega
theorem crcK_inj {a b : Nat} (ha : a < 4294967296) (hb : b < 4294967296) : ∀ k, crcK k a = crcK k b → a = b
  | 0, h => h
  | k + 1, h => crcK_inj ha hb k (crcS_inj (crcK_lt ha k) (crcK_lt hb k) h)
theorem turnN_injL {c d x : Nat} (hc : c < 4294967296) (hd : d < 4294967296) (hx : x < 256) (h : turnN c x = turnN d x) : c = d :=
  xor_cancel (crcK_inj (xor_lt32 hc (by omega)) (xor_lt32 hd (by omega)) 8 h)
theorem turnN_injR {c x y : Nat} (hc : c < 4294967296) (hx : x < 256) (hy : y < 256) (h : turnN c x = turnN c y) : x = y :=
  xor_cancelL (crcK_inj (xor_lt32 hc (by omega)) (xor_lt32 hc (by omega)) 8 h)
theorem crcF_inj : ∀ (l : List UInt8) {c d : Nat}, c < 4294967296 → d < 4294967296 → crcF c l = crcF d l → c = d
  | [], c, d, _, _, h => h
  | x :: l, c, d, hc, hd, h => turnN_injL hc hd x.toNat_lt (crcF_inj l (turnN_lt hc x.toNat_lt) (turnN_lt hd x.toNat_lt) h)
theorem crcF_app (c : Nat) (a b : List UInt8) : crcF c (a ++ b) = crcF (crcF c a) b := by unfold crcF; rw [List.foldl_append]
theorem sumN_set {l : List UInt8} {k : Nat} {x y : UInt8} (hx : l[k]? = some x) (hy : y ≠ x) : sumN (l.set k y) ≠ sumN l := by
  intro h
  have hk := (List.getElem?_eq_some_iff.1 hx).1
  have e1 : l = l.take k ++ x :: l.drop (k + 1) := by
    have := (List.getElem?_eq_some_iff.1 hx).2
    rw [← this]; simp
  have e2 : l.set k y = l.take k ++ y :: l.drop (k + 1) := by rw [List.set_eq_take_append_cons_drop, if_pos hk]
  unfold sumN sumF at h
  have a1 := crcF_lt (l.set k y) (c := 4294967295 - 0) (by omega)
  have a2 := crcF_lt l (c := 4294967295 - 0) (by omega)
  have h2 : crcF (4294967295 - 0) (l.set k y) = crcF (4294967295 - 0) l := by omega
  rw [e2] at h2
  conv at h2 => rhs; rw [e1]
  rw [crcF_app, crcF_app] at h2
  have b1 := crcF_lt (l.take k) (c := 4294967295 - 0) (by omega)
  have h3 := crcF_inj (l.drop (k + 1)) (turnN_lt b1 y.toNat_lt) (turnN_lt b1 x.toNat_lt) h2
  have h4 := turnN_injR b1 y.toNat_lt x.toNat_lt h3
  exact hy (UInt8.toNat.inj h4)
/-- the number at the end -/
theorem numV_tail {b l : List UInt8} (h : l.length = 4) : numV (b ++ l) (((b ++ l).length : Int) - 4) 4 = (numN l : Int) := by
  have hl : (b ++ l).length = b.length + 4 := by rw [List.length_append, h]
  have hok : numOk (b ++ l) (((b ++ l).length : Int) - 4) 4 = true := by unfold numOk; exact decide_eq_true ⟨by omega, by omega, by omega, by omega, by omega⟩
  unfold numV
  rw [if_pos hok, show (((b ++ l).length : Int) - 4).toNat = b.length from by omega, List.drop_left, show (4 : Int).toNat = 4 from rfl, List.take_of_length_le (by omega)]
theorem take_tail {b l : List UInt8} (h : l.length = 4) : (b ++ l).take ((b ++ l).length - 4) = b := by
  rw [List.length_append, h, Nat.add_sub_cancel]; simp
/-- a byte that is another one is found -/
theorem dec_turned {N : List GN} {k : Nat} {x y : UInt8} (hx : (encB_ N)[k]? = some x) (hy : y ≠ x) : decG ((encB_ N).set k y) = ([], 9) := by
  have hp := putN_len (sumN (bodyB N)) 4
  have hs := sumF_lt 0 (bodyB N)
  have hnp := num_put (x := (sumN (bodyB N) : Int)) (.inr (.inr rfl) : sz124 4) (by omega) (by change (sumF 0 (bodyB N) : Int) < _; omega)
  have hk := (List.getElem?_eq_some_iff.1 hx).1
  unfold encB_ sealB at hx hk ⊢
  rw [List.length_append, hp] at hk
  by_cases h : k < (bodyB N).length
  · rw [List.set_append_left _ _ h]
    rw [List.getElem?_append_left h] at hx
    refine decG_sum (by rw [List.length_append, hp]; omega) ?_
    rw [numV_tail hp, take_tail hp, hnp]
    intro e
    exact sumN_set hx hy (by omega)
  · rw [List.set_append_right _ _ (by omega)]
    rw [List.getElem?_append_right (by omega)] at hx
    have hp2 : ((putN (sumN (bodyB N) : Int) 4).set (k - (bodyB N).length) y).length = 4 := by rw [List.length_set, hp]
    refine decG_sum (by rw [List.length_append, hp2]; omega) ?_
    rw [numV_tail hp2, take_tail hp2]
    intro e
    have e2 := put_num (.inr (.inr rfl) : sz124 4) hp2
    rw [e] at e2
    have e3 : (putN (sumN (bodyB N) : Int) 4)[k - (bodyB N).length]? = some y := by
      rw [e2, List.getElem?_set_self (by rw [hp]; omega)]
    rw [hx] at e3
    exact hy (Option.some.inj e3).symm
theorem numR_ext {b r : List UInt8} {n : Nat} {a f a2 : Int} {q : Bool} (h : numR b n (a, q) = (f, (a2, false))) : numR (b ++ r) n (a, q) = (f, (a2, false)) := by
  cases hok : numOk b a n with
  | false => rw [numR_no hok] at h; simp at h
  | true =>
    rw [numR_yes hok] at h
    have hk := hok
    unfold numOk at hk
    have hk := of_decide_eq_true hk
    have hok2 : numOk (b ++ r) a n = true := by unfold numOk; rw [List.length_append]; exact decide_eq_true ⟨by omega, by omega, by omega, by omega, by omega⟩
    rw [numR_yes hok2, ← h]
    have hv : numV (b ++ r) a n = numV b a n := by
      unfold numV
      rw [if_pos hok, if_pos hok2, List.drop_append_of_le_length (by omega), List.take_append_of_le_length (by rw [List.length_drop]; omega)]
    rw [hv]
theorem edgesR_stop {b : List UInt8} {s : Int × Bool} (h : s.2 = true) : ∀ n, (edgesR b n s).2 = s
  | 0 => rfl
  | n + 1 => by unfold edgesR; rw [if_pos h]
theorem edgesR_flag {b : List UInt8} : ∀ (n : Nat) {s : Int × Bool}, (edgesR b n s).2.2 = false → s.2 = false := fun n s h => by
  cases hs : s.2 with
  | false => rfl
  | true => rw [edgesR_stop hs, hs] at h; cases h
theorem nodesR_stop {b : List UInt8} {s : Int × Bool} (h : s.2 = true) : ∀ n, (nodesR b n s).2 = s
  | 0 => rfl
  | n + 1 => by unfold nodesR; rw [if_pos h]
theorem nodesR_flag {b : List UInt8} : ∀ (n : Nat) {s : Int × Bool}, (nodesR b n s).2.2 = false → s.2 = false := fun n s h => by
  cases hs : s.2 with
  | false => rfl
  | true => rw [nodesR_stop hs, hs] at h; cases h
/-- what an image that is read is -/
theorem decG_ok {b : List UInt8} (h : (decG b).2 = 0) : ∃ c a0 N, 8 ≤ b.length ∧ numV b ((b.length : Int) - 4) 4 = (sumN (b.take (b.length - 4)) : Int) ∧ b.take 4 = [73, 78, 75, 49] ∧ numR (b.take (b.length - 4)) 2 (4, false) = (c, (a0, false)) ∧ nodesR (b.take (b.length - 4)) c.toNat (a0, false) = (N, ((b.length : Int) - 4, false)) ∧ madeG N ≠ [] ∧ (decG b).1 = madeG N := by
  by_cases h1 : b.length < 4
  · rw [decG_short h1] at h; cases h
  by_cases h2 : ¬ numV b ((b.length : Int) - 4) 4 = (sumN (b.take (b.length - 4)) : Int)
  · rw [decG_sum h1 h2] at h; cases h
  have h2 := Classical.not_not.1 h2
  by_cases h3 : b.length - 4 < 4 ∨ ¬ b.take 4 = [73, 78, 75, 49]
  · rw [decG_head h1 h2 h3] at h; cases h
  obtain ⟨⟨c, a0, q0⟩, h4⟩ : ∃ x, numR (b.take (b.length - 4)) 2 (4, false) = x := ⟨_, rfl⟩
  obtain ⟨⟨N, a, q⟩, h5⟩ : ∃ x, nodesR (b.take (b.length - 4)) c.toNat (a0, q0) = x := ⟨_, rfl⟩
  by_cases h6 : q = true ∨ ¬ a = (b.length : Int) - 4
  · rw [decG_form h1 h2 h3 h4.symm h5 h6] at h; cases h
  by_cases h7 : madeG N = []
  · rw [decG_none h1 h2 h3 h4.symm h5 h6 h7] at h; cases h
  have hq : q = false := by cases q with
    | false => rfl
    | true => exact absurd (.inl rfl) h6
  have ha : a = (b.length : Int) - 4 := Classical.byContradiction fun k => h6 (.inr k)
  subst hq; subst ha
  have hq0 : q0 = false := nodesR_flag _ (by rw [h5])
  subst hq0
  exact ⟨c, a0, N, by omega, h2, Classical.byContradiction fun k => h3 (.inr k), h4, h5, h7, by rw [decG_yes h1 h2 h3 h4.symm h5 h6 h7]⟩
theorem decG_no {b : List UInt8} (h : (decG b).2 ≠ 0) : (decG b).1 = [] := by
  unfold decG at h ⊢
  split
  · rfl
  split
  · rfl
  split
  · rfl
  split
  · rfl
  split
  · rfl
  · rename_i h1 h2 h3 h4 h5
    rw [if_neg h1, if_neg h2, if_neg h3, if_neg h4, if_neg h5] at h
    exact absurd rfl h
def turnX (x : Int) : UInt8 := byN (1 + (IntKind.u64.wrap x) % 255)
def turnAt (b : List UInt8) (at_ : Int) : Nat := (lowM at_ (b.length : Int)).toNat
def turnB (b : List UInt8) (at_ x : Int) : List UInt8 := match b[turnAt b at_]? with
  | none => b
  | some y => b.set (turnAt b at_) (y ^^^ turnX x)
theorem turnX_ne (x : Int) : turnX x ≠ 0 := by
  unfold turnX
  intro h
  have h1 := byN_toNat (1 + (IntKind.u64.wrap x) % 255)
  rw [h] at h1
  have h2 := Int.emod_nonneg (IntKind.u64.wrap x) (by omega : (255 : Int) ≠ 0)
  have h3 := Int.emod_lt_of_pos (IntKind.u64.wrap x) (by omega : (0 : Int) < 255)
  have h4 : ((0 : UInt8).toNat : Int) = 0 := rfl
  omega
theorem xor_other (y : UInt8) {z : UInt8} (h : z ≠ 0) : y ^^^ z ≠ y := by
  intro e
  apply h
  have e2 := congrArg UInt8.toNat e
  rw [UInt8.toNat_xor] at e2
  have e3 : y.toNat ^^^ z.toNat = y.toNat ^^^ 0 := by rw [e2]; simp
  exact UInt8.toNat.inj (xor_cancelL e3)
theorem turnAt_lt {b : List UInt8} (h : 1 ≤ b.length) (at_ : Int) : turnAt b at_ < b.length := by
  unfold turnAt lowM
  have h2 := Int.emod_nonneg (IntKind.u64.wrap at_) (by omega : (b.length : Int) ≠ 0)
  have h3 := Int.emod_lt_of_pos (IntKind.u64.wrap at_) (by omega : (0 : Int) < (b.length : Int))
  omega
theorem turnB_yes {b : List UInt8} {at_ x : Int} {y : UInt8} (h : b[turnAt b at_]? = some y) : turnB b at_ x = b.set (turnAt b at_) (y ^^^ turnX x) := by unfold turnB; rw [h]
theorem turnB_at {b : List UInt8} (h : 1 ≤ b.length) (at_ x : Int) : ∃ y, b[turnAt b at_]? = some y ∧ turnB b at_ x = b.set (turnAt b at_) (y ^^^ turnX x) ∧ y ^^^ turnX x ≠ y := by
  have := turnAt_lt h at_
  exact ⟨_, List.getElem?_eq_getElem this, turnB_yes (List.getElem?_eq_getElem this), xor_other _ (turnX_ne x)⟩
theorem img_len {words : List Str} (h : goodL words = 0) : 10 ≤ (imgM words).length := by
  rw [← enc_img h, encB_len]; omega
theorem dec_turnB {words : List Str} (h : goodL words = 0) (at_ x : Int) : decG (turnB (imgM words) at_ x) = ([], 9) := by
  have hl := img_len h
  obtain ⟨y, h1, h2, h3⟩ := turnB_at (b := imgM words) (by omega) at_ x
  rw [h2]
  rw [← enc_img h] at h1 ⊢
  exact dec_turned h1 h3
end Go.Ml
namespace Go.Ml
open Go.Ik
theorem numR_back {b : List UInt8} {n : Nat} {a f a2 : Int} {q : Bool} (hn : sz124 n) (h : numR b n (a, q) = (f, (a2, false))) : q = false ∧ 0 ≤ a ∧ a2 = a + n ∧ a2 ≤ b.length ∧ 0 ≤ f ∧ f < 256 ^ n ∧ b.drop a.toNat = putN f n ++ b.drop a2.toNat := by
  cases hok : numOk b a n with
  | false => rw [numR_no hok] at h; simp at h
  | true =>
    rw [numR_yes hok] at h
    have hk := hok
    unfold numOk at hk
    have hk := of_decide_eq_true hk
    simp only [Prod.mk.injEq] at h
    obtain ⟨rfl, rfl, rfl⟩ := h
    have hv : numV b a n = (numN ((b.drop a.toNat).take n) : Int) := by
      unfold numV
      rw [if_pos hok, Int.toNat_natCast]
    have hl : ((b.drop a.toNat).take n).length = n := by rw [List.length_take, List.length_drop]; omega
    have hp := numN_pow (l := (b.drop a.toNat).take n)
    rw [hl] at hp
    refine ⟨rfl, by omega, rfl, by omega, by omega, by rw [hv]; have h2 := Int.ofNat_lt.2 hp; rw [Int.natCast_pow] at h2; exact h2, ?_⟩
    rw [hv, put_num hn hl, show (a + (n : Int)).toNat = a.toNat + n from by omega, ← List.drop_drop, List.take_append_drop]
theorem edgeR_back {b : List UInt8} {a a2 : Int} {q : Bool} {e : Ed} (h : edgeR b (a, q) = (e, (a2, false))) : q = false ∧ 0 ≤ a ∧ 0 ≤ a2 ∧ edOk e ∧ b.drop a.toNat = edgeB e ++ b.drop a2.toNat := by
  unfold edgeR at h
  simp only [Prod.mk.injEq] at h
  generalize hr : numR b 4 (a, q) = x at *
  obtain ⟨f, a1, q1⟩ := x
  dsimp only at h
  generalize hr2 : numR b 2 (a1, q1 || decide (f > 1114111)) = y at *
  obtain ⟨t, a3, q3⟩ := y
  dsimp only at h
  obtain ⟨rfl, h⟩ := h
  simp only [Prod.mk.injEq] at h
  obtain ⟨rfl, rfl⟩ := h
  obtain ⟨k1, k2, k3, k4, k5, k6, k7⟩ := numR_back (.inr (.inl rfl)) hr2
  obtain ⟨rfl, k8⟩ := Bool.or_eq_false_iff.1 k1
  obtain ⟨rfl, l2, l3, l4, l5, l6, l7⟩ := numR_back (.inr (.inr rfl)) hr
  have hf : ¬ f > 1114111 := of_decide_eq_false k8
  have hw := wrap32 l5 (by omega)
  refine ⟨rfl, l2, by omega, ⟨by dsimp only; rw [hw]; exact l5, by dsimp only; rw [hw]; omega, k5, by dsimp only; omega⟩, ?_⟩
  rw [l7, k7]
  unfold edgeB
  rw [hw, List.append_assoc]
theorem edgesR_back {b : List UInt8} : ∀ (n : Nat) {a a2 : Int} {es : List Ed}, edgesR b n (a, false) = (es, (a2, false)) → 0 ≤ a → es.length = n ∧ (∀ e ∈ es, edOk e) ∧ 0 ≤ a2 ∧ b.drop a.toNat = es.flatMap edgeB ++ b.drop a2.toNat
  | 0, a, a2, es, h, ha => by
    unfold edgesR at h
    simp only [Prod.mk.injEq] at h
    obtain ⟨rfl, rfl, _⟩ := h
    exact ⟨rfl, by simp, ha, by simp⟩
  | n + 1, a, a2, es, h, ha => by
    unfold edgesR at h
    rw [if_neg (by simp)] at h
    simp only [Prod.mk.injEq] at h
    generalize hr : edgeR b (a, false) = x at *
    obtain ⟨e, a1, q1⟩ := x
    dsimp only at h
    generalize hr2 : edgesR b n (a1, q1) = y at *
    obtain ⟨es2, s2⟩ := y
    dsimp only at h
    obtain ⟨rfl, rfl⟩ := h
    have hq := edgesR_flag n (s := (a1, q1)) (by rw [hr2])
    dsimp only at hq
    subst hq
    obtain ⟨_, k2, k3, k4, k5⟩ := edgeR_back hr
    obtain ⟨l1, l2, l3, l4⟩ := edgesR_back n hr2 k3
    refine ⟨by rw [List.length_cons, l1], fun e' he => ?_, l3, by rw [k5, l4, List.flatMap_cons, List.append_assoc]⟩
    rcases List.mem_cons.1 he with rfl | he
    · exact k4
    · exact l2 e' he
theorem nodeR_back {b : List UInt8} {a a2 : Int} {q : Bool} {x : GN} (h : nodeR b (a, q) = (x, (a2, false))) : q = false ∧ 0 ≤ a ∧ 0 ≤ a2 ∧ gnOk x ∧ b.drop a.toNat = nodeB x ++ b.drop a2.toNat := by
  unfold nodeR at h
  simp only [Prod.mk.injEq] at h
  generalize hr : numR b 1 (a, q) = x1 at *
  obtain ⟨f, a1, q1⟩ := x1
  dsimp only at h
  generalize hr2 : numR b 2 (a1, q1 || decide (f > 1)) = y at *
  obtain ⟨c, a3, q3⟩ := y
  dsimp only at h
  generalize hr3 : edgesR b c.toNat (a3, q3) = z at *
  obtain ⟨es, s4⟩ := z
  dsimp only at h
  obtain ⟨rfl, rfl⟩ := h
  have hq := edgesR_flag _ (s := (a3, q3)) (by rw [hr3])
  dsimp only at hq
  subst hq
  obtain ⟨k1, k2, k3, k4, k5, k6, k7⟩ := numR_back (.inr (.inl rfl)) hr2
  obtain ⟨rfl, k8⟩ := Bool.or_eq_false_iff.1 k1
  obtain ⟨rfl, l2, l3, l4, l5, l6, l7⟩ := numR_back (.inl rfl) hr
  obtain ⟨m1, m2, m3, m4⟩ := edgesR_back _ hr3 (by omega)
  have hf : ¬ f > 1 := of_decide_eq_false k8
  refine ⟨rfl, l2, m3, ⟨by dsimp only; omega, m2⟩, ?_⟩
  rw [l7, k7, m4]
  unfold nodeB
  dsimp only
  have e1 : (if decide (f = 1) = true then (1 : Int) else 0) = f := by
    by_cases h1 : f = 1
    · rw [if_pos (decide_eq_true h1)]; exact h1.symm
    · rw [if_neg (by simpa using h1)]; omega
  rw [e1, m1, show ((c.toNat : Nat) : Int) = c from by omega]
  simp only [List.append_assoc]
theorem nodesR_back {b : List UInt8} : ∀ (n : Nat) {a a2 : Int} {N : List GN}, nodesR b n (a, false) = (N, (a2, false)) → 0 ≤ a → N.length = n ∧ (∀ x ∈ N, gnOk x) ∧ 0 ≤ a2 ∧ b.drop a.toNat = N.flatMap nodeB ++ b.drop a2.toNat
  | 0, a, a2, N, h, ha => by
    unfold nodesR at h
    simp only [Prod.mk.injEq] at h
    obtain ⟨rfl, rfl, _⟩ := h
    exact ⟨rfl, by simp, ha, by simp⟩
  | n + 1, a, a2, N, h, ha => by
    unfold nodesR at h
    rw [if_neg (by simp)] at h
    simp only [Prod.mk.injEq] at h
    generalize hr : nodeR b (a, false) = x at *
    obtain ⟨e, a1, q1⟩ := x
    dsimp only at h
    generalize hr2 : nodesR b n (a1, q1) = y at *
    obtain ⟨es2, s2⟩ := y
    dsimp only at h
    obtain ⟨rfl, rfl⟩ := h
    have hq := nodesR_flag n (s := (a1, q1)) (by rw [hr2])
    dsimp only at hq
    subst hq
    obtain ⟨_, k2, k3, k4, k5⟩ := nodeR_back hr
    obtain ⟨l1, l2, l3, l4⟩ := nodesR_back n hr2 k3
    refine ⟨by rw [List.length_cons, l1], fun e' he => ?_, l3, by rw [k5, l4, List.flatMap_cons, List.append_assoc]⟩
    rcases List.mem_cons.1 he with rfl | he
    · exact k4
    · exact l2 e' he
/-- what is read is an image -/
theorem decG_back {b : List UInt8} (h : (decG b).2 = 0) : ∃ N, b = encB_ N ∧ madeG N ≠ [] ∧ (decG b).1 = madeG N := by
  obtain ⟨c, a0, N, h1, h2, h3, h4, h5, h6, h7⟩ := decG_ok h
  refine ⟨N, ?_, h6, h7⟩
  have hbl : (b.take (b.length - 4)).length = b.length - 4 := by rw [List.length_take]; omega
  obtain ⟨_, _, k3, k4, k5, k6, k7⟩ := numR_back (.inr (.inl rfl)) h4
  obtain ⟨m1, m2, m3, m4⟩ := nodesR_back _ h5 (by omega)
  rw [List.drop_of_length_le (l := b.take (b.length - 4)) (i := ((b.length : Int) - 4).toNat) (by rw [hbl]; omega), List.append_nil] at m4
  have hbody : b.take (b.length - 4) = bodyB N := by
    rw [← List.take_append_drop 4 (b.take (b.length - 4)), List.take_take, show min 4 (b.length - 4) = 4 from by omega, h3]
    have k7' : (b.take (b.length - 4)).drop 4 = putN c 2 ++ (b.take (b.length - 4)).drop a0.toNat := k7
    rw [k7', m4]
    unfold bodyB
    rw [m1, show ((c.toNat : Nat) : Int) = c from by omega, List.append_assoc]
  have hd : (b.drop (b.length - 4)).length = 4 := by rw [List.length_drop]; omega
  have e1 : b = b.take (b.length - 4) ++ b.drop (b.length - 4) := (List.take_append_drop _ _).symm
  have h2' := numV_tail (b := b.take (b.length - 4)) hd
  rw [← e1, h2] at h2'
  have e2 := put_num (.inr (.inr rfl) : sz124 4) hd
  rw [← h2'] at e2
  unfold encB_ sealB
  rw [← hbody, e2]
  exact e1
theorem read_img {b : List UInt8} (h : (decG b).2 = 0) : ∃ words, goodL words = 0 ∧ b = imgM words ∧ (decG b).1 = gnodes words := by
  obtain ⟨N, h1, h2, h3⟩ := decG_back h
  by_cases hc : rightE N = true ∧ N.length ≠ 0 ∧ N.length ≤ 721 ∧ wholeM N = true ∧ (someM N).2 = true ∧ goodL (someM N).1 = 0 ∧ gnodes (someM N).1 = N
  · refine ⟨(someM N).1, hc.2.2.2.2.2.1, ?_, by rw [h3, madeG_yes hc]⟩
    rw [← enc_img hc.2.2.2.2.2.1, hc.2.2.2.2.2.2]; exact h1
  · exact absurd (madeG_no hc) h2
abbrev RP := Bool × List (Int × Int)
def edgeP (b : List UInt8) (s : Int × Bool) : (Int × Int) × (Int × Bool) := (((numR b 4 s).1, (numR b 2 (numR b 4 s).2).1), (numR b 2 (numR b 4 s).2).2)
def edgesP (b : List UInt8) : Nat → Int × Bool → List (Int × Int) × (Int × Bool)
  | 0, s => ([], s)
  | n + 1, s => if s.2 = true then ([], s) else ((edgeP b s).1 :: (edgesP b n (edgeP b s).2).1, (edgesP b n (edgeP b s).2).2)
def nodeP (b : List UInt8) (s : Int × Bool) : RP × (Int × Bool) :=
  ((decide ((numR b 1 s).1 = 1), (edgesP b (numR b 2 (numR b 1 s).2).1.toNat (numR b 2 (numR b 1 s).2).2).1), (edgesP b (numR b 2 (numR b 1 s).2).1.toNat (numR b 2 (numR b 1 s).2).2).2)
def nodesP (b : List UInt8) : Nat → Int × Bool → List RP × (Int × Bool)
  | 0, s => ([], s)
  | n + 1, s => if s.2 = true then ([], s) else ((nodeP b s).1 :: (nodesP b n (nodeP b s).2).1, (nodesP b n (nodeP b s).2).2)
def edP (e : Ed) : Int × Int := (e.rune, e.to)
def gnP (x : GN) : RP := (x.1, x.2.map edP)
theorem edgeP_put {b r : List UInt8} {a : Nat} {e : Ed} (h : b.drop a = edgeB e ++ r) (he : edOk e) : edgeP b ((a : Int), false) = (edP e, (((a + 6 : Nat) : Int), false)) := by
  unfold edOk at he
  unfold edgeB at h
  rw [List.append_assoc] at h
  have k1 := numR_put (q := false) h (.inr (.inr rfl)) (by omega) (by omega)
  have k2 := drop_len h
  rw [putN_len] at k2
  have k3 := numR_put (q := false) k2 (.inr (.inl rfl)) (by omega) (by omega)
  unfold edgeP edP
  rw [k1]; dsimp only; rw [k3]
theorem edgesP_put {b : List UInt8} : ∀ (es : List Ed) (a : Nat) (r : List UInt8), b.drop a = es.flatMap edgeB ++ r → (∀ e ∈ es, edOk e) → edgesP b es.length ((a : Int), false) = (es.map edP, (((a + 6 * es.length : Nat) : Int), false))
  | [], a, r, h, _ => by simp [edgesP]
  | e :: es, a, r, h, hx => by
    rw [List.flatMap_cons, List.append_assoc] at h
    have k1 := edgeP_put h (hx e (by simp))
    have k2 := drop_len h
    rw [edgeB_len] at k2
    have k3 := edgesP_put es (a + 6) r k2 (fun e h => hx e (by simp [h]))
    rw [List.length_cons]
    conv => lhs; unfold edgesP
    rw [if_neg (by simp), k1]
    simp only [k3, List.map_cons]
    rw [show a + 6 + 6 * es.length = a + 6 * (es.length + 1) from by omega]
theorem nodeP_put {b r : List UInt8} {a : Nat} {x : GN} (h : b.drop a = nodeB x ++ r) (hx : gnOk x) : nodeP b ((a : Int), false) = (gnP x, (((a + ndLen x : Nat) : Int), false)) := by
  unfold gnOk at hx
  unfold nodeB at h
  rw [List.append_assoc, List.append_assoc] at h
  have hf : 0 ≤ (if x.1 = true then (1 : Int) else 0) ∧ (if x.1 = true then (1 : Int) else 0) < 256 := by split <;> omega
  have k1 := numR_put (q := false) h (.inl rfl) hf.1 (by have := hf.2; omega)
  have k2 := drop_len h
  rw [putN_len] at k2
  have k3 := numR_put (q := false) k2 (.inr (.inl rfl)) (by omega) (by have := hx.1; omega)
  have k4 := drop_len k2
  rw [putN_len] at k4
  have k5 := edgesP_put x.2 _ r k4 hx.2
  unfold nodeP gnP ndLen
  rw [k1]; dsimp only; rw [k3]; dsimp only
  rw [Int.toNat_natCast, k5]; dsimp only
  have e1 : decide ((if x.1 = true then (1 : Int) else 0) = 1) = x.1 := by cases x.1 <;> rfl
  rw [e1, show a + 1 + 2 + 6 * x.2.length = a + (3 + 6 * x.2.length) from by omega]
theorem nodesP_put {b : List UInt8} : ∀ (N : List GN) (a : Nat) (r : List UInt8), b.drop a = N.flatMap nodeB ++ r → (∀ x ∈ N, gnOk x) → nodesP b N.length ((a : Int), false) = (N.map gnP, (((a + ndsLen N : Nat) : Int), false))
  | [], a, r, h, _ => by simp [nodesP, ndsLen]
  | x :: N, a, r, h, hx => by
    rw [List.flatMap_cons, List.append_assoc] at h
    have k1 := nodeP_put h (hx x (by simp))
    have k2 := drop_len h
    rw [nodeB_len2] at k2
    have k3 := nodesP_put N (a + ndLen x) r k2 (fun e h => hx e (by simp [h]))
    rw [List.length_cons]
    conv => lhs; unfold nodesP
    rw [if_neg (by simp), k1]
    simp only [k3, List.map_cons]
    rw [show a + ndLen x + ndsLen N = a + ndsLen (x :: N) from by unfold ndsLen; simp only [List.map_cons, List.sum_cons]; omega]
/-- an edge after the other: each has to tell a word at least -/
def eachP (g : List Str → Int × Int → List Str × Bool) : List Str → List (Int × Int) → List Str × Bool
  | out, [] => (out, true)
  | out, e :: es => if e.1 > 1114111 then (out, false) else if (g out e).2 = false ∨ (g out e).1.length = out.length then ((g out e).1, false) else eachP g (g out e).1 es
/-- the words that nodes tell, as the document reads them -/
def wordsP (N : List RP) : Nat → Int → Int → Str → List Str → List Str × Bool
  | 0, _, _, _, out => (out, false)
  | f + 1, n, d, a, out => if n < 0 ∨ n ≥ N.length ∨ d > 12 ∨ out.length > 60 then (out, false) else match N[n.toNat]? with
    | none => (out, false)
    | some x => eachP (fun out e => wordsP N f e.2 (d + 1) (a ++ encR e.1) out) (if x.1 = true then out ++ [a] else out) x.2
theorem eachP_short {g : List Str → Int × Int → List Str × Bool} (h : ∀ out e, (∀ t ∈ out, t.length ≤ 1000) → ∀ t ∈ (g out e).1, t.length ≤ 1000) : ∀ (es : List (Int × Int)) (out : List Str), (∀ t ∈ out, t.length ≤ 1000) → ∀ t ∈ (eachP g out es).1, t.length ≤ 1000
  | [], out, ho => ho
  | e :: es, out, ho => by
    unfold eachP
    split
    · exact ho
    · split
      · exact h out e ho
      · exact eachP_short h es _ (h out e ho)
theorem wordsP_short (N : List RP) : ∀ (f : Nat) (n d : Int) (a : Str) (out : List Str), (a.length : Int) ≤ 4 * d → (∀ t ∈ out, t.length ≤ 1000) → ∀ t ∈ (wordsP N f n d a out).1, t.length ≤ 1000
  | 0, _, _, _, out, _, h => h
  | f + 1, n, d, a, out, ha, h => by
    unfold wordsP
    split
    · exact h
    · rename_i hn
      split
      · exact h
      · refine eachP_short (fun out e h => wordsP_short N f _ _ _ out (by have := encR_le e.1; simp only [List.length_append]; omega) h) _ _ ?_
        have : ¬ d > 12 := fun k => hn (.inr (.inr (.inl k)))
        split
        · intro t ht
          rcases List.mem_append.1 ht with ht | ht
          · exact h t ht
          · simp only [List.mem_singleton] at ht; subst ht; omega
        · exact h
section
variable {s : GS}
theorem eachP_ok {a : Str} {d : Int} {f : Nat} {N : List RP} (hih : ∀ (n : Nat) (a : Str) (l : List Str) (y : List Str × List Ed), s[n]? = some y → d + 1 + dpL y.1 ≤ 12 → l.length + y.1.length ≤ 60 → wordsP N f (n : Int) (d + 1) a l = (l ++ y.1.map (a ++ ·), true)) :
    ∀ {gs : List (Nat × List Str)} {es : List Ed}, All2 (fun g e => e.rune = (g.1 : Int) ∧ ∃ (j : Nat) (es : List Ed), e.to = (j : Int) ∧ s[j]? = some (g.2, es)) gs es → (∀ g ∈ gs, goodN g.1 ∧ g.2 ≠ [] ∧ d + 1 + dpL g.2 ≤ 12) → ∀ l : List Str, l.length + (gs.flatMap fun g => g.2.map (encL g.1 ++ ·)).length ≤ 60 →
      eachP (fun out e => wordsP N f e.2 (d + 1) (a ++ encR e.1) out) l (es.map edP) = (l ++ (gs.flatMap fun g => g.2.map (encL g.1 ++ ·)).map (a ++ ·), true) := by
  intro gs es h
  induction h with
  | nil => intro _ l _; simp [eachP]
  | @cons g e gs es hge hr ih2 =>
    intro hg l hl
    obtain ⟨h1, j, es', h2, h3⟩ := hge
    obtain ⟨k1, k3, k2⟩ := hg g (by simp)
    have k1' := k1
    unfold goodN at k1'
    rw [List.flatMap_cons, List.length_append, List.length_map] at hl
    have hcall : wordsP N f (edP e).2 (d + 1) (a ++ encR (edP e).1) l = (l ++ g.2.map ((a ++ encL g.1) ++ ·), true) := by
      show wordsP N f e.to (d + 1) (a ++ encR e.rune) l = _
      rw [h2, h1, encR_L k1]
      exact hih j _ l (g.2, es') h3 k2 (by simp only; omega)
    have hpos : 0 < g.2.length := List.length_pos_iff.2 k3
    rw [List.map_cons]
    unfold eachP
    rw [if_neg (by show ¬ e.rune > _; omega), hcall, if_neg (by rintro (h | h); cases h; simp only [List.length_append, List.length_map] at h; omega)]
    rw [ih2 (fun g' hg' => hg g' (by simp [hg'])) _ (by simp only [List.length_append, List.length_map]; omega)]
    rw [List.flatMap_cons, List.map_append, List.map_map, List.append_assoc]
    congr 3
    apply List.map_congr_left
    intro t _
    simp
theorem wordsP_ok (hnode : ∀ y ∈ s, Corr s y ∧ GoodR y.1) : ∀ (f n : Nat) (a : Str) (d : Int) (l : List Str) (y : List Str × List Ed), s[n]? = some y → 0 ≤ d → d + dpL y.1 ≤ 12 → 13 ≤ d + f → l.length + y.1.length ≤ 60 → wordsP ((gnOf s).map gnP) (f + 1) (n : Int) d a l = (l ++ y.1.map (a ++ ·), true) := by
  intro f
  induction f with
  | zero => intro n a d l y hn h0 h1 h2 _; omega
  | succ f ih =>
    intro n a d l y hn h0 h1 h2 hl
    obtain ⟨hc, hg⟩ := hnode y (List.mem_of_getElem? hn)
    have hlt := (List.getElem?_eq_some_iff.1 hn).1
    have hgl : ((gnOf s).map gnP).length = s.length := by rw [List.length_map, gnOf_len]
    have hall := rests_all (x := y) hg
    have hx : ((gnOf s).map gnP)[((n : Int)).toNat]? = some (gnP (finB y.1, y.2)) := by rw [Int.toNat_natCast, List.getElem?_map, gnOf_get' hn]; rfl
    conv => lhs; unfold wordsP
    rw [if_neg (by rw [hgl]; rintro (h | h | h | h) <;> omega), hx]
    rw [show gnP (finB y.1, y.2) = (finB y.1, y.2.map edP) from rfl]
    dsimp only
    have hlen := congrArg List.length hall
    rw [List.length_append] at hlen
    have key := fun l0 hl0 => eachP_ok (s := s) (a := a) (d := d) (f := f + 1) (N := (gnOf s).map gnP) (fun n a l y hn hd hl => ih n a (d + 1) l y hn (by omega) hd (by omega) hl) hc (fun g hgm => ⟨(mem_group hg hgm).1, (mem_group hg hgm).2.1, by have := dpL_group hg hgm; omega⟩) l0 hl0
    cases hf : finB y.1 with
    | true =>
      rw [hf, if_pos rfl] at hall
      rw [hf, if_pos rfl] at hlen
      rw [if_pos rfl, key _ (by simp only [List.length_append, List.length_cons, List.length_nil] at hlen ⊢; omega)]
      conv => rhs; rw [hall]
      simp
    | false =>
      rw [hf, if_neg (by decide)] at hall
      rw [hf, if_neg (by decide)] at hlen
      rw [if_neg (by decide), key _ (by simp only [List.length_nil] at hlen ⊢; omega)]
      conv => rhs; rw [hall]
      simp
end
/-- are the last four bytes the sum of the others? -/
def openB (b : List UInt8) : Bool := decide (¬ b.length < 4 ∧ numV b ((b.length : Int) - 4) 4 = (sumN (b.take (b.length - 4)) : Int))
/-- the words of an image, as the document reads it, and what is wrong -/
def decP (b : List UInt8) : List Str × Int :=
  if openB b = false then ([], 9) else
  if (nodesP b (numR b 2 (4, false)).1.toNat (numR b 2 (4, false)).2).2.2 = true then ([], 8) else
  if (wordsP (nodesP b (numR b 2 (4, false)).1.toNat (numR b 2 (4, false)).2).1 14 0 0 [] []).2 = false then ([], 8) else
  if ¬ goodL (wordsP (nodesP b (numR b 2 (4, false)).1.toNat (numR b 2 (4, false)).2).1 14 0 0 [] []).1 = 0 ∨ ¬ imgM (wordsP (nodesP b (numR b 2 (4, false)).1.toNat (numR b 2 (4, false)).2).1 14 0 0 [] []).1 = b then ([], 8) else
  ((wordsP (nodesP b (numR b 2 (4, false)).1.toNat (numR b 2 (4, false)).2).1 14 0 0 [] []).1, 0)
theorem decP_shut {b : List UInt8} (h : openB b = false) : decP b = ([], 9) := by unfold decP; rw [if_pos h]
section
variable {b : List UInt8} {c a0 a : Int} {q0 q ok : Bool} {N : List RP} {l : List Str}
theorem decP_bad (h : openB b = true) (h1 : (c, (a0, q0)) = numR b 2 (4, false)) (h2 : nodesP b c.toNat (a0, q0) = (N, (a, q))) (h3 : q = true) : decP b = ([], 8) := by
  unfold decP; rw [if_neg (by simp [h]), ← h1]; simp only [h2]; rw [if_pos h3]
theorem decP_no (h : openB b = true) (h1 : (c, (a0, q0)) = numR b 2 (4, false)) (h2 : nodesP b c.toNat (a0, q0) = (N, (a, q))) (h3 : q = false) (h4 : wordsP N 14 0 0 [] [] = (l, ok)) (h5 : ok = false) : decP b = ([], 8) := by
  unfold decP; rw [if_neg (by simp [h]), ← h1]; simp only [h2]; rw [if_neg (by simp [h3]), if_pos (by rw [h4]; exact h5)]
theorem decP_other (h : openB b = true) (h1 : (c, (a0, q0)) = numR b 2 (4, false)) (h2 : nodesP b c.toNat (a0, q0) = (N, (a, q))) (h3 : q = false) (h4 : wordsP N 14 0 0 [] [] = (l, ok)) (h5 : ok = true) (h6 : ¬ goodL l = 0 ∨ ¬ imgM l = b) : decP b = ([], 8) := by
  unfold decP; rw [if_neg (by simp [h]), ← h1]; simp only [h2, h4]; rw [if_neg (by simp [h3]), if_neg (by simp [h5]), if_pos h6]
theorem decP_yes (h : openB b = true) (h1 : (c, (a0, q0)) = numR b 2 (4, false)) (h2 : nodesP b c.toNat (a0, q0) = (N, (a, q))) (h3 : q = false) (h4 : wordsP N 14 0 0 [] [] = (l, ok)) (h5 : ok = true) (h6 : ¬ (¬ goodL l = 0 ∨ ¬ imgM l = b)) : decP b = (l, 0) := by
  unfold decP; rw [if_neg (by simp [h]), ← h1]; simp only [h2, h4]; rw [if_neg (by simp [h3]), if_neg (by simp [h5]), if_neg h6]
end
theorem decP_range (b : List UInt8) : decP b = ([], 9) ∧ openB b = false ∨ (decP b = ([], 8) ∧ openB b = true) ∨ (openB b = true ∧ (decP b).2 = 0 ∧ goodL (decP b).1 = 0 ∧ imgM (decP b).1 = b) := by
  cases ho : openB b with
  | false => exact .inl ⟨decP_shut ho, rfl⟩
  | true =>
    right
    obtain ⟨⟨c, a0, q0⟩, h1⟩ : ∃ x, x = numR b 2 (4, false) := ⟨_, rfl⟩
    obtain ⟨⟨N, a, q⟩, h2⟩ : ∃ x, nodesP b c.toNat (a0, q0) = x := ⟨_, rfl⟩
    cases h3 : q with
    | true => exact .inl ⟨decP_bad ho h1 h2 h3, rfl⟩
    | false =>
      obtain ⟨⟨l, ok⟩, h4⟩ : ∃ x, wordsP N 14 0 0 [] [] = x := ⟨_, rfl⟩
      cases h5 : ok with
      | false => exact .inl ⟨decP_no ho h1 h2 h3 h4 h5, rfl⟩
      | true =>
        by_cases h6 : ¬ goodL l = 0 ∨ ¬ imgM l = b
        · exact .inl ⟨decP_other ho h1 h2 h3 h4 h5 h6, rfl⟩
        · rw [decP_yes ho h1 h2 h3 h4 h5 h6]
          exact .inr ⟨rfl, rfl, Classical.byContradiction fun k => h6 (.inl k), Classical.byContradiction fun k => h6 (.inr k)⟩
theorem decG_shut {b : List UInt8} (h : openB b = false) : decG b = ([], 9) := by
  unfold openB at h
  have h := of_decide_eq_false h
  by_cases h1 : b.length < 4
  · exact decG_short h1
  · exact decG_sum h1 fun k => h ⟨h1, k⟩
theorem decG_open {b : List UInt8} (h : openB b = true) : (decG b).2 = 0 ∨ decG b = ([], 8) := by
  unfold openB at h
  obtain ⟨h1, h2⟩ := of_decide_eq_true h
  unfold decG
  rw [if_neg h1, if_neg (fun k => k h2)]
  split
  · exact .inr rfl
  split
  · exact .inr rfl
  split
  · exact .inr rfl
  · exact .inl rfl
/-- the document reads an image of words as them -/
theorem decP_img {words : List Str} (h : goodL words = 0) : decP (imgM words) = (words, 0) := by
  have hgn := gnodes_ok h
  have hl := (gnodes_len h).2
  have hdec := dec_img h
  have hopen : openB (imgM words) = true := by
    cases ho : openB (imgM words) with
    | true => rfl
    | false => rw [decG_shut ho] at hdec; simp at hdec
  have he : imgM words = bodyB (gnodes words) ++ putN (sumN (bodyB (gnodes words))) 4 := by rw [← enc_img h]; rfl
  have hd4 : (imgM words).drop 4 = putN (gnodes words).length 2 ++ ((gnodes words).flatMap nodeB ++ putN (sumN (bodyB (gnodes words))) 4) := by rw [he]; unfold bodyB; simp
  have h4 := numR_put (q := false) hd4 (.inr (.inl rfl)) (by omega) (by omega)
  have hd6 := drop_len hd4
  rw [putN_len] at hd6
  have h5 := nodesP_put _ 6 _ hd6 hgn
  have hw : wordsP ((gnodes words).map gnP) 14 0 0 [] [] = (words, true) := by
    by_cases hw : words = []
    · subst hw
      rw [gnodes_nil rfl]; decide
    · have hgd := good_deep h
      have hok := graphM_ok hgd.2 hgd.1 hw
      have hN := gnodes_yes h
      unfold graphB at hN
      rw [if_neg hw] at hN
      obtain ⟨es0, h0⟩ := hok.root
      have hdw := dpL_le hgd.2
      have := wordsP_ok (s := graphM words) (fun y hy => ⟨(hok.node y hy).corr, (hok.node y hy).good⟩) 13 0 [] 0 [] (words, es0) h0 (by omega) (by simp only; omega) (by omega) (by have := (good_words h).1; simp only [List.length_nil]; omega)
      rw [hN]
      simpa using this
  exact decP_yes hopen h4.symm (by rw [Int.toNat_natCast]; exact h5) rfl hw rfl (by rintro (k | k); exact k h; exact k rfl)
/-- both read alike -/
theorem reads_same (b : List UInt8) : (decG b).2 = (decP b).2 ∧ ((decG b).2 = 0 → goodL (decP b).1 = 0 ∧ (decG b).1 = gnodes (decP b).1) := by
  rcases decP_range b with ⟨h1, h2⟩ | ⟨h1, h2⟩ | ⟨h1, h2, h3, h4⟩
  · rw [decG_shut h2, h1]
    exact ⟨rfl, fun h => by cases h⟩
  · rcases decG_open h2 with h | h
    · obtain ⟨words, k1, k2, k3⟩ := read_img h
      rw [k2, decP_img k1] at h1
      simp at h1
    · rw [h, h1]
      exact ⟨rfl, fun h => by cases h⟩
  · have k := dec_img h3
    rw [h4] at k
    rw [k, h2]
    exact ⟨rfl, fun _ => ⟨h3, rfl⟩⟩
end Go.Ml
namespace Go.Ml
open Go.Ik
theorem sorted_goodL {l : List Str} (hs : Sorted l) (hw : ∀ w ∈ l, word w = true) (hl : l.length ≤ 60) : goodL l = 0 := by
  unfold goodL
  rw [if_neg (by omega), if_pos (List.all_eq_true.2 hw), if_pos (sorted_rising hs)]
end Go.Ml
namespace Go.Ml
open Go.Ik
theorem slice_good {cuts : List Key} {words : List Str} (h : goodL words = 0) (shard : Int) : goodL (sliceM cuts words shard) = 0 := by
  obtain ⟨h1, h2, h3⟩ := good_words h
  refine sorted_goodL (List.Pairwise.filter _ h3) (fun w hw => h2 w (List.mem_filter.1 hw).1) ?_
  have := List.length_filter_le (slP cuts shard) words
  unfold sliceM; omega
theorem may_good {c : Cfg} (h : may c = true) : goodL c.words = 0 := by
  unfold may at h
  simp only [Bool.and_eq_true, beq_iff_eq] at h
  exact h.1.1
theorem shard_words_le {c : Cfg} (s : Int) : (wordsM c s).length ≤ c.words.length := List.length_filter_le _ _
theorem shard_good {c : Cfg} (h : may c = true) (s : Int) : goodL (wordsM c s) = 0 := slice_good (may_good h) s
theorem shard_img {c : Cfg} (h : may c = true) {s : Int} (h0 : 0 ≤ s) (h1 : s < (shards c : Int)) : imgC c s = imgM (wordsM c s) ∧ errC c s = 0 := by
  obtain ⟨h2, h3⟩ := imgC_yes (c := c) h0 h1
  exact ⟨h2.symm, h3.symm.trans (shard_good h s)⟩
end Go.Ml
namespace Go.Ik
open Go
section
variable {R U : Nat → Prop} {w : World}
theorem fm_mid {α : Type} : ∀ (A C B : List α), (List.range' C.length A.length).filterMap (fun i => (C ++ A ++ B)[i]?) = A
  | [], C, B => rfl
  | a :: A, C, B => by
    have := fm_mid A (C ++ [a]) B
    rw [List.length_cons, List.range'_succ, List.filterMap_cons]
    have h1 : (C ++ a :: A ++ B)[C.length]? = some a := by simp
    rw [h1]
    simp only
    rw [List.length_append, List.length_cons, List.length_nil] at this
    rw [show C ++ a :: A ++ B = C ++ [a] ++ A ++ B from by simp, this]
theorem Sep.rot {A B : List (Res R)} (h : Sep (A ++ B) U w) : Sep (B ++ A) U w := by
  have := h.sel (List.range' A.length B.length ++ List.range' 0 A.length) (by
    rw [List.all_eq_true]
    intro i hi
    rw [List.mem_append, List.mem_range'_1, List.mem_range'_1] at hi
    rw [List.length_append]
    exact decide_eq_true (by omega)) (by
    rw [List.nodup_append]
    refine ⟨List.nodup_range', List.nodup_range', fun a ha b hb => ?_⟩
    rw [List.mem_range'_1] at ha hb
    omega)
  rw [List.filterMap_append] at this
  have h1 := fm_mid B A []
  have h2 := fm_mid A [] B
  rw [List.append_nil] at h1
  rw [List.length_nil, List.nil_append] at h2
  rw [h1, h2] at this
  exact this
def ptrV (b : Nat) : Value := ptr b 0
/-- an image: its shard, its block, as it should be, as it is -/
structure DI where
  shard : Int
  ptr : Nat
  good : List UInt8
  now : List UInt8
def imR (eI u8 : TypeId) (x : DI) : Res R := exR fun vs : Value × Value => boxR [bkR x.ptr [vs.1, vs.2] eI, accR encB u8 1 vs.1 x.good, accR encB u8 1 vs.2 x.now]
/-- a disk -/
def dkR (eD eI u8 : TypeId) (bd : Nat) (life : Int) (D : List DI) : Res R := exR fun bm : Nat => boxR [bkR bd [.map (some bm), .int .i64 life] eD, mapR intV ptrV bm (D.map fun x => (x.shard, x.ptr)), boxR (D.map (imR eI u8))]
end
end Go.Ik
namespace Go.Ml
open Go.Ik
/-- shard, right, as it is -/
abbrev DE := Int × List UInt8 × List UInt8
def dkGet (D : List DE) (s : Int) : Option DE := D.find? fun x => decide (x.1 = s)
def dkErr (D : List DE) (s : Int) : Int := match dkGet D s with | none => 4 | some _ => 0
def dkRead (D : List DE) (s : Int) : List UInt8 := match dkGet D s with | none => [] | some x => x.2.2
def dkRotten (D : List DE) (s : Int) : Bool := match dkGet D s with | none => false | some x => decide (x.2.2 ≠ x.2.1)
def dkPut (D : List DE) (s : Int) (f : List UInt8 → List UInt8) : List DE := D.map fun x => if x.1 = s then (x.1, x.2.1, f x.2.1) else x
def DkOk (D : List DE) : Prop := (D.map (·.1)).Nodup ∧ ∀ x ∈ D, 1 ≤ x.2.1.length ∧ x.2.1.length ≤ 4000000 ∧ x.2.2.length = x.2.1.length
theorem dkGet_key {D : List DE} {s : Int} {x : DE} (h : dkGet D s = some x) : x.1 = s ∧ x ∈ D := by
  unfold dkGet at h
  have h2 := List.find?_some h
  exact ⟨of_decide_eq_true h2, List.mem_of_find?_eq_some h⟩
theorem dkPut_no {D : List DE} {s : Int} {f : List UInt8 → List UInt8} (h : dkGet D s = none) : dkPut D s f = D := by
  unfold dkPut
  conv => rhs; rw [← List.map_id D]
  apply List.map_congr_left
  intro x hx
  unfold dkGet at h
  have := List.find?_eq_none.1 h x hx
  rw [if_neg (by simpa using this)]
  rfl
def deI (x : DI) : DE := (x.shard, x.good, x.now)
theorem asc_ims (D : List DI) (s : Int) : asc (D.map fun x => (x.shard, x.ptr)) s = (D.find? fun x => decide (x.shard = s)).map (·.ptr) := by
  unfold asc
  rw [List.find?_map, Option.map_map]
  rfl
theorem dkGet_ims (D : List DI) (s : Int) : dkGet (D.map deI) s = (D.find? fun x => decide (x.shard = s)).map deI := by
  unfold dkGet
  rw [List.find?_map]
  rfl
theorem ims_hit {D : List DI} {s : Int} {x : DE} (h : dkGet (D.map deI) s = some x) : ∃ (k : Nat) (y : DI), D[k]? = some y ∧ deI y = x ∧ y.shard = s ∧ asc (D.map fun x => (x.shard, x.ptr)) s = some y.ptr := by
  rw [dkGet_ims] at h
  cases hf : D.find? fun x => decide (x.shard = s) with
  | none => rw [hf] at h; cases h
  | some y =>
    rw [hf] at h
    obtain ⟨k, hk⟩ := List.mem_iff_getElem?.1 (List.mem_of_find?_eq_some hf)
    have h2 := List.find?_some hf
    exact ⟨k, y, hk, by simpa using h, of_decide_eq_true h2, by rw [asc_ims, hf]; rfl⟩
theorem ims_miss {D : List DI} {s : Int} (h : dkGet (D.map deI) s = none) : asc (D.map fun x => (x.shard, x.ptr)) s = none := by
  rw [dkGet_ims] at h
  cases hf : D.find? fun x => decide (x.shard = s) with
  | none => rw [asc_ims, hf]; rfl
  | some y => rw [hf] at h; cases h
def mayD (c : Cfg) (w : Int) : Bool := may c && (decide (1 ≤ w) && decide (w ≤ c.workers))
theorem mayD_yes {c : Cfg} {w : Int} (h1 : may c = true) (h2 : 1 ≤ w) (h3 : w ≤ c.workers) : mayD c w = true := by unfold mayD; rw [h1, decide_eq_true h2, decide_eq_true h3]; rfl
theorem mayD_no {c : Cfg} {w : Int} (h : may c = false ∨ w < 1 ∨ c.workers < w) : mayD c w = false := by
  unfold mayD
  rcases h with h | h | h
  · rw [h]; rfl
  · rw [decide_eq_false (by omega : ¬ 1 ≤ w)]; simp
  · rw [decide_eq_false (by omega : ¬ w ≤ c.workers)]; simp
theorem mayD_may {c : Cfg} {w : Int} (h : mayD c w = true) : may c = true ∧ 1 ≤ w ∧ w ≤ c.workers := by
  unfold mayD at h
  simp only [Bool.and_eq_true, decide_eq_true_eq] at h
  exact ⟨h.1, h.2.1, h.2.2⟩
/-- the disk of a worker -/
def dkNew (c : Cfg) (w : Int) : List DE := (keepsM c w).map fun s => (s, imgC c s, imgC c s)
def dkE (c : Cfg) (s : Int) : DE := (s, imgC c s, imgC c s)
theorem dkNew_eq (c : Cfg) (w : Int) : dkNew c w = (keepsM c w).map (dkE c) := rfl
theorem keeps_nodup (c : Cfg) (w : Int) : (keepsM c w).Nodup := by
  unfold keepsM
  refine List.Pairwise.map _ (fun a b h => ?_) ((List.nodup_range (n := shards c)).filter _)
  omega
theorem dkE_step {c : Cfg} {l : List Int} {k : Nat} {x : Int} (hx : l[k]? = some x) : (l.take k).map (dkE c) ++ [(x, imgC c x, imgC c x)] = (l.take (k + 1)).map (dkE c) := by
  rw [List.take_add_one, hx, List.map_append]; rfl
theorem dkE_fresh {c : Cfg} {l : List Int} (hn : l.Nodup) {k : Nat} {x : Int} (hx : l[k]? = some x) {D : List DI} (hD : D.map deI = (l.take k).map (dkE c)) : ∀ y ∈ D, y.shard ≠ x := by
  intro y hy e
  have h1 : deI y ∈ (l.take k).map (dkE c) := hD ▸ List.mem_map_of_mem hy
  obtain ⟨z, hz, hz2⟩ := List.mem_map.1 h1
  have hzx : z = x := (congrArg Prod.fst hz2).trans e
  obtain ⟨j, hj⟩ := List.mem_iff_getElem?.1 hz
  rw [List.getElem?_take] at hj
  split at hj
  · rename_i hjk
    rw [hzx] at hj
    have := (List.getElem?_inj (List.getElem?_eq_some_iff.1 hj).1 hn).1 (hj.trans hx.symm)
    omega
  · cases hj
/-- each shard that is kept has an image of good words -/
theorem keeps_range {c : Cfg} {w s : Int} (h : s ∈ keepsM c w) : 0 ≤ s ∧ s < (shards c : Int) := by
  unfold keepsM at h
  obtain ⟨k, hk, rfl⟩ := List.mem_map.1 h
  have := List.mem_range.1 (List.mem_filter.1 hk).1
  omega
theorem dkNew_ok {c : Cfg} (h : may c = true) (w : Int) : DkOk (dkNew c w) := by
  refine ⟨?_, fun x hx => ?_⟩
  · have : (dkNew c w).map (·.1) = keepsM c w := by
      rw [dkNew_eq, List.map_map]
      conv => rhs; rw [← List.map_id (keepsM c w)]
      rfl
    rw [this]; exact keeps_nodup c w
  · rw [dkNew_eq] at hx
    obtain ⟨s, hs, rfl⟩ := List.mem_map.1 hx
    obtain ⟨h1, h2⟩ := keeps_range hs
    obtain ⟨h3, _⟩ := shard_img h h1 h2
    have h4 := img_len (shard_good h s)
    have h5 := imgC_len c s
    unfold dkE
    dsimp only
    rw [h3] at h5 ⊢
    exact ⟨by omega, by omega, rfl⟩
theorem dkNew_get {c : Cfg} {w s : Int} (h : s ∈ keepsM c w) : dkGet (dkNew c w) s = some (s, imgC c s, imgC c s) := by
  rw [dkNew_eq]
  unfold dkGet
  rw [List.find?_map]
  have : (keepsM c w).find? ((fun x : DE => decide (x.1 = s)) ∘ dkE c) = some s := by
    cases hf : (keepsM c w).find? ((fun x : DE => decide (x.1 = s)) ∘ dkE c) with
    | none => exact absurd (decide_eq_true rfl) (List.find?_eq_none.1 hf s h)
    | some y =>
      have h2 := List.find?_some hf
      have h3 : y = s := of_decide_eq_true h2
      rw [h3]
  rw [this]; rfl
theorem dkNew_none {c : Cfg} {w s : Int} (h : s ∉ keepsM c w) : dkGet (dkNew c w) s = none := by
  cases hg : dkGet (dkNew c w) s with
  | none => rfl
  | some x =>
    obtain ⟨h1, h2⟩ := dkGet_key hg
    rw [dkNew_eq] at h2
    obtain ⟨z, hz, rfl⟩ := List.mem_map.1 h2
    exact absurd (h1 ▸ hz : s ∈ keepsM c w) h
theorem get_err {D : List DE} {s : Int} {x : DE} (h : dkGet D s = some x) : dkErr D s = 0 ∧ dkRead D s = x.2.2 ∧ dkRotten D s = decide (x.2.2 ≠ x.2.1) := by
  unfold dkErr dkRead dkRotten; rw [h]; exact ⟨rfl, rfl, rfl⟩
theorem get_no {D : List DE} {s : Int} (h : dkGet D s = none) : dkErr D s = 4 ∧ dkRead D s = [] ∧ dkRotten D s = false := by
  unfold dkErr dkRead dkRotten; rw [h]; exact ⟨rfl, rfl, rfl⟩
theorem new_read {c : Cfg} {w s : Int} (h : s ∈ keepsM c w) : dkErr (dkNew c w) s = 0 ∧ dkRead (dkNew c w) s = imgC c s ∧ dkRotten (dkNew c w) s = false := by
  obtain ⟨h1, h2, h3⟩ := get_err (dkNew_get h)
  exact ⟨h1, h2, by rw [h3]; simp⟩
/-- a small configuration -/
def smallC : Cfg := ⟨[[97], [97, 98, 99], [98]], [⟨2, []⟩], 2, 1, 1, 1, 1, 1, 1, 1, 0, 8⟩
theorem smallC_may : mayD smallC 1 = true := by decide +kernel
theorem smallC_keeps : keepsM smallC 1 = [0] := by decide +kernel
end Go.Ml
namespace Go.Ik
open Go Go.Ml
structure RIm where
  shard : Int
  r : SH
  b : SH
def IRel (w : World) (F : Nat → Prop) (rows : List RIm) (K : List DE) : Prop := All2 (fun r e => r.shard = e.1 ∧ Sl encB w F r.r.val e.2.1 ∧ Sl encB w F r.b.val e.2.2) rows K
theorem IRel.at {w : World} {F : Nat → Prop} {rows : List RIm} {K : List DE} (h : IRel w F rows K) {i : Nat} {r : RIm} (hr : rows[i]? = some r) : ∃ e, K[i]? = some e ∧ r.shard = e.1 ∧ Sl encB w F r.r.val e.2.1 ∧ Sl encB w F r.b.val e.2.2 := by
  obtain ⟨h1, h2⟩ := All2.get h
  have hi := (List.getElem?_eq_some_iff.1 hr).1
  exact ⟨_, List.getElem?_eq_getElem (by omega), h2 i r _ hr (List.getElem?_eq_getElem (by omega))⟩
theorem All2.set {α β : Type} {Q : α → β → Prop} : ∀ {l : List α} {m : List β} (k : Nat) {a : α} {b : β}, All2 Q l m → Q a b → All2 Q (l.set k a) (m.set k b)
  | _, _, _, _, _, .nil, _ => .nil
  | _, _, 0, _, _, .cons _ h, hab => .cons hab h
  | _, _, k + 1, _, _, .cons h1 h, hab => .cons h1 (All2.set k h hab)
section
variable {R F : Nat → Prop} {w : World} {rows : List RIm} {K : List DE}
/-- a disk: what it has of each shard -/
def dkK {R : Nat → Prop} (eD eI u8 : TypeId) (bd : Nat) (life : Int) (K : List DE) : Res R := exR fun D : List DI => andR (D.map deI = K) (dkR eD eI u8 bd life D)
end
end Go.Ik
namespace Go.Ik
open Go Go.Ml
section
variable {R F : Nat → Prop} {w : World}
/-- what a disk reads as -/
theorem ims_read {eI u8 : TypeId} {D : List DI} (h : (boxR (R := R) (D.map (imR eI u8))).p F w) {x : DI} (hx : x ∈ D) : ∃ vg vn, Bk w x.ptr [vg, vn] eI ∧ Sl encB w F vg x.good ∧ Sl encB w F vn x.now := by
  obtain ⟨k, hk⟩ := List.mem_iff_getElem?.1 hx
  obtain ⟨Fs, h1, h2, _⟩ := h
  obtain ⟨⟨vg, vn⟩, hb⟩ := h1 k (imR eI u8 x) (by rw [List.getElem?_map, hk]; rfl)
  obtain ⟨Gs, g1, g2, _⟩ := hb
  have q1 := g1 0 _ rfl
  have q2 := g1 1 _ rfl
  have q3 := g1 2 _ rfl
  refine ⟨vg, vn, q1.1, (acc_sl q2).mono fun b hb => ?_, (acc_sl q3).mono fun b hb => ?_⟩
  · exact (h2 k b (g2 1 b hb).1.1).1.1
  · exact (h2 k b (g2 2 b hb).1.1).1.1
theorem dkK_in {eD eI u8 : TypeId} {bd : Nat} {life : Int} {K : List DE} (h : (dkK (R := R) eD eI u8 bd life K).p F w) : ∃ (D : List DI) (bm : Nat), D.map deI = K ∧ Bk w bd [.map (some bm), .int .i64 life] eD ∧ MapO intV ptrV w bm (D.map fun x => (x.shard, x.ptr)) ∧ ∀ x ∈ D, ∃ vg vn, Bk w x.ptr [vg, vn] eI ∧ Sl encB w F vg x.good ∧ Sl encB w F vn x.now := by
  obtain ⟨D, hD, bm, Fs, h1, h2, _⟩ := h
  have q1 := h1 0 _ rfl
  have q2 := h1 1 _ rfl
  have q3 := h1 2 _ rfl
  refine ⟨D, bm, hD, q1.1, q2.1, fun x hx => ?_⟩
  obtain ⟨vg, vn, k1, k2, k3⟩ := ims_read q3 hx
  exact ⟨vg, vn, k1, k2.mono fun b hb => (h2 2 b hb).1.1, k3.mono fun b hb => (h2 2 b hb).1.1⟩
/-- an image of a shard that is kept -/
theorem dk_hit {D : List DI} {K : List DE} {s : Int} {x : DE} (hD : D.map deI = K) (h : dkGet K s = some x) : ∃ (k : Nat) (y : DI), D[k]? = some y ∧ deI y = x ∧ y.shard = s ∧ asc (D.map fun x => (x.shard, x.ptr)) s = some y.ptr := by
  subst hD; exact ims_hit h
theorem dk_miss {D : List DI} {K : List DE} {s : Int} (hD : D.map deI = K) (h : dkGet K s = none) : asc (D.map fun x => (x.shard, x.ptr)) s = none := by
  subst hD; exact ims_miss h
theorem dk_no {K : List DE} {s : Int} (h : dkGet K s = none) : dkErr K s = 4 ∧ dkRead K s = [] ∧ dkRotten K s = false ∧ (∀ f, dkPut K s f = K) := by
  unfold dkErr dkRead dkRotten; rw [h]; exact ⟨rfl, rfl, rfl, fun f => dkPut_no h⟩
theorem dk_yes {K : List DE} {s : Int} {x : DE} (h : dkGet K s = some x) : dkErr K s = 0 ∧ dkRead K s = x.2.2 ∧ dkRotten K s = decide (x.2.2 ≠ x.2.1) := by
  unfold dkErr dkRead dkRotten; rw [h]; exact ⟨rfl, rfl, rfl⟩
theorem dkK_op {eD eI u8 : TypeId} {bd : Nat} {life : Int} {K : List DE} (h : (dkK (R := R) eD eI u8 bd life K).p F w) : ∃ (D : List DI) (bm : Nat), D.map deI = K ∧ (boxR (R := R) [bkR bd [.map (some bm), .int .i64 life] eD, mapR intV ptrV bm (D.map fun x => (x.shard, x.ptr)), boxR (D.map (imR eI u8))]).p F w := by
  obtain ⟨D, hD, bm, hS⟩ := h
  exact ⟨D, bm, hD, hS⟩
theorem dkK_cl {eD eI u8 : TypeId} {bd : Nat} {life : Int} {K : List DE} {D : List DI} {bm : Nat} (hD : D.map deI = K) (h : (boxR (R := R) [bkR bd [.map (some bm), .int .i64 life] eD, mapR intV ptrV bm (D.map fun x => (x.shard, x.ptr)), boxR (D.map (imR eI u8))]).p F w) : (dkK (R := R) eD eI u8 bd life K).p F w := ⟨D, hD, bm, h⟩
theorem dkK_push {eD eI u8 : TypeId} {bd : Nat} {life : Int} {K : List DE} {D : List DI} {bm : Nat} {y : DI} {s : Int} {img : List UInt8} (hD : D.map deI = K) (hy : deI y = (s, img, img))
    (h : (boxR (R := R) [bkR bd [.map (some bm), .int .i64 life] eD, mapR intV ptrV bm ((D.map fun x => (x.shard, x.ptr)) ++ [(s, y.ptr)]), boxR (D.map (imR eI u8)), imR eI u8 y]).p F w) : (dkK (R := R) eD eI u8 bd life (K ++ [(s, img, img)])).p F w := by
  have hs : y.shard = s := congrArg Prod.fst hy
  refine ⟨D ++ [y], by rw [List.map_append, hD, List.map_singleton, hy], bm, ?_⟩
  have h2 : Sep (R := R) ([bkR bd [.map (some bm), .int .i64 life] eD, mapR intV ptrV bm ((D.map fun x => (x.shard, x.ptr)) ++ [(s, y.ptr)])] ++ [boxR (D.map (imR eI u8)), imR eI u8 y]) F w := h
  obtain ⟨Fs, g1, g2, g3⟩ := h2.close
  refine ⟨Fs, fun i A hA => ?_, g2, g3⟩
  match i, hA with
  | 0, hA => exact g1 0 A hA
  | 1, hA =>
    rw [List.map_append, List.map_singleton, hs] at hA
    exact g1 1 A hA
  | 2, hA =>
    simp only [List.getElem?_cons_succ, List.getElem?_cons_zero, Option.some.injEq] at hA
    subst hA
    have k : Sep (R := R) [boxR (D.map (imR eI u8)), imR eI u8 y] (Fs 2) w := g1 2 _ rfl
    have k2 : Sep (R := R) [imR eI u8 y, boxR (D.map (imR eI u8))] (Fs 2) w := Sep.rot (A := [boxR (D.map (imR eI u8))]) (B := [imR eI u8 y]) k
    have k3 := (Sep.open (L1 := [imR (R := R) eI u8 y]) k2)
    have k4 := Sep.rot (A := [imR (R := R) eI u8 y]) (B := D.map (imR eI u8)) k3
    show Sep (R := R) ((D ++ [y]).map (imR eI u8)) (Fs 2) w
    rw [List.map_append, List.map_singleton]
    exact k4
  | n + 3, hA => simp at hA
/-- an empty disk -/
theorem dkK_nil {eD eI u8 : TypeId} {bd bm : Nat} {life : Int} (h : (boxR (R := R) [bkR bd [.map (some bm), .int .i64 life] eD, mapR intV ptrV bm []]).p F w) : (dkK (R := R) eD eI u8 bd life []).p F w := by
  refine ⟨[], rfl, bm, ?_⟩
  obtain ⟨Fs, g1, g2, g3⟩ := h
  refine ⟨fun i b => Fs i b ∧ i < 2, fun i A hA => ?_, fun i b hb => g2 i b hb.1, fun i j b hij hi hj => g3 i j b hij hi.1 hj.1⟩
  match i, hA with
  | 0, hA =>
    have := g1 0 A hA
    simpa using this
  | 1, hA =>
    have := g1 1 A hA
    simpa using this
  | 2, hA =>
    simp only [List.getElem?_cons_succ, List.getElem?_cons_zero, Option.some.injEq] at hA
    subst hA
    exact ⟨fun _ _ => False, fun i A h => by simp at h, fun _ _ h => h.elim, fun _ _ _ _ h => h.elim⟩
  | n + 3, hA => simp at hA
theorem asc_none {D : List DI} {s : Int} (h : ∀ x ∈ D, x.shard ≠ s) : asc (D.map fun x => (x.shard, x.ptr)) s = none := by
  rw [asc_ims, List.find?_eq_none.2]
  · rfl
  · intro x hx
    simpa using h x hx
end
section
variable {P : Program} {E : Env} {C : World → Prop} {d : Option Tmp} {ty : TypeId} {pos : String} {af : Array Edge} {gd : Option (Nat × Bool)} {α β : Type} [DecidableEq α] {key : α → Value} {val : β → Value}
theorem Q1.lookHit {t kt et : TypeId} {x y : Operand} {b : Nat} {m : List (α × β)} {a : α} {z : Value} {u : β} (hk : KeyOk P kt key) (ht : P.underlying t = some (.map kt et)) (hz : ∀ w, (zeroValue et).run P w = .ok z w) (hx : ev E x = some (.map (some b))) (hy : ev E y = some (key a)) (hm : ∀ w, C w → MapO key val w b m) (ha : asc m a = some u) :
    Q1 P ⟨d, .lookup t x y false, ty, pos, af, gd⟩ E C (val u) := by
  have h := Q1.lookup1 (d := d) (ty := ty) (pos := pos) (af := af) (gd := gd) (val := val) hk ht hz hx hy hm
  rw [ha] at h; exact h
theorem Q1.lookMiss {t kt et : TypeId} {x y : Operand} {b : Nat} {m : List (α × β)} {a : α} {z : Value} (hk : KeyOk P kt key) (ht : P.underlying t = some (.map kt et)) (hz : ∀ w, (zeroValue et).run P w = .ok z w) (hx : ev E x = some (.map (some b))) (hy : ev E y = some (key a)) (hm : ∀ w, C w → MapO key val w b m) (ha : asc m a = none) :
    Q1 P ⟨d, .lookup t x y false, ty, pos, af, gd⟩ E C z := by
  have h := Q1.lookup1 (d := d) (ty := ty) (pos := pos) (af := af) (gd := gd) (val := val) hk ht hz hx hy hm
  rw [ha] at h; exact h
end
end Go.Ik
namespace Go.Ik
open Go Go.Ml
def encI2 (x : Int × Int) : List Value := [.int .i64 x.1, .int .i64 x.2]
def PRel (w : World) (F : Nat → Prop) (nds : List RNode) (N : List RP) : Prop := All2 (fun r n => r.fin = n.1 ∧ Sl encI2 w F r.e.val n.2) nds N
theorem PRel.at {w : World} {F : Nat → Prop} {nds : List RNode} {N : List RP} (h : PRel w F nds N) {i : Nat} {r : RNode} (hr : nds[i]? = some r) : ∃ n, N[i]? = some n ∧ r.fin = n.1 ∧ Sl encI2 w F r.e.val n.2 := by
  obtain ⟨h1, h2⟩ := All2.get h
  have hi := (List.getElem?_eq_some_iff.1 hr).1
  exact ⟨_, List.getElem?_eq_getElem (by omega), h2 i r _ hr (List.getElem?_eq_getElem (by omega))⟩
end Go.Ik
namespace Go.Ml
open Go.Ik
theorem read_yes {b : List UInt8} (h : (decG b).1 ≠ []) : (decP b).2 = 0 := by
  have h1 := (reads_same b).1
  by_cases h2 : (decG b).2 = 0
  · exact h1.symm.trans h2
  · exact absurd (decG_no h2) h
theorem read_words {b : List UInt8} (h : (decG b).1 ≠ []) : goodL (decP b).1 = 0 ∧ (decG b).1 = gnodes (decP b).1 :=
  (reads_same b).2 ((reads_same b).1.trans (read_yes h))
end Go.Ml
namespace Go.Ml
open Go.Ik
/-- a row behind a rune more -/
def stepF (q : List Int) (f : Nat → Int) (r : Int) : Nat → Int
  | 0 => f 0 + 1
  | i + 1 => min (min (f (i + 1) + 1) (stepF q f r i + 1)) (f i + if q[i]? = some r then 0 else 1)
def rowF (q : List Int) (p : List Int) : Nat → Int := p.foldl (stepF q) fun i => (i : Int)
theorem rowF_snoc (q p : List Int) (r : Int) : rowF q (p ++ [r]) = stepF q (rowF q p) r := by unfold rowF; rw [List.foldl_append]; rfl
/-- the distance -/
def lev (q p : List Int) : Int := rowF q p q.length
/-- neighbours part by one at most; nothing is below 0 -/
structure Lip (f : Nat → Int) : Prop where
  pos : ∀ i, 0 ≤ f i
  one : ∀ i, f (i + 1) ≤ f i + 1 ∧ f i ≤ f (i + 1) + 1
theorem step_le {q : List Int} {f : Nat → Int} {r : Int} (h : Lip f) : ∀ i, stepF q f r i ≤ f i + 1
  | 0 => Int.le_refl _
  | i + 1 => by unfold stepF; omega
theorem step_pos {q : List Int} {f : Nat → Int} {r : Int} (h : Lip f) : ∀ i, 0 ≤ stepF q f r i
  | 0 => by have := h.pos 0; unfold stepF; omega
  | i + 1 => by
    have h1 := h.pos (i + 1); have h2 := h.pos i; have h3 := step_pos (q := q) (r := r) h i
    unfold stepF; split <;> omega
theorem Lip.step {q : List Int} {f : Nat → Int} {r : Int} (h : Lip f) : Lip (stepF q f r) := by
  refine ⟨step_pos h, fun i => ⟨by conv => lhs; unfold stepF
                                   omega, ?_⟩⟩
  have h1 := step_le (q := q) (r := r) h i
  have h2 := h.one i
  show stepF q f r i ≤ (min (min (f (i + 1) + 1) (stepF q f r i + 1)) (f i + if q[i]? = some r then 0 else 1)) + 1
  split <;> omega
theorem Lip.id : Lip fun i => (i : Int) := ⟨fun i => by omega, fun i => by constructor <;> omega⟩
theorem lip_row (q : List Int) : ∀ p : List Int, Lip (rowF q p) := by
  intro p
  unfold rowF
  have : ∀ (p : List Int) (f : Nat → Int), Lip f → Lip (p.foldl (stepF q) f) := by
    intro p
    induction p with
    | nil => intro f h; exact h
    | cons r p ih => intro f h; exact ih _ h.step
  exact this p _ Lip.id
theorem lip_far {f : Nat → Int} (h : Lip f) : ∀ (i d : Nat), f (i + d) ≤ f i + d ∧ f i ≤ f (i + d) + d
  | i, 0 => by simp
  | i, d + 1 => by
    have h1 := lip_far h i d
    have h2 := h.one (i + d)
    rw [show i + (d + 1) = i + d + 1 from by omega]
    omega
theorem lip_any {f : Nat → Int} (h : Lip f) (i j : Nat) : f i ≤ f j + max ((i : Int) - j) ((j : Int) - i) := by
  rcases Nat.le_total i j with hij | hij
  · have := (lip_far h i (j - i)).2
    rw [show i + (j - i) = j from by omega] at this
    omega
  · have := (lip_far h j (i - j)).1
    rw [show j + (i - j) = i from by omega] at this
    omega
def capF (k : Int) (f : Nat → Int) (i : Nat) : Int := min (f i) (k + 1)
theorem Lip.cap {f : Nat → Int} {k : Int} (hk : 0 ≤ k) (h : Lip f) : Lip (capF k f) := ⟨fun i => by have := h.pos i; unfold capF; omega, fun i => by have := h.one i; unfold capF; omega⟩
/-- the program's step: each number cut off -/
def cstepF (k : Int) (q : List Int) (f : Nat → Int) (r : Int) : Nat → Int
  | 0 => min (f 0 + 1) (k + 1)
  | i + 1 => min (min (min (f (i + 1) + 1) (cstepF k q f r i + 1)) (f i + if q[i]? = some r then 0 else 1)) (k + 1)
theorem cstep_cap (k : Int) (q : List Int) (f : Nat → Int) (r : Int) : ∀ i, cstepF k q (capF k f) r i = capF k (stepF q f r) i
  | 0 => by unfold cstepF capF stepF; omega
  | i + 1 => by
    have ih := cstep_cap k q f r i
    show min (min (min (capF k f (i + 1) + 1) (cstepF k q (capF k f) r i + 1)) (capF k f i + if q[i]? = some r then 0 else 1)) (k + 1) = min (min (min (f (i + 1) + 1) (stepF q f r i + 1)) (f i + if q[i]? = some r then 0 else 1)) (k + 1)
    rw [ih]
    unfold capF
    split <;> omega
structure Pos where
  at_ : Int
  dist : Int
deriving DecidableEq
/-- is a place overshadowed by another one (within the window)? -/
def lesserM (n : Nat) (k : Int) (f : Nat → Int) (j : Nat) : Bool := (List.range n).any fun (i : Nat) => decide (f i < f j) && decide (max ((i : Int) - (j : Int)) ((j : Int) - (i : Int)) ≤ f j - f i)
def stateF (n : Nat) (k : Int) (f : Nat → Int) : List Pos := ((List.range n).filter fun (j : Nat) => decide (f j ≤ k) && !lesserM n k f j).map fun (j : Nat) => Pos.mk (j : Int) (f j)
/-- a state's row -/
def spreadF (n : Nat) (k : Int) (s : List Pos) (i : Nat) : Int := s.foldl (fun (a : Int) (p : Pos) => if (0 ≤ p.at_ ∧ p.at_ ≤ (n : Int) ∧ 0 ≤ p.dist ∧ p.dist ≤ k) ∧ max ((i : Int) - p.at_) (p.at_ - (i : Int)) ≤ k then min a (p.dist + max ((i : Int) - p.at_) (p.at_ - (i : Int))) else a) (k + 1)
theorem foldl_min_le {α : Type} (g : α → Option Int) : ∀ (l : List α) (a : Int), l.foldl (fun a p => match g p with | some x => min a x | none => a) a ≤ a
  | [], a => Int.le_refl _
  | p :: l, a => by
    rw [List.foldl_cons]
    have := foldl_min_le g l (match g p with | some x => min a x | none => a)
    cases h : g p with
    | none => rw [h] at this; exact this
    | some x => rw [h] at this; simp only at this ⊢; omega
theorem foldl_min_mem {α : Type} (g : α → Option Int) : ∀ (l : List α) (a x : Int) (p : α), p ∈ l → g p = some x → l.foldl (fun a p => match g p with | some x => min a x | none => a) a ≤ x
  | q :: l, a, x, p, hp, hx => by
    rw [List.foldl_cons]
    rcases List.mem_cons.1 hp with rfl | hp
    · have := foldl_min_le g l (match g p with | some x => min a x | none => a)
      rw [hx] at this ⊢; simp only at this ⊢; omega
    · exact foldl_min_mem g l _ x p hp hx
theorem foldl_min_ge {α : Type} (g : α → Option Int) (m : Int) : ∀ (l : List α) (a : Int), m ≤ a → (∀ p ∈ l, ∀ x, g p = some x → m ≤ x) → m ≤ l.foldl (fun a p => match g p with | some x => min a x | none => a) a
  | [], a, h, _ => h
  | p :: l, a, h, hl => by
    rw [List.foldl_cons]
    refine foldl_min_ge g m l _ ?_ fun q hq => hl q (by simp [hq])
    cases hg : g p with
    | none => exact h
    | some x => have := hl p (by simp) x hg; simp only; omega
def posG (n : Nat) (k : Int) (i : Nat) (p : Pos) : Option Int := if (0 ≤ p.at_ ∧ p.at_ ≤ (n : Int) ∧ 0 ≤ p.dist ∧ p.dist ≤ k) ∧ max ((i : Int) - p.at_) (p.at_ - (i : Int)) ≤ k then some (p.dist + max ((i : Int) - p.at_) (p.at_ - (i : Int))) else none
theorem spread_eq (n : Nat) (k : Int) (s : List Pos) (i : Nat) : spreadF n k s i = s.foldl (fun a p => match posG n k i p with | some x => min a x | none => a) (k + 1) := by
  unfold spreadF
  congr 1
  funext a p
  unfold posG
  split <;> rfl
theorem mem_state {n : Nat} {k : Int} {f : Nat → Int} {p : Pos} : p ∈ stateF n k f ↔ ∃ j, j < n ∧ f j ≤ k ∧ lesserM n k f j = false ∧ p = ⟨(j : Int), f j⟩ := by
  unfold stateF
  simp only [List.mem_map, List.mem_filter, List.mem_range, Bool.and_eq_true, decide_eq_true_eq, Bool.not_eq_true']
  constructor
  · rintro ⟨j, ⟨h1, h2, h3⟩, rfl⟩; exact ⟨j, h1, h2, h3, rfl⟩
  · rintro ⟨j, h1, h2, h3, rfl⟩; exact ⟨j, ⟨h1, h2, h3⟩, rfl⟩
/-- from a place one comes to one that is not overshadowed -/
theorem root_of {n : Nat} {k : Int} {f : Nat → Int} (h : Lip f) : ∀ (m i : Nat), f i ≤ m → i < n → ∃ j, j < n ∧ lesserM n k f j = false ∧ f j + max ((i : Int) - j) ((j : Int) - i) = f i
  | 0, i, hm, hi => by
    refine ⟨i, hi, ?_, by omega⟩
    unfold lesserM
    rw [List.any_eq_false]
    intro j hj
    have := h.pos j
    simp only [Bool.and_eq_true, decide_eq_true_eq, not_and]
    intro hlt; omega
  | m + 1, i, hm, hi => by
    by_cases hl : lesserM n k f i = true
    · unfold lesserM at hl
      rw [List.any_eq_true] at hl
      obtain ⟨j, hj, hc⟩ := hl
      simp only [Bool.and_eq_true, decide_eq_true_eq] at hc
      have hjn := List.mem_range.1 hj
      have h1 := lip_any h i j
      obtain ⟨t, ht, htl, hte⟩ := root_of (k := k) h m j (by omega) hjn
      refine ⟨t, ht, htl, ?_⟩
      have h2 := lip_any h i t
      omega
    · exact ⟨i, hi, by simpa using hl, by omega⟩
/-- a state tells its row, cut off -/
theorem spread_state {n : Nat} {k : Int} {f : Nat → Int} (hk : 0 ≤ k) (h : Lip f) {i : Nat} (hi : i < n + 1) : spreadF n k (stateF (n + 1) k f) i = capF k f i := by
  rw [spread_eq]
  have hge : capF k f i ≤ (stateF (n + 1) k f).foldl (fun a p => match posG n k i p with | some x => min a x | none => a) (k + 1) := by
    refine foldl_min_ge _ _ _ _ (by unfold capF; omega) fun p hp x hx => ?_
    obtain ⟨j, h1, h2, h3, rfl⟩ := mem_state.1 hp
    unfold posG at hx
    split at hx
    · cases hx
      have := lip_any h i j
      unfold capF; simp only; omega
    · cases hx
  have hle : (stateF (n + 1) k f).foldl (fun a p => match posG n k i p with | some x => min a x | none => a) (k + 1) ≤ capF k f i := by
    by_cases hc : f i ≤ k
    · obtain ⟨j, h1, h2, h3⟩ := root_of (n := n + 1) (k := k) h (f i).toNat i (by omega) hi
      have hp := h.pos j
      have := foldl_min_mem (posG n k i) (stateF (n + 1) k f) (k + 1) (f i) ⟨(j : Int), f j⟩ (mem_state.2 ⟨j, h1, by omega, h2, rfl⟩) (by
        unfold posG
        rw [if_pos (by simp only; omega)]
        simp only
        rw [h3])
      unfold capF; omega
    · have := foldl_min_le (posG n k i) (stateF (n + 1) k f) (k + 1)
      unfold capF; omega
  omega
/-- a state is told by what is not above 'k' -/
theorem state_cap {n : Nat} {k : Int} (f : Nat → Int) : stateF n k (capF k f) = stateF n k f := by
  unfold stateF
  have hf : ∀ j, (decide (capF k f j ≤ k) && !lesserM n k (capF k f) j) = (decide (f j ≤ k) && !lesserM n k f j) := by
    intro j
    by_cases hj : f j ≤ k
    · have e1 : capF k f j = f j := by unfold capF; omega
      have e2 : lesserM n k (capF k f) j = lesserM n k f j := by
        unfold lesserM
        refine List.any_congr rfl fun i => ?_
        rw [e1]
        by_cases hi : f i ≤ k
        · rw [show capF k f i = f i from by unfold capF; omega]
        · rw [show decide (capF k f i < f j) = false from decide_eq_false (by unfold capF; omega), show decide (f i < f j) = false from decide_eq_false (by omega), Bool.false_and, Bool.false_and]
      rw [e1, e2]
    · rw [show decide (capF k f j ≤ k) = false from decide_eq_false (by unfold capF; omega), show decide (f j ≤ k) = false from decide_eq_false hj]
      rfl
  rw [List.filter_congr fun j _ => hf j]
  refine List.map_congr_left fun j hj => ?_
  have := (List.mem_filter.1 hj).2
  simp only [Bool.and_eq_true, decide_eq_true_eq] at this
  rw [show capF k f j = f j from by unfold capF; omega]
def stateP (q : List Int) (k : Int) (p : List Int) : List Pos := stateF (q.length + 1) k (rowF q p)
theorem stateP_row {q : List Int} {k : Int} (hk : 0 ≤ k) (p : List Int) {i : Nat} (hi : i < q.length + 1) : spreadF q.length k (stateP q k p) i = capF k (rowF q p) i := spread_state hk (lip_row q p) hi
theorem stateP_start {q : List Int} {k : Int} (hk : 0 ≤ k) : stateP q k [] = [⟨0, 0⟩] := by
  unfold stateP stateF
  have hf : ∀ j ∈ List.range (q.length + 1), (decide (rowF q [] j ≤ k) && !lesserM (q.length + 1) k (rowF q []) j) = decide (j = 0) := by
    intro j hj
    by_cases h0 : j = 0
    · subst h0
      have : lesserM (q.length + 1) k (rowF q []) 0 = false := by
        unfold lesserM
        rw [List.any_eq_false]
        intro i hi
        simp only [Bool.and_eq_true, decide_eq_true_eq, not_and]
        intro hlt
        have : ((i : Nat) : Int) < ((0 : Nat) : Int) := hlt
        omega
      rw [this]
      have : rowF q [] 0 = 0 := rfl
      rw [this]
      simp [hk]
    · have : lesserM (q.length + 1) k (rowF q []) j = true := by
        unfold lesserM
        rw [List.any_eq_true]
        refine ⟨0, by simp, ?_⟩
        simp only [Bool.and_eq_true, decide_eq_true_eq]
        have e0 : rowF q [] 0 = 0 := rfl
        have ej : rowF q [] j = (j : Int) := rfl
        rw [e0, ej]
        omega
      rw [this]
      simp [h0]
  rw [List.filter_congr hf]
  have : (List.range (q.length + 1)).filter (fun j => decide (j = 0)) = [0] := by
    rw [List.range_succ_eq_map, List.filter_cons_of_pos (by simp)]
    congr 1
    rw [List.filter_eq_nil_iff]
    intro a ha
    obtain ⟨b, _, rfl⟩ := List.mem_map.1 ha
    simp
  rw [this]
  rfl
/-- behind a rune more -/
theorem stateP_step {q : List Int} {k : Int} (hk : 0 ≤ k) (p : List Int) (r : Int) : stateF (q.length + 1) k (cstepF k q (spreadF q.length k (stateP q k p)) r) = stateP q k (p ++ [r]) := by
  unfold stateP
  rw [rowF_snoc, ← state_cap (stepF q (rowF q p) r)]
  have hc : ∀ i, i < q.length + 1 → cstepF k q (spreadF q.length k (stateP q k p)) r i = capF k (stepF q (rowF q p) r) i := by
    intro i hi
    rw [← cstep_cap]
    have : ∀ i, i < q.length + 1 → cstepF k q (spreadF q.length k (stateP q k p)) r i = cstepF k q (capF k (rowF q p)) r i := by
      intro i
      induction i with
      | zero => intro hi; unfold cstepF; rw [stateP_row hk p hi]
      | succ i ih =>
        intro hi
        show min (min (min (spreadF q.length k (stateP q k p) (i + 1) + 1) (cstepF k q (spreadF q.length k (stateP q k p)) r i + 1)) (spreadF q.length k (stateP q k p) i + if q[i]? = some r then 0 else 1)) (k + 1) = min (min (min (capF k (rowF q p) (i + 1) + 1) (cstepF k q (capF k (rowF q p)) r i + 1)) (capF k (rowF q p) i + if q[i]? = some r then 0 else 1)) (k + 1)
        rw [ih (by omega), stateP_row hk p hi, stateP_row hk p (by omega : i < q.length + 1)]
    exact this i hi
  exact state_congr hc
where
  state_congr {n : Nat} {k : Int} {f g : Nat → Int} (h : ∀ i, i < n → f i = g i) : stateF n k f = stateF n k g := by
    unfold stateF
    have hl : ∀ j, j < n → lesserM n k f j = lesserM n k g j := by
      intro j hj
      unfold lesserM
      rw [Bool.eq_iff_iff, List.any_eq_true, List.any_eq_true]
      constructor
      · rintro ⟨i, hi, hc⟩
        refine ⟨i, hi, ?_⟩
        rw [← h i (List.mem_range.1 hi), ← h j hj]; exact hc
      · rintro ⟨i, hi, hc⟩
        refine ⟨i, hi, ?_⟩
        rw [h i (List.mem_range.1 hi), h j hj]; exact hc
    rw [List.filter_congr fun j hj => by rw [h j (List.mem_range.1 hj), hl j (List.mem_range.1 hj)]]
    refine List.map_congr_left fun j hj => ?_
    have := List.mem_range.1 (List.mem_filter.1 hj).1
    rw [h j this]
/-- no state: everything is above 'k', and stays so -/
theorem row_min {q : List Int} {f : Nat → Int} {r m : Int} (h : ∀ i, i < q.length + 1 → m ≤ f i) : ∀ i, i < q.length + 1 → m ≤ stepF q f r i
  | 0, hi => by have := h 0 hi; unfold stepF; omega
  | i + 1, hi => by
    have h1 := h (i + 1) hi; have h2 := h i (by omega); have h3 := row_min (r := r) h i (by omega)
    unfold stepF; split <;> omega
theorem dead_row {q : List Int} {k : Int} (hk : 0 ≤ k) {p : List Int} (h : stateP q k p = []) : ∀ i, i < q.length + 1 → k + 1 ≤ rowF q p i := by
  intro i hi
  have := stateP_row hk p hi
  rw [h] at this
  have e : spreadF q.length k [] i = k + 1 := rfl
  rw [e] at this
  unfold capF at this; omega
theorem dead_far {q : List Int} {k : Int} {p : List Int} (h : ∀ i, i < q.length + 1 → k + 1 ≤ rowF q p i) : ∀ (u : List Int), k + 1 ≤ lev q (p ++ u) := by
  have key : ∀ (u p : List Int), (∀ i, i < q.length + 1 → k + 1 ≤ rowF q p i) → ∀ i, i < q.length + 1 → k + 1 ≤ rowF q (p ++ u) i := by
    intro u
    induction u with
    | nil => intro p h; simpa using h
    | cons r u ih =>
      intro p h
      have := ih (p ++ [r]) (by rw [rowF_snoc]; exact row_min h)
      rw [List.append_assoc] at this
      exact this
  intro u
  exact key u p h q.length (by omega)
/-- the distance by a state -/
theorem dist_state {q : List Int} {k : Int} (hk : 0 ≤ k) (p : List Int) : spreadF q.length k (stateP q k p) q.length = min (lev q p) (k + 1) := stateP_row hk p (by omega)
end Go.Ml
namespace Go.Ml
open Go.Ik
def encPos (x : Pos) : List Value := [.int .i64 x.at_, .int .i64 x.dist]
theorem encPos_len (x : Pos) : (encPos x).length = 2 := rfl
theorem encPos_one (x : Pos) : (encPos x).all (·.oneCell') = true := rfl
/-- a row as a list -/
def rowL (n : Nat) (f : Nat → Int) : List Int := (List.range (n + 1)).map f
theorem rowL_len (n : Nat) (f : Nat → Int) : (rowL n f).length = n + 1 := by simp [rowL]
theorem rowL_at {n : Nat} {f : Nat → Int} {i : Nat} {x : Int} (h : (rowL n f)[i]? = some x) : x = f i ∧ i < n + 1 := by
  obtain ⟨hi, h1⟩ := List.getElem?_eq_some_iff.1 h
  rw [rowL_len] at hi
  unfold rowL at h
  rw [List.getElem?_map, List.getElem?_range hi] at h
  exact ⟨by simpa using h.symm, hi⟩
theorem rowL_ext {n : Nat} {f g : Nat → Int} (h : ∀ i, i < n + 1 → f i = g i) : rowL n f = rowL n g := by
  unfold rowL
  exact List.map_congr_left fun i hi => h i (List.mem_range.1 hi)
theorem rowL_set {n : Nat} {f g : Nat → Int} {i : Nat} {x : Int} (hi : i < n + 1) (hx : x = g i) (h : ∀ j, j < n + 1 → j ≠ i → f j = g j) : (rowL n f).set i x = rowL n g := by
  refine List.ext_getElem? fun j => ?_
  unfold rowL
  rw [List.getElem?_set]
  split
  · rename_i e; subst e
    rw [if_pos (by simp; exact hi), List.getElem?_map, List.getElem?_range hi, hx]; rfl
  · rename_i hne
    by_cases hj : j < n + 1
    · rw [List.getElem?_map, List.getElem?_map, List.getElem?_range hj]
      simp [h j hj (fun e => hne e.symm)]
    · rw [List.getElem?_eq_none (by simp; omega), List.getElem?_eq_none (by simp; omega)]
theorem fill_start (n : Nat) (k : Int) : List.replicate (n + 1) (0 : Int) = rowL n fun j => if j < 0 then k + 1 else 0 := by
  refine List.ext_getElem (by simp [rowL]) fun i h1 h2 => ?_
  simp [rowL]
theorem fill_step {n i : Nat} {k : Int} {l : List Int} (h : l = rowL n fun j => if j < i then k + 1 else 0) (hi : i < n + 1) : l.set i (k + 1) = rowL n fun j => if j < i + 1 then k + 1 else 0 := by
  rw [h]
  refine rowL_set hi (by simp) fun j hj hne => ?_
  by_cases hji : j < i
  · rw [if_pos hji, if_pos (by omega)]
  · rw [if_neg hji, if_neg (by omega)]
theorem fill_end {n i : Nat} {k : Int} {l : List Int} (h : l = rowL n fun j => if j < i then k + 1 else 0) (hi : n + 1 ≤ i) : l = rowL n (spreadF n k []) := by
  rw [h]
  refine rowL_ext fun j hj => ?_
  rw [if_pos (by omega)]; rfl
theorem spread_snoc (n : Nat) (k : Int) (s : List Pos) (p : Pos) (x : Nat) : spreadF n k (s ++ [p]) x = if (0 ≤ p.at_ ∧ p.at_ ≤ (n : Int) ∧ 0 ≤ p.dist ∧ p.dist ≤ k) ∧ max ((x : Int) - p.at_) (p.at_ - (x : Int)) ≤ k then min (spreadF n k s x) (p.dist + max ((x : Int) - p.at_) (p.at_ - (x : Int))) else spreadF n k s x := by
  unfold spreadF; rw [List.foldl_append]; rfl
theorem spread_take {n : Nat} {k : Int} {s : List Pos} {j : Nat} {p : Pos} (hp : s[j]? = some p) (x : Nat) : spreadF n k (s.take (j + 1)) x = if (0 ≤ p.at_ ∧ p.at_ ≤ (n : Int) ∧ 0 ≤ p.dist ∧ p.dist ≤ k) ∧ max ((x : Int) - p.at_) (p.at_ - (x : Int)) ≤ k then min (spreadF n k (s.take j) x) (p.dist + max ((x : Int) - p.at_) (p.at_ - (x : Int))) else spreadF n k (s.take j) x := by
  rw [List.take_add_one, hp]; exact spread_snoc n k _ p x
def spMix (n : Nat) (k : Int) (s : List Pos) (j : Nat) (i : Int) (x : Nat) : Int := if (x : Int) < i then spreadF n k (s.take (j + 1)) x else spreadF n k (s.take j) x
theorem sp_skip {n : Nat} {k : Int} {s : List Pos} {j : Nat} {p : Pos} (hp : s[j]? = some p) (h : p.at_ < 0 ∨ p.at_ > (n : Int) ∨ p.dist < 0 ∨ p.dist > k) : rowL n (spreadF n k (s.take j)) = rowL n (spreadF n k (s.take (j + 1))) := by
  refine rowL_ext fun x _ => ?_
  rw [spread_take hp, if_neg (by omega)]
theorem sp_start {n : Nat} {k : Int} {s : List Pos} {j : Nat} {p : Pos} (hp : s[j]? = some p) {i : Int} (hi : i = max (p.at_ - k) 0) : rowL n (spreadF n k (s.take j)) = rowL n (spMix n k s j i) := by
  refine rowL_ext fun x _ => ?_
  unfold spMix
  split
  · rw [spread_take hp, if_neg (by omega)]
  · rfl
theorem sp_set {n : Nat} {k : Int} {s : List Pos} {j : Nat} {p : Pos} (hp : s[j]? = some p) {i : Int} (h0 : 0 ≤ i) (hin : i ≤ (n : Int)) (hv : 0 ≤ p.at_ ∧ p.at_ ≤ (n : Int) ∧ 0 ≤ p.dist ∧ p.dist ≤ k) (h1 : p.at_ - k ≤ i) (h2 : i ≤ p.at_ + k) {x : Int} (hx : (rowL n (spMix n k s j i))[i.toNat]? = some x) :
    (rowL n (spMix n k s j i)).set i.toNat (min x (p.dist + max (i - p.at_) (p.at_ - i))) = rowL n (spMix n k s j (i + 1)) := by
  obtain ⟨hxe, hlt⟩ := rowL_at hx
  have hi : ((i.toNat : Nat) : Int) = i := by omega
  refine rowL_set hlt ?_ fun y hy hne => ?_
  · rw [hxe]
    unfold spMix
    rw [if_neg (by omega), if_pos (by omega), spread_take hp, if_pos ⟨hv, by omega⟩, hi]
  · unfold spMix
    by_cases h : (y : Int) < i
    · rw [if_pos h, if_pos (by omega)]
    · rw [if_neg h, if_neg (by omega)]
theorem sp_end {n : Nat} {k : Int} {s : List Pos} {j : Nat} {p : Pos} (hp : s[j]? = some p) {i : Int} (h : i > min (p.at_ + k) (n : Int)) : rowL n (spMix n k s j i) = rowL n (spreadF n k (s.take (j + 1))) := by
  refine rowL_ext fun x hx => ?_
  unfold spMix
  split
  · rfl
  · rw [spread_take hp, if_neg (by omega)]
theorem sp_fin {n : Nat} {k : Int} {s : List Pos} {j : Nat} {l : List Int} (h : l = rowL n (spreadF n k (s.take j))) (hj : s.length ≤ j) : l = rowL n (spreadF n k s) := by
  rw [h, List.take_of_length_le hj]
theorem spread_rng {n : Nat} {k : Int} (hk : 0 ≤ k) (s : List Pos) (x : Nat) : 0 ≤ spreadF n k s x ∧ spreadF n k s x ≤ k + 1 := by
  rw [spread_eq]
  refine ⟨foldl_min_ge _ _ _ _ (by omega) fun p hp y hy => ?_, foldl_min_le _ _ _⟩
  unfold posG at hy
  split at hy
  · cases hy; omega
  · cases hy
theorem sp_rng {n : Nat} {k : Int} {s : List Pos} {j : Nat} {i : Int} {x : Nat} (hk : 0 ≤ k) : 0 ≤ spMix n k s j i x ∧ spMix n k s j i x ≤ k + 1 := by
  unfold spMix; split <;> exact spread_rng hk _ _
def lessW (n : Nat) (f : Nat → Int) (j : Nat) (i : Int) : Bool := (List.range n).any fun (x : Nat) => (decide (f x < f j) && decide (max ((x : Int) - (j : Int)) ((j : Int) - (x : Int)) ≤ f j - f x)) && decide ((x : Int) < i)
theorem less_start {n : Nat} {f : Nat → Int} {j : Nat} {k i : Int} (hp : ∀ x, 0 ≤ f x) (hj : f j ≤ k) (hi : i = max ((j : Int) - k) 0) : false = lessW n f j i := by
  symm; unfold lessW
  rw [List.any_eq_false]
  intro x hx
  have := hp x
  simp only [Bool.and_eq_true, decide_eq_true_eq, not_and]
  intro h; omega
theorem less_step {n : Nat} {f : Nat → Int} {j : Nat} {i : Int} {b : Bool} (hb : b = lessW n f j i) (h0 : 0 ≤ i) (hn : i < (n : Int)) {c : Bool} (hc : c = (decide (f i.toNat < f j) && decide (max (i - (j : Int)) ((j : Int) - i) ≤ f j - f i.toNat))) : (b || c) = lessW n f j (i + 1) := by
  rw [hb, Bool.eq_iff_iff]
  have hi : ((i.toNat : Nat) : Int) = i := by omega
  unfold lessW
  rw [Bool.or_eq_true, List.any_eq_true, List.any_eq_true]
  constructor
  · rintro (⟨x, hx, h⟩ | h)
    · refine ⟨x, hx, ?_⟩
      simp only [Bool.and_eq_true, decide_eq_true_eq] at h ⊢
      omega
    · refine ⟨i.toNat, List.mem_range.2 (by omega), ?_⟩
      rw [hc] at h
      simp only [Bool.and_eq_true, decide_eq_true_eq] at h ⊢
      rw [hi]; omega
  · rintro ⟨x, hx, h⟩
    simp only [Bool.and_eq_true, decide_eq_true_eq] at h
    by_cases hxi : (x : Int) < i
    · left; refine ⟨x, hx, ?_⟩
      simp only [Bool.and_eq_true, decide_eq_true_eq]; omega
    · right
      have : x = i.toNat := by omega
      subst this
      rw [hc, hi] at *
      simp only [Bool.and_eq_true, decide_eq_true_eq]
      omega
theorem less_end {n : Nat} {f : Nat → Int} {j : Nat} {k i : Int} {b : Bool} (hb : b = lessW n f j i) (hp : ∀ x, 0 ≤ f x) (hj : f j ≤ k) (hi : i > min ((j : Int) + k) ((n : Int) - 1)) : b = lesserM n k f j := by
  rw [hb]
  unfold lessW lesserM
  rw [Bool.eq_iff_iff, List.any_eq_true, List.any_eq_true]
  constructor
  · rintro ⟨x, hx, h⟩
    rw [Bool.and_eq_true] at h
    exact ⟨x, hx, h.1⟩
  · rintro ⟨x, hx, h⟩
    refine ⟨x, hx, ?_⟩
    have h1 := List.mem_range.1 hx
    have := hp x
    rw [Bool.and_eq_true]
    refine ⟨h, ?_⟩
    simp only [Bool.and_eq_true, decide_eq_true_eq] at h ⊢
    omega
def stateT (n : Nat) (k : Int) (f : Nat → Int) (i : Nat) : List Pos := ((List.range i).filter fun (j : Nat) => decide (f j ≤ k) && !lesserM n k f j).map fun (j : Nat) => Pos.mk (j : Int) (f j)
theorem stT_high {n : Nat} {k : Int} {f : Nat → Int} {i : Nat} {l : List Pos} (h : l = stateT n k f i) (hf : f i > k) : l = stateT n k f (i + 1) := by
  rw [h]; unfold stateT
  rw [List.range_succ, List.filter_append, List.filter_cons_of_neg (by simp; omega)]; simp
theorem stT_less {n : Nat} {k : Int} {f : Nat → Int} {i : Nat} {l : List Pos} (h : l = stateT n k f i) (hf : true = lesserM n k f i) : l = stateT n k f (i + 1) := by
  rw [h]; unfold stateT
  rw [List.range_succ, List.filter_append, List.filter_cons_of_neg (by simp [← hf])]; simp
theorem stT_more {n : Nat} {k : Int} {f : Nat → Int} {i : Nat} {l : List Pos} (h : l = stateT n k f i) (hf : ¬ f i > k) (hl : false = lesserM n k f i) {x : Int} (hx : x = f i) : l ++ [Pos.mk (i : Int) x] = stateT n k f (i + 1) := by
  rw [h, hx]; unfold stateT
  rw [List.range_succ, List.filter_append, List.filter_cons_of_pos (by simp [← hl]; omega)]; simp
theorem stT_len (n : Nat) (k : Int) (f : Nat → Int) (i : Nat) : (stateT n k f i).length ≤ i := by
  unfold stateT
  rw [List.length_map]
  exact Nat.le_trans (List.length_filter_le _ _) (by simp)
theorem stF_len (n : Nat) (k : Int) (f : Nat → Int) : (stateF n k f).length ≤ n := stT_len n k f n
def stepMix (n : Nat) (k : Int) (q : List Int) (s : List Pos) (r : Int) (i : Nat) (x : Nat) : Int := if x ≤ i then cstepF k q (spreadF n k s) r x else spreadF n k s x
theorem stp_start {n : Nat} {k : Int} {q : List Int} {s : List Pos} {r x : Int} (hx : (rowL n (spreadF n k s))[0]? = some x) : (rowL n (spreadF n k s)).set 0 (min (x + 1) (k + 1)) = rowL n (stepMix n k q s r 0) := by
  obtain ⟨hxe, hlt⟩ := rowL_at hx
  refine rowL_set hlt ?_ fun j hj hne => ?_
  · rw [hxe]; unfold stepMix; rw [if_pos (Nat.le_refl _)]; rfl
  · unfold stepMix; rw [if_neg (by omega)]
theorem stp_step {n : Nat} {k : Int} {q : List Int} {s : List Pos} {r : Int} {i : Nat} (hi : i + 1 < n + 1) {a b c t : Int} (ha : (rowL n (spreadF n k s))[i + 1]? = some a) (hb : (rowL n (stepMix n k q s r i))[i]? = some b) (hc : (rowL n (spreadF n k s))[i]? = some c) (ht : t = c + if q[i]? = some r then 0 else 1) :
    (rowL n (stepMix n k q s r i)).set (i + 1) (min (min (min (a + 1) (b + 1)) t) (k + 1)) = rowL n (stepMix n k q s r (i + 1)) := by
  obtain ⟨hae, _⟩ := rowL_at ha
  obtain ⟨hbe, _⟩ := rowL_at hb
  obtain ⟨hce, _⟩ := rowL_at hc
  refine rowL_set hi ?_ fun j hj hne => ?_
  · have e : b = cstepF k q (spreadF n k s) r i := by rw [hbe]; unfold stepMix; rw [if_pos (Nat.le_refl _)]
    unfold stepMix
    rw [if_pos (Nat.le_refl _)]
    show _ = min (min (min (spreadF n k s (i + 1) + 1) (cstepF k q (spreadF n k s) r i + 1)) (spreadF n k s i + if q[i]? = some r then 0 else 1)) (k + 1)
    rw [← e, ← hae, ht, hce]
  · unfold stepMix
    by_cases h : j ≤ i
    · rw [if_pos h, if_pos (by omega)]
    · rw [if_neg h, if_neg (by omega)]
theorem stp_fin {n : Nat} {k : Int} {q : List Int} {s : List Pos} {r : Int} {i : Nat} {l : List Int} (h : l = rowL n (stepMix n k q s r i)) (hi : n ≤ i) : l = rowL n (cstepF k q (spreadF n k s) r) := by
  rw [h]
  refine rowL_ext fun j hj => ?_
  unfold stepMix; rw [if_pos (by omega)]
theorem cstep_rng {k : Int} (hk : 0 ≤ k) {q : List Int} {f : Nat → Int} {r : Int} (h : ∀ i, 0 ≤ f i ∧ f i ≤ k + 1) : ∀ i, 0 ≤ cstepF k q f r i ∧ cstepF k q f r i ≤ k + 1
  | 0 => by have := h 0; unfold cstepF; omega
  | i + 1 => by
    have h1 := h (i + 1); have h2 := h i; have h3 := cstep_rng (q := q) (r := r) hk h i
    unfold cstepF; split <;> omega
end Go.Ml
namespace Go.Ml
open Go.Ik
theorem less_go {n : Nat} {f : Nat → Int} {j : Nat} {i : Int} (hb : true = lessW n f j i) (h0 : 0 ≤ i) (hn : i < (n : Int)) : true = lessW n f j (i + 1) := by
  have := less_step (c := (decide (f i.toNat < f j) && decide (max (i - (j : Int)) ((j : Int) - i) ≤ f j - f i.toNat))) hb h0 hn rfl
  rw [Bool.true_or] at this; exact this
theorem less_step' {n : Nat} {f : Nat → Int} {j : Nat} {i x : Int} {b : Bool} (hb : false = lessW n f j i) (h0 : 0 ≤ i) (hn : i < (n : Int)) (hx : x = f i.toNat) (hc : (b = true ∧ x < f j ∧ max (i - (j : Int)) ((j : Int) - i) ≤ f j - x) ∨ (b = false ∧ ¬ (x < f j ∧ max (i - (j : Int)) ((j : Int) - i) ≤ f j - x))) : b = lessW n f j (i + 1) := by
  have := less_step (c := b) hb h0 hn (by
    rw [← hx]
    rcases hc with ⟨h, h1, h2⟩ | ⟨h, h1⟩
    · rw [h, decide_eq_true h1, decide_eq_true h2]; rfl
    · rw [h]
      by_cases h2 : x < f j
      · rw [decide_eq_true h2, decide_eq_false (fun h3 => h1 ⟨h2, h3⟩)]; rfl
      · rw [decide_eq_false h2]; rfl)
  rw [Bool.false_or] at this; exact this
theorem stepMix_rng {n : Nat} {k : Int} {q : List Int} {r : Int} (hk : 0 ≤ k) (s : List Pos) (i x : Nat) : 0 ≤ stepMix n k q s r i x ∧ stepMix n k q s r i x ≤ k + 1 := by
  unfold stepMix
  split
  · exact cstep_rng hk (spread_rng hk s) x
  · exact spread_rng hk s x
theorem isEmpty_len {α : Type} {l : List α} {b : Bool} (h : b = (((l.length : Nat) : Int) == 0)) : b = l.isEmpty := by
  rw [h]; cases l <;> simp
  omega
end Go.Ml
namespace Go.Ml
open Go.Ik
theorem less_stepA {n : Nat} {f : Nat → Int} {j : Nat} {i x y : Int} {b : Bool} (hb : false = lessW n f j i) (h0 : 0 ≤ i) (hn : i < (n : Int)) (hx : x = f i.toNat) (hy : y = f j) (hl : x < y) (hc : b = decide (max (i - (j : Int)) ((j : Int) - i) ≤ y - x)) : b = lessW n f j (i + 1) := by
  refine less_step' hb h0 hn hx ?_
  subst hy
  cases b with
  | true => exact .inl ⟨rfl, hl, of_decide_eq_true hc.symm⟩
  | false => exact .inr ⟨rfl, fun h => (of_decide_eq_false hc.symm) h.2⟩
theorem less_stepB {n : Nat} {f : Nat → Int} {j : Nat} {i x y : Int} (hb : false = lessW n f j i) (h0 : 0 ≤ i) (hn : i < (n : Int)) (hx : x = f i.toNat) (hy : y = f j) (hl : ¬ x < y) : false = lessW n f j (i + 1) :=
  less_step' hb h0 hn hx (.inr ⟨rfl, fun h => hl (hy ▸ h.1)⟩)
end Go.Ml
namespace Go.Ml
open Go.Ik
/-- is a text at just a distance? -/
def nearW (q : List Int) (d : Int) (w : Str) : Bool := decide (lev q (runesI w) = d)
/-- a place on the way: the node's number, its rests and edges, the text that led to it -/
structure PZ where
  n : Nat
  x : List Str × List Ed
  word : Str
def PZ.p (z : PZ) : List Int := runesI z.word
/-- words below a place that are near -/
def zNear (q : List Int) (d : Int) (z : PZ) : List Str := (z.x.1.map (z.word ++ ·)).filter (nearW q d)
def todoZ (q : List Int) (d : Int) (S : List PZ) : List Str := S.reverse.flatMap (zNear q d)
theorem runesI_app {c : Nat} (hc : goodN c) (w : Str) (hw : Fine w) : runesI (w ++ encL c) = runesI w ++ [(c : Int)] := by
  obtain ⟨h1, h2⟩ := encT_runes w hw
  have key : ∀ (rs : List Nat), (∀ d ∈ rs, goodN d) → runes (encT rs ++ encL c) = rs ++ [c] := by
    intro rs h
    have : encT rs ++ encL c = encT (rs ++ [c]) := by
      clear h
      induction rs with
      | nil => simp [encT]
      | cons a rs ih => rw [encT_cons, List.append_assoc, ih]; rfl
    rw [this]
    exact runes_encT _ fun d hd => by
      rcases List.mem_append.1 hd with hd | hd
      · exact h d hd
      · simp only [List.mem_singleton] at hd; subst hd; exact hc
  have := key (runes w) h2
  rw [h1] at this
  unfold runesI
  rw [this, List.map_append]; rfl
theorem fine_app' {c : Nat} (hc : goodN c) {w : Str} (hw : Fine w) : Fine (w ++ encL c) := by
  unfold Fine
  have h := runesI_app hc w hw
  intro hm
  have : (65533 : Int) ∈ runesI (w ++ encL c) := List.mem_map.2 ⟨65533, hm, rfl⟩
  rw [h] at this
  rcases List.mem_append.1 this with h1 | h1
  · obtain ⟨a, ha, he⟩ := List.mem_map.1 h1
    have : a = 65533 := by omega
    subst this; exact hw ha
  · simp only [List.mem_singleton] at h1
    have := hc.2.2
    omega
theorem runesI_more : ∀ (t : Str), Fine t → ∀ (w : Str), Fine w → ∃ u, runesI (w ++ t) = runesI w ++ u ∧ Fine (w ++ t) := by
  intro t ht
  refine fine_ind (p := fun t => ∀ (w : Str), Fine w → ∃ u, runesI (w ++ t) = runesI w ++ u ∧ Fine (w ++ t)) ?_ ?_ t ht
  · intro w hw; exact ⟨[], by simp, by simpa using hw⟩
  · intro c t hc _ ih w hw
    obtain ⟨u, h1, h2⟩ := ih (w ++ encL c) (fine_app' hc hw)
    rw [runesI_app hc w hw] at h1
    rw [List.append_assoc] at h1 h2
    exact ⟨(c : Int) :: u, by rw [h1]; simp, h2⟩
/-- below a dead place nothing is near -/
theorem dead_near {q : List Int} {d : Int} (hd : 0 ≤ d) {w : Str} (hw : Fine w) (h : stateP q d (runesI w) = []) {l : List Str} (hl : ∀ t ∈ l, Fine t) : (l.map (w ++ ·)).filter (nearW q d) = [] := by
  rw [List.filter_eq_nil_iff]
  intro x hx
  obtain ⟨t, ht, rfl⟩ := List.mem_map.1 hx
  obtain ⟨u, h1, _⟩ := runesI_more t (hl t ht) w hw
  have := dead_far (dead_row hd h) u
  unfold nearW
  rw [h1]
  simp only [decide_eq_true_eq]; omega
def eNear (q : List Int) (d : Int) (z : PZ) (g : Nat × List Str) : List Str := (g.2.map ((z.word ++ encL g.1) ++ ·)).filter (nearW q d)
theorem zNear_eq {q : List Int} {d : Int} {z : PZ} (h : GoodR z.x.1) : zNear q d z = (if finB z.x.1 = true ∧ nearW q d z.word = true then [z.word] else []) ++ (groups (dropE z.x.1)).flatMap (eNear q d z) := by
  unfold zNear
  rw [map_rests h, List.filter_append]
  congr 1
  · by_cases hf : finB z.x.1 = true
    · rw [if_pos hf]
      by_cases hn : nearW q d z.word = true
      · rw [if_pos ⟨hf, hn⟩, List.filter_cons_of_pos hn]; rfl
      · rw [if_neg (fun h => hn h.2), List.filter_cons_of_neg hn]; rfl
    · rw [if_neg hf, if_neg (fun h => hf h.1)]; rfl
  · unfold restL
    rw [List.drop_zero, List.filter_flatMap]
    congr 1
    funext g
    unfold eNear
    congr 1
    exact List.map_congr_left fun t _ => by simp
/-- edges from one on -/
def eFrom (q : List Int) (d : Int) (z : PZ) (k : Nat) : List Str := ((groups (dropE z.x.1)).drop k).flatMap (eNear q d z)
theorem eFrom_zero {q : List Int} {d : Int} {z : PZ} : eFrom q d z 0 = (groups (dropE z.x.1)).flatMap (eNear q d z) := by unfold eFrom; rw [List.drop_zero]
theorem eFrom_end {q : List Int} {d : Int} {z : PZ} {k : Nat} (h : (groups (dropE z.x.1)).length ≤ k) : eFrom q d z k = [] := by unfold eFrom; rw [List.drop_of_length_le h]; rfl
theorem eFrom_step {q : List Int} {d : Int} {z : PZ} {k : Nat} {g : Nat × List Str} (h : (groups (dropE z.x.1))[k]? = some g) : eFrom q d z k = eNear q d z g ++ eFrom q d z (k + 1) := by
  unfold eFrom; rw [drop_el' h, List.flatMap_cons]
theorem todo_pop {q : List Int} {d : Int} {S : List PZ} {z : PZ} : todoZ q d (S ++ [z]) = zNear q d z ++ todoZ q d S := by
  unfold todoZ; rw [List.reverse_append]; simp
theorem todo_push {q : List Int} {d : Int} {S : List PZ} {z y : PZ} {g : Nat × List Str} (hy : y.x.1 = g.2) (hw : y.word = z.word ++ encL g.1) : todoZ q d (S ++ [y]) = eNear q d z g ++ todoZ q d S := by
  rw [todo_pop]
  congr 1
  unfold zNear eNear
  rw [hy, hw]
def wgt (l : List Str) : Nat := 1 + (l.map fun t => (runes t).length).sum
def wgtS (S : List PZ) : Nat := (S.map fun z => wgt z.x.1).sum
theorem wgtS_snoc (S : List PZ) (z : PZ) : wgtS (S ++ [z]) = wgtS S + wgt z.x.1 := by simp [wgtS]
theorem rsum_app (a b : List Str) : ((a ++ b).map fun t => (runes t).length).sum = (a.map fun t => (runes t).length).sum + (b.map fun t => (runes t).length).sum := by simp
theorem rsum_enc {c : Nat} (hc : goodN c) (l : List Str) : ((l.map (encL c ++ ·)).map fun t => (runes t).length).sum = l.length + (l.map fun t => (runes t).length).sum := by
  induction l with
  | nil => rfl
  | cons a l ih =>
    simp only [List.map_cons, List.sum_cons, List.length_cons]
    rw [ih, runes_app hc]
    simp only [List.length_cons]; omega
def wgtE (l : List (Nat × List Str)) : Nat := (l.map fun g => wgt g.2).sum
theorem wgt_groups : ∀ (n : Nat) (l : List Str), l.length ≤ n → GoodR l → (∀ s ∈ l, s ≠ []) → wgtE (groups l) ≤ (l.map fun t => (runes t).length).sum
  | _, [], _, _, _ => by simp [groups_nil, wgtE]
  | 0, _ :: _, h, _, _ => by simp at h
  | n + 1, s :: r, h, hg, hn => by
    have hs := hn s (by simp)
    have hf := hg.fine s (by simp)
    obtain ⟨hc0, hsp, _⟩ := hf.split hs
    have hc : goodN (hdN s) := hc0
    have hp : pfx s = encL (hdN s) := (enc_dec hs ((fine_cons hs).1 hf).1).2.symm
    have happ := strip_app (pfx s) (s :: r)
    have hsum := congrArg (fun l : List Str => (l.map fun t => (runes t).length).sum) happ
    have hsum' : (((stripP (pfx s) (s :: r)).map (pfx s ++ ·) ++ moreP (pfx s) (s :: r)).map fun t => (runes t).length).sum = ((s :: r).map fun t => (runes t).length).sum := hsum
    replace hsum := hsum'
    rw [rsum_app, hp, rsum_enc hc] at hsum
    have hm := more_len s r
    have hlen : 1 ≤ (stripP (pfx s) (s :: r)).length := by
      unfold stripP
      rw [List.takeWhile_cons, if_pos (pfx_is s)]; simp
    have ih := wgt_groups n (moreP (pfx s) (s :: r)) (by simp only [List.length_cons] at h; omega) (hg.more _) fun t ht => hn t ((List.dropWhile_sublist _).subset ht)
    rw [groups_cons]
    unfold wgtE at ih ⊢
    rw [hp] at ih hlen ⊢
    simp only [List.map_cons, List.sum_cons]
    unfold wgt at ih ⊢
    simp only [List.map_cons, List.sum_cons] at hsum
    omega
theorem wgt_edges {l : List Str} (h : GoodR l) : wgtE (groups (dropE l)) + 1 ≤ wgt l := by
  have hd := dropE_good h
  have := wgt_groups _ _ (Nat.le_refl _) hd.1 hd.2
  have hs : ((dropE l).map fun t => (runes t).length).sum = (l.map fun t => (runes t).length).sum := by
    cases l with
    | nil => rfl
    | cons a r => cases a with
      | nil => simp [dropE, runes_nil]
      | cons b a => rfl
  unfold wgt
  omega
def wgtFrom (l : List (Nat × List Str)) (k : Nat) : Nat := wgtE (l.drop k)
theorem wgtFrom_step {l : List (Nat × List Str)} {k : Nat} {g : Nat × List Str} (h : l[k]? = some g) : wgtFrom l k = wgt g.2 + wgtFrom l (k + 1) := by
  unfold wgtFrom wgtE; rw [drop_el' h]; simp
theorem wgtFrom_zero (l : List (Nat × List Str)) : wgtFrom l 0 = wgtE l := by unfold wgtFrom; rw [List.drop_zero]
theorem wgt_pos (l : List Str) : 1 ≤ wgt l := by unfold wgt; omega
def distsM (words : List Str) (q : List Int) (d : Int) : List Str := words.filter (nearW q d)
theorem todo_root {q : List Int} {d : Int} {words : List Str} {es : List Ed} {n : Nat} : todoZ q d [⟨n, (words, es), []⟩] = distsM words q d := by
  unfold todoZ zNear distsM
  simp
/-- the distance as Dist tells it -/
theorem dist_near {q : List Int} {d : Int} (hd : 0 ≤ d) {w : Str} {D : Int} (hD : D = spreadF q.length d (stateP q d (runesI w)) q.length) : (D ≤ d ∧ D = d) ↔ nearW q d w = true := by
  rw [dist_state hd] at hD
  unfold nearW
  rw [decide_eq_true_eq]
  omega
end Go.Ml
set_option linter.unusedSectionVars false
namespace Go.Ik
open Go
/-- an own slice cut short -/
theorem Acc.cut {P : Program} {α : Type} {enc : α → List Value} {e : TypeId} {sz g : Nat} {w : World} {v : Value} {l : List α} {t : TypeId} {by_ : Nat} {gg : Bool} {z : List Value} (h : Acc enc e sz w g v l) (ht : P.underlying t = some (.slice e)) (he : tyI P e = some (gg, sz, by_, z)) (hsz : ∀ x, (enc x).length = sz)
    {k : IntKind} {n : Int} (j : Nat) (hn : n = (j : Int)) (hj : j ≤ l.length) : ∃ v', (∀ w, (Instr.sliceAt t v none (some (.int k n)) none).run P w = .ok v' w) ∧ Acc enc e sz w g v' (l.take j) := by
  rcases h with ⟨h1, h2, h3⟩ | ⟨b, cap, cur, h0, h1, h2, h3, h4, h5, h6⟩
  · subst h2
    have hj0 : j = 0 := by simpa using hj
    subst hj0
    refine ⟨.slice none 0 0, fun w => ?_, .inl ⟨rfl, rfl, h3⟩⟩
    subst h1
    simp [Instr.sliceAt, Instr.slice, Instr.sliceBounds, run_underlying ht, run_sizeOf he, sliceBound_ok (P := P) (k := k) _ hn (Nat.le_refl 0)]
  · refine ⟨.slice (some ⟨b, 0, none⟩) j cap, fun w => ?_, .inr ⟨b, cap, cur, h0, by rw [List.length_take, Nat.min_eq_left hj], h2, by rw [List.length_take]; omega, h4, h5, ?_⟩⟩
    · subst h1
      have hb := fun c w => sliceBound_ok (P := P) (k := k) c hn (Nat.le_trans hj h3) w
      by_cases hc : cap = 0
      · subst hc
        have hj0 : j = 0 := by omega
        subst hj0
        simp [Instr.sliceAt, Instr.slice, Instr.sliceBounds, run_underlying ht, run_sizeOf he, hb]
      · simp [Instr.sliceAt, Instr.slice, Instr.sliceBounds, run_underlying ht, run_sizeOf he, hb, hc, add_lit]
    · rw [List.length_take, Nat.min_eq_left hj, ← flat_take hsz, ← h6, List.take_take, Nat.min_eq_left (Nat.mul_le_mul_right _ hj)]
/-- a graph's blocks are not written -/
theorem Gr.keepM {gt : TypeId} {w w' : World} {lo hi : Nat} {M : Nat → Prop} {v : Value} {N : List GN} (h : Gr gt w lo hi v N) (hm : Mod M w w') (hd : ∀ b, lo ≤ b → b < hi → ¬ M b) : Gr gt w' lo hi v N := by
  rcases h with h | ⟨b, vn, nds, h1, h2, h3, h4, h5⟩
  · exact .inl h
  · exact .inr ⟨b, vn, nds, h1, h2, ⟨h3.1, h3.2.1, h3.2.2.keep hm (hd b h3.1 h3.2.1)⟩, h4.keep hm fun b hb => hd b hb.1 hb.2, h5.keep hm fun b hb => hd b hb.1 hb.2⟩
/-- a function that is handed in, by what it holds -/
structure YieldS (P : Program) {σ : Type} (ky : FuncId) (first cap : List Value) (A : σ → Res (fun _ => False)) (ok : σ → Str → Prop) (f : σ → Str → σ × Bool) : Prop where
  cl : clB P ky = true
  call : ∀ s F w x, (A s).p F w → (∀ b, F b → b < w.heap.size) → ok s x → Calls P ky (first ++ [strV x] ++ cap).toArray w (Ret fun rv w' => rv = .bool (f s x).2 ∧ Mod F w w' ∧ ∃ F', (A (f s x).1).p F' w' ∧ ∀ b, F' b → b < w'.heap.size ∧ (F b ∨ w.heap.size ≤ b))
section
variable {R F0 : Nat → Prop} {w0 w w' : World} {L : List (Res R)} {i j : Nat} {α : Type} {enc : α → List Value}
theorem St.slMem {vs : List (Value × List α)} {v : Value} {l : List α} (h : St R F0 w0 w L) (hi : L[i]? = some (slR enc vs)) (hm : (v, l) ∈ vs) : Sl enc w (Iv 0 w.heap.size) v l := by
  obtain ⟨k, hk, he⟩ := List.getElem_of_mem hm
  exact h.sl hi (List.getElem?_eq_some_iff.2 ⟨hk, he⟩)
theorem sl_app {V V' : List (Value × List α)} {F : Nat → Prop} (h : (boxR (R := R) [slR enc V, slR enc V']).p F w) : (slR (R := R) enc (V ++ V')).p F w := by
  obtain ⟨Fs, h1, h2, _⟩ := h
  intro x hx
  rcases List.mem_append.1 hx with hx | hx
  · exact (h1 0 _ rfl x hx).mono fun b hb => hb.imp (fun h => (h2 0 b h).1.1) id
  · exact (h1 1 _ rfl x hx).mono fun b hb => hb.imp (fun h => (h2 1 b h).1.1) id
end
structure PW where
  node : Int
  st : SH
  word : Str
def encPW (x : PW) : List Value := [.int .i64 x.node, x.st.val, strV x.word]
theorem encPW_len (x : PW) : (encPW x).length = 3 := rfl
theorem encPW_one (x : PW) : (encPW x).all (·.oneCell') = true := rfl
open Ml
structure PWR (q : List Int) (d : Int) (s : GS) (V : List (Value × List Pos)) (p : PW) (z : PZ) : Prop where
  node : p.node = (z.n : Int)
  word : p.word = z.word
  st : (p.st.val, stateP q d (runesI z.word)) ∈ V
  na : nodeAt (gnOf s) (z.n : Int) = (finB z.x.1, z.x.2)
  corr : Corr s z.x
  good : GoodR z.x.1
  fine : Fine z.word
  lt : z.n ≤ 1000000
  deep : ∃ e, Deep e z.x.1 ∧ z.word.length + 4 * e ≤ 48
theorem PWR.mono {q : List Int} {d : Int} {s : GS} {V V' : List (Value × List Pos)} {p : PW} {z : PZ} (h : PWR q d s V p z) (hV : ∀ x ∈ V, x ∈ V') : PWR q d s V' p z := { h with st := hV _ h.st }
theorem PWR.start {q : List Int} {d : Int} (hd : 0 ≤ d) {s : GS} {words : List Str} {es : List Ed} {sh : SH} {v : Value} (hv : v = sh.val) (hna : nodeAt (gnOf s) 0 = (finB words, es)) (hc : Corr s (words, es)) (hg : GoodR words) (hdp : Deep 12 words) :
    All2 (PWR q d s [(v, [⟨0, 0⟩])]) [PW.mk 0 sh []] [⟨0, (words, es), []⟩] :=
  .cons ⟨rfl, rfl, by rw [hv, show runesI ([] : Str) = [] from rfl, stateP_start hd]; simp, hna, hc, hg, by simp [Fine, runes_nil], by simp, 12, hdp, by simp⟩ .nil
theorem All2.snoc {α β : Type} {R : α → β → Prop} {l : List α} {m : List β} {a : α} {b : β} (h : All2 R l m) (hab : R a b) : All2 R (l ++ [a]) (m ++ [b]) := by
  induction h with
  | nil => exact .cons hab .nil
  | cons x _ ih => exact .cons x ih
theorem All2.pop {α β : Type} {R : α → β → Prop} : ∀ {l : List α} {m : List β} {n : Nat} {a : α}, All2 R l m → l[n]? = some a → n + 1 = l.length → ∃ m1 b, m = m1 ++ [b] ∧ All2 R (l.take n) m1 ∧ R a b
  | _, _, n, a, .nil, hx, _ => by simp at hx
  | _, _, 0, a, .cons (l := l) (m := m) hab h, hx, hn => by
    have : l = [] := List.eq_nil_of_length_eq_zero (by simp only [List.length_cons] at hn; omega)
    subst this
    cases h
    simp only [List.getElem?_cons_zero, Option.some.injEq] at hx
    subst hx
    exact ⟨[], _, rfl, .nil, hab⟩
  | _, _, n + 1, a, .cons (l := l) (m := m) hab h, hx, hn => by
    obtain ⟨m1, b, h1, h2, h3⟩ := All2.pop h (by simpa using hx) (by simp only [List.length_cons] at hn; omega)
    exact ⟨_ :: m1, b, by rw [h1]; rfl, .cons hab h2, h3⟩
theorem PWR.pop {q : List Int} {d : Int} {s : GS} {V : List (Value × List Pos)} {ps : List PW} {zs : List PZ} {n : Nat} {x : PW} (h : All2 (PWR q d s V) ps zs) (hx : ps[n]? = some x) (hn : n + 1 = ps.length) :
    ∃ zs1 z sh, zs = zs1 ++ [z] ∧ x = PW.mk (z.n : Int) sh z.word ∧ All2 (PWR q d s V) (ps.take n) zs1 ∧ (sh.val, stateP q d (runesI z.word)) ∈ V ∧ nodeAt (gnOf s) (z.n : Int) = (finB z.x.1, z.x.2) ∧ Corr s z.x ∧ GoodR z.x.1 ∧ Fine z.word ∧ z.n ≤ 1000000 ∧ ∃ e, Deep e z.x.1 ∧ z.word.length + 4 * e ≤ 48 := by
  obtain ⟨zs1, z, h1, h2, h3⟩ := All2.pop h hx hn
  refine ⟨zs1, z, x.st, h1, ?_, h2, h3.st, h3.na, h3.corr, h3.good, h3.fine, h3.lt, h3.deep⟩
  rw [← h3.node, ← h3.word]
theorem PWR.push {q : List Int} {d : Int} (hd : 0 ≤ d) {s : GS} {V : List (Value × List Pos)} {ps : List PW} {zs : List PZ} (h : All2 (PWR q d s V) ps zs) (hsz : s.length ≤ 1000000) (hnode : ∀ y ∈ s, Corr s y ∧ GoodR y.1 ∧ Deep 12 y.1) {w : Str} (hw : Fine w) {g : Nat × List Str} {j : Nat} {es : List Ed} {r : Int} {sh : SH} {L : List Pos} {wd : Str} {de : Nat}
    (hru : r = (g.1 : Int)) (hj : s[j]? = some (g.2, es)) (hg : goodN g.1) (hL : L = stateF (q.length + 1) d (cstepF d q (spreadF q.length d (stateP q d (runesI w))) r)) (hwd : wd = w ++ encL g.1) (hde : Deep de g.2) (hlen : w.length + 4 * (de + 1) ≤ 48) {to : Int} (hto : to = (j : Int)) :
    All2 (PWR q d s (V ++ [(sh.val, L)])) (ps ++ [PW.mk to sh wd]) (zs ++ [⟨j, (g.2, es), w ++ encL g.1⟩]) := by
  have hn := hnode _ (List.mem_of_getElem? hj)
  have h4 := encL_len4 g.1
  refine All2.snoc (h.imp fun a b hab => hab.mono fun x hx => by simp [hx]) ⟨hto, hwd, ?_, gnOf_at hj, hn.1, hn.2.1, fine_app' hg hw, by have := (List.getElem?_eq_some_iff.1 hj).1; simp only; omega, de, hde, by simp only [List.length_append]; omega⟩
  rw [hL, hru, stateP_step hd, ← runesI_app hg w hw]
  simp
theorem wgt_len : ∀ {ps : List PW} {zs : List PZ} {R : PW → PZ → Prop}, All2 R ps zs → ps.length ≤ wgtS zs
  | _, _, _, .nil => by simp
  | _, _, _, .cons (b := b) (m := m) _ h => by
    have := wgt_len h
    have h1 := wgt_pos b.x.1
    simp only [List.length_cons, wgtS, List.map_cons, List.sum_cons] at this ⊢
    omega
end Go.Ik
namespace Go.Ml
open Go.Ik
section
variable {σ : Type} {f : σ → Str → σ × Bool} {ok : σ → Str → Prop} {s0 sk : σ} {L E T : List Str} {w : Str} {P : Prop} [Decidable P]
theorem yz_no (h : eachF f s0 L = eachF f sk (((if P then [w] else []) ++ E) ++ T)) (hp : ¬ P) : eachF f s0 L = eachF f sk (E ++ T) := by rw [if_neg hp] at h; exact h
theorem yz_okno (h : OkAll ok f sk (((if P then [w] else []) ++ E) ++ T)) (hp : ¬ P) : OkAll ok f sk (E ++ T) := by rw [if_neg hp] at h; exact h
theorem yz_yes (h : eachF f s0 L = eachF f sk (((if P then [w] else []) ++ E) ++ T)) (hp : P) (hy : (f sk w).2 = true) : eachF f s0 L = eachF f (f sk w).1 (E ++ T) := by
  rw [if_pos hp, List.append_assoc] at h; rw [h]; exact each_first hy
theorem yz_stop (h : eachF f s0 L = eachF f sk (((if P then [w] else []) ++ E) ++ T)) (hp : P) (hy : (f sk w).2 = false) : eachF f s0 L = ((f sk w).1, false) := by
  rw [if_pos hp, List.append_assoc] at h; rw [h]; exact each_first_no hy
theorem yz_ok (h : OkAll ok f sk (((if P then [w] else []) ++ E) ++ T)) (hp : P) : ok sk w := by
  rw [if_pos hp, List.append_assoc] at h; exact h.1
theorem yz_okyes (h : OkAll ok f sk (((if P then [w] else []) ++ E) ++ T)) (hp : P) (hy : (f sk w).2 = true) : OkAll ok f (f sk w).1 (E ++ T) := by
  rw [if_pos hp, List.append_assoc] at h; exact h.2 hy
end
theorem far_yes {D d : Int} (h : decide (D ≤ d) = true) (h2 : (if D > d then 0 else D) = d) : D ≤ d ∧ D = d := by
  have := of_decide_eq_true h
  rw [if_neg (by omega)] at h2
  exact ⟨this, h2⟩
theorem far_no {D d : Int} (h2 : ¬ (if D > d then 0 else D) = d) (hc : D ≤ d ∧ D = d) : False := by rw [if_neg (by omega)] at h2; exact h2 hc.2
theorem far_no2 {D d : Int} (h : decide (D ≤ d) = false) (hc : D ≤ d ∧ D = d) : False := (of_decide_eq_false h) hc.1
/-- an edge that leads to nothing near -/
theorem eNear_dead {s : GS} {q : List Int} {d : Int} (hd : 0 ≤ d) {z : PZ} {g : Nat × List Str} {j : Nat} {es : List Ed} {r : Int} {L : List Pos} (hf : Fine z.word) (hru : r = (g.1 : Int)) (hg : goodN g.1) (hj : s[j]? = some (g.2, es)) (hnode : ∀ y ∈ s, Corr s y ∧ GoodR y.1 ∧ Deep 12 y.1)
    (hL : L = stateF (q.length + 1) d (cstepF d q (spreadF q.length d (stateP q d (runesI z.word))) r)) (hdead : L.isEmpty = true) : eNear q d z g = [] := by
  have hn := hnode _ (List.mem_of_getElem? hj)
  rw [hru, stateP_step hd, ← runesI_app hg z.word hf] at hL
  have he : L = [] := List.isEmpty_iff.1 hdead
  rw [he] at hL
  exact dead_near hd (fine_app' hg hf) hL.symm hn.2.1.fine
end Go.Ml
namespace Go.Ml
open Go.Ik
theorem eFrom_at {q : List Int} {d : Int} {z : PZ} {i : Int} (h : i < 0) : eFrom q d z (i + 1).toNat = eFrom q d z 0 := by rw [show (i + 1).toNat = 0 from by omega]
theorem wgtFrom_at {l : List (Nat × List Str)} {i : Int} (h : i < 0) : wgtFrom l (i + 1).toNat = wgtE l := by rw [show (i + 1).toNat = 0 from by omega, wgtFrom_zero]
theorem eFrom_to {q : List Int} {d : Int} {z : PZ} {i : Int} {X : List Str} (h : 0 ≤ i) (hx : eFrom q d z i.toNat = X ++ eFrom q d z (i.toNat + 1)) : eFrom q d z (i - 1 + 1).toNat = X ++ eFrom q d z (i + 1).toNat := by
  rw [show (i - 1 + 1).toNat = i.toNat from by omega, show (i + 1).toNat = i.toNat + 1 from by omega]; exact hx
theorem wgtFrom_to {l : List (Nat × List Str)} {i : Int} {x : Nat} (h : 0 ≤ i) (hx : wgtFrom l i.toNat = x + wgtFrom l (i.toNat + 1)) : wgtFrom l (i - 1 + 1).toNat = x + wgtFrom l (i + 1).toNat := by
  rw [show (i - 1 + 1).toNat = i.toNat from by omega, show (i + 1).toNat = i.toNat + 1 from by omega]; exact hx
theorem grp_len {s : GS} {x : List Str × List Ed} (hc : Corr s x) : (groups (dropE x.1)).length = x.2.length := (All2.get hc).1
theorem zs_nil {q : List Int} {d : Int} {s : GS} {V : List (Value × List Pos)} {ps : List PW} {zs : List PZ} (h : All2 (PWR q d s V) ps zs) (hp : ps.length = 0) : zs = [] := by
  have := (All2.get h).1
  exact List.eq_nil_of_length_eq_zero (by omega)
end Go.Ml
namespace Go.Ml
open Go.Ik
theorem wgtFrom_le (l : List (Nat × List Str)) (k : Nat) : wgtFrom l k ≤ wgtE l := by
  unfold wgtFrom wgtE
  conv => rhs; rw [← List.take_append_drop k l]
  rw [List.map_append, List.sum_append]; omega
end Go.Ml
namespace Go.Ml
open Go.Ik
structure Itm where
  dist : Int
  word : Str
deriving DecidableEq
def encItm (x : Itm) : List Value := [.int .i64 x.dist, strV x.word]
theorem encItm_len (x : Itm) : (encItm x).length = 2 := rfl
theorem encItm_one (x : Itm) : (encItm x).all (·.oneCell') = true := rfl
def itmCmp (a b : Itm) : Int := orI [cmpI a.dist b.dist, Lib.compareBytes a.word b.word]
def itmLess (a b : Itm) : Bool := decide (itmCmp a b < 0)
def mayA (g : List GN) (s : Str) (k : Int) : Bool := (!g.isEmpty) && decide (0 ≤ k ∧ k ≤ 4) && asked s
def qM (g : List GN) (s : Str) (k : Int) : List Int := if mayA g s k = true then runesI s else []
theorem mayA_g {s : Str} {k : Int} : mayA [] s k = false := rfl
theorem mayA_k {g : List GN} {s : Str} {k : Int} (h : k < 0 ∨ k > 4) : mayA g s k = false := by unfold mayA; rw [decide_eq_false (by omega)]; simp
theorem mayA_s {g : List GN} {s : Str} {k : Int} (h : asked s = false) : mayA g s k = false := by unfold mayA; rw [h]; simp
theorem mayA_yes {g : List GN} {s : Str} {k : Int} (hg : g ≠ []) (hk : 0 ≤ k ∧ k ≤ 4) (h : asked s = true) : mayA g s k = true := by
  unfold mayA; rw [h, decide_eq_true hk]; cases g <;> simp at *
theorem mayA_iff {g : List GN} {s : Str} {k : Int} : mayA g s k = true ↔ g ≠ [] ∧ (0 ≤ k ∧ k ≤ 4) ∧ asked s = true := by
  constructor
  · intro h
    unfold mayA at h
    simp only [Bool.and_eq_true, decide_eq_true_eq, Bool.not_eq_true', List.isEmpty_eq_false_iff] at h
    exact ⟨h.1.1, h.1.2, h.2⟩
  · rintro ⟨h1, h2, h3⟩; exact mayA_yes h1 h2 h3
theorem asked_fine {s : Str} (h : asked s = true) : fineT s = true := by
  unfold asked at h
  simp only [Bool.and_eq_true, decide_eq_true_eq] at h
  have := h.1
  unfold lenT at this
  unfold fineT
  split at this
  · omega
  · exact decide_eq_true (by assumption)
theorem qM_no {g : List GN} {s : Str} {k : Int} (h : mayA g s k = false) : ([] : List Int) = qM g s k := by unfold qM; rw [h]; rfl
theorem qM_yes {g : List GN} {s : Str} {k : Int} (h : mayA g s k = true) : runesM s = qM g s k := by
  unfold qM; rw [if_pos h, runesM, if_pos (asked_fine (mayA_iff.1 h).2.2)]
theorem qM_eq {g : List GN} {s : Str} {k : Int} (h : mayA g s k = true) : qM g s k = runesI s := by unfold qM; rw [if_pos h]
theorem asked_len {s : Str} (h : asked s = true) : (runesI s).length ≤ 16 := by
  have hf := asked_fine h
  unfold asked at h
  simp only [Bool.and_eq_true, decide_eq_true_eq] at h
  unfold lenT at h
  unfold fineT at hf
  rw [if_neg (of_decide_eq_true hf)] at h
  unfold runesI
  rw [List.length_map]; omega
theorem qM_len (g : List GN) (s : Str) (k : Int) : (qM g s k).length ≤ 16 := by
  unfold qM
  split
  · exact asked_len (mayA_iff.1 (by assumption)).2.2
  · simp
theorem distsM_len (words : List Str) (q : List Int) (d : Int) : (distsM words q d).length ≤ words.length := List.length_filter_le _ _
theorem wgt_short {words : List Str} (hd : Deep 12 words) (hl : words.length ≤ 1000) : wgt words ≤ 500000 := by
  have : (words.map fun t => (runes t).length).sum ≤ words.length * 12 := by
    clear hl
    induction words with
    | nil => simp
    | cons a l ih =>
      have h1 := hd a (by simp)
      have h2 := ih fun t ht => hd t (by simp [ht])
      simp only [List.map_cons, List.sum_cons, List.length_cons]
      omega
  unfold wgt; omega
/-- one word more: what is told, and whether there is more -/
def nextF (first : Bool) (after : Itm) (batch d : Int) (s : List Itm × Bool) (w : Str) : (List Itm × Bool) × Bool :=
  if first = false ∧ itmLess after ⟨d, w⟩ = false then (s, !s.2)
  else if (s.1.length : Int) = batch then ((s.1, true), false)
  else ((s.1 ++ [⟨d, w⟩], s.2), !s.2)
/-- distance by distance -/
def nextD (words : List Str) (q : List Int) (first : Bool) (after : Itm) (batch : Int) (d : Nat) : List Itm × Bool → List Itm × Bool := fun s => (eachF (nextF first after batch d) s (distsM words q d)).1
def nextS (words : List Str) (q : List Int) (first : Bool) (after : Itm) (batch : Int) : Nat → List Itm × Bool
  | 0 => ([], false)
  | d + 1 => let s := nextS words q first after batch d; if s.2 = true then s else nextD words q first after batch d s
def nextA (g : List GN) (words : List Str) (s : Str) (k : Int) (first : Bool) (after : Itm) (batch : Int) : List Itm × Bool :=
  if mayA g s k = true then ((nextS words (runesI s) first after (max batch 0) (k.toNat + 1)).1, !(nextS words (runesI s) first after (max batch 0) (k.toNat + 1)).2) else ([], true)
end Go.Ml
namespace Go.Ik
open Go Go.Ml
theorem far_gr {F F0 : Nat → Prop} {w0 w : World} {R : Nat → Prop} {hi : Nat} (h : ∀ b, F b → ((F0 b ∨ w0.heap.size ≤ b) ∧ ¬ R b) ∧ b < w.heap.size) (hF : ∀ b, F0 b → False) (hhi : hi ≤ w0.heap.size) {lo : Nat} : ∀ b, lo ≤ b → b < hi → ¬ F b := fun b _ h2 hb => by
  rcases (h b hb).1.1 with h3 | h3
  · exact hF b h3
  · omega
end Go.Ik
namespace Go.Ml
open Go.Ik
theorem nextA_no {g : List GN} {words : List Str} {s : Str} {k batch : Int} {first : Bool} {after : Itm} (h : mayA g s k = false) : nextA g words s k first after batch = ([], true) := by unfold nextA; rw [h]; rfl
end Go.Ml
namespace Go.Ml
open Go.Ik
theorem nextF_skip {after : Itm} {batch d : Int} {s : List Itm × Bool} {w : Str} (h : itmLess after ⟨d, w⟩ = false) : nextF false after batch d s w = (s, !s.2) := by unfold nextF; rw [if_pos ⟨rfl, h⟩]
theorem nextF_full {first : Bool} {after : Itm} {batch d : Int} {s : List Itm × Bool} {w : Str} (h : first = true ∨ itmLess after ⟨d, w⟩ = true) (hb : (s.1.length : Int) = batch) : nextF first after batch d s w = ((s.1, true), false) := by
  unfold nextF
  rw [if_neg (by rintro ⟨h1, h2⟩; rcases h with h | h <;> simp_all), if_pos hb]
theorem nextF_add {first : Bool} {after : Itm} {batch d : Int} {s : List Itm × Bool} {w : Str} (h : first = true ∨ itmLess after ⟨d, w⟩ = true) (hb : ¬ (s.1.length : Int) = batch) : nextF first after batch d s w = ((s.1 ++ [⟨d, w⟩], s.2), !s.2) := by
  unfold nextF
  rw [if_neg (by rintro ⟨h1, h2⟩; rcases h with h | h <;> simp_all), if_neg hb]
theorem nextF_len (first : Bool) (after : Itm) (batch d : Int) (s : List Itm × Bool) (w : Str) : (nextF first after batch d s w).1.1.length ≤ s.1.length + 1 := by
  unfold nextF
  split
  · simp
  · split
    · simp
    · simp
theorem okAll_next (first : Bool) (after : Itm) (batch d : Int) (m : Nat) : ∀ (L : List Str) (s : List Itm × Bool), s.1.length + L.length ≤ m → OkAll (fun (s : List Itm × Bool) (_ : Str) => s.1.length ≤ m) (nextF first after batch d) s L
  | [], s, _ => trivial
  | x :: L, s, h => ⟨by simp only [List.length_cons] at h; omega, fun _ => okAll_next first after batch d m L _ (by
      have := nextF_len first after batch d s x
      simp only [List.length_cons] at h; omega)⟩
theorem eachF_nlen (first : Bool) (after : Itm) (batch d : Int) : ∀ (L : List Str) (s : List Itm × Bool), (eachF (nextF first after batch d) s L).1.1.length ≤ s.1.length + L.length
  | [], s => by simp [eachF]
  | x :: L, s => by
    have h1 := nextF_len first after batch d s x
    have h2 := eachF_nlen first after batch d L (nextF first after batch d s x).1
    unfold eachF
    split
    · simp only [List.length_cons]; omega
    · simp only [List.length_cons]; omega
theorem nextS_len (words : List Str) (q : List Int) (first : Bool) (after : Itm) (batch : Int) : ∀ d, (nextS words q first after batch d).1.length ≤ d * words.length
  | 0 => by simp [nextS]
  | d + 1 => by
    have ih := nextS_len words q first after batch d
    unfold nextS
    simp only
    split
    · rw [Nat.succ_mul]; omega
    · have h1 := eachF_nlen first after batch d (distsM words q d) (nextS words q first after batch d)
      have h2 := distsM_len words q d
      unfold nextD
      rw [Nat.succ_mul]; omega
theorem nextS_go {words : List Str} {q : List Int} {first : Bool} {after : Itm} {batch : Int} {d : Nat} (h : false = (nextS words q first after batch d).2) : (eachF (nextF first after batch d) (nextS words q first after batch d) (distsM words q d)).1 = nextS words q first after batch (d + 1) := by
  conv => rhs; unfold nextS
  simp only
  rw [← h]; rfl
theorem nextS_stop {words : List Str} {q : List Int} {first : Bool} {after : Itm} {batch : Int} {n : Nat} (h : (nextS words q first after batch n).2 = true) : ∀ m, nextS words q first after batch (n + m) = nextS words q first after batch n
  | 0 => rfl
  | m + 1 => by
    have ih := nextS_stop h m
    rw [← Nat.add_assoc]
    conv => lhs; unfold nextS
    simp only
    rw [ih, if_pos h]
theorem nextA_end {g : List GN} {words : List Str} {s : Str} {k batch : Int} {first : Bool} {after : Itm} (hm : mayA g s k = true) {n : Nat} (h : (nextS words (qM g s k) first after (max batch 0) n).2 = true ∧ (n : Int) ≤ k + 1 ∨ (n : Int) = k + 1) :
    nextA g words s k first after batch = ((nextS words (qM g s k) first after (max batch 0) n).1, !(nextS words (qM g s k) first after (max batch 0) n).2) := by
  have hk := (mayA_iff.1 hm).2.1
  unfold nextA
  rw [if_pos hm, ← qM_eq hm]
  rcases h with ⟨h, hn⟩ | h
  · have := nextS_stop h (k.toNat + 1 - n)
    rw [show n + (k.toNat + 1 - n) = k.toNat + 1 from by omega] at this
    rw [this]
  · rw [show n = k.toNat + 1 from by omega]
theorem nextA_end2 {g : List GN} {words : List Str} {s : Str} {k batch : Int} {first : Bool} {after : Itm} (hm : mayA g s k = true) {n : Nat} (h : (nextS words (qM g s k) first after (max batch 0) n).2 = true ∧ (n : Int) ≤ k + 1 ∨ (n : Int) = k + 1) {b : Bool} (hb : (nextS words (qM g s k) first after (max batch 0) n).2 = b) :
    (!b) = (nextA g words s k first after batch).2 := by rw [nextA_end hm h, hb]
end Go.Ml
namespace Go.Ik
open Go Go.Ml
/-- what is told so far, and whether there is more, in two boxes -/
def nb0R {R : Nat → Prop} (te e tb : TypeId) (bl bm : Nat) (s : List Itm × Bool) : Res R := exR fun v : Value => boxR [bkR bl [v] te, accR encItm e 2 v s.1, bkR bm [.bool s.2] tb]
end Go.Ik
namespace Go.Ml
open Go.Ik
theorem snocInd {α : Type} {p : List α → Prop} (h0 : p []) (h1 : ∀ l a, p l → p (l ++ [a])) : ∀ l, p l := by
  intro l
  rw [← List.reverse_reverse l]
  generalize l.reverse = r
  induction r with
  | nil => exact h0
  | cons a r ih => rw [List.reverse_cons]; exact h1 _ _ ih
theorem rowF_zero (q p : List Int) : rowF q p 0 = p.length := by
  refine snocInd (p := fun p => rowF q p 0 = p.length) rfl (fun p r ih => ?_) p
  rw [rowF_snoc]; unfold stepF; rw [ih]; simp
theorem rowF_le (q p : List Int) (i : Nat) : 0 ≤ rowF q p i ∧ rowF q p i ≤ p.length + i := by
  have h := lip_row q p
  have h1 := h.pos i
  have h2 := lip_any h i 0
  rw [rowF_zero] at h2
  constructor <;> omega
theorem lev_le (q p : List Int) : 0 ≤ lev q p ∧ lev q p ≤ p.length + q.length := rowF_le q p q.length
/-- the distance of texts; -1: one is none -/
def distT (a b : Str) : Int := if fineT a = true ∧ fineT b = true then lev (runesI b) (runesI a) else -1
theorem itmLess_iff {a b : Itm} : itmLess a b = true ↔ a.dist < b.dist ∨ a.dist = b.dist ∧ Lib.compareBytes a.word b.word < 0 := by
  unfold itmLess itmCmp
  rw [decide_eq_true_eq]
  have hor : orI [cmpI a.dist b.dist, Lib.compareBytes a.word b.word] = if cmpI a.dist b.dist ≠ 0 then cmpI a.dist b.dist else Lib.compareBytes a.word b.word := by
    simp only [orI]
    split
    · rfl
    · split
      · rfl
      · omega
  rw [hor]
  unfold cmpI
  by_cases h1 : a.dist < b.dist
  · simp [h1]
  · by_cases h2 : a.dist > b.dist
    · simp [h1, h2]; omega
    · have : a.dist = b.dist := by omega
      simp [this]
def ltI (a b : Itm) : Prop := itmLess a b = true
theorem ltI_trans {a b c : Itm} (h1 : ltI a b) (h2 : ltI b c) : ltI a c := by
  unfold ltI at *
  rw [itmLess_iff] at *
  rcases h1 with h1 | ⟨h1, h1'⟩ <;> rcases h2 with h2 | ⟨h2, h2'⟩
  · exact .inl (by omega)
  · exact .inl (by omega)
  · exact .inl (by omega)
  · exact .inr ⟨by omega, lt_trans h1' h2'⟩
theorem ltI_irr {a : Itm} (h : ltI a a) : False := by
  unfold ltI at h
  rw [itmLess_iff] at h
  rcases h with h | ⟨_, h⟩
  · omega
  · rw [cmp_refl] at h; omega
theorem ltI_tri {a b : Itm} (h : ¬ ltI a b) (hne : a ≠ b) : ltI b a := by
  unfold ltI at *
  rw [itmLess_iff] at *
  have h1 : ¬ a.dist < b.dist := fun x => h (.inl x)
  by_cases h2 : b.dist < a.dist
  · exact .inl h2
  · have he : b.dist = a.dist := by omega
    refine .inr ⟨he, ?_⟩
    have h3 : ¬ Lib.compareBytes a.word b.word < 0 := fun x => h (.inr ⟨he.symm, x⟩)
    have h4 : Lib.compareBytes a.word b.word ≠ 0 := fun e => hne (by
      cases a; cases b
      simp only at *
      rw [he, cmp_eq e])
    exact lt_tri h3 fun e => h4 (by rw [e]; exact cmp_refl _)
theorem ltI_ext : ∀ {a b : List Itm}, a.Pairwise ltI → b.Pairwise ltI → (∀ x, x ∈ a ↔ x ∈ b) → a = b
  | [], [], _, _, _ => rfl
  | [], y :: b, _, _, h => by have := (h y).2 (by simp); simp at this
  | x :: a, [], _, _, h => by have := (h x).1 (by simp); simp at this
  | x :: a, y :: b, ha, hb, h => by
    rw [List.pairwise_cons] at ha hb
    have hxy : x = y := by
      by_cases e : x = y
      · exact e
      · exfalso
        have h1 := (h x).1 (by simp)
        have h2 := (h y).2 (by simp)
        rcases List.mem_cons.1 h1 with h1 | h1
        · exact e h1
        · rcases List.mem_cons.1 h2 with h2 | h2
          · exact e h2.symm
          · exact ltI_irr (ltI_trans (ha.1 y h2) (hb.1 x h1))
    subst hxy
    congr 1
    refine ltI_ext ha.2 hb.2 fun z => ?_
    constructor
    · intro hz
      rcases List.mem_cons.1 ((h z).1 (by simp [hz])) with e | e
      · subst e; exact (ltI_irr (ha.1 _ hz)).elim
      · exact e
    · intro hz
      rcases List.mem_cons.1 ((h z).2 (by simp [hz])) with e | e
      · subst e; exact (ltI_irr (hb.1 _ hz)).elim
      · exact e
/-- an item where it belongs -/
def putI (x : Itm) : List Itm → List Itm
  | [] => [x]
  | y :: r => if itmLess x y = true then x :: y :: r else y :: putI x r
theorem mem_putI {x y : Itm} : ∀ {l : List Itm}, y ∈ putI x l ↔ y = x ∨ y ∈ l
  | [] => by simp [putI]
  | z :: r => by
    unfold putI
    split
    · simp
    · rw [List.mem_cons, mem_putI, List.mem_cons]
      constructor
      · rintro (h | h | h)
        · exact .inr (.inl h)
        · exact .inl h
        · exact .inr (.inr h)
      · rintro (h | h | h)
        · exact .inr (.inl h)
        · exact .inl h
        · exact .inr (.inr h)
theorem putI_sorted {x : Itm} : ∀ {l : List Itm}, l.Pairwise ltI → x ∉ l → (putI x l).Pairwise ltI
  | [], _, _ => by simp [putI]
  | z :: r, h, hx => by
    rw [List.pairwise_cons] at h
    unfold putI
    split
    · rename_i hl
      refine List.pairwise_cons.2 ⟨fun y hy => ?_, List.pairwise_cons.2 h⟩
      rcases List.mem_cons.1 hy with rfl | hy
      · exact hl
      · exact ltI_trans hl (h.1 y hy)
    · rename_i hl
      refine List.pairwise_cons.2 ⟨fun y hy => ?_, putI_sorted h.2 fun hm => hx (by simp [hm])⟩
      rcases mem_putI.1 hy with rfl | hy
      · exact ltI_tri hl fun e => hx (by simp [e])
      · exact h.1 y hy
/-- all that are near, as the document says -/
def refStep (s : Str) (k : Int) (out : List Itm) (w : Str) : List Itm := if 0 ≤ distT w s ∧ distT w s ≤ k then putI ⟨distT w s, w⟩ out else out
def refAll (words : List Str) (s : Str) (k : Int) : List Itm := words.foldl (refStep s k) []
theorem refStep_yes {s : Str} {k : Int} {out : List Itm} {w : Str} (h : 0 ≤ distT w s) (h2 : distT w s ≤ k) : refStep s k out w = putI ⟨distT w s, w⟩ out := by unfold refStep; rw [if_pos ⟨h, h2⟩]
theorem refStep_no {s : Str} {k : Int} {out : List Itm} {w : Str} (h : ¬ (0 ≤ distT w s ∧ distT w s ≤ k)) : refStep s k out w = out := by unfold refStep; rw [if_neg h]
theorem refAll_spec {s : Str} {k : Int} : ∀ {words : List Str}, words.Nodup → (refAll words s k).Pairwise ltI ∧ ∀ x, x ∈ refAll words s k ↔ x.word ∈ words ∧ x.dist = distT x.word s ∧ 0 ≤ x.dist ∧ x.dist ≤ k := by
  intro words
  unfold refAll
  refine snocInd (p := fun words => words.Nodup → (words.foldl (refStep s k) []).Pairwise ltI ∧ ∀ x, x ∈ words.foldl (refStep s k) [] ↔ x.word ∈ words ∧ x.dist = distT x.word s ∧ 0 ≤ x.dist ∧ x.dist ≤ k) ?_ ?_ words
  · intro _; simp
  · intro l w ih hn
    rw [List.nodup_append] at hn
    obtain ⟨h1, _, h3⟩ := hn
    obtain ⟨i1, i2⟩ := ih h1
    have hw : w ∉ l := fun h => h3 w h w (by simp) rfl
    rw [List.foldl_append]
    show (refStep s k (l.foldl (refStep s k) []) w).Pairwise ltI ∧ ∀ x, x ∈ refStep s k (l.foldl (refStep s k) []) w ↔ _
    by_cases hc : 0 ≤ distT w s ∧ distT w s ≤ k
    · rw [refStep_yes hc.1 hc.2]
      refine ⟨putI_sorted i1 fun h => hw ((i2 _).1 h).1, fun x => ?_⟩
      rw [mem_putI, i2]
      constructor
      · rintro (rfl | ⟨h1, h2⟩)
        · exact ⟨by simp, rfl, hc.1, hc.2⟩
        · exact ⟨by simp [h1], h2⟩
      · rintro ⟨h1, h2, h4⟩
        rcases List.mem_append.1 h1 with h1 | h1
        · exact .inr ⟨h1, h2, h4⟩
        · simp only [List.mem_singleton] at h1
          refine .inl ?_
          cases x
          simp only at *
          subst h1; rw [h2]
    · rw [refStep_no hc]
      refine ⟨i1, fun x => ?_⟩
      rw [i2]
      constructor
      · rintro ⟨h1, h2⟩; exact ⟨by simp [h1], h2⟩
      · rintro ⟨h1, h2, h4⟩
        rcases List.mem_append.1 h1 with h1 | h1
        · exact ⟨h1, h2, h4⟩
        · simp only [List.mem_singleton] at h1
          rw [h1] at h2
          exact absurd ⟨by rw [← h2]; exact h4.1, by rw [← h2]; exact h4.2⟩ hc
/-- all that are near, distance by distance -/
def itemsM (words : List Str) (q : List Int) (n : Nat) : List Itm := (List.range n).flatMap fun (d : Nat) => (distsM words q d).map fun w => Itm.mk (d : Int) w
theorem itemsM_succ (words : List Str) (q : List Int) (n : Nat) : itemsM words q (n + 1) = itemsM words q n ++ (distsM words q n).map fun w => Itm.mk (n : Int) w := by unfold itemsM; rw [List.range_succ, List.flatMap_append]; simp
theorem mem_itemsM {words : List Str} {q : List Int} {n : Nat} {x : Itm} : x ∈ itemsM words q n ↔ x.word ∈ words ∧ x.dist = lev q (runesI x.word) ∧ x.dist < n := by
  unfold itemsM
  rw [List.mem_flatMap]
  constructor
  · rintro ⟨d, hd, hx⟩
    obtain ⟨w, hw, rfl⟩ := List.mem_map.1 hx
    unfold distsM nearW at hw
    obtain ⟨h1, h2⟩ := List.mem_filter.1 hw
    have := of_decide_eq_true h2
    have := List.mem_range.1 hd
    exact ⟨h1, by simp only; omega, by simp only; omega⟩
  · rintro ⟨h1, h2, h3⟩
    have := (lev_le q (runesI x.word)).1
    refine ⟨x.dist.toNat, List.mem_range.2 (by omega), List.mem_map.2 ⟨x.word, List.mem_filter.2 ⟨h1, by unfold nearW; exact decide_eq_true (by omega)⟩, ?_⟩⟩
    cases x
    simp only at *
    congr 1; omega
theorem itemsM_sorted {words : List Str} {q : List Int} (hs : Sorted words) : ∀ n, (itemsM words q n).Pairwise ltI
  | 0 => by simp [itemsM]
  | n + 1 => by
    rw [itemsM_succ, List.pairwise_append]
    refine ⟨itemsM_sorted hs n, ?_, fun a ha b hb => ?_⟩
    · rw [List.pairwise_map]
      refine (hs.filter _).imp fun {a b} hab => ?_
      exact itmLess_iff.2 (.inr ⟨rfl, hab⟩)
    · obtain ⟨w, _, rfl⟩ := List.mem_map.1 hb
      exact itmLess_iff.2 (.inl (by have := (mem_itemsM.1 ha).2.2; simp only; omega))
theorem distT_eq {w s : Str} (h1 : fineT w = true) (h2 : fineT s = true) : distT w s = lev (runesI s) (runesI w) := by unfold distT; rw [if_pos ⟨h1, h2⟩]
theorem refAll_items {words : List Str} {s : Str} {k : Int} (hs : Sorted words) (hf : ∀ w ∈ words, fineT w = true) (hfs : fineT s = true) (hk : 0 ≤ k) : refAll words s k = itemsM words (runesI s) (k.toNat + 1) := by
  obtain ⟨h1, h2⟩ := refAll_spec (s := s) (k := k) (sorted_nodup hs)
  refine ltI_ext h1 (itemsM_sorted hs _) fun x => ?_
  rw [h2, mem_itemsM]
  constructor
  · rintro ⟨h3, h4, h5, h6⟩
    rw [distT_eq (hf _ h3) hfs] at h4
    exact ⟨h3, h4, by omega⟩
  · rintro ⟨h3, h4, h5⟩
    have := (lev_le (runesI s) (runesI x.word)).1
    rw [distT_eq (hf _ h3) hfs]
    exact ⟨h3, h4, by omega, by omega⟩
def okI (first : Bool) (after : Itm) (x : Itm) : Bool := first || itmLess after x
def nextR (words : List Str) (s : Str) (k : Int) (first : Bool) (after : Itm) (batch : Int) : List Itm × Bool :=
  if asked s = true ∧ 0 ≤ k ∧ k ≤ 4 then
    let rest := (refAll words s k).filter (okI first after)
    (rest.take (min (max batch 0) rest.length).toNat, decide (min (max batch 0) (rest.length : Int) = rest.length))
  else ([], true)
theorem nextF_each {first : Bool} {after : Itm} {B : Nat} {d : Int} : ∀ (L : List Str) (X : List Itm), X.length ≤ B → (eachF (nextF first after B d) (X, false) L).1 = ((X ++ (L.map (Itm.mk d)).filter (okI first after)).take B, decide (B < (X ++ (L.map (Itm.mk d)).filter (okI first after)).length))
  | [], X, h => by simp [eachF, List.take_of_length_le h]; omega
  | w :: L, X, h => by
    rw [List.map_cons]
    by_cases hc : okI first after ⟨d, w⟩ = true
    · rw [List.filter_cons_of_pos hc]
      have hor : first = true ∨ itmLess after ⟨d, w⟩ = true := by unfold okI at hc; simpa using hc
      by_cases hb : (X.length : Int) = B
      · unfold eachF
        rw [nextF_full hor hb, if_neg (by simp)]
        have : X.length = B := by omega
        simp only
        rw [List.take_append_of_le_length (by omega), List.take_of_length_le (by omega)]
        congr 1
        symm
        rw [decide_eq_true_eq]
        simp only [List.length_append, List.length_cons]; omega
      · unfold eachF
        rw [nextF_add hor hb, if_pos (by simp)]
        show (eachF (nextF first after B d) (X ++ [⟨d, w⟩], false) L).1 = _
        rw [nextF_each (first := first) (after := after) (d := d) (B := B) L (X ++ [Itm.mk d w]) (by simp only [List.length_append, List.length_cons, List.length_nil]; omega)]
        simp
    · have hc' : okI first after ⟨d, w⟩ = false := by simpa using hc
      rw [List.filter_cons_of_neg hc]
      unfold okI at hc'
      obtain ⟨hf, hl⟩ : first = false ∧ itmLess after ⟨d, w⟩ = false := by simpa using hc'
      subst hf
      unfold eachF
      rw [nextF_skip hl, if_pos (by simp)]
      exact nextF_each (B := B) L X h
theorem nextS_eq {words : List Str} {q : List Int} {first : Bool} {after : Itm} {B : Nat} : ∀ n, nextS words q first after B n = (((itemsM words q n).filter (okI first after)).take B, decide (B < ((itemsM words q n).filter (okI first after)).length))
  | 0 => by simp [nextS, itemsM]
  | n + 1 => by
    have ih := nextS_eq (words := words) (q := q) (first := first) (after := after) (B := B) n
    unfold nextS
    simp only
    rw [ih, itemsM_succ, List.filter_append]
    simp only
    by_cases hm : B < ((itemsM words q n).filter (okI first after)).length
    · rw [if_pos (decide_eq_true hm)]
      rw [List.take_append_of_le_length (by omega)]
      congr 1
      rw [decide_eq_true hm, eq_comm, decide_eq_true_eq, List.length_append]; omega
    · rw [if_neg (by simpa using hm)]
      unfold nextD
      rw [List.take_of_length_le (by omega), decide_eq_false hm, nextF_each (B := B) _ _ (by omega)]
theorem nextA_R {g : List GN} {words : List Str} {s : Str} {k : Int} {first : Bool} {after : Itm} {batch : Int} (hg : g ≠ []) (hs : Sorted words) (hf : ∀ w ∈ words, fineT w = true) : nextA g words s k first after batch = nextR words s k first after batch := by
  unfold nextA nextR
  by_cases hc : asked s = true ∧ 0 ≤ k ∧ k ≤ 4
  · rw [if_pos (mayA_yes hg hc.2 hc.1), if_pos hc]
    simp only
    rw [refAll_items hs hf (asked_fine hc.1) hc.2.1]
    have hB : max batch 0 = ((max batch 0).toNat : Int) := by omega
    rw [hB, nextS_eq]
    simp only
    generalize (itemsM words (runesI s) (k.toNat + 1)).filter (okI first after) = R
    congr 1
    · by_cases h : (max batch 0).toNat ≤ R.length
      · congr 1; omega
      · rw [List.take_of_length_le (by omega), List.take_of_length_le (by omega)]
    · by_cases h : (max batch 0).toNat < R.length
      · rw [decide_eq_true h, decide_eq_false (by omega)]; rfl
      · rw [decide_eq_false h, decide_eq_true (by omega)]; rfl
  · rw [if_neg (fun h => hc ⟨(mayA_iff.1 h).2.2, (mayA_iff.1 h).2.1⟩), if_neg hc]
end Go.Ml
set_option linter.unusedSectionVars false
namespace Go.Ik
open Go Go.MapKept
section
variable {P : Program} {E : Env} {C : World → Prop} {d : Option Tmp} {ty : TypeId} {pos : String} {af : Array Edge} {gd : Option (Nat × Bool)} {w : World} {K : Value → World → Prop}
variable {α β : Type} [DecidableEq α] {key : α → Value} {val : β → Value} {kind : TypeDesc}
def setM : List (α × β) → α → β → List (α × β)
  | [], a, u => [(a, u)]
  | p :: m, a, u => if p.1 = a then (a, u) :: m else p :: setM m a u
def delM : List (α × β) → α → List (α × β)
  | [], _ => []
  | p :: m, a => if p.1 = a then m else p :: delM m a
def MapS (key : α → Value) (val : β → Value) (w : World) (b : Nat) (m : List (α × β)) : Prop :=
  ∃ es clock, w.heap[b]? = some (.map es clock) ∧ Stamped es clock ∧ es.toList.map (fun e => (e.key, e.val)) = m.map fun p => (key p.1, val p.2)
theorem MapS.o {b : Nat} {m : List (α × β)} (h : MapS key val w b m) : MapO key val w b m := by
  obtain ⟨es, c, h1, _, h2⟩ := h
  exact ⟨es, c, h1, h2⟩
theorem MapS.lt {b : Nat} {m : List (α × β)} (h : MapS key val w b m) : b < w.heap.size := h.o.lt
theorem MapS.keep {M : Nat → Prop} {w' : World} {b : Nat} {m : List (α × β)} (h : MapS key val w b m) (hm : Mod M w w') (hb : ¬ M b) : MapS key val w' b m := by
  obtain ⟨es, c, h1, h2, h3⟩ := h
  exact ⟨es, c, hm.keep _ _ h1 hb, h2, h3⟩
/-- keys that are the same bit by bit -/
structure KeyS (P : Program) (kt : TypeId) (key : α → Value) : Prop extends KeyOk P kt key where
  bits : ∀ a, Instr.sameBits 10000 (key a) (key a) = true
theorem keyS_int {kt : TypeId} (h : P.underlying kt = some (.int .i64)) : KeyS P kt intV := ⟨keyOk_int h, fun a => by simp [intV, Instr.sameBits]⟩
theorem KeyOk.inj {kt : TypeId} (h : KeyOk P kt key) {a b : α} (e : key a = key b) : a = b := by
  obtain ⟨kind, _, hs⟩ := h.same
  have h1 := hs b a
  rw [e] at h1
  rw [hs b b] at h1
  simp only [Option.some.injEq, decide_true] at h1
  exact (of_decide_eq_true h1.symm).symm
theorem asc_nil (a : α) : asc ([] : List (α × β)) a = none := rfl
theorem asc_cons (p : α × β) (m : List (α × β)) (a : α) : asc (p :: m) a = if p.1 = a then some p.2 else asc m a := by
  unfold asc
  rw [List.find?_cons]
  by_cases h : p.1 = a
  · simp [h]
  · simp [h]
/-- where a key is found -/
theorem findNow_at (hs : ∀ a b : α, Instr.sameNow kind (key a) (key b) = some (decide (a = b))) (a : α) : ∀ (es : List MapEntry) (m : List (α × β)) (i : Nat), es.map (fun e => (e.key, e.val)) = m.map (fun p => (key p.1, val p.2)) →
    (asc m a = none ∧ Instr.findNow kind (key a) es i = some none ∧ (∀ u, setM m a u = m ++ [(a, u)]) ∧ delM m a = m ∧ ∀ p ∈ m, p.1 ≠ a) ∨
    (∃ j u0 e0, asc m a = some u0 ∧ es[j]? = some e0 ∧ e0.key = key a ∧ Instr.findNow kind (key a) es i = some (some (i + j, val u0)) ∧
      (∀ u, (es.modify j fun e => { e with key := key a, val := val u }).map (fun e => (e.key, e.val)) = (setM m a u).map fun p => (key p.1, val p.2)) ∧
      (es.eraseIdx j).map (fun e => (e.key, e.val)) = (delM m a).map fun p => (key p.1, val p.2))
  | [], m, i, h => by
    cases m with
    | nil => exact .inl ⟨rfl, rfl, fun _ => rfl, rfl, by simp⟩
    | cons _ _ => simp at h
  | e :: es, m, i, h => by
    cases m with
    | nil => simp at h
    | cons p m =>
      simp only [List.map_cons, List.cons.injEq, Prod.mk.injEq] at h
      obtain ⟨⟨h1, h2⟩, h3⟩ := h
      by_cases hp : p.1 = a
      · refine .inr ⟨0, p.2, e, ?_, rfl, by rw [h1, hp], ?_, fun u => ?_, ?_⟩
        · rw [asc_cons, if_pos hp]
        · unfold Instr.findNow
          rw [h1, hs a p.1, decide_eq_true hp.symm, h2]; rfl
        · simp [setM, hp, h3]
        · simp [delM, hp, h3]
      · have hp' : ¬ (a = p.1) := fun e => hp e.symm
        rcases findNow_at hs a es m (i + 1) h3 with ⟨q1, q2, q3, q4, q5⟩ | ⟨j, u0, e0, q1, q2, q3, q4, q5, q6⟩
        · refine .inl ⟨?_, ?_, fun u => ?_, ?_, ?_⟩
          · rw [asc_cons, if_neg hp]; exact q1
          · unfold Instr.findNow
            rw [h1, hs a p.1, decide_eq_false hp']; exact q2
          · simp [setM, hp, q3]
          · simp [delM, hp, q4]
          · intro x hx
            rcases List.mem_cons.1 hx with rfl | hx
            · exact hp
            · exact q5 x hx
        · refine .inr ⟨j + 1, u0, e0, ?_, q2, q3, ?_, fun u => ?_, ?_⟩
          · rw [asc_cons, if_neg hp]; exact q1
          · unfold Instr.findNow
            rw [h1, hs a p.1, decide_eq_false hp']
            simp only [q4]
            congr 3; omega
          · simp [setM, hp, h1, h2, q5]
          · simp [delM, hp, h1, h2, q6]
theorem run_find {kt : TypeId} (hk : KeyOk P kt key) (a : α) {es : Array MapEntry} {m : List (α × β)} (h : es.toList.map (fun e => (e.key, e.val)) = m.map (fun p => (key p.1, val p.2))) (w : World) :
    (asc m a = none ∧ (Instr.findKey kt (key a) es.toList).run P w = .ok none w ∧ (∀ u, setM m a u = m ++ [(a, u)]) ∧ delM m a = m ∧ ∀ x ∈ es.toList, x.key ≠ key a) ∨
    (∃ j u0 e0, asc m a = some u0 ∧ es[j]? = some e0 ∧ e0.key = key a ∧ (Instr.findKey kt (key a) es.toList).run P w = .ok (some (j, val u0)) w ∧
      (∀ u, (es.modify j fun e => { e with key := key a, val := val u }).toList.map (fun e => (e.key, e.val)) = (setM m a u).map fun p => (key p.1, val p.2)) ∧
      (es.eraseIdxIfInBounds j).toList.map (fun e => (e.key, e.val)) = (delM m a).map fun p => (key p.1, val p.2)) := by
  obtain ⟨kind, hu, hs⟩ := hk.same
  rcases findNow_at hs a es.toList m 0 h with ⟨q1, q2, q3, q4, q5⟩ | ⟨j, u0, e0, q1, q2, q3, q4, q5, q6⟩
  · refine .inl ⟨q1, ?_, q3, q4, fun x hx e => ?_⟩
    · unfold Instr.findKey
      simp only [Sem.run_bind, run_underlying hu, Result.andThen_ok, q2, Sem.run_pure]
    · have : (x.key, x.val) ∈ m.map (fun p => (key p.1, val p.2)) := by
        rw [← h]; exact List.mem_map.2 ⟨x, hx, rfl⟩
      obtain ⟨p, hp, he⟩ := List.mem_map.1 this
      simp only [Prod.mk.injEq] at he
      exact q5 p hp (hk.inj (he.1.trans e))
  · rw [Array.getElem?_toList] at q2
    have hj : j < es.size := (Array.getElem?_eq_some_iff.1 q2).1
    refine .inr ⟨j, u0, e0, q1, q2, q3, ?_, fun u => ?_, ?_⟩
    · unfold Instr.findKey
      simp only [Sem.run_bind, run_underlying hu, Result.andThen_ok, q4, Sem.run_pure, Nat.zero_add]
    · rw [Array.toList_modify]; exact q5 u
    · unfold Array.eraseIdxIfInBounds
      rw [dif_pos hj, Array.toList_eraseIdx]; exact q6
theorem set_same {w : World} {b : Nat} {o o' : Obj} (h : w.heap[b]? = some o) : (w.heap.setIfInBounds b o')[b]? = some o' := by
  have := (Array.getElem?_eq_some_iff.1 h).1
  simp [this]
/-- an entry set -/
theorem AW.mapSet {t kt et : TypeId} {x y z : Operand} {b : Nat} {m : List (α × β)} (a : α) (u : β) (hk : KeyS P kt key) (ht : P.underlying t = some (.map kt et)) (hx : ev E x = some (.map (some b))) (hy : ev E y = some (key a)) (hz : ev E z = some (val u)) (hm : MapS key val w b m)
    (hK : ∀ w', Mod (Mg (b + 1)) w w' → w'.heap.size = w.heap.size → MapS key val w' b (setM m a u) → K undef w') : AW P ⟨d, .mapUpdate t x y z, ty, pos, af, gd⟩ E w K := fun s ha => by
  obtain ⟨es, c, h1, h2, h3⟩ := hm
  have hg := run_getMap (P := P) h1
  rcases run_find (P := P) hk.toKeyOk a h3 w with ⟨q1, q2, q3, q4, q5⟩ | ⟨j, u0, e0, q1, q2, q3, q4, q5, q6⟩
  · have h := hK _ (setMap_mod w b (.map (es.push { key := key a, val := val u, born := c }) (c + 1))) (by simp) ⟨es.push { key := key a, val := val u, born := c }, c + 1, set_same h1, stamped_push h2 q5, by
      rw [q3 u]; simp [h3]⟩
    simp [execOp, ha.ev hx, ha.ev hy, ha.ev hz, Instr.mapUpdate, run_underlying ht, hg, hk.chk, q2, setObj, Sem.run, h1, out]
    exact h
  · have hst : Stamped (es.modify j fun e => { e with key := key a, val := val u }) c := stamped_modify h2 j _ (fun _ _ => rfl) fun e _ he => by
      rw [q2] at he; cases he; exact q3.symm
    have h := hK _ (setMap_mod w b (.map (es.modify j fun e => { e with key := key a, val := val u }) c)) (by simp) ⟨_, c, set_same h1, hst, q5 u⟩
    have hks : Instr.keyThatStays (key a) (key a) = (pure (key a) : Sem Value) := by
      unfold Instr.keyThatStays; rw [if_pos (hk.bits a)]
    simp [execOp, ha.ev hx, ha.ev hy, ha.ev hz, Instr.mapUpdate, run_underlying ht, hg, hk.chk, q4, q2, q3, hks, setObj, Sem.run, h1, out]
    exact h
theorem AW.makeMapS {t : TypeId} (hK : ∀ w' b, Ext w w' → b = w.heap.size → w'.heap.size = w.heap.size + 1 → MapS key val w' b [] → K (.map (some b)) w') : AW P ⟨d, .makeMap t none, ty, pos, af, gd⟩ E w K := fun s ha => by
  have h := hK (w.alloc (.map #[] 0)) w.heap.size (Mod.alloc _ _ _) rfl (by simp) ⟨#[], 0, by
    show (w.heap.push _)[w.heap.size]? = _
    simp, stamped_empty 0, by simp⟩
  simp [execOp, Instr.makeMap, newObj, Sem.run, out]
  exact h
end
section
variable {R : Nat → Prop}
/-- such a map as what is held -/
def mpR {α β : Type} [DecidableEq α] (key : α → Value) (val : β → Value) (b : Nat) (m : List (α × β)) : Res R := ⟨fun F w => MapS key val w b m ∧ F b, fun h hm hF _ => ⟨h.1.keep hm (hF b h.2), h.2⟩⟩
variable {F0 : Nat → Prop} {w0 w w' : World} {L : List (Res R)} {i : Nat}
theorem St.mp {α β : Type} [DecidableEq α] {key : α → Value} {val : β → Value} {b : Nat} {m : List (α × β)} (h : St R F0 w0 w L) (hi : L[i]? = some (mpR key val b m)) : MapS key val w b m := by
  obtain ⟨F, h1, _⟩ := h.get hi; exact h1.1
theorem St.mpK {α β : Type} [DecidableEq α] {key : α → Value} {val : β → Value} {b : Nat} {m m' : List (α × β)} (h : St R F0 w0 w L) (hi : L[i]? = some (mpR key val b m)) (hm : Mod (Mg (b + 1)) w w') (hk : MapS key val w' b m') : St R F0 w0 w' (L.set i (mpR key val b m')) := by
  obtain ⟨F, h1, h2, k⟩ := h.act hi
  exact k w' F _ (mg_weaken hm h1.2) ⟨hk, h1.2⟩ fun b hb => ⟨Nat.lt_of_lt_of_le (h2 b hb).2 hm.size, .inl hb⟩
theorem St.newMp {α β : Type} [DecidableEq α] {key : α → Value} {val : β → Value} {b : Nat} {m : List (α × β)} (h : St R F0 w0 w L) (hm : Ext w w') (hb : b = w.heap.size) (hk : MapS key val w' b m) : St R F0 w0 w' (L ++ [mpR key val b m]) :=
  h.new (F := fun x => x = b) hm ⟨hk, rfl⟩ fun x hx => by have := hk.lt; omega
end
end Go.Ik
set_option linter.unusedSectionVars false
namespace Go.Ik
open Go
section
variable {P : Program} {E : Env} {C : World → Prop} {d : Option Tmp} {ty : TypeId} {pos : String} {af : Array Edge} {gd : Option (Nat × Bool)} {w : World} {K : Value → World → Prop}
def notIf : Option TypeDesc → Bool
  | some (.interface _) => false
  | some _ => true
  | none => false
theorem Q1.mkIf {t : TypeId} {x : Operand} {v : Value} (ht : notIf (P.underlying t) = true) (hx : ev E x = some v) : Q1 P ⟨d, .makeInterface t x, ty, pos, af, gd⟩ E C (.iface t v) := fun s ha w _ => by
  cases hd : P.underlying t with
  | none => rw [hd] at ht; cases ht
  | some q => cases q <;> simp_all [execOp, ha.ev hx, Instr.makeInterface, run_underlying hd, notIf]
/-- of this type -/
theorem Q1.asYes {xt t : TypeId} {x : Operand} {v : Value} (ht : notIf (P.underlying t) = true) (hx : ev E x = some (.iface t v)) : Q1 P ⟨d, .typeAssert x xt t true, ty, pos, af, gd⟩ E C (.tuple #[v, .bool true]) := fun s ha w _ => by
  cases hd : P.underlying t with
  | none => rw [hd] at ht; cases ht
  | some q => cases q <;> simp_all [execOp, ha.ev hx, Instr.typeAssert, run_underlying hd, notIf]
/-- of another one -/
theorem Q1.asNo {xt t u : TypeId} {x : Operand} {v z : Value} (ht : notIf (P.underlying t) = true) (hx : ev E x = some (.iface u v)) (hne : u ≠ t) (hz : ∀ w, (zeroValue t).run P w = .ok z w) : Q1 P ⟨d, .typeAssert x xt t true, ty, pos, af, gd⟩ E C (.tuple #[z, .bool false]) := fun s ha w _ => by
  cases hd : P.underlying t with
  | none => rw [hd] at ht; cases ht
  | some q => cases q <;> simp_all [execOp, ha.ev hx, Instr.typeAssert, run_underlying hd, notIf]
end
end Go.Ik
namespace Go.Ik
open Go Go.MapKept
section
variable {P : Program} {E : Env} {C : World → Prop} {d : Option Tmp} {ty : TypeId} {pos : String} {af : Array Edge} {gd : Option (Nat × Bool)} {w : World} {K : Value → World → Prop}
variable {α β : Type} [DecidableEq α] {key : α → Value} {val : β → Value}
/-- keys that are structs -/
structure KeyG (P : Program) (kt : TypeId) (key : α → Value) : Prop where
  chk : ∀ (e : Bool) (a : α) (w : World), (Instr.checkKey e 10000 kt (key a)).run P w = .ok () w
  bits : ∀ a, Instr.sameBits 10000 (key a) (key a) = true
  und : ∃ kind, P.underlying kt = some kind ∧ ∀ a b : α, Instr.sameNow kind (key a) (key b) = none
  eq : ∀ (a b : α) (w : World), (Op.equal kt (key a) (key b)).run P w = .ok (decide (a = b)) w
theorem KeyG.inj {kt : TypeId} (h : KeyG P kt key) {a b : α} (e : key a = key b) : a = b := by
  have h1 := h.eq a b default
  rw [e, h.eq b b] at h1
  simp only [Result.ok.injEq, decide_true] at h1
  exact of_decide_eq_true h1.1.symm
theorem asking_at {kt : TypeId} (hk : KeyG P kt key) (a : α) (w : World) : ∀ (es : List MapEntry) (m : List (α × β)) (i : Nat), es.map (fun e => (e.key, e.val)) = m.map (fun p => (key p.1, val p.2)) →
    (asc m a = none ∧ (Instr.findAsking kt (key a) es i).run P w = .ok none w ∧ (∀ u, setM m a u = m ++ [(a, u)]) ∧ delM m a = m ∧ ∀ p ∈ m, p.1 ≠ a) ∨
    (∃ j u0 e0, asc m a = some u0 ∧ es[j]? = some e0 ∧ e0.key = key a ∧ (Instr.findAsking kt (key a) es i).run P w = .ok (some (i + j, val u0)) w ∧
      (∀ u, (es.modify j fun e => { e with key := key a, val := val u }).map (fun e => (e.key, e.val)) = (setM m a u).map fun p => (key p.1, val p.2)) ∧
      (es.eraseIdx j).map (fun e => (e.key, e.val)) = (delM m a).map fun p => (key p.1, val p.2))
  | [], m, i, h => by
    cases m with
    | nil => exact .inl ⟨rfl, rfl, fun _ => rfl, rfl, by simp⟩
    | cons _ _ => simp at h
  | e :: es, m, i, h => by
    cases m with
    | nil => simp at h
    | cons p m =>
      simp only [List.map_cons, List.cons.injEq, Prod.mk.injEq] at h
      obtain ⟨⟨h1, h2⟩, h3⟩ := h
      by_cases hp : p.1 = a
      · refine .inr ⟨0, p.2, e, ?_, rfl, by rw [h1, hp], ?_, fun u => ?_, ?_⟩
        · rw [asc_cons, if_pos hp]
        · unfold Instr.findAsking
          rw [h1, h2]
          simp only [Sem.run_bind, hk.eq a p.1 w, decide_eq_true hp.symm, Result.andThen_ok, if_true, Sem.run_pure, Nat.add_zero]
        · simp [setM, hp, h3]
        · simp [delM, hp, h3]
      · have hp' : ¬ (a = p.1) := fun e => hp e.symm
        rcases asking_at hk a w es m (i + 1) h3 with ⟨q1, q2, q3, q4, q5⟩ | ⟨j, u0, e0, q1, q2, q3, q4, q5, q6⟩
        · refine .inl ⟨?_, ?_, fun u => ?_, ?_, ?_⟩
          · rw [asc_cons, if_neg hp]; exact q1
          · unfold Instr.findAsking
            rw [h1]
            simp only [Sem.run_bind, hk.eq a p.1 w, decide_eq_false hp', Result.andThen_ok, Bool.false_eq_true, if_false]
            exact q2
          · simp [setM, hp, q3]
          · simp [delM, hp, q4]
          · intro x hx
            rcases List.mem_cons.1 hx with rfl | hx
            · exact hp
            · exact q5 x hx
        · refine .inr ⟨j + 1, u0, e0, ?_, q2, q3, ?_, fun u => ?_, ?_⟩
          · rw [asc_cons, if_neg hp]; exact q1
          · unfold Instr.findAsking
            rw [h1]
            simp only [Sem.run_bind, hk.eq a p.1 w, decide_eq_false hp', Result.andThen_ok, Bool.false_eq_true, if_false]
            rw [q4]; congr 3; omega
          · simp [setM, hp, h1, h2, q5]
          · simp [delM, hp, h1, h2, q6]
theorem run_findG {kt : TypeId} (hk : KeyG P kt key) (a : α) {es : Array MapEntry} {m : List (α × β)} (h : es.toList.map (fun e => (e.key, e.val)) = m.map (fun p => (key p.1, val p.2))) (w : World) :
    (asc m a = none ∧ (Instr.findKey kt (key a) es.toList).run P w = .ok none w ∧ (∀ u, setM m a u = m ++ [(a, u)]) ∧ delM m a = m ∧ ∀ x ∈ es.toList, x.key ≠ key a) ∨
    (∃ j u0 e0, asc m a = some u0 ∧ es[j]? = some e0 ∧ e0.key = key a ∧ (Instr.findKey kt (key a) es.toList).run P w = .ok (some (j, val u0)) w ∧
      (∀ u, (es.modify j fun e => { e with key := key a, val := val u }).toList.map (fun e => (e.key, e.val)) = (setM m a u).map fun p => (key p.1, val p.2)) ∧
      (es.eraseIdxIfInBounds j).toList.map (fun e => (e.key, e.val)) = (delM m a).map fun p => (key p.1, val p.2)) := by
  obtain ⟨kind, hu, hs⟩ := hk.und
  have hfk : (Instr.findKey kt (key a) es.toList).run P w = (Instr.findAsking kt (key a) es.toList 0).run P w := by
    unfold Instr.findKey
    simp only [Sem.run_bind, run_underlying hu, Result.andThen_ok]
    cases hes : es.toList with
    | nil => rfl
    | cons e r =>
      have hne : Instr.findNow kind (key a) (e :: r) 0 = none := by
        unfold Instr.findNow
        rw [hes] at h
        cases m with
        | nil => simp at h
        | cons p m =>
          simp only [List.map_cons, List.cons.injEq, Prod.mk.injEq] at h
          rw [h.1.1, hs]
      rw [hne]
  rcases asking_at hk a w es.toList m 0 h with ⟨q1, q2, q3, q4, q5⟩ | ⟨j, u0, e0, q1, q2, q3, q4, q5, q6⟩
  · refine .inl ⟨q1, hfk.trans q2, q3, q4, fun x hx e => ?_⟩
    have : (x.key, x.val) ∈ m.map (fun p => (key p.1, val p.2)) := by
      rw [← h]; exact List.mem_map.2 ⟨x, hx, rfl⟩
    obtain ⟨p, hp, he⟩ := List.mem_map.1 this
    simp only [Prod.mk.injEq] at he
    exact q5 p hp (hk.inj (he.1.trans e))
  · rw [Array.getElem?_toList] at q2
    have hj : j < es.size := (Array.getElem?_eq_some_iff.1 q2).1
    refine .inr ⟨j, u0, e0, q1, q2, q3, ?_, fun u => ?_, ?_⟩
    · rw [hfk, q4, Nat.zero_add]
    · rw [Array.toList_modify]; exact q5 u
    · unfold Array.eraseIdxIfInBounds
      rw [dif_pos hj, Array.toList_eraseIdx]; exact q6
theorem AW.mapSetG {t kt et : TypeId} {x y z : Operand} {b : Nat} {m : List (α × β)} (a : α) (u : β) (hk : KeyG P kt key) (ht : P.underlying t = some (.map kt et)) (hx : ev E x = some (.map (some b))) (hy : ev E y = some (key a)) (hz : ev E z = some (val u)) (hm : MapS key val w b m)
    (hK : ∀ w', Mod (Mg (b + 1)) w w' → w'.heap.size = w.heap.size → MapS key val w' b (setM m a u) → K undef w') : AW P ⟨d, .mapUpdate t x y z, ty, pos, af, gd⟩ E w K := fun s ha => by
  obtain ⟨es, c, h1, h2, h3⟩ := hm
  have hg := run_getMap (P := P) h1
  rcases run_findG (P := P) hk a h3 w with ⟨q1, q2, q3, q4, q5⟩ | ⟨j, u0, e0, q1, q2, q3, q4, q5, q6⟩
  · have h := hK _ (setMap_mod w b (.map (es.push { key := key a, val := val u, born := c }) (c + 1))) (by simp) ⟨es.push { key := key a, val := val u, born := c }, c + 1, set_same h1, stamped_push h2 q5, by
      rw [q3 u]; simp [h3]⟩
    simp [execOp, ha.ev hx, ha.ev hy, ha.ev hz, Instr.mapUpdate, run_underlying ht, hg, hk.chk, q2, setObj, Sem.run, h1, out]
    exact h
  · have hst : Stamped (es.modify j fun e => { e with key := key a, val := val u }) c := stamped_modify h2 j _ (fun _ _ => rfl) fun e _ he => by
      rw [q2] at he; cases he; exact q3.symm
    have h := hK _ (setMap_mod w b (.map (es.modify j fun e => { e with key := key a, val := val u }) c)) (by simp) ⟨_, c, set_same h1, hst, q5 u⟩
    have hks : Instr.keyThatStays (key a) (key a) = (pure (key a) : Sem Value) := by
      unfold Instr.keyThatStays; rw [if_pos (hk.bits a)]
    simp [execOp, ha.ev hx, ha.ev hy, ha.ev hz, Instr.mapUpdate, run_underlying ht, hg, hk.chk, q4, q2, q3, hks, setObj, Sem.run, h1, out]
    exact h
theorem AW.mapDelG {t kt et : TypeId} {ts : Array TypeId} {x y : Operand} {b : Nat} {m : List (α × β)} (a : α) (hk : KeyG P kt key) (ht : P.underlying t = some (.map kt et)) (hts : ts[0]? = some t) (hx : ev E x = some (.map (some b))) (hy : ev E y = some (key a)) (hm : MapS key val w b m)
    (hK : ∀ w', Mod (Mg (b + 1)) w w' → w'.heap.size = w.heap.size → MapS key val w' b (delM m a) → K (.tuple #[]) w') : AW P ⟨d, .call { callee := .builtin .delete, args := #[x, y], argTypes := ts }, ty, pos, af, gd⟩ E w K := fun s ha => by
  obtain ⟨es, c, h1, h2, h3⟩ := hm
  have hg := run_getMap (P := P) h1
  rcases run_findG (P := P) hk a h3 w with ⟨q1, q2, q3, q4, q5⟩ | ⟨j, u0, e0, q1, q2, q3, q4, q5, q6⟩
  · have h := hK _ (setMap_mod w b (.map es c)) (by simp) ⟨es, c, set_same h1, h2, by rw [q4]; exact h3⟩
    simp [execOp, resolve, invoke, builtin, ha.ev hx, ha.ev hy, Builtin.delete_, hts, run_underlying ht, hg, hk.chk, q2, setObj, Sem.run, h1, out]
    exact h
  · have h := hK _ (setMap_mod w b (.map (es.eraseIdxIfInBounds j) c)) (by simp) ⟨_, c, set_same h1, stamped_erase h2 j, q6⟩
    simp [execOp, resolve, invoke, builtin, ha.ev hx, ha.ev hy, Builtin.delete_, hts, run_underlying ht, hg, hk.chk, q4, setObj, Sem.run, h1, out]
    exact h
theorem Q1.lookOkG {t kt et : TypeId} {x y : Operand} {b : Nat} {m : List (α × β)} {a : α} {z : Value} (hk : KeyG P kt key) (ht : P.underlying t = some (.map kt et)) (hz : ∀ w, (zeroValue et).run P w = .ok z w) (hx : ev E x = some (.map (some b))) (hy : ev E y = some (key a)) (hm : ∀ w, C w → MapS key val w b m) :
    Q1 P ⟨d, .lookup t x y true, ty, pos, af, gd⟩ E C (.tuple #[(match asc m a with | some u => val u | none => z), .bool (asc m a).isSome]) := fun s ha w hC => by
  obtain ⟨es, c, h1, _, h3⟩ := hm w hC
  have hg := run_getMap (P := P) h1
  rcases run_findG (P := P) hk a h3 w with ⟨q1, q2, q3, q4, q5⟩ | ⟨j, u0, e0, q1, q2, q3, q4, q5, q6⟩
  · simp [execOp, ha.ev hx, ha.ev hy, Instr.lookup, run_underlying ht, hg, hk.chk, q2, hz, q1]
  · simp [execOp, ha.ev hx, ha.ev hy, Instr.lookup, run_underlying ht, hg, hk.chk, q4, q1]
theorem Q1.lookG {t kt et : TypeId} {x y : Operand} {b : Nat} {m : List (α × β)} {a : α} {z : Value} (hk : KeyG P kt key) (ht : P.underlying t = some (.map kt et)) (hz : ∀ w, (zeroValue et).run P w = .ok z w) (hx : ev E x = some (.map (some b))) (hy : ev E y = some (key a)) (hm : ∀ w, C w → MapS key val w b m) :
    Q1 P ⟨d, .lookup t x y false, ty, pos, af, gd⟩ E C (match asc m a with | some u => val u | none => z) := fun s ha w hC => by
  obtain ⟨es, c, h1, _, h3⟩ := hm w hC
  have hg := run_getMap (P := P) h1
  rcases run_findG (P := P) hk a h3 w with ⟨q1, q2, q3, q4, q5⟩ | ⟨j, u0, e0, q1, q2, q3, q4, q5, q6⟩
  · simp [execOp, ha.ev hx, ha.ev hy, Instr.lookup, run_underlying ht, hg, hk.chk, q2, hz, q1]
  · simp [execOp, ha.ev hx, ha.ev hy, Instr.lookup, run_underlying ht, hg, hk.chk, q4, q1]
/-- hit and missed, plainly -/
theorem Q1.lookG1 {t kt et : TypeId} {x y : Operand} {b : Nat} {m : List (α × β)} {a : α} {z : Value} {u : β} (hk : KeyG P kt key) (ht : P.underlying t = some (.map kt et)) (hz : ∀ w, (zeroValue et).run P w = .ok z w) (hx : ev E x = some (.map (some b))) (hy : ev E y = some (key a)) (hm : ∀ w, C w → MapS key val w b m) (ha : asc m a = some u) :
    Q1 P ⟨d, .lookup t x y false, ty, pos, af, gd⟩ E C (val u) := by
  have h := Q1.lookG (d := d) (ty := ty) (pos := pos) (af := af) (gd := gd) (val := val) hk ht hz hx hy hm
  rw [ha] at h; exact h
theorem Q1.lookOkG1 {t kt et : TypeId} {x y : Operand} {b : Nat} {m : List (α × β)} {a : α} {z : Value} {u : β} (hk : KeyG P kt key) (ht : P.underlying t = some (.map kt et)) (hz : ∀ w, (zeroValue et).run P w = .ok z w) (hx : ev E x = some (.map (some b))) (hy : ev E y = some (key a)) (hm : ∀ w, C w → MapS key val w b m) (ha : asc m a = some u) :
    Q1 P ⟨d, .lookup t x y true, ty, pos, af, gd⟩ E C (.tuple #[val u, .bool true]) := by
  have h := Q1.lookOkG (d := d) (ty := ty) (pos := pos) (af := af) (gd := gd) (val := val) hk ht hz hx hy hm
  rw [ha] at h; exact h
theorem Q1.lookOkG0 {t kt et : TypeId} {x y : Operand} {b : Nat} {m : List (α × β)} {a : α} {z : Value} (hk : KeyG P kt key) (ht : P.underlying t = some (.map kt et)) (hz : ∀ w, (zeroValue et).run P w = .ok z w) (hx : ev E x = some (.map (some b))) (hy : ev E y = some (key a)) (hm : ∀ w, C w → MapS key val w b m) (ha : asc m a = none) :
    Q1 P ⟨d, .lookup t x y true, ty, pos, af, gd⟩ E C (.tuple #[z, .bool false]) := by
  have h := Q1.lookOkG (d := d) (ty := ty) (pos := pos) (af := af) (gd := gd) (val := val) hk ht hz hx hy hm
  rw [ha] at h; exact h
end
end Go.Ik
set_option linter.unusedSectionVars false
namespace Go.Ik
open Go
section
variable {α : Type}
def AccO (enc : α → List Value) (e : TypeId) (sz : Nat) (w : World) (g : Nat) (v : Value) (l : List α) : Prop :=
  (∃ a, v = .slice a 0 0 ∧ l = [] ∧ g = 0) ∨
  ∃ b off cap X Y, g = b + 1 ∧ v = .slice (some ⟨b, off * sz, none⟩) l.length cap ∧ w.heap[b]? = some (.cells (X ++ l.flatMap enc ++ Y).toArray e (0, 0)) ∧ X.length = off * sz ∧ l.length ≤ cap ∧ Y.length = (cap - l.length) * sz ∧ off + cap ≤ maxLen
variable {enc : α → List Value} {e : TypeId} {sz : Nat} {w : World} {g : Nat} {v : Value} {l : List α}
theorem AccO.nil : AccO enc e sz w 0 (.slice none 0 0) [] := .inl ⟨_, rfl, rfl, rfl⟩
theorem AccO.keep {M : Nat → Prop} {w' : World} (h : AccO enc e sz w g v l) (hm : Mod M w w') (hg : ∀ b, g = b + 1 → ¬ M b) : AccO enc e sz w' g v l := by
  rcases h with h | ⟨b, off, cap, X, Y, h0, h1, h2, h3⟩
  · exact .inl h
  · exact .inr ⟨b, off, cap, X, Y, h0, h1, hm.keep _ _ h2 (hg b h0), h3⟩
theorem AccO.lt (h : AccO enc e sz w g v l) : g ≤ w.heap.size := by
  rcases h with ⟨_, _, _, h⟩ | ⟨b, off, cap, X, Y, h0, _, h2, _⟩
  · omega
  · have := (Array.getElem?_eq_some_iff.1 h2).1; omega
theorem AccO.sl (h : AccO enc e sz w g v l) : Sl enc w (Iv (g - 1) g) v l := by
  rcases h with ⟨a, h, h', _⟩ | ⟨b, off, cap, X, Y, h0, h1, h2, h3, h4, h5, h6⟩
  · subst h'; subst h
    exact ⟨a, 0, rfl, Nat.le_refl _, Nat.zero_le _, .inl rfl⟩
  · refine ⟨_, cap, h1, h4, by omega, .inr ⟨b, off * sz, rfl, by unfold Iv; omega, fun i u hu => ?_⟩⟩
    rw [cell_of_row w b _ _ e (0, 0) h2]
    rw [List.getElem?_toArray, List.append_assoc, List.getElem?_append_right (by omega), show off * sz + i - X.length = i from by omega, List.getElem?_append_left (List.getElem?_eq_some_iff.1 hu).1]
    exact hu
/-- a stretch written within the block -/
theorem run_row_at {P : Program} {b : Nat} {e : TypeId} {w : World} {A B C vs : List Value} (h : w.heap[b]? = some (.cells (A ++ B ++ C).toArray e (0, 0))) (hl : vs.length = B.length) (h1 : ∀ v ∈ vs, v.oneCell' = true) :
    ∃ w', (storeCells ⟨b, A.length, none⟩ vs).run P w = .ok () w' ∧ w'.heap[b]? = some (.cells (A ++ vs ++ C).toArray e (0, 0)) ∧ Mod (fun i => i = b) w w' ∧ w'.heap.size = w.heap.size := by
  have hst := run_storeCells_at P b A.length e vs 0 _ w h (by simp [hl]) h1
  refine ⟨_, hst, ?_, setRow_mod _ _ _, by simp [World.setRow]⟩
  rw [setRow_heap w b _ _ e _ h]
  congr 3
  simp only [Nat.add_zero, List.append_assoc, List.take_left]
  congr 1
  congr 1
  rw [show A.length + vs.length = (A ++ B).length from by rw [List.length_append, hl], ← List.append_assoc, List.drop_left]
theorem AccO.append {P : Program} (h : AccO enc e sz w g v l) {t ty : TypeId} {gg : Bool} {by_ : Nat} {z : List Value} (ht : P.underlying t = some (.slice e)) (he : tyI P e = some (gg, sz, by_, z)) (hz : z.length = sz)
    (hsz : ∀ x, (enc x).length = sz) (h1 : ∀ x, (enc x).all (·.oneCell') = true) {F : Nat → Prop} {v2 : Value} {l2 : List α} (hs : Sl enc w F v2 l2) (hne : l2 ≠ []) (hbytes : (l.length + l2.length) * by_ ≤ 140737488355328) (hmax : l.length + l2.length ≤ maxLen) :
    ∃ v' g' w', (Builtin.append_ #[t, t] ty #[v, v2]).run P w = .ok v' w' ∧ AccO enc e sz w' g' v' (l ++ l2) ∧ Mod (Mg g) w w' ∧ (g' = g ∨ w.heap.size < g') := by
  obtain ⟨i, dd, zv, i1, i2, i3, i4, i5, i6, i7⟩ := tyI_spec he
  have hnew1 : ∀ u ∈ l2.flatMap enc, u.oneCell' = true := fun u hu => by
    obtain ⟨x, _, hx⟩ := List.mem_flatMap.1 hu
    exact List.all_eq_true.1 (h1 x) u hx
  have hl2 : (l2.flatMap enc).length = l2.length * i.size := by rw [flat_len hsz, i4]
  have hll : (l.flatMap enc).length = l.length * i.size := by rw [flat_len hsz, i4]
  have hzs : zv.cells.size = sz := by rw [← Array.length_toList, i6, hz]
  have hmax' : l.length + l2.length ≤ 9223372036854775807 := hmax
  have hpos : 1 ≤ l2.length := by cases l2 <;> simp_all
  obtain ⟨a2, cap2, rfl, hc2, hm2, hs⟩ := hs
  obtain ⟨b2, off2, rfl, hF, hr2⟩ : ∃ b2 off2, a2 = some (⟨b2, off2, none⟩ : Addr) ∧ F b2 ∧ Row w b2 off2 (l2.flatMap enc) := by
    rcases hs with h | ⟨b2, off2, h1, h2, h3⟩
    · exact absurd h hne
    · exact ⟨b2, off2, h1, h2, h3⟩
  have hnews : ∀ j u, (l2.flatMap enc)[j]? = some u → w.cell? ((⟨b2, off2, none⟩ : Addr).add j) = some u := fun j u hu => by
    rw [add_lit]; exact hr2.cell j u hu
  have hsrc : Src P i.size t (.slice (some ⟨b2, off2, none⟩) l2.length cap2) l2.length (l2.flatMap enc) w := Src.ofSlice w ht _ _ _ _ hl2 hnews hnew1
  have fresh : ∀ (old : Nat), old < l.length + l2.length → ∀ w2 : World, w2 = w.drew.alloc (.cells ((l.flatMap enc ++ l2.flatMap enc).toArray ++ Builtin.zeroCells zv.cells (grownCap w (l.length + l2.length) old e - (l.length + l2.length))) e) →
      AccO enc e sz w2 (w.heap.size + 1) (.slice (some ⟨w.heap.size, 0, none⟩) (l.length + l2.length) (grownCap w (l.length + l2.length) old e)) (l ++ l2) ∧ Mod (Mg g) w w2 := by
    intro old ho w2 hw2
    subst hw2
    have hge := grownCap_ge w (l.length + l2.length) old e
    have hcm : grownCap w (l.length + l2.length) old e ≤ maxLen := grownCap_le_maxLen w (l.length + l2.length) old e hmax
    refine ⟨.inr ⟨w.heap.size, 0, _, [], (Builtin.zeroCells zv.cells (grownCap w (l.length + l2.length) old e - (l.length + l2.length))).toList, rfl, by rw [List.length_append, Nat.zero_mul], ?_, by simp, by rw [List.length_append]; exact hge, ?_, by omega⟩, ?_⟩
    · refine (heap_alloc_new w.drew _).trans ?_
      congr 2
      apply Array.ext'
      simp [List.flatMap_append]
    · rw [Array.length_toList, size_zeroCells, hzs, List.length_append]
    · exact (Mod.drew _ w).trans (Mod.alloc _ _ _)
  rcases h with ⟨a, rfl, rfl, rfl⟩ | ⟨b, off, cap, X, Y, rfl, rfl, hg, hX, hcap, hY, hcm⟩
  · have hold : (Builtin.firstCells i.size 0 (.slice a 0 0)).run P w.drew = .ok (#[] : Array Value) w.drew := by
      cases a <;> simp [Builtin.firstCells, loadCells, loadCellsFrom]
    have hb0 : l2.length * i.bytes ≤ 140737488355328 := by
      have hb := hbytes; simp only [List.length_nil, Nat.zero_add] at hb; rw [i5]; exact hb
    have hr := run_append_grow_src (P := P) w t t ty e i zv ht i1 i3 a 0 0 [] hold _ _ _ hsrc (by omega) (by omega) (growslice_fits (by omega) (by simpa using hb0))
    have hf := fresh 0 (by simp; omega) _ rfl
    simp only [List.length_nil, Nat.zero_add, List.flatMap_nil, List.nil_append] at hf hr
    exact ⟨_, _, _, hr, hf.1, hf.2, .inr (Nat.lt_succ_self _)⟩
  · by_cases hroom : l.length + l2.length ≤ cap
    · have hn : (l2.flatMap enc).length ≤ Y.length := by
        rw [hl2, hY, i4]; exact Nat.mul_le_mul_right _ (by omega)
      obtain ⟨w', q1, q2, q3, q4⟩ := run_row_at (P := P) (A := X ++ l.flatMap enc) (B := Y.take (l2.flatMap enc).length) (C := Y.drop (l2.flatMap enc).length) (vs := l2.flatMap enc) (b := b) (e := e) (w := w) (by rw [List.append_assoc _ _ (Y.drop _), List.take_append_drop]; exact hg) (by rw [List.length_take]; omega) hnew1
      refine ⟨.slice (some ⟨b, off * sz, none⟩) (l.length + l2.length) cap, b + 1, w', ?_, .inr ⟨b, off, cap, X, Y.drop (l2.flatMap enc).length, rfl, by rw [List.length_append], ?_, hX, by rw [List.length_append]; exact hroom, ?_, hcm⟩, q3.weaken (fun i hi _ => by unfold Mg; omega), .inl rfl⟩
      · have hA : (X ++ l.flatMap enc).length = off * sz + l.length * i.size := by rw [List.length_append, hX, hll]
        rw [hA] at q1
        have hl : ∀ w', (Builtin.lenOf (.slice (some ⟨b2, off2, none⟩) l2.length cap2)).run P w' = .ok l2.length w' := fun _ => rfl
        simp [Builtin.append_, run_underlying ht, sizeOf, typeInfo, i1, Builtin.lenOf, hroom, hsrc.cells, Addr.add_lit, q1]
      · rw [q2, List.flatMap_append, List.append_assoc X]
      · rw [List.length_drop, hY, hl2, i4, ← Nat.sub_mul, List.length_append]; congr 1; omega
    · have holds : ∀ j u, (l.flatMap enc)[j]? = some u → w.drew.cell? ((⟨b, off * sz, none⟩ : Addr).add j) = some u := fun j u hu => by
        rw [add_lit, cell_of_row w.drew b _ _ e (0, 0) hg, List.getElem?_toArray, List.append_assoc, List.getElem?_append_right (by omega), show off * sz + j - X.length = j from by omega, List.getElem?_append_left (List.getElem?_eq_some_iff.1 hu).1]
        exact hu
      have hold := run_firstCells_some (P := P) w.drew i.size l.length ⟨b, off * sz, none⟩ l.length cap (l.flatMap enc) hll holds
      have hr := run_append_grow_src (P := P) w t t ty e i zv ht i1 i3 (some ⟨b, off * sz, none⟩) l.length cap (l.flatMap enc) hold _ _ _ hsrc (by omega) (by omega) (growslice_fits (by omega) (by rw [i5]; exact hbytes))
      have hf := fresh cap (by omega) _ rfl
      exact ⟨_, _, _, hr, hf.1, hf.2, .inr (Nat.lt_succ_self _)⟩
theorem AW.appendO {P : Program} {E : Env} {d : Option Tmp} {ty : TypeId} {pos : String} {af : Array Edge} {gd : Option (Nat × Bool)} {K : Value → World → Prop} {t : TypeId} {x y : Operand} {gg : Bool} {by_ : Nat} {z : List Value} {F : Nat → Prop} {v2 : Value} {l2 : List α}
    (h : AccO enc e sz w g v l) (ht : P.underlying t = some (.slice e)) (he : tyI P e = some (gg, sz, by_, z)) (hz : z.length = sz)
    (hsz : ∀ x, (enc x).length = sz) (h1 : ∀ x, (enc x).all (·.oneCell') = true) (hx : ev E x = some v) (hy : ev E y = some v2) (hs : Sl enc w F v2 l2) (hne : l2 ≠ []) (hbytes : (l.length + l2.length) * by_ ≤ 140737488355328) (hmax : l.length + l2.length ≤ maxLen)
    (hK : ∀ v' g' w', AccO enc e sz w' g' v' (l ++ l2) → Mod (Mg g) w w' → (g' = g ∨ w.heap.size < g') → K v' w') :
    AW P ⟨d, .call { callee := .builtin .append, args := #[x, y], argTypes := #[t, t] }, ty, pos, af, gd⟩ E w K := fun a ha => by
  obtain ⟨v', g', w', hr, h2, h3, h4⟩ := h.append (ty := ty) ht he hz hsz h1 hs hne hbytes hmax
  simp only [execOp, resolve, invoke, builtin, Sem.run_bind, Sem.run_pure, Result.andThen_ok, List.map_toArray, List.map_cons, List.map_nil, ha.ev hx, ha.ev hy, hr, out]
  exact hK _ _ _ h2 h3 h4
end
end Go.Ik
namespace Go.Ik
open Go
section
variable {α : Type} {enc : α → List Value} {e : TypeId} {sz : Nat} {w : World} {g : Nat} {v : Value} {l : List α}
theorem flat_split (l : List α) (i : Nat) : l.flatMap enc = (l.take i).flatMap enc ++ (l.drop i).flatMap enc := by rw [← List.flatMap_append, List.take_append_drop]
theorem flat_mid (l : List α) (i : Nat) (hi : i < l.length) : l.flatMap enc = (l.take i).flatMap enc ++ (enc l[i] ++ (l.drop (i + 1)).flatMap enc) := by rw [flat_split l i, List.drop_eq_getElem_cons hi, List.flatMap_cons]
theorem bounds_of {P : Program} {n cap : Nat} {lo hi : Option Value} (i j : Nat) (hlo : (lo = none ∧ i = 0) ∨ ∃ k n, lo = some (.int k n) ∧ n = (i : Int)) (hhi : (hi = none ∧ j = n) ∨ ∃ k m, hi = some (.int k m) ∧ m = (j : Int)) (hij : i ≤ j) (hj : j ≤ n) (hc : n ≤ cap) (w : World) : (Instr.sliceBounds true n cap lo hi none).run P w = .ok (i, j, cap) w := by
  rcases hlo with ⟨rfl, rfl⟩ | ⟨k, q, rfl, hn⟩ <;> rcases hhi with ⟨rfl, rfl⟩ | ⟨k', m, rfl, hm⟩
  · simp [Instr.sliceBounds]
  · simp [Instr.sliceBounds, sliceBound_ok _ hm (Nat.le_trans hj hc)]
  · simp [Instr.sliceBounds, sliceBound_ok _ hn hij]
  · simp [Instr.sliceBounds, sliceBound_ok _ hm (Nat.le_trans hj hc), sliceBound_ok _ hn hij]
/-- from an element on -/
theorem AccO.from {P : Program} {t : TypeId} {by_ : Nat} {gg : Bool} {z : List Value} (h : AccO enc e sz w g v l) (ht : P.underlying t = some (.slice e)) (he : tyI P e = some (gg, sz, by_, z)) (hsz : ∀ x, (enc x).length = sz) {k : IntKind} {n : Int} (i : Nat) (hn : n = (i : Int)) (hi : i ≤ l.length) :
    ∃ v' g', (∀ w, (Instr.sliceAt t v (some (.int k n)) none none).run P w = .ok v' w) ∧ AccO enc e sz w g' v' (l.drop i) ∧ (g' = g ∨ g' = 0) := by
  rcases h with ⟨a, rfl, rfl, rfl⟩ | ⟨b, off, cap, X, Y, rfl, rfl, hg, hX, hcap, hY, hcm⟩
  · have hi0 : i = 0 := by simpa using hi
    subst hi0
    refine ⟨.slice a 0 0, 0, fun w => ?_, .inl ⟨a, rfl, by simp, rfl⟩, .inl rfl⟩
    simp [Instr.sliceAt, Instr.slice, run_underlying ht, bounds_of (n := 0) (cap := 0) 0 0 (.inr ⟨k, n, rfl, hn⟩) (.inl ⟨rfl, rfl⟩) (Nat.le_refl _) (Nat.le_refl _) (Nat.le_refl _) w, run_sizeOf he]
  · have hrun : ∀ w, (Instr.sliceAt t (.slice (some ⟨b, off * sz, none⟩) l.length cap) (some (.int k n)) none none).run P w = .ok (.slice (if cap = i then some ⟨b, off * sz, none⟩ else some ⟨b, off * sz + i * sz, none⟩) (l.length - i) (cap - i)) w := fun w => by
      have hb := bounds_of (P := P) (n := l.length) (cap := cap) i l.length (.inr ⟨k, n, rfl, hn⟩) (.inl ⟨rfl, rfl⟩) hi (Nat.le_refl _) hcap w
      simp [Instr.sliceAt, Instr.slice, run_underlying ht, hb, run_sizeOf he, Addr.add_lit]
    by_cases hc : cap = i
    · have hli : l.length = i := by omega
      refine ⟨_, 0, hrun, .inl ⟨some ⟨b, off * sz, none⟩, ?_, List.drop_of_length_le (by omega), rfl⟩, .inr rfl⟩
      rw [if_pos hc, hli, Nat.sub_self, hc, Nat.sub_self]
    · have hfl := flat_len hsz (l.take i)
      rw [List.length_take, Nat.min_eq_left hi] at hfl
      refine ⟨_, b + 1, hrun, .inr ⟨b, off + i, cap - i, X ++ (l.take i).flatMap enc, Y, rfl, ?_, ?_, ?_, ?_, ?_, by omega⟩, .inl rfl⟩
      · rw [if_neg hc, List.length_drop, Nat.add_mul]
      · rw [hg, flat_split (enc := enc) l i]; simp only [List.append_assoc]
      · rw [List.length_append, hX, hfl, Nat.add_mul]
      · rw [List.length_drop]; omega
      · rw [hY, List.length_drop]; congr 1; omega
/-- an element's place; what writing it does -/
theorem AccO.at {P : Program} {t : TypeId} {by_ : Nat} {gg : Bool} {z : List Value} (h : AccO enc e sz w g v l) (ht : P.underlying t = some (.slice e)) (he : tyI P e = some (gg, sz, by_, z)) (hsz : ∀ x, (enc x).length = sz) {k : IntKind} {n : Int} (i : Nat) (hn : n = (i : Int)) (hi : i < l.length) :
    ∃ b off x, (∀ w, (Instr.indexAt t v (.int k n)).run P w = .ok (ptr b off) w) ∧ l[i]? = some x ∧ g = b + 1 ∧ Row w b off (enc x) ∧
      ∀ w2, AccO enc e sz w2 g v l → ∃ A C, A.length = off ∧ w2.heap[b]? = some (.cells (A ++ enc x ++ C).toArray e (0, 0)) ∧ ∀ (nw : α) (w' : World), w'.heap[b]? = some (.cells (A ++ enc nw ++ C).toArray e (0, 0)) → AccO enc e sz w' g v (l.set i nw) := by
  have hsl := h.sl
  rcases h with ⟨a, rfl, rfl, rfl⟩ | ⟨b, off, cap, X, Y, rfl, rfl, hg, hX, hcap, hY, hcm⟩
  · simp at hi
  · obtain ⟨b', off', hr, hb, hrow⟩ := hsl.at ht he hsz (k := k) i hn hi
    have h0 : (0 : Int) ≤ n ∧ n < (l.length : Int) := by omega
    have e1 : n.toNat = i := by omega
    have hr2 : (Instr.indexAt t (.slice (some ⟨b, off * sz, none⟩) l.length cap) (.int k n)).run P w = .ok (ptr b (off * sz + i * sz)) w := by
      simp [Instr.indexAt, asIntOf, run_underlying ht, h0, run_sizeOf he, add_lit, ptr, e1]
    have heq := (hr w).symm.trans hr2
    simp only [ptr, Result.ok.injEq, Value.pointer.injEq, Option.some.injEq, Addr.mk.injEq, and_true] at heq
    obtain ⟨rfl, rfl⟩ := heq
    refine ⟨_, _, l[i], hr, by simp, rfl, hrow, fun w2 h2 => ?_⟩
    rcases h2 with ⟨_, _, _, hx⟩ | ⟨b2, off2, cap2, X2, Y2, k0, k1, kg, kX, kc, kY, km⟩
    · omega
    · simp only [Value.slice.injEq, Option.some.injEq, Addr.mk.injEq, and_true, true_and] at k1
      obtain ⟨⟨rfl, hoff⟩, rfl⟩ := k1
      have hfl := flat_len hsz (l.take i)
      rw [List.length_take, Nat.min_eq_left (by omega)] at hfl
      refine ⟨X2 ++ (l.take i).flatMap enc, (l.drop (i + 1)).flatMap enc ++ Y2, by rw [List.length_append, kX, hfl, hoff], ?_, fun nw w' hw' => ?_⟩
      · rw [kg]
        rw [flat_mid (enc := enc) l i hi]
        simp only [List.append_assoc]
      · refine .inr ⟨b', off2, cap, X2, Y2, rfl, ?_, ?_, kX, by rw [List.length_set]; exact kc, by rw [List.length_set]; exact kY, km⟩
        · rw [List.length_set, hoff]
        · rw [hw']
          congr 3
          rw [List.set_eq_take_append_cons_drop, if_pos hi]
          simp [List.flatMap_append, List.flatMap_cons, List.append_assoc]
end
section
variable {R F0 : Nat → Prop} {w0 w w' : World} {L : List (Res R)} {i : Nat} {α : Type} {enc : α → List Value} {e : TypeId} {sz : Nat} {v : Value} {l : List α}
def accOR (enc : α → List Value) (e : TypeId) (sz : Nat) (v : Value) (l : List α) : Res R :=
  ⟨fun F w => ∃ g, AccO enc e sz w g v l ∧ ∀ b, b + 1 = g → F b, fun ⟨g, h1, h2⟩ hm hF _ => ⟨g, h1.keep hm fun b hb => hF b (h2 b hb.symm), h2⟩⟩
theorem St.accOK (h : St R F0 w0 w L) (hi : L[i]? = some (accOR enc e sz v l)) : ∃ g, AccO enc e sz w g v l ∧ g ≤ w.heap.size ∧ ∀ (w' : World) (g' : Nat) (v' : Value) (l' : List α), Mod (Mg g) w w' → AccO enc e sz w' g' v' l' → (g' = g ∨ g' = 0 ∨ w.heap.size < g') → St R F0 w0 w' (L.set i (accOR enc e sz v' l')) := by
  obtain ⟨F, ⟨g, h1, h3⟩, h2, k⟩ := h.act hi
  refine ⟨g, h1, h1.lt, fun w' g' v' l' hm ha hg => k w' (fun b => b + 1 = g') _ (hm.weaken fun b hb _ => h3 b hb) ⟨g', ha, fun b hb => hb⟩ fun b hb => ⟨?_, ?_⟩⟩
  · have := ha.lt; omega
  · rcases hg with hg | hg | hg
    · exact .inl (h3 b (by omega))
    · omega
    · exact .inr (by omega)
theorem St.accOsl (h : St R F0 w0 w L) (hi : L[i]? = some (accOR enc e sz v l)) : Sl enc w (Iv 0 w.heap.size) v l := by
  obtain ⟨g, h1, h2, _⟩ := h.accOK hi
  exact h1.sl.iv (Nat.zero_le _) h2
end
end Go.Ik
namespace Go.Ml
open Go.Ik
structure AskM where
  slot : Int
  query : Int
  shard : Int
  seq : Int
  epoch : Int
  text : Str
  k : Int
  batch : Int
  first : Bool
  after : Itm
  deriving DecidableEq
def encAsk (a : AskM) : List Value := [.int .i64 a.slot, .int .i64 a.query, .int .i64 a.shard, .int .i64 a.seq, .int .i64 a.epoch, strV a.text, .int .i64 a.k, .int .i64 a.batch, .bool a.first, .int .i64 a.after.dist, strV a.after.word]
theorem encAsk_len (a : AskM) : (encAsk a).length = 11 := rfl
theorem encAsk_one (a : AskM) : (encAsk a).all (·.oneCell') = true := rfl
def askV (a : AskM) : Value := .agg (encAsk a).toArray
def zeroAsk : AskM := ⟨0, 0, 0, 0, 0, [], 0, 0, false, ⟨0, []⟩⟩
def AskM.pl (a : AskM) : Int × Int := (a.slot, a.shard)
def encPl (p : Int × Int) : List Value := [.int .i64 p.1, .int .i64 p.2]
theorem encPl_len (p : Int × Int) : (encPl p).length = 2 := rfl
theorem encPl_one (p : Int × Int) : (encPl p).all (·.oneCell') = true := rfl
def plV (p : Int × Int) : Value := .agg #[.int .i64 p.1, .int .i64 p.2]
structure AskM.Ok (a : AskM) : Prop where
  slot : I64 a.slot
  query : I64 a.query
  shard : I64 a.shard
  seq : I64 a.seq
  epoch : I64 a.epoch
  k : I64 a.k
  batch : I64 a.batch
  dist : I64 a.after.dist
def inPl (a : AskM) : Bool := decide (0 ≤ a.slot ∧ a.slot < 4 ∧ 0 ≤ a.shard ∧ a.shard < 6)
def atPl (q : List AskM) (p : Int × Int) : Option AskM := q.find? fun x => decide (x.pl = p)
/-- what is there is newer -/
def newer (x a : AskM) : Bool := decide (x.query > a.query ∨ x.query = a.query ∧ x.seq > a.seq)
def pushB (q : List AskM) (a : AskM) : Bool := inPl a && (match atPl q a.pl with | some x => !newer x a | none => true)
def pushQ (q : List AskM) (a : AskM) : List AskM :=
  if pushB q a = true then (match atPl q a.pl with | some _ => q.map fun x => if x.pl = a.pl then a else x | none => q ++ [a]) else q
def offB (slot query : Int) (x : AskM) : Bool := decide (x.slot = slot ∧ x.query ≤ query)
def stopQ (q : List AskM) (slot query : Int) : List AskM := q.filter fun x => !offB slot query x
structure QOk (m : List ((Int × Int) × AskM)) (q : List AskM) : Prop where
  keys : (m.map Prod.fst).Nodup
  at_ : ∀ p, asc m p = atPl q p
  nd : (q.map AskM.pl).Nodup
theorem QOk.nil : QOk [] [] := ⟨by simp, fun p => rfl, by simp⟩
section
variable {α β : Type} [DecidableEq α]
theorem asc_set (m : List (α × β)) (a b : α) (u : β) : asc (setM m a u) b = if a = b then some u else asc m b := by
  induction m with
  | nil =>
    unfold setM
    rw [asc_cons]
  | cons p m ih =>
    unfold setM
    by_cases h : p.1 = a
    · rw [if_pos h, asc_cons, asc_cons]
      by_cases hb : a = b
      · rw [if_pos hb, if_pos hb]
      · rw [if_neg hb, if_neg hb, if_neg (fun e => hb (h.symm.trans e))]
    · rw [if_neg h, asc_cons, asc_cons, ih]
      by_cases hb : a = b
      · rw [if_pos hb, if_neg (fun e => h (e.trans hb.symm)), if_pos hb]
      · rw [if_neg hb, if_neg hb]
theorem keys_set (m : List (α × β)) (a : α) (u : β) : (setM m a u).map Prod.fst = if a ∈ m.map Prod.fst then m.map Prod.fst else m.map Prod.fst ++ [a] := by
  induction m with
  | nil => simp [setM]
  | cons p m ih =>
    unfold setM
    by_cases h : p.1 = a
    · rw [if_pos h]; simp [h]
    · rw [if_neg h, List.map_cons, ih]
      by_cases hm : a ∈ m.map Prod.fst
      · rw [if_pos hm, if_pos (by simp only [List.map_cons, List.mem_cons]; exact .inr hm)]; rfl
      · rw [if_neg hm, if_neg (by simp only [List.map_cons, List.mem_cons, not_or]; exact ⟨fun e => h e.symm, hm⟩)]; rfl
theorem nodup_set {m : List (α × β)} {a : α} {u : β} (h : (m.map Prod.fst).Nodup) : ((setM m a u).map Prod.fst).Nodup := by
  rw [keys_set]
  split
  · exact h
  · rename_i hm
    rw [List.nodup_append]
    exact ⟨h, by simp, fun x hx y hy => by simp only [List.mem_singleton] at hy; subst hy; exact fun e => hm (e ▸ hx)⟩
theorem del_sub (m : List (α × β)) (a : α) : (delM m a).Sublist m := by
  induction m with
  | nil => exact List.Sublist.refl _
  | cons p m ih =>
    unfold delM
    split
    · exact List.sublist_cons_self _ _
    · exact ih.cons_cons _
theorem asc_none {m : List (α × β)} {a : α} (h : a ∉ m.map Prod.fst) : asc m a = none := by
  induction m with
  | nil => rfl
  | cons p m ih =>
    simp only [List.map_cons, List.mem_cons, not_or] at h
    rw [asc_cons, if_neg (fun e => h.1 e.symm), ih h.2]
theorem asc_del {m : List (α × β)} (h : (m.map Prod.fst).Nodup) (a b : α) : asc (delM m a) b = if a = b then none else asc m b := by
  induction m with
  | nil => simp [delM, asc_nil]
  | cons p m ih =>
    rw [List.map_cons, List.nodup_cons] at h
    unfold delM
    by_cases hp : p.1 = a
    · rw [if_pos hp, asc_cons]
      by_cases hb : a = b
      · rw [if_pos hb, ← hb, ← hp]; exact asc_none h.1
      · rw [if_neg hb, if_neg (fun e => hb (hp.symm.trans e))]
    · rw [if_neg hp, asc_cons, asc_cons, ih h.2]
      by_cases hb : a = b
      · rw [if_pos hb, if_neg (fun e => hp (e.trans hb.symm)), if_pos hb]
      · rw [if_neg hb, if_neg hb]
theorem nodup_del {m : List (α × β)} {a : α} (h : (m.map Prod.fst).Nodup) : ((delM m a).map Prod.fst).Nodup := h.sublist ((del_sub m a).map _)
end
theorem atq_mem {q : List AskM} (h : (q.map AskM.pl).Nodup) {x : AskM} (hx : x ∈ q) : atPl q x.pl = some x := by
  induction q with
  | nil => simp at hx
  | cons y q ih =>
    rw [List.map_cons, List.nodup_cons] at h
    unfold atPl
    rw [List.find?_cons]
    by_cases e : y.pl = x.pl
    · rcases List.mem_cons.1 hx with rfl | hx
      · simp
      · exact absurd (List.mem_map.2 ⟨x, hx, e.symm⟩) h.1
    · rcases List.mem_cons.1 hx with rfl | hx
      · exact absurd rfl e
      · rw [decide_eq_false e]; exact ih h.2 hx
theorem atq_app (q : List AskM) (a : AskM) (p : Int × Int) : atPl (q ++ [a]) p = match atPl q p with | some x => some x | none => if a.pl = p then some a else none := by
  unfold atPl
  rw [List.find?_append]
  cases q.find? (fun x => decide (x.pl = p)) with
  | some x => rfl
  | none =>
    by_cases h : a.pl = p
    · simp [h]
    · simp [h]
theorem atq_none {q : List AskM} {p : Int × Int} (h : atPl q p = none) : p ∉ q.map AskM.pl := fun hm => by
  obtain ⟨x, hx, rfl⟩ := List.mem_map.1 hm
  have := List.find?_eq_none.1 h x hx
  simp at this
theorem map_pl (q : List AskM) (a : AskM) : (q.map fun x => if x.pl = a.pl then a else x).map AskM.pl = q.map AskM.pl := by
  rw [List.map_map]
  refine List.map_congr_left fun x _ => ?_
  simp only [Function.comp_apply]
  split
  · rename_i h; exact h.symm
  · rfl
theorem atq_map {q : List AskM} {a : AskM} (p : Int × Int) : atPl (q.map fun x => if x.pl = a.pl then a else x) p = if a.pl = p then (match atPl q p with | some _ => some a | none => none) else atPl q p := by
  induction q with
  | nil => unfold atPl; simp
  | cons y q ih =>
    unfold atPl at ih ⊢
    rw [List.map_cons, List.find?_cons, List.find?_cons]
    by_cases hy : y.pl = a.pl
    · rw [if_pos hy]
      by_cases hp : a.pl = p
      · simp [hp, hy.trans hp]
      · rw [if_neg hp] at ih
        simp only [decide_eq_false hp, decide_eq_false (show ¬ y.pl = p from fun e => hp (hy.symm.trans e)), if_neg hp]
        exact ih
    · rw [if_neg hy]
      by_cases hp : y.pl = p
      · simp only [decide_eq_true hp]
        rw [if_neg (fun e => hy (hp.trans e.symm))]
      · simp only [decide_eq_false hp]
        exact ih
theorem QOk.put {m : List ((Int × Int) × AskM)} {q : List AskM} {a x : AskM} (h : QOk m q) (hx : atPl q a.pl = some x) : QOk (setM m a.pl a) (q.map fun x => if x.pl = a.pl then a else x) := by
  refine ⟨nodup_set h.keys, fun p => ?_, by rw [map_pl]; exact h.nd⟩
  rw [asc_set, atq_map, h.at_]
  by_cases hp : a.pl = p
  · rw [if_pos hp, if_pos hp, ← hp, hx]
  · rw [if_neg hp, if_neg hp]
theorem QOk.add {m : List ((Int × Int) × AskM)} {q : List AskM} {a : AskM} (h : QOk m q) (hx : atPl q a.pl = none) : QOk (setM m a.pl a) (q ++ [a]) := by
  refine ⟨nodup_set h.keys, fun p => ?_, ?_⟩
  · rw [asc_set, atq_app, h.at_]
    by_cases hp : a.pl = p
    · rw [if_pos hp, ← hp, hx]; simp
    · rw [if_neg hp]
      cases atPl q p with
      | some _ => rfl
      | none => simp [hp]
  · rw [List.map_append, List.nodup_append]
    exact ⟨h.nd, by simp, fun x hx' y hy => by simp only [List.map_cons, List.map_nil, List.mem_singleton] at hy; subst hy; exact fun e => atq_none hx (e ▸ hx')⟩
theorem atq_filter {q : List AskM} (h : (q.map AskM.pl).Nodup) {a : AskM} (p : Int × Int) : atPl (q.filter fun x => decide (x.pl ≠ a.pl)) p = if a.pl = p then none else atPl q p := by
  induction q with
  | nil => unfold atPl; simp
  | cons y q ih =>
    rw [List.map_cons, List.nodup_cons] at h
    have ih := ih h.2
    unfold atPl at ih ⊢
    rw [List.filter_cons, List.find?_cons]
    by_cases hy : y.pl = a.pl
    · rw [if_neg (by simp [hy]), ih]
      by_cases hp : a.pl = p
      · rw [if_pos hp, if_pos hp]
      · rw [if_neg hp, if_neg hp, decide_eq_false (fun e => hp (hy.symm.trans e))]
    · rw [if_pos (by simp [hy]), List.find?_cons]
      by_cases hp : y.pl = p
      · rw [decide_eq_true hp]; simp only
        rw [if_neg (fun e => hy (hp.trans e.symm))]
      · rw [decide_eq_false hp]; simp only; exact ih
theorem QOk.del {m : List ((Int × Int) × AskM)} {q : List AskM} {a : AskM} (h : QOk m q) : QOk (delM m a.pl) (q.filter fun x => decide (x.pl ≠ a.pl)) := by
  refine ⟨nodup_del h.keys, fun p => ?_, h.nd.sublist ((List.filter_sublist).map _)⟩
  rw [asc_del h.keys, atq_filter h.nd, h.at_]
theorem filter_head {q : List AskM} {a : AskM} (h : ((a :: q).map AskM.pl).Nodup) : (a :: q).filter (fun x => decide (x.pl ≠ a.pl)) = q := by
  rw [List.map_cons, List.nodup_cons] at h
  rw [List.filter_cons_of_neg (by simp), List.filter_eq_self.2]
  intro x hx
  simp only [ne_eq, decide_eq_true_eq]
  exact fun e => h.1 (List.mem_map.2 ⟨x, hx, e⟩)
theorem QOk.pop {m : List ((Int × Int) × AskM)} {q : List AskM} {a : AskM} (h : QOk m (a :: q)) : QOk (delM m a.pl) q := by
  have := h.del (a := a)
  rwa [filter_head h.nd] at this
theorem QOk.head {m : List ((Int × Int) × AskM)} {q : List AskM} {a : AskM} (h : QOk m (a :: q)) : asc m a.pl = some a := by
  rw [h.at_]; exact atq_mem h.nd (by simp)
theorem QOk.mem {m : List ((Int × Int) × AskM)} {q : List AskM} {a : AskM} (h : QOk m q) (ha : a ∈ q) : asc m a.pl = some a := by
  rw [h.at_]; exact atq_mem h.nd ha
theorem QOk.at1 {m : List ((Int × Int) × AskM)} {q : List AskM} {k : Nat} {p : Int × Int} (h : QOk m q) (hp : (q.map AskM.pl)[k]? = some p) : ∃ a, q[k]? = some a ∧ a.pl = p ∧ asc m p = some a := by
  rw [List.getElem?_map] at hp
  cases ha : q[k]? with
  | none => rw [ha] at hp; cases hp
  | some a =>
    rw [ha] at hp
    simp only [Option.map_some, Option.some.injEq] at hp
    subst hp
    exact ⟨a, rfl, rfl, h.mem (List.mem_of_getElem? ha)⟩
section
variable {σ α : Type}
def thr (f : σ → α → σ × Bool) (s : σ) (l : List α) : σ := l.foldl (fun s x => (f s x).1) s
def kp (f : σ → α → σ × Bool) : σ → List α → List α
  | _, [] => []
  | s, x :: r => (if (f s x).2 = true then [] else [x]) ++ kp f (f s x).1 r
theorem kp_snoc (f : σ → α → σ × Bool) : ∀ (l : List α) (s : σ) (x : α), kp f s (l ++ [x]) = kp f s l ++ (if (f (thr f s l) x).2 = true then [] else [x])
  | [], s, x => by show (if (f s x).2 = true then [] else [x]) ++ [] = [] ++ (if (f s x).2 = true then [] else [x]); simp
  | y :: l, s, x => by
    simp only [List.cons_append, kp]
    rw [kp_snoc f l]
    simp only [List.append_assoc]; rfl
theorem kp_take {f : σ → α → σ × Bool} {s : σ} {l : List α} {k : Nat} {x : α} (hx : l[k]? = some x) : kp f s (l.take (k + 1)) = kp f s (l.take k) ++ (if (f (thr f s (l.take k)) x).2 = true then [] else [x]) := by
  rw [List.take_add_one, hx]; exact kp_snoc f _ s x
end
end Go.Ml
namespace Go.IkN
open Go Go.Ik
/-- where a quiet operation's value is asked: 'N': it comes ahead of all that act -/
def CC (N : Nat → Bool) (wI : World) (C : World → Prop) (i : Nat) (w : World) : Prop := if N i = true then w = wI else C w
/-- the world while operations are picked -/
def J (ops : Array Oper) (N : Nat → Bool) (wI : World) (C : World → Prop) (listed : Array Bool) (w : World) : Prop := C w ∧ (w = wI ∨ ∀ i, N i = true → i < ops.size → listed.getD i true = true)
/-- what is ahead of all that act -/
def nowB (ops : Array Oper) (m : Array Nat) (A N : Nat → Bool) : Bool := (List.range ops.size).all fun j => !A j || (List.range ops.size).all fun i => !N i || (!A i && (m.getD j 0).testBit i)
theorem nowB_spec {ops : Array Oper} {m : Array Nat} {A N : Nat → Bool} (h : nowB ops m A N = true) {i j : Nat} (hi : i < ops.size) (hj : j < ops.size) (hA : A j = true) (hN : N i = true) : A i = false ∧ (m.getD j 0).testBit i = true := by
  have h1 := List.all_eq_true.1 h j (List.mem_range.2 hj)
  simp only [hA, Bool.not_true, Bool.false_or] at h1
  have h2 := List.all_eq_true.1 h1 i (List.mem_range.2 hi)
  simp only [hN, Bool.not_true, Bool.false_or, Bool.and_eq_true, Bool.not_eq_true'] at h2
  exact h2
theorem J.set {ops : Array Oper} {N : Nat → Bool} {wI w : World} {C : World → Prop} {listed : Array Bool} {k : Nat} (h : J ops N wI C listed w) : J ops N wI C (listed.setIfInBounds k true) w := by
  refine ⟨h.1, h.2.imp id fun ha i hN hi => ?_⟩
  have := ha i hN hi
  by_cases hk : k = i
  · subst hk
    simp only [Array.getD_eq_getD_getElem?, Array.getElem?_setIfInBounds]
    split <;> rename_i h0 <;> simp_all
    split <;> simp_all
  · rw [getD_set_ne true hk]; exact this
section
variable {P : Program} {ops : Array Oper} {C : World → Prop} {A N : Nat → Bool} {Z : Nat} {wI : World}
/-- operation 'i' comes up -/
def dOp (P : Program) (ops : Array Oper) (C : World → Prop) (A N : Nat → Bool) (wI : World) (Z : Nat) (i : Nat) (K : Act → World → Prop) (a : Act) (w : World) : Prop :=
  match ops[i]? with
  | none => K a w
  | some o =>
    if Region.wanted o (yielded ops a.tmps) = true then
      if A i = true then out P (fun v w' => (i = Z ∨ C w') ∧ K (a.put o.dst v) w') ((execOp a.eval o).run P w)
      else ∃ v, (∀ w', CC N wI C i w' → (execOp a.eval o).run P w' = .ok (.value v) w') ∧ K (a.put o.dst v) w
    else K (a.put o.dst undef) w
def wd (P : Program) (ops : Array Oper) (C : World → Prop) (A N : Nat → Bool) (wI : World) (Z : Nat) (Q : Act → World → Prop) : List Nat → Act → World → Prop
  | [], a, w => Q a w
  | i :: r, a, w => dOp P ops C A N wI Z i (wd P ops C A N wI Z Q r) a w
/-- whatever order is picked -/
def anyD (P : Program) (ops : Array Oper) (C : World → Prop) (A N : Nat → Bool) (wI : World) (Z : Nat) (Q : Act → World → Prop) : Nat → Array Bool → Act → World → Prop
  | 0, listed, a, w => Region.ready .any ops listed = [] ∧ Q a w
  | fuel + 1, listed, a, w =>
    (Region.ready .any ops listed = [] → Q a w) ∧
    ∀ i ∈ Region.ready .any ops listed, dOp P ops C A N wI Z i (anyD P ops C A N wI Z Q fuel (listed.setIfInBounds i true)) a w
/-- quiet 'i' in state 'a' yields 'v' in every world of the class -/
def Yl (P : Program) (ops : Array Oper) (C : World → Prop) (A N : Nat → Bool) (wI : World) (i : Nat) (o : Oper) (v : Value) (a : Act) : Prop :=
  (Region.wanted o (yielded ops a.tmps) = true ∧ A i = false ∧ ∀ w', CC N wI C i w' → (execOp a.eval o).run P w' = .ok (.value v) w') ∨
  (Region.wanted o (yielded ops a.tmps) = false ∧ v = undef)
theorem Yl.dOp {i : Nat} {o : Oper} {v : Value} {a : Act} {w : World} {K : Act → World → Prop} (hi : ops[i]? = some o) (hy : Yl P ops C A N wI i o v a) (h : K (a.put o.dst v) w) : dOp P ops C A N wI Z i K a w := by
  unfold IkN.dOp
  simp only [hi]
  rcases hy with ⟨hw, hA, hv⟩ | ⟨hw, rfl⟩
  · simp only [hw, hA, if_true, Bool.false_eq_true, if_false]; exact ⟨v, hv, h⟩
  · simp only [hw, Bool.false_eq_true, if_false]; exact h
theorem Yl.of_same {i : Nat} {o : Oper} {v : Value} {a a' : Act} (hy : Yl P ops C A N wI i o v a) (he : execOp a'.eval o = execOp a.eval o)
    (hw : Region.wanted o (yielded ops a'.tmps) = Region.wanted o (yielded ops a.tmps)) : Yl P ops C A N wI i o v a' := by
  unfold Yl at *
  rw [he, hw]
  exact hy
/-- one quiet operation moved ahead of another one 'j' -/
theorem dOp_put {i j : Nat} {oi oj : Oper} {v : Value} (hj : ops[j]? = some oj) (hap : oi.apart ops oj = true)
    (hsi : ∀ cs b, oi.op ≠ .select cs b) (hsj : ∀ cs b, oj.op ≠ .select cs b) {K : Act → World → Prop} {a : Act} {w : World}
    (hy : Yl P ops C A N wI i oi v a) (h : dOp P ops C A N wI Z j K (a.put oi.dst v) w) :
    dOp P ops C A N wI Z j (fun a' w' => Yl P ops C A N wI i oi v a' ∧ K (a'.put oi.dst v) w') a w := by
  obtain ⟨h1, h2, h3⟩ := Oper.apart_spec hap
  have keep : ∀ u, Yl P ops C A N wI i oi v (a.put oj.dst u) := fun u =>
    hy.of_same (execOp_put oi hsi a oj.dst u h3) (wanted_put oi a oj.dst u h3)
  unfold dOp at *
  simp only [hj] at *
  rw [wanted_put oj a oi.dst v h1, execOp_put oj hsj a oi.dst v h1] at h
  split
  · rename_i hw
    simp only [hw, if_true] at h
    split
    · rename_i hA
      simp only [hA, if_true] at h
      exact out_mono (fun u w' hu => ⟨hu.1, keep u, by rw [← Act.put_comm a v u h2]; exact hu.2⟩) h
    · rename_i hA
      simp only [hA] at h
      obtain ⟨u, hu, hk⟩ := h
      exact ⟨u, hu, keep u, by rw [← Act.put_comm a v u h2]; exact hk⟩
  · rename_i hw
    simp only [hw] at h
    exact ⟨keep _, by rw [← Act.put_comm a v undef h2]; exact h⟩
theorem dOp_mono {i : Nat} {K K' : Act → World → Prop} {J' : World → Prop} {a : Act} {w : World} (hne : i ≠ Z) (h : ∀ a w, J' w → K a w → K' a w) (hC : J' w) (hact : A i = true → ∀ w', C w' → J' w') (hh : dOp P ops C A N wI Z i K a w) : dOp P ops C A N wI Z i K' a w := by
  unfold dOp at *
  split
  · exact h _ _ hC (by simpa [*] using hh)
  · rename_i o ho
    simp only [ho] at hh
    split
    · rename_i hw
      simp only [hw, if_true] at hh
      split
      · rename_i hA
        simp only [hA, if_true] at hh
        exact out_mono (fun v w' hv => ⟨hv.1, h _ _ (hact hA _ (hv.1.resolve_left hne)) hv.2⟩) hh
      · rename_i hA
        simp only [hA] at hh
        obtain ⟨v, h1, h2⟩ := hh
        exact ⟨v, h1, h _ _ hC h2⟩
    · rename_i hw
      simp only [hw] at hh
      exact h _ _ hC hh
/-- behind an acting operation -/
theorem J.act {m : Array Nat} (hcl : closedB ops m = true) (hnb : nowB ops m A N = true) {listed : Array Bool} (hd : DC m listed) {j : Nat} (hj : j ∈ Region.ready .any ops listed) (hA : A j = true) {w' : World} (hC : C w') : J ops N wI C (listed.setIfInBounds j true) w' := by
  refine ⟨hC, .inr fun i hN hi => ?_⟩
  obtain ⟨hAi, hb⟩ := nowB_spec hnb hi (ready_lt hj) hA hN
  have := getD_lt (ready_closed hcl hd hj hb)
  by_cases hji : j = i
  · subst hji; rw [hA] at hAi; cases hAi
  · rw [getD_set_ne true hji]; exact this
/-- what is asked of a quiet operation that is ready holds now -/
theorem J.cc {listed : Array Bool} {w : World} (h : J ops N wI C listed w) {i : Nat} (hi : i ∈ Region.ready .any ops listed) : CC N wI C i w := by
  unfold CC
  split
  · rename_i hN
    rcases h.2 with e | ha
    · exact e
    · have h1 := ha i hN (ready_lt hi)
      rw [(mem_ready.1 hi).1] at h1
      cases h1
  · exact h.1
theorem wpAny_of_anyD {m : Array Nat} (hcl : closedB ops m = true) (hnb : nowB ops m A N = true) (hz : ZC ops m Z) {Q : Act → World → Prop} {Q' : Exit → Act → World → Prop} (hQ : ∀ a w, Q a w → Q' .normal a w) : ∀ (fuel : Nat) (listed : Array Bool) (a : Act) (w : World), (J ops N wI C listed w ∨ Region.ready .any ops listed = []) → DC m listed →
    anyD P ops C A N wI Z Q fuel listed a w → wpAny P .any ops Q' fuel listed a w
  | 0, _, _, _, _, _, h => ⟨h.1, hQ _ _ h.2⟩
  | fuel + 1, listed, a, w, hC, hdc, h => ⟨fun h0 => hQ _ _ (h.1 h0), fun i hi => by
      have hC' : J ops N wI C listed w := by
        rcases hC with h | h
        · exact h
        · rw [h] at hi; cases hi
      have hdc' := hdc.set hcl hi
      have h2 := h.2 i hi
      unfold dOp at h2
      unfold wpOp
      split
      · rename_i ho
        simp only [ho] at h2
        exact wpAny_of_anyD hcl hnb hz hQ fuel _ _ _ (.inl hC'.set) hdc' h2
      · rename_i o ho
        simp only [ho] at h2
        split
        · rename_i hw
          simp only [hw, if_true] at h2
          refine .inl ?_
          split at h2
          · rename_i hAi
            refine out_upon (fun v w' hv => wpAny_of_anyD hcl hnb hz hQ fuel _ _ _ ?_ hdc' hv.2) h2
            rcases hv.1 with e | e
            · subst e; exact .inr (Z_done hcl hz hdc hi)
            · exact .inl (J.act hcl hnb hdc hi hAi e)
          · obtain ⟨v, h3, h4⟩ := h2
            unfold Oper.wp
            rw [h3 w (hC'.cc hi)]
            exact wpAny_of_anyD hcl hnb hz hQ fuel _ _ _ (.inl hC'.set) hdc' h4
        · rename_i hw
          simp only [hw] at h2
          exact wpAny_of_anyD hcl hnb hz hQ fuel _ _ _ (.inl hC'.set) hdc' h2⟩
/-- a quiet operation that is ready may come first -/
theorem first_quiet {m : Array Nat} (hcl : closedB ops m = true) (hnb : nowB ops m A N = true) (hz : ZC ops m Z) {Q : Act → World → Prop} {i : Nat} {oi : Oper} {v : Value} (hi : ops[i]? = some oi) (hsel : ∀ (j : Nat) (o : Oper) cs b, ops[j]? = some o → o.op ≠ .select cs b) :
    ∀ (fuel : Nat) (listed : Array Bool) (a : Act) (w : World), J ops N wI C listed w → DC m listed →
      (∀ j oj, ops[j]? = some oj → j ≠ i → listed.getD j true = false → (m.getD j 0).testBit i = false → oi.apart ops oj = true) →
      i ∈ Region.ready .any ops listed → Yl P ops C A N wI i oi v a →
      anyD P ops C A N wI Z Q fuel (listed.setIfInBounds i true) (a.put oi.dst v) w → anyD P ops C A N wI Z Q (fuel + 1) listed a w := by
  intro fuel
  induction fuel with
  | zero =>
    intro listed a w hC _ _ hr hy H
    refine ⟨fun h => (by rw [h] at hr; cases hr), fun j hj => ?_⟩
    by_cases hji : j = i
    · subst hji; exact hy.dOp hi H
    · have := ready_mono hj hji
      rw [H.1] at this
      cases this
  | succ fuel ih =>
    intro listed a w hC hdc hfree hr hy H
    refine ⟨fun h => (by rw [h] at hr; cases hr), fun j hj => ?_⟩
    by_cases hji : j = i
    · subst hji; exact hy.dOp hi H
    · have h1 := H.2 j (ready_mono hj hji)
      obtain ⟨hjun, oj, hoj, hall⟩ := mem_ready.1 hj
      have hnot : (m.getD j 0).testBit i = false := by
        cases hb : (m.getD j 0).testBit i with
        | false => rfl
        | true =>
          have h2 := ready_closed hcl hdc hj hb
          rw [listed_lt (mem_ready.1 hr).1] at h2
          cases h2
      have h2 := dOp_put hoj (hfree j oj hoj hji hjun hnot) (fun cs b => hsel i oi cs b hi) (fun cs b => hsel j oj cs b hoj) hy h1
      have hfree' : ∀ k ok, ops[k]? = some ok → k ≠ i → (listed.setIfInBounds j true).getD k true = false →
          (m.getD k 0).testBit i = false → oi.apart ops ok = true := fun k ok hk hki hun hno => by
        refine hfree k ok hk hki ?_ hno
        by_cases hjk : j = k
        · subst hjk; exact hjun
        · rw [getD_set_ne true hjk] at hun; exact hun
      have hjz : j ≠ Z := fun e => by
        subst e
        have h5 := Z_last hcl hz hdc hj (ready_lt hr) (Ne.symm hji)
        rw [(mem_ready.1 hr).1] at h5; cases h5
      refine dOp_mono (J' := J ops N wI C (listed.setIfInBounds j true)) hjz (fun a' w' hC' h3 => ih (listed.setIfInBounds j true) a' w' hC' (hdc.set hcl hj) hfree' (ready_mono hr (Ne.symm hji)) h3.1 ?_) hC.set (fun hAj w' hc => J.act hcl hnb hdc hj hAj hc) h2
      rw [Array.setIfInBounds_comm _ _ hji]
      exact h3.2
/-- an acting operation that is ready may come first -/
theorem first_act {m : Array Nat} (hcl : closedB ops m = true) (hnb : nowB ops m A N = true) (hz : ZC ops m Z) {Q : Act → World → Prop} {i : Nat} {oi : Oper} (hi : ops[i]? = some oi) (hA : A i = true) (hsel : ∀ (j : Nat) (o : Oper) cs b, ops[j]? = some o → o.op ≠ .select cs b) :
    ∀ (fuel : Nat) (listed : Array Bool) (a : Act) (w : World), J ops N wI C listed w → DC m listed →
      (∀ j oj, ops[j]? = some oj → j ≠ i → listed.getD j true = false → (m.getD j 0).testBit i = false → oi.apart ops oj = true ∧ A j = false) →
      i ∈ Region.ready .any ops listed → Region.wanted oi (yielded ops a.tmps) = true →
      out P (fun v w' => (i = Z ∨ C w') ∧ anyD P ops C A N wI Z Q fuel (listed.setIfInBounds i true) (a.put oi.dst v) w') ((execOp a.eval oi).run P w) → anyD P ops C A N wI Z Q (fuel + 1) listed a w := by
  intro fuel
  induction fuel with
  | zero =>
    intro listed a w hC _ _ hr hw H
    refine ⟨fun h => (by rw [h] at hr; cases hr), fun j hj => ?_⟩
    by_cases hji : j = i
    · subst hji; unfold dOp; simp only [hi, hw, hA, if_true]; exact H
    · obtain ⟨v, w', _, hk⟩ := out_some H
      have := ready_mono hj hji
      rw [hk.1] at this
      cases this
  | succ fuel ih =>
    intro listed a w hC hdc hfree hr hw H
    refine ⟨fun h => (by rw [h] at hr; cases hr), fun j hj => ?_⟩
    by_cases hji : j = i
    · subst hji; unfold dOp; simp only [hi, hw, hA, if_true]; exact H
    · obtain ⟨hjun, oj, hoj, hall⟩ := mem_ready.1 hj
      have hnot : (m.getD j 0).testBit i = false := by
        cases hb : (m.getD j 0).testBit i with
        | false => rfl
        | true =>
          have h2 := ready_closed hcl hdc hj hb
          rw [listed_lt (mem_ready.1 hr).1] at h2
          cases h2
      obtain ⟨hap, hAj⟩ := hfree j oj hoj hji hjun hnot
      obtain ⟨p1, p2, p3⟩ := Oper.apart_spec hap
      have hfree' : ∀ k ok, ops[k]? = some ok → k ≠ i → (listed.setIfInBounds j true).getD k true = false →
          (m.getD k 0).testBit i = false → oi.apart ops ok = true ∧ A k = false := fun k ok hk hki hun hno => by
        refine hfree k ok hk hki ?_ hno
        by_cases hjk : j = k
        · subst hjk; exact hjun
        · rw [getD_set_ne true hjk] at hun; exact hun
      have hsi := fun cs b => hsel i oi cs b hi
      have hsj := fun cs b => hsel j oj cs b hoj
      have hNj : N j = false := by
        cases hN : N j with
        | false => rfl
        | true =>
          have h6 := getD_lt (ready_closed hcl hdc hr (nowB_spec hnb (ready_lt hj) (ready_lt hr) hA hN).2)
          rw [hjun] at h6; cases h6
      have hcc : ∀ w', CC N wI C j w' ↔ C w' := fun w' => by unfold CC; rw [hNj]; simp
      -- what 'j' yields, whatever 'i' left
      have after : ∀ v w', anyD P ops C A N wI Z Q (fuel + 1) (listed.setIfInBounds i true) (a.put oi.dst v) w' →
          dOp P ops C A N wI Z j (anyD P ops C A N wI Z Q fuel ((listed.setIfInBounds i true).setIfInBounds j true)) (a.put oi.dst v) w' := fun v w' hk => hk.2 j (ready_mono hj hji)
      unfold dOp
      simp only [hoj, hAj, Bool.false_eq_true, if_false]
      by_cases hwj : Region.wanted oj (yielded ops a.tmps) = true
      · simp only [hwj, if_true]
        have get : ∀ v w', anyD P ops C A N wI Z Q (fuel + 1) (listed.setIfInBounds i true) (a.put oi.dst v) w' →
            ∃ u, (∀ w', CC N wI C j w' → (execOp a.eval oj).run P w' = .ok (.value u) w') ∧ anyD P ops C A N wI Z Q fuel ((listed.setIfInBounds i true).setIfInBounds j true) ((a.put oi.dst v).put oj.dst u) w' := fun v w' hk => by
          have h1 := after v w' hk
          unfold dOp at h1
          simp only [hoj, hAj, Bool.false_eq_true, if_false] at h1
          rw [wanted_put oj a oi.dst v p1, hwj, if_pos rfl, execOp_put oj hsj a oi.dst v p1] at h1
          exact h1
        have hiz : i ≠ Z := fun e => by
          subst e
          have h5 := Z_last hcl hz hdc hr (ready_lt hj) hji
          rw [hjun] at h5; cases h5
        obtain ⟨v0, w0, hC0, hk0⟩ := out_some H
        obtain ⟨u, hu, _⟩ := get v0 w0 hk0
        refine ⟨u, hu, ih (listed.setIfInBounds j true) (a.put oj.dst u) w hC.set (hdc.set hcl hj) hfree' (ready_mono hr (Ne.symm hji)) ?_ ?_⟩
        · rw [wanted_put oi a oj.dst u p3]; exact hw
        · rw [execOp_put oi hsi a oj.dst u p3]
          refine out_mono (fun v w' ⟨hc, hk⟩ => ⟨hc, ?_⟩) H
          obtain ⟨u', hu', hk'⟩ := get v w' hk
          have e : u' = u := by
            have h1 := hu w ((hcc w).2 hC.1)
            rw [hu' w ((hcc w).2 hC.1)] at h1
            simpa using h1
          subst e
          rw [Array.setIfInBounds_comm _ _ hji, ← Act.put_comm a v u' p2]
          exact hk'
      · simp only [hwj, Bool.false_eq_true, if_false]
        refine ih (listed.setIfInBounds j true) (a.put oj.dst undef) w hC.set (hdc.set hcl hj) hfree' (ready_mono hr (Ne.symm hji)) ?_ ?_
        · rw [wanted_put oi a oj.dst undef p3]; exact hw
        · rw [execOp_put oi hsi a oj.dst undef p3]
          refine out_mono (fun v w' ⟨hc, hk⟩ => ⟨hc, ?_⟩) H
          have h1 := after v w' hk
          unfold dOp at h1
          simp only [hoj] at h1
          rw [wanted_put oj a oi.dst v p1, if_neg (by simpa using hwj)] at h1
          rw [Array.setIfInBounds_comm _ _ hji, ← Act.put_comm a v undef p2]
          exact h1
theorem anyD_lex {m : Array Nat} (hcl : closedB ops m = true) (hnb : nowB ops m A N = true) (hz : ZC ops m Z) {Q : Act → World → Prop} (hs : Region.noSelect ops = true) : ∀ (fuel k : Nat) (listed : Array Bool) (a : Act) (w : World), (J ops N wI C listed w ∨ fuel = 0) → DC m listed →
    k + fuel = ops.size → lexD ops m A fuel k listed = true → wd P ops C A N wI Z Q (List.range' k fuel) a w → anyD P ops C A N wI Z Q fuel listed a w
  | 0, _, _, _, _, _, _, _, hB, h => ⟨by simpa [lexD] using hB, h⟩
  | fuel + 1, k, listed, a, w, hC0, hdc, hsz, hB, h => by
    have hC : J ops N wI C listed w := hC0.resolve_right (by omega)
    have hlt : k < ops.size := by omega
    have h0 : ops[k]? = some ops[k] := by simp [hlt]
    simp only [lexD, Bool.and_eq_true, List.contains_iff_mem] at hB
    obtain ⟨⟨hr, hf⟩, hB'⟩ := hB
    have hfr := freeB_spec h0 hf
    rw [List.range'_succ] at h
    simp only [wd] at h
    have hdc' := hdc.set hcl hr
    have hfin : k = Z → fuel = 0 := fun e => by
      subst e
      have hd := Z_done hcl hz hdc hr
      cases fuel with
      | zero => rfl
      | succ f =>
        simp only [lexD, Bool.and_eq_true, List.contains_iff_mem] at hB'
        rw [hd] at hB'
        exact absurd hB'.1.1 (by simp)
    have hrec : ∀ a w, (J ops N wI C (listed.setIfInBounds k true) w ∨ fuel = 0) → wd P ops C A N wI Z Q (List.range' (k + 1) fuel) a w → anyD P ops C A N wI Z Q fuel (listed.setIfInBounds k true) a w := fun a w hc hk =>
      anyD_lex hcl hnb hz hs fuel (k + 1) _ a w hc hdc' (by omega) hB' hk
    unfold dOp at h
    simp only [h0] at h
    by_cases hw : Region.wanted ops[k] (yielded ops a.tmps) = true
    · simp only [hw, if_true] at h
      by_cases hA : A k = true
      · simp only [hA, if_true] at h
        exact first_act hcl hnb hz h0 hA (Region.noSelect_spec hs) fuel listed a w hC hdc (fun j oj hj hne hl hm => ⟨(hfr j oj hj hne hl hm).1, by have := (hfr j oj hj hne hl hm).2; simpa [hA] using this⟩) hr hw
          (out_mono (fun v w' hv => ⟨hv.1, hrec _ _ (hv.1.elim (fun e => .inr (hfin e)) (fun e => .inl (J.act hcl hnb hdc hr hA e))) hv.2⟩) h)
      · simp only [hA] at h
        obtain ⟨v, hv, hk⟩ := h
        exact first_quiet hcl hnb hz h0 (Region.noSelect_spec hs) fuel listed a w hC hdc (fun j oj hj hne hl hm => (hfr j oj hj hne hl hm).1) hr (.inl ⟨hw, by simpa using hA, hv⟩) (hrec _ _ (.inl hC.set) hk)
    · simp only [hw] at h
      exact first_quiet (A := A) (v := undef) hcl hnb hz h0 (Region.noSelect_spec hs) fuel listed a w hC hdc (fun j oj hj hne hl hm => (hfr j oj hj hne hl hm).1) hr (.inr ⟨by simpa using hw, rfl⟩) (hrec _ _ (.inl hC.set) h)
theorem wp_region_D {id : Nat} {Q : Exit → Act → World → Prop} {a : Act} {w : World} (hm : P.follows .mixedOrders = true) (hB : drawB ops A Z = true) (hN : nowB ops (Region.before ops) A N = true) (hC : C w.drew)
    (h : wd P ops C A N w.drew Z (fun a' w' => Q .normal a' w') (List.range' 0 ops.size) a w.drew) : (Code.region id ops true).wp P Q a w := by
  simp only [drawB, Bool.and_eq_true] at hB
  have hz := ZB_spec hB.1.1.1
  have hdc : DC (Region.before ops) (Array.replicate ops.size false) := fun j k hj => by
    simp only [Array.getD_eq_getD_getElem?, Array.getElem?_replicate] at hj
    split at hj <;> simp at hj
  have hJ : J ops N w.drew C (Array.replicate ops.size false) w.drew := ⟨hC, .inl rfl⟩
  refine wp_region_any hm (wpAny_of_anyD (C := C) (A := A) (Z := Z) hB.1.2 hN hz (Q := fun a' w' => Q .normal a' w') (fun _ _ h => h) _ _ _ _ (.inl hJ) hdc ?_)
  exact anyD_lex hB.1.2 hN hz hB.1.1.2 ops.size 0 _ a _ (.inl hJ) hdc (by omega) hB.2 h
variable {f : FuncId} {R : Ending → World → Prop} {n : Nat}
def ON (P : Program) (f : FuncId) (R : Ending → World → Prop) (n : Nat) (C : World → Prop) (A N : Nat → Bool) (wI : World) (Z : Nat) (ops : Array Oper) (l : List Nat) (E : Env) (k : List Item) (w : World) : Prop :=
  ∀ a, Sat n E a → wd P ops C A N wI Z (fun a w => Run P f R k a w) l a w
theorem r_drawN (A N : Nat → Bool) (Z : Nat) (C : World → Prop) {id : Nat} {ops : Array Oper} {E : Env} {k : List Item} {w : World} (hm : P.follows .mixedOrders = true) (hB : drawB ops A Z = true) (hN : nowB ops (Region.before ops) A N = true)
    (h : ∀ w1, Ext w w1 → C w1 ∧ ON P f R n C A N w1 Z ops (List.range' 0 ops.size) E k w1) : RunE P f R n E (.code (.region id ops true) :: k) w :=
  fun a ha => run_code (wp_region_D (A := A) (N := N) (C := C) (Z := Z) hm hB hN (h w.drew (Mod.drew _ _)).1 (by
    have := (h w.drew (Mod.drew _ _)).2 a ha
    refine cast ?_ this
    congr
    funext a' w'
    simp))
theorem ON.nil {ops : Array Oper} {E : Env} {k : List Item} {w : World} (h : RunE P f R n E k w) : ON P f R n C A N wI Z ops [] E k w := fun a ha => h a ha
theorem ON.q {ops : Array Oper} {o : Oper} {i : Nat} {l : List Nat} {E : Env} {k : List Item} {w : World} {v : Value} (ho : ops[i]? = some o) (hA : A i = false) (hq : Q1 P o E (CC N wI C i) v)
    (hw : want n ops E o.guard = some true) (hd : dstOk n o.dst = true) (h : ON P f R n C A N wI Z ops l (pu o.dst v E) k w) : ON P f R n C A N wI Z ops (i :: l) E k w := by
  intro a ha
  simp only [wd, dOp, ho, want_spec ha hw, hA, if_true, Bool.false_eq_true, if_false]
  exact ⟨v, hq a ha.has, h _ (ha.put hd v)⟩
theorem ON.qn {ops : Array Oper} {o : Oper} {i : Nat} {l : List Nat} {E : Env} {k : List Item} {w : World} {v : Value} (ho : ops[i]? = some o) (hA : A i = false) (hN : N i = true) (hq : Q1 P o E (fun w' => w' = wI) v)
    (hw : want n ops E o.guard = some true) (hd : dstOk n o.dst = true) (h : ON P f R n C A N wI Z ops l (pu o.dst v E) k w) : ON P f R n C A N wI Z ops (i :: l) E k w :=
  ON.q ho hA (by have : CC N wI C i = fun w' => w' = wI := by funext w'; unfold CC; rw [if_pos hN]
                 rw [this]; exact hq) hw hd h
theorem ON.qc {ops : Array Oper} {o : Oper} {i : Nat} {l : List Nat} {E : Env} {k : List Item} {w : World} {v : Value} (ho : ops[i]? = some o) (hA : A i = false) (hN : N i = false) (hq : Q1 P o E C v)
    (hw : want n ops E o.guard = some true) (hd : dstOk n o.dst = true) (h : ON P f R n C A N wI Z ops l (pu o.dst v E) k w) : ON P f R n C A N wI Z ops (i :: l) E k w :=
  ON.q ho hA (by have : CC N wI C i = C := by funext w'; unfold CC; rw [if_neg (by rw [hN]; simp)]
                 rw [this]; exact hq) hw hd h
theorem ON.sk {ops : Array Oper} {o : Oper} {i : Nat} {l : List Nat} {E : Env} {k : List Item} {w : World} (ho : ops[i]? = some o)
    (hw : want n ops E o.guard = some false) (hd : dstOk n o.dst = true) (h : ON P f R n C A N wI Z ops l (pu o.dst undef E) k w) : ON P f R n C A N wI Z ops (i :: l) E k w := by
  intro a ha
  simp only [wd, dOp, ho, want_spec ha hw, Bool.false_eq_true, if_false]
  exact h _ (ha.put hd undef)
theorem ON.act {ops : Array Oper} {o : Oper} {i : Nat} {l : List Nat} {E : Env} {k : List Item} {w : World} (ho : ops[i]? = some o) (hA : A i = true)
    (hw : want n ops E o.guard = some true) (hd : dstOk n o.dst = true) (ha : AW P o E w (fun v w' => (i = Z ∨ C w') ∧ ON P f R n C A N wI Z ops l (pu o.dst v E) k w')) : ON P f R n C A N wI Z ops (i :: l) E k w := by
  intro a hs
  simp only [wd, dOp, ho, want_spec hs hw, hA, if_true]
  exact out_mono (fun v w' hv => ⟨hv.1, hv.2 _ (hs.put hd v)⟩) (ha a hs.has)
end
end Go.IkN
namespace Go.Ik
open Go Go.Ml
def qR {R : Nat → Prop} (qT plT : TypeId) (qb : Nat) (q : List AskM) : Res R := exR fun x : Value × Nat × List ((Int × Int) × AskM) => andR (QOk x.2.2 q) (boxR [bkR qb [x.1, .map (some x.2.1)] qT, accOR encPl plT 2 x.1 (q.map AskM.pl), mpR plV askV x.2.1 x.2.2])
theorem St.qI {R F0 : Nat → Prop} {w0 w : World} {L : List (Res R)} {qT plT : TypeId} {qb mb : Nat} {q : List AskM} {m : List ((Int × Int) × AskM)} {ov : Value} (h : St R F0 w0 w L) (i : Nat) (hi : L[i]? = some (boxR [bkR qb [ov, .map (some mb)] qT, accOR encPl plT 2 ov (q.map AskM.pl), mpR plV askV mb m])) (hq : QOk m q) : St R F0 w0 w (L.set i (qR qT plT qb q)) := h.imp hi fun F x => ⟨(ov, mb, m), hq, x⟩
end Go.Ik
namespace Go.Ml
open Go.Ik
/-- what stands while they are moved together -/
structure MovD {σ α : Type} (f : σ → α → σ × Bool) (s : σ) (l cur : List α) (i j : Nat) : Prop where
  len : cur.length = l.length
  ij : i ≤ j
  kept : cur.take i = kp f s (l.take j)
  rest : cur.drop j = l.drop j
theorem MovD.at {σ α : Type} {f : σ → α → σ × Bool} {s : σ} {l cur : List α} {i j : Nat} (h : MovD f s l cur i j) {x : α} (hx : cur[j]? = some x) : l[j]? = some x := by
  have h1 := congrArg (fun z : List α => z[0]?) h.rest
  simp only [List.getElem?_drop, Nat.add_zero] at h1
  rw [← h1]; exact hx
theorem MovD.off {σ α : Type} {f : σ → α → σ × Bool} {s : σ} {l cur : List α} {i j : Nat} (h : MovD f s l cur i j) {x : α} (hx : l[j]? = some x) (hb : (f (thr f s (l.take j)) x).2 = true) : MovD f s l cur i (j + 1) :=
  ⟨h.len, Nat.le_succ_of_le h.ij, by rw [kp_take hx, hb, h.kept]; simp, by rw [← List.drop_drop, h.rest, List.drop_drop]⟩
/-- a queue that is gone through -/
theorem newer_iff {x a : AskM} : newer x a = true ↔ x.query > a.query ∨ x.query = a.query ∧ x.seq > a.seq := by unfold newer; simp
theorem push_out {q : List AskM} {a : AskM} (h : ¬ (0 ≤ a.slot ∧ a.slot < 4 ∧ 0 ≤ a.shard ∧ a.shard < 6)) : pushB q a = false ∧ pushQ q a = q := by
  have : pushB q a = false := by unfold pushB inPl; rw [decide_eq_false h]; rfl
  exact ⟨this, by unfold pushQ; rw [this]; rfl⟩
theorem push_old {q : List AskM} {a x : AskM} (hx : atPl q a.pl = some x) (h : x.query > a.query ∨ x.query = a.query ∧ x.seq > a.seq) : pushB q a = false ∧ pushQ q a = q := by
  have : pushB q a = false := by unfold pushB; rw [hx]; simp only [newer_iff.2 h]; simp
  exact ⟨this, by unfold pushQ; rw [this]; rfl⟩
theorem push_put {q : List AskM} {a x : AskM} (hr : 0 ≤ a.slot ∧ a.slot < 4 ∧ 0 ≤ a.shard ∧ a.shard < 6) (hx : atPl q a.pl = some x) (h : ¬ (x.query > a.query ∨ x.query = a.query ∧ x.seq > a.seq)) : pushB q a = true ∧ pushQ q a = q.map fun x => if x.pl = a.pl then a else x := by
  have hn : newer x a = false := by unfold newer; exact decide_eq_false h
  have : pushB q a = true := by unfold pushB inPl; rw [hx, decide_eq_true hr]; simp [hn]
  exact ⟨this, by unfold pushQ; rw [if_pos this, hx]⟩
theorem push_add {q : List AskM} {a : AskM} (hr : 0 ≤ a.slot ∧ a.slot < 4 ∧ 0 ≤ a.shard ∧ a.shard < 6) (hx : atPl q a.pl = none) : pushB q a = true ∧ pushQ q a = q ++ [a] := by
  have : pushB q a = true := by unfold pushB inPl; rw [hx, decide_eq_true hr]; rfl
  exact ⟨this, by unfold pushQ; rw [if_pos this, hx]⟩
theorem snoc_take {α : Type} {l o : List α} {i : Nat} {x : α} (h : o = l.take i) (hx : l[i]? = some x) : o ++ [x] = l.take (i + 1) := by
  rw [h, List.take_add_one, hx]; rfl
end Go.Ml
namespace Go.Ml
open Go.Ik
def num31 (n : Int) : Bool := decide (0 ≤ n ∧ n ≤ 2147483647)
def nums31 (l : List Int) : Bool := l.all num31
def itemOk (x : Itm) : Bool := decide (0 ≤ x.dist ∧ x.dist ≤ 4) && word x.word
def placeOk (slot shard : Int) : Bool := decide (0 ≤ slot ∧ slot < 4 ∧ 0 ≤ shard ∧ shard < 6)
def noItm : Itm := ⟨0, []⟩
def afterOk (a : AskM) : Bool := if a.first = true then decide (a.after = noItm) else itemOk a.after
def mayAsk (a : AskM) : Bool := afterOk a && placeOk a.slot a.shard && nums31 [a.query, a.seq, a.epoch] && asked a.text && decide (0 ≤ a.k ∧ a.k ≤ 4 ∧ 1 ≤ a.batch ∧ a.batch ≤ 5)
theorem nums_no {l : List Int} {i : Nat} {x : Int} (hx : l[i]? = some x) (h : ¬ (0 ≤ x ∧ x ≤ 2147483647)) : false = nums31 l := by
  symm
  unfold nums31
  rw [List.all_eq_false]
  exact ⟨x, List.mem_of_getElem? hx, by unfold num31; simpa using h⟩
theorem nums_yes {l : List Int} {i : Nat} (h : ∀ z ∈ l.take i, 0 ≤ z ∧ z ≤ 2147483647) (hi : l.length ≤ i) : true = nums31 l := by
  symm
  rw [List.take_of_length_le hi] at h
  unfold nums31
  rw [List.all_eq_true]
  intro z hz
  exact decide_eq_true (h z hz)
theorem nums_step {l : List Int} {i : Nat} {x : Int} (h : ∀ z ∈ l.take i, 0 ≤ z ∧ z ≤ 2147483647) (hx : l[i]? = some x) (h2 : 0 ≤ x ∧ x ≤ 2147483647) : ∀ z ∈ l.take (i + 1), 0 ≤ z ∧ z ≤ 2147483647 := by
  intro z hz
  rw [List.take_add_one, hx] at hz
  simp only [Option.toList_some, List.mem_append, List.mem_singleton] at hz
  rcases hz with hz | rfl
  · exact h z hz
  · exact h2
theorem item_no {x : Itm} (h : ¬ (0 ≤ x.dist ∧ x.dist ≤ 4)) : false = itemOk x := by unfold itemOk; rw [decide_eq_false h]; rfl
theorem item_yes {x : Itm} {b : Bool} (h : 0 ≤ x.dist ∧ x.dist ≤ 4) (hb : b = word x.word) : b = itemOk x := by unfold itemOk; rw [decide_eq_true h, hb]; rfl
theorem place_dec {slot shard : Int} {b : Bool} {p : Prop} [Decidable p] (hb : b = decide p) (h : p ↔ (0 ≤ slot ∧ slot < 4 ∧ 0 ≤ shard ∧ shard < 6)) : b = placeOk slot shard := by
  unfold placeOk; rw [hb]; exact decide_eq_decide.2 h
theorem place_no {slot shard : Int} (h : ¬ (0 ≤ slot ∧ slot < 4 ∧ 0 ≤ shard ∧ shard < 6)) : false = placeOk slot shard := (decide_eq_false h).symm
theorem after_yes {a : AskM} {b : Bool} (h : a.first = true) (hb : b = decide (a.after = noItm)) : b = afterOk a := by unfold afterOk; rw [if_pos h]; exact hb
theorem after_no {a : AskM} {b : Bool} (h : a.first = false) (hb : b = itemOk a.after) : b = afterOk a := by unfold afterOk; rw [h]; exact hb
theorem ask_1 {a : AskM} (h : afterOk a = false) : false = mayAsk a := by unfold mayAsk; rw [h]; rfl
theorem ask_2 {a : AskM} (h : placeOk a.slot a.shard = false) : false = mayAsk a := by unfold mayAsk; rw [h]; simp
theorem ask_3 {a : AskM} (h : nums31 [a.query, a.seq, a.epoch] = false) : false = mayAsk a := by unfold mayAsk; rw [h]; simp
theorem ask_4 {a : AskM} (h : asked a.text = false) : false = mayAsk a := by unfold mayAsk; rw [h]; simp
theorem ask_5 {a : AskM} (h : ¬ (0 ≤ a.k ∧ a.k ≤ 4 ∧ 1 ≤ a.batch ∧ a.batch ≤ 5)) : false = mayAsk a := by unfold mayAsk; rw [decide_eq_false h]; simp
theorem ask_y {a : AskM} {b : Bool} (h1 : afterOk a = true) (h2 : placeOk a.slot a.shard = true) (h3 : nums31 [a.query, a.seq, a.epoch] = true) (h4 : asked a.text = true) (h5 : 0 ≤ a.k ∧ a.k ≤ 4 ∧ 1 ≤ a.batch) (hb : b = decide (a.batch ≤ 5)) : b = mayAsk a := by
  unfold mayAsk
  rw [h1, h2, h3, h4, hb]
  simp only [Bool.true_and]
  exact decide_eq_decide.2 (by omega)
end Go.Ml
namespace Go.Ik
open Go
def lk2 : Nat → Env → Option Value
  | _, [] => none
  | i, (j, v) :: r => match Nat.beq i j with
    | true => some v
    | false => lk2 i r
theorem lk2_eq : ∀ (i : Nat) (E : Env), lk2 i E = lk i E
  | _, [] => rfl
  | i, (j, v) :: r => by
    unfold lk2 lk
    simp only
    cases Nat.beq i j with
    | true => rfl
    | false => exact lk2_eq i r
def ev2 (E : Env) : Operand → Option Value
  | .tmp t => lk2 t E
  | .const v => some v
  | .global g => some (.pointer (some ⟨g, 0, none⟩))
  | .func f => some (.func (.func f) #[] #[])
theorem ev2_eq (E : Env) (x : Operand) : ev2 E x = ev E x := by
  cases x with
  | tmp t => exact lk2_eq t E
  | _ => rfl
def want2 (n : Nat) (ops : Array Oper) (E : Env) : Option (Nat × Bool) → Option Bool
  | none => some true
  | some (j, b) => match (ops[j]?).bind (·.dst) with
    | some d => match lk2 d E with
      | some (.bool c) => match Nat.blt d n with
        | true => some (c == b)
        | false => none
      | some (.tuple _) => some false
      | _ => none
    | none => none
theorem want2_eq (n : Nat) (ops : Array Oper) (E : Env) (g : Option (Nat × Bool)) : want2 n ops E g = want n ops E g := by
  unfold want2 want
  simp only [lk2_eq]
  rfl
/-- a quiet operation's value -/
def qv (E : Env) : Op → Option Value
  | .move x => ev2 E x
  | .assign x => ev2 E x
  | .pick c x y => match ev2 E c with
    | some (.bool true) => ev2 E x
    | some (.bool false) => ev2 E y
    | _ => none
  | .extract x i => match ev2 E x with
    | some (.tuple vs) => vs[i]?
    | _ => none
  | .nilCheck x => match ev2 E x with
    | some (.pointer (some ⟨b, o, none⟩)) => some (.pointer (some ⟨b, o, none⟩))
    | _ => none
  | _ => none
inductive GP where
  | it (k : List Item)
  | op (ops : Array Oper) (l : List Oper) (k : List Item)
def go (n : Nat) : Nat → GP → Env → Option (GP × Env)
  | 0, p, E => some (p, E)
  | m + 1, .it (.code (.seq x y) :: k), E => go n m (.it (.code x :: .code y :: k)) E
  | m + 1, .it (.code .skip :: k), E => go n m (.it k) E
  | m + 1, .it (.code (.block id c) :: k), E => go n m (.it (.code c :: .inBlock id :: k)) E
  | m + 1, .it (.inBlock _ :: k), E => go n m (.it k) E
  | m + 1, .it (.code (.exit id) :: k), E => match exitTo id k with
    | some k' => go n m (.it k') E
    | none => none
  | m + 1, .it (.code (.cond c x y) :: k), E => match ev2 E c with
    | some (.bool true) => go n m (.it (.code x :: k)) E
    | some (.bool false) => go n m (.it (.code y :: k)) E
    | _ => none
  | m + 1, .it (.code (.region _ ops false) :: k), E => go n m (.op ops ops.toList k) E
  | m + 1, .op _ [] k, E => go n m (.it k) E
  | m + 1, .op ops (o :: l) k, E => match dstOk n o.dst with
    | true => match want2 n ops E o.guard with
      | some true => match qv E o.op with
        | some v => match o.dst with
          | some d => go n m (.op ops l k) ((d, v) :: E)
          | none => go n m (.op ops l k) E
        | none => none
      | some false => match o.dst with
        | some d => go n m (.op ops l k) ((d, undef) :: E)
        | none => go n m (.op ops l k) E
      | none => none
    | false => none
  | _ + 1, _, _ => none
section
variable {P : Program} {f : FuncId} {R : Ending → World → Prop} {n : Nat} {w : World}
def GP.h (P : Program) (f : FuncId) (R : Ending → World → Prop) (n : Nat) (w : World) : GP → Env → Prop
  | .it k, E => RunE P f R n E k w
  | .op ops l k, E => OL P f R n ops l E k w
theorem qv_ok {E : Env} {C : World → Prop} {o : Oper} {v : Value} (h : qv E o.op = some v) : Q1 P o E C v := by
  obtain ⟨d, op, ty, pos, af, gd⟩ := o
  cases op with
  | move x => simp only [qv, ev2_eq] at h; exact Q1.move h
  | assign x => simp only [qv, ev2_eq] at h; exact Q1.assign h
  | pick c x y =>
    simp only [qv, ev2_eq] at h
    split at h
    · rename_i hc; exact Q1.pick_t hc h
    · rename_i hc; exact Q1.pick_f hc h
    · cases h
  | extract x i =>
    simp only [qv, ev2_eq] at h
    split at h
    · rename_i hx; exact Q1.extract hx h
    · cases h
  | nilCheck x =>
    simp only [qv, ev2_eq] at h
    split at h
    · rename_i hx; cases h; exact Q1.nilCheckP hx
    · cases h
  | _ => simp [qv] at h
theorem go_ok : ∀ (m : Nat) (p : GP) (E : Env) {p' : GP} {E' : Env}, go n m p E = some (p', E') → GP.h P f R n w p' E' → GP.h P f R n w p E := by
  intro m
  induction m with
  | zero =>
    intro p E p' E' h h2
    simp only [go, Option.some.injEq, Prod.mk.injEq] at h
    obtain ⟨rfl, rfl⟩ := h
    exact h2
  | succ m ih =>
    intro p E p' E' h h2
    cases p with
    | it k =>
      cases k with
      | nil => simp [go] at h
      | cons x k =>
        cases x with
        | code c =>
          cases c with
          | seq x y => exact r_seq (ih _ _ h h2)
          | skip => exact r_skip (ih _ _ h h2)
          | block id c => exact r_block (ih _ _ h h2)
          | exit id =>
            unfold go at h
            split at h
            · rename_i hk; exact r_exit hk (ih _ _ h h2)
            · cases h
          | cond c x y =>
            unfold go at h
            split at h
            · rename_i hc; rw [ev2_eq] at hc; exact r_cond_t hc (ih _ _ h h2)
            · rename_i hc; rw [ev2_eq] at hc; exact r_cond_f hc (ih _ _ h h2)
            · cases h
          | region id ops dr =>
            cases dr with
            | true => simp [go] at h
            | false =>
              have h3 : OL P f R n ops ops.toList E k w := ih _ _ h h2
              have h4 := r_region (id := id) (l := ops.toList) h3
              rwa [Array.toArray_toList] at h4
          | _ => simp [go] at h
        | inBlock id => exact r_inBlock (ih _ _ h h2)
        | _ => simp [go] at h
    | op ops l k =>
      cases l with
      | nil => exact OL.nil (ih _ _ h h2)
      | cons o l =>
        unfold go at h
        split at h
        · rename_i hd
          split at h
          · rename_i hw
            rw [want2_eq] at hw
            split at h
            · rename_i v hv
              split at h
              · rename_i d hdd
                refine OL.q (qv_ok hv) hw hd ?_
                rw [hdd]
                exact ih _ _ h h2
              · rename_i hdd
                refine OL.q (qv_ok hv) hw hd ?_
                rw [hdd]
                exact ih _ _ h h2
            · cases h
          · rename_i hw
            rw [want2_eq] at hw
            split at h
            · rename_i d hdd
              refine OL.sk hw hd ?_
              rw [hdd]
              exact ih _ _ h h2
            · rename_i hdd
              refine OL.sk hw hd ?_
              rw [hdd]
              exact ih _ _ h h2
          · cases h
        · cases h
theorem RunE.gi {E E' : Env} {k k' : List Item} (m : Nat) (h : Ik.go n m (.it k) E = some (.it k', E')) (h2 : RunE P f R n E' k' w) : RunE P f R n E k w := go_ok m (.it k) E h h2
theorem RunE.go {E E' : Env} {k k' : List Item} {ops : Array Oper} {l : List Oper} (m : Nat) (h : Ik.go n m (.it k) E = some (.op ops l k', E')) (h2 : OL P f R n ops l E' k' w) : RunE P f R n E k w := go_ok m (.it k) E h h2
theorem OL.gi {E E' : Env} {k k' : List Item} {ops : Array Oper} {l : List Oper} (m : Nat) (h : Ik.go n m (.op ops l k) E = some (.it k', E')) (h2 : RunE P f R n E' k' w) : OL P f R n ops l E k w := go_ok m (.op ops l k) E h h2
theorem OL.go {E E' : Env} {k k' : List Item} {ops ops' : Array Oper} {l l' : List Oper} (m : Nat) (h : Ik.go n m (.op ops l k) E = some (.op ops' l' k', E')) (h2 : OL P f R n ops' l' E' k' w) : OL P f R n ops l E k w := go_ok m (.op ops l k) E h h2
end
end Go.Ik
set_option linter.unusedSectionVars false
namespace Go.Ik
open Go
section
variable {P : Program} {f : FuncId} {R : Ending → World → Prop} {n : Nat}
theorem OL.z {ops : Array Oper} {o : Oper} {l : List Oper} {E : Env} {k : List Item} {w : World} {v : Value} (hq : Q1 P o E (fun w' => w' = w) v) (h : OL P f R n ops l (pu o.dst v E) k w)
    (hw : want n ops E o.guard = some true := by exact rfl) (hd : dstOk n o.dst = true := by exact rfl) : OL P f R n ops (o :: l) E k w := OL.q hq hw hd h
theorem OL.zb {ops : Array Oper} {o : Oper} {l : List Oper} {E : Env} {k : List Item} {w : World} {c : Bool} (hq : Q1 P o E (fun w' => w' = w) (.bool c)) (h : ∀ b, b = c → OL P f R n ops l (pu o.dst (.bool b) E) k w)
    (hw : want n ops E o.guard = some true := by exact rfl) (hd : dstOk n o.dst = true := by exact rfl) : OL P f R n ops (o :: l) E k w := OL.qb hq hw hd h
theorem OL.ac {ops : Array Oper} {o : Oper} {l : List Oper} {E : Env} {k : List Item} {w : World} (ha : AW P o E w (fun v w' => OL P f R n ops l (pu o.dst v E) k w'))
    (hw : want n ops E o.guard = some true := by exact rfl) (hd : dstOk n o.dst = true := by exact rfl) : OL P f R n ops (o :: l) E k w := OL.act hw hd ha
theorem Q1.l1 {E : Env} {d : Option Tmp} {ty : TypeId} {pos : String} {af : Array Edge} {gd : Option (Nat × Bool)} {w : World} {t : TypeId} {x : Operand} {b off m by_ : Nat} {z cs : List Value} {v : Value} {e : TypeId} (ht : tyI P t = some (false, m, by_, z)) (hb : Bk w b cs e)
    (hx : ev E x = some (ptr b off) := by exact rfl) (hc : cs[off]? = some v := by exact rfl) : Q1 P ⟨d, .load t x, ty, pos, af, gd⟩ E (fun w' => w' = w) v := Q1.load1 ht hx fun _ e => e ▸ hb.cell off _ hc
theorem Q1.lr {E : Env} {d : Option Tmp} {ty : TypeId} {pos : String} {af : Array Edge} {gd : Option (Nat × Bool)} {w : World} {t : TypeId} {x : Operand} {b off m by_ : Nat} {z : List Value} {v : Value} (ht : tyI P t = some (false, m, by_, z)) (hr : Row w b off [v])
    (hx : ev E x = some (ptr b off) := by exact rfl) : Q1 P ⟨d, .load t x, ty, pos, af, gd⟩ E (fun w' => w' = w) v := Q1.load1 ht hx fun _ e => e ▸ hr
theorem dt {p : Prop} [Decidable p] (h : true = decide p) : p := of_decide_eq_true h.symm
theorem df {p : Prop} [Decidable p] (h : false = decide p) : ¬ p := of_decide_eq_false h.symm
end
section
variable {R F0 : Nat → Prop} {w0 w w' : World} {L : List (Res R)} {i : Nat} {A : Res R}
/-- some, and others as one behind them -/
theorem St.bx (is js : List Nat) (h : St R F0 w0 w L) (hl : ((is ++ js).all fun i => decide (i < L.length)) = true) (hn : (is ++ js).Nodup) : St R F0 w0 w ((is.filterMap fun i => L[i]?) ++ [boxR (js.filterMap fun i => L[i]?)]) := by
  have h1 := h.sel (is ++ js) hl hn
  rw [List.filterMap_append] at h1
  exact h1.close
/-- one laid open, its parts last -/
theorem St.un (i : Nat) (h : St R F0 w0 w L) {L2 : List (Res R)} (hi : L[i]? = some (boxR L2)) (is : List Nat) (hl : ((is ++ [i]).all fun i => decide (i < L.length)) = true) (hn : (is ++ [i]).Nodup) : St R F0 w0 w ((is.filterMap fun i => L[i]?) ++ L2) := by
  have h1 := h.sel (is ++ [i]) hl hn
  rw [List.filterMap_append, List.filterMap_cons, hi] at h1
  exact h1.open
/-- one of them at the end -/
theorem St.finI (h : St R F0 w0 w L) (i : Nat) (hi : L[i]? = some A) : Mod F0 w0 w ∧ ∃ F', A.p F' w ∧ ∀ b, F' b → b < w.heap.size ∧ (F0 b ∨ w0.heap.size ≤ b) := by
  obtain ⟨F, h1, h2, _⟩ := h.act hi
  exact ⟨h.mod, F, h1, fun b hb => ⟨(h2 b hb).2, (h2 b hb).1.1⟩⟩
/-- handed back, one thing held -/
theorem St.rt {v v' : Value} (h : St R F0 w0 w L) (i : Nat) (hi : L[i]? = some A) (hv : v = v') : Ret (fun rv w1 => rv = v' ∧ Mod F0 w0 w1 ∧ ∃ F2, A.p F2 w1 ∧ ∀ b, F2 b → b < w1.heap.size ∧ (F0 b ∨ w0.heap.size ≤ b)) (.returned v) w := by
  obtain ⟨h1, F, h2, h3⟩ := h.finI i hi
  exact ⟨v, rfl, hv, h1, F, h2, h3⟩
/-- as another one that it is, too -/
theorem St.ty (A' : Res R) (i : Nat) (h : St R F0 w0 w L) (hi : L[i]? = some A) (hA : ∀ F, A.p F w → A'.p F w) : St R F0 w0 w (L.set i A') := h.imp hi hA
end
section
variable {R F0 : Nat → Prop} {w0 w : World} {L : List (Res R)}
theorem St.n0 (h : St R F0 w0 w L) (hL : L = [] := by exact rfl) : St R F0 w0 w [] := hL ▸ h
theorem St.n1 {A0 : Res R} (h : St R F0 w0 w L) (hL : L = [A0] := by exact rfl) : St R F0 w0 w [A0] := hL ▸ h
theorem St.n2 {A0 A1 : Res R} (h : St R F0 w0 w L) (hL : L = [A0, A1] := by exact rfl) : St R F0 w0 w [A0, A1] := hL ▸ h
theorem St.n3 {A0 A1 A2 : Res R} (h : St R F0 w0 w L) (hL : L = [A0, A1, A2] := by exact rfl) : St R F0 w0 w [A0, A1, A2] := hL ▸ h
theorem St.n4 {A0 A1 A2 A3 : Res R} (h : St R F0 w0 w L) (hL : L = [A0, A1, A2, A3] := by exact rfl) : St R F0 w0 w [A0, A1, A2, A3] := hL ▸ h
theorem St.n5 {A0 A1 A2 A3 A4 : Res R} (h : St R F0 w0 w L) (hL : L = [A0, A1, A2, A3, A4] := by exact rfl) : St R F0 w0 w [A0, A1, A2, A3, A4] := hL ▸ h
theorem St.n6 {A0 A1 A2 A3 A4 A5 : Res R} (h : St R F0 w0 w L) (hL : L = [A0, A1, A2, A3, A4, A5] := by exact rfl) : St R F0 w0 w [A0, A1, A2, A3, A4, A5] := hL ▸ h
theorem St.n7 {A0 A1 A2 A3 A4 A5 A6 : Res R} (h : St R F0 w0 w L) (hL : L = [A0, A1, A2, A3, A4, A5, A6] := by exact rfl) : St R F0 w0 w [A0, A1, A2, A3, A4, A5, A6] := hL ▸ h
theorem St.n8 {A0 A1 A2 A3 A4 A5 A6 A7 : Res R} (h : St R F0 w0 w L) (hL : L = [A0, A1, A2, A3, A4, A5, A6, A7] := by exact rfl) : St R F0 w0 w [A0, A1, A2, A3, A4, A5, A6, A7] := hL ▸ h
theorem St.n9 {A0 A1 A2 A3 A4 A5 A6 A7 A8 : Res R} (h : St R F0 w0 w L) (hL : L = [A0, A1, A2, A3, A4, A5, A6, A7, A8] := by exact rfl) : St R F0 w0 w [A0, A1, A2, A3, A4, A5, A6, A7, A8] := hL ▸ h
theorem St.n10 {A0 A1 A2 A3 A4 A5 A6 A7 A8 A9 : Res R} (h : St R F0 w0 w L) (hL : L = [A0, A1, A2, A3, A4, A5, A6, A7, A8, A9] := by exact rfl) : St R F0 w0 w [A0, A1, A2, A3, A4, A5, A6, A7, A8, A9] := hL ▸ h
end
section
variable {R F0 : Nat → Prop} {w0 w : World} {L : List (Res R)}
theorem St.b1 {A0 : Res R} (h : St R F0 w0 w L) (is : List Nat) (j0 : Nat) (hl : ((is ++ [j0]).all fun i => decide (i < L.length)) = true) (hn : (is ++ [j0]).Nodup) (h0 : L[j0]? = some A0 := by exact rfl) : St R F0 w0 w ((is.filterMap fun i => L[i]?) ++ [boxR [A0]]) := by
  have hx := h.bx is [j0] hl hn
  simp only [List.filterMap_cons, List.filterMap_nil, h0] at hx
  exact hx
theorem St.b2 {A0 A1 : Res R} (h : St R F0 w0 w L) (is : List Nat) (j0 j1 : Nat) (hl : ((is ++ [j0, j1]).all fun i => decide (i < L.length)) = true) (hn : (is ++ [j0, j1]).Nodup) (h0 : L[j0]? = some A0 := by exact rfl) (h1 : L[j1]? = some A1 := by exact rfl) : St R F0 w0 w ((is.filterMap fun i => L[i]?) ++ [boxR [A0, A1]]) := by
  have hx := h.bx is [j0, j1] hl hn
  simp only [List.filterMap_cons, List.filterMap_nil, h0, h1] at hx
  exact hx
theorem St.b3 {A0 A1 A2 : Res R} (h : St R F0 w0 w L) (is : List Nat) (j0 j1 j2 : Nat) (hl : ((is ++ [j0, j1, j2]).all fun i => decide (i < L.length)) = true) (hn : (is ++ [j0, j1, j2]).Nodup) (h0 : L[j0]? = some A0 := by exact rfl) (h1 : L[j1]? = some A1 := by exact rfl) (h2 : L[j2]? = some A2 := by exact rfl) : St R F0 w0 w ((is.filterMap fun i => L[i]?) ++ [boxR [A0, A1, A2]]) := by
  have hx := h.bx is [j0, j1, j2] hl hn
  simp only [List.filterMap_cons, List.filterMap_nil, h0, h1, h2] at hx
  exact hx
theorem St.b4 {A0 A1 A2 A3 : Res R} (h : St R F0 w0 w L) (is : List Nat) (j0 j1 j2 j3 : Nat) (hl : ((is ++ [j0, j1, j2, j3]).all fun i => decide (i < L.length)) = true) (hn : (is ++ [j0, j1, j2, j3]).Nodup) (h0 : L[j0]? = some A0 := by exact rfl) (h1 : L[j1]? = some A1 := by exact rfl) (h2 : L[j2]? = some A2 := by exact rfl) (h3 : L[j3]? = some A3 := by exact rfl) : St R F0 w0 w ((is.filterMap fun i => L[i]?) ++ [boxR [A0, A1, A2, A3]]) := by
  have hx := h.bx is [j0, j1, j2, j3] hl hn
  simp only [List.filterMap_cons, List.filterMap_nil, h0, h1, h2, h3] at hx
  exact hx
theorem St.b5 {A0 A1 A2 A3 A4 : Res R} (h : St R F0 w0 w L) (is : List Nat) (j0 j1 j2 j3 j4 : Nat) (hl : ((is ++ [j0, j1, j2, j3, j4]).all fun i => decide (i < L.length)) = true) (hn : (is ++ [j0, j1, j2, j3, j4]).Nodup) (h0 : L[j0]? = some A0 := by exact rfl) (h1 : L[j1]? = some A1 := by exact rfl) (h2 : L[j2]? = some A2 := by exact rfl) (h3 : L[j3]? = some A3 := by exact rfl) (h4 : L[j4]? = some A4 := by exact rfl) : St R F0 w0 w ((is.filterMap fun i => L[i]?) ++ [boxR [A0, A1, A2, A3, A4]]) := by
  have hx := h.bx is [j0, j1, j2, j3, j4] hl hn
  simp only [List.filterMap_cons, List.filterMap_nil, h0, h1, h2, h3, h4] at hx
  exact hx
theorem St.b6 {A0 A1 A2 A3 A4 A5 : Res R} (h : St R F0 w0 w L) (is : List Nat) (j0 j1 j2 j3 j4 j5 : Nat) (hl : ((is ++ [j0, j1, j2, j3, j4, j5]).all fun i => decide (i < L.length)) = true) (hn : (is ++ [j0, j1, j2, j3, j4, j5]).Nodup) (h0 : L[j0]? = some A0 := by exact rfl) (h1 : L[j1]? = some A1 := by exact rfl) (h2 : L[j2]? = some A2 := by exact rfl) (h3 : L[j3]? = some A3 := by exact rfl) (h4 : L[j4]? = some A4 := by exact rfl) (h5 : L[j5]? = some A5 := by exact rfl) : St R F0 w0 w ((is.filterMap fun i => L[i]?) ++ [boxR [A0, A1, A2, A3, A4, A5]]) := by
  have hx := h.bx is [j0, j1, j2, j3, j4, j5] hl hn
  simp only [List.filterMap_cons, List.filterMap_nil, h0, h1, h2, h3, h4, h5] at hx
  exact hx
end
end Go.Ik
namespace Go.Ik
open Go
def gd (n : Nat) (A : Nat → Bool) (ops : Array Oper) : Nat → List Nat → Env → Option (List Nat × Env)
  | 0, l, E => some (l, E)
  | m + 1, i :: l, E => match ops[i]? with
    | some o => match dstOk n o.dst with
      | true => match want2 n ops E o.guard with
        | some true => match A i with
          | false => match qv E o.op with
            | some v => match o.dst with
              | some d => gd n A ops m l ((d, v) :: E)
              | none => gd n A ops m l E
            | none => none
          | true => none
        | some false => match o.dst with
          | some d => gd n A ops m l ((d, undef) :: E)
          | none => gd n A ops m l E
        | none => none
      | false => none
    | none => none
  | _ + 1, [], _ => none
section
variable {P : Program} {f : FuncId} {R : Ending → World → Prop} {n : Nat} {C : World → Prop} {A : Nat → Bool} {Z : Nat} {w : World}
theorem OD.gd {ops : Array Oper} {k : List Item} (m : Nat) {l l' : List Nat} {E E' : Env} (h : Ik.gd n A ops m l E = some (l', E')) (h2 : OD P f R n C A Z ops l' E' k w) : OD P f R n C A Z ops l E k w := by
  induction m generalizing l E with
  | zero =>
    simp only [Ik.gd, Option.some.injEq, Prod.mk.injEq] at h
    obtain ⟨rfl, rfl⟩ := h
    exact h2
  | succ m ih =>
    cases l with
    | nil => simp [Ik.gd] at h
    | cons i l =>
      unfold Ik.gd at h
      split at h
      · rename_i o ho
        split at h
        · rename_i hd
          split at h
          · rename_i hw
            rw [want2_eq] at hw
            split at h
            · rename_i hA
              split at h
              · rename_i v hv
                refine OD.q ho hA (qv_ok hv) hw hd ?_
                split at h
                · rename_i d hdd; rw [hdd]; exact ih h
                · rename_i hdd; rw [hdd]; exact ih h
              · cases h
            · cases h
          · rename_i hw
            rw [want2_eq] at hw
            refine OD.sk ho hw hd ?_
            split at h
            · rename_i d hdd; rw [hdd]; exact ih h
            · rename_i hdd; rw [hdd]; exact ih h
          · cases h
        · cases h
      · cases h
theorem OD.z {ops : Array Oper} {o : Oper} {i : Nat} {l : List Nat} {E : Env} {k : List Item} {v : Value} (ho : ops[i]? = some o) (hq : Q1 P o E C v) (h : OD P f R n C A Z ops l (pu o.dst v E) k w)
    (hA : A i = false := by exact rfl) (hw : want n ops E o.guard = some true := by exact rfl) (hd : dstOk n o.dst = true := by exact rfl) : OD P f R n C A Z ops (i :: l) E k w := OD.q ho hA hq hw hd h
theorem OD.zb {ops : Array Oper} {o : Oper} {i : Nat} {l : List Nat} {E : Env} {k : List Item} {c : Bool} (ho : ops[i]? = some o) (hq : Q1 P o E C (.bool c)) (h : ∀ b, b = c → OD P f R n C A Z ops l (pu o.dst (.bool b) E) k w)
    (hA : A i = false := by exact rfl) (hw : want n ops E o.guard = some true := by exact rfl) (hd : dstOk n o.dst = true := by exact rfl) : OD P f R n C A Z ops (i :: l) E k w := OD.qb ho hA hq hw hd h
theorem OD.ac {ops : Array Oper} {o : Oper} {i : Nat} {l : List Nat} {E : Env} {k : List Item} (ho : ops[i]? = some o) (ha : AW P o E w (fun v w' => (i = Z ∨ C w') ∧ OD P f R n C A Z ops l (pu o.dst v E) k w'))
    (hA : A i = true := by exact rfl) (hw : want n ops E o.guard = some true := by exact rfl) (hd : dstOk n o.dst = true := by exact rfl) : OD P f R n C A Z ops (i :: l) E k w := OD.act ho hA hw hd ha
end
end Go.Ik
namespace Go.IkN
open Go Go.Ik
section
variable {P : Program} {f : FuncId} {R : Ending → World → Prop} {n : Nat} {C : World → Prop} {A N : Nat → Bool} {Z : Nat} {w wI : World}
theorem ON.gd {ops : Array Oper} {k : List Item} (m : Nat) {l l' : List Nat} {E E' : Env} (h : Ik.gd n A ops m l E = some (l', E')) (h2 : ON P f R n C A N wI Z ops l' E' k w) : ON P f R n C A N wI Z ops l E k w := by
  induction m generalizing l E with
  | zero =>
    simp only [Ik.gd, Option.some.injEq, Prod.mk.injEq] at h
    obtain ⟨rfl, rfl⟩ := h
    exact h2
  | succ m ih =>
    cases l with
    | nil => simp [Ik.gd] at h
    | cons i l =>
      unfold Ik.gd at h
      split at h
      · rename_i o ho
        split at h
        · rename_i hd
          split at h
          · rename_i hw
            rw [want2_eq] at hw
            split at h
            · rename_i hA
              split at h
              · rename_i v hv
                refine ON.q ho hA (qv_ok hv) hw hd ?_
                split at h
                · rename_i d hdd; rw [hdd]; exact ih h
                · rename_i hdd; rw [hdd]; exact ih h
              · cases h
            · cases h
          · rename_i hw
            rw [want2_eq] at hw
            refine ON.sk ho hw hd ?_
            split at h
            · rename_i d hdd; rw [hdd]; exact ih h
            · rename_i hdd; rw [hdd]; exact ih h
          · cases h
        · cases h
      · cases h
theorem ON.zn {ops : Array Oper} {o : Oper} {i : Nat} {l : List Nat} {E : Env} {k : List Item} {v : Value} (ho : ops[i]? = some o) (hq : Q1 P o E (fun w' => w' = wI) v) (h : ON P f R n C A N wI Z ops l (pu o.dst v E) k w)
    (hA : A i = false := by exact rfl) (hN : N i = true := by exact rfl) (hw : want n ops E o.guard = some true := by exact rfl) (hd : dstOk n o.dst = true := by exact rfl) : ON P f R n C A N wI Z ops (i :: l) E k w := ON.qn ho hA hN hq hw hd h
theorem ON.zc {ops : Array Oper} {o : Oper} {i : Nat} {l : List Nat} {E : Env} {k : List Item} {v : Value} (ho : ops[i]? = some o) (hq : Q1 P o E C v) (h : ON P f R n C A N wI Z ops l (pu o.dst v E) k w)
    (hA : A i = false := by exact rfl) (hN : N i = false := by exact rfl) (hw : want n ops E o.guard = some true := by exact rfl) (hd : dstOk n o.dst = true := by exact rfl) : ON P f R n C A N wI Z ops (i :: l) E k w := ON.qc ho hA hN hq hw hd h
theorem ON.ac {ops : Array Oper} {o : Oper} {i : Nat} {l : List Nat} {E : Env} {k : List Item} (ho : ops[i]? = some o) (ha : AW P o E w (fun v w' => (i = Z ∨ C w') ∧ ON P f R n C A N wI Z ops l (pu o.dst v E) k w'))
    (hA : A i = true := by exact rfl) (hw : want n ops E o.guard = some true := by exact rfl) (hd : dstOk n o.dst = true := by exact rfl) : ON P f R n C A N wI Z ops (i :: l) E k w := ON.act ho hA hw hd ha
end
end Go.IkN
namespace Go.Ik
theorem oa {p : Prop} (h : p := by first | omega | assumption) : p := h
theorem ao {p : Prop} (h : p := by first | assumption | omega) : p := h
theorem ol {p : Prop} (h : p := by first | omega | (simp only [List.length_append, List.length_cons, List.length_nil]; omega) | (simp; omega)) : p := h
theorem ox {p : Prop} (h : p := by unfold maxLen; first | omega | (simp only [List.length_append, List.length_cons, List.length_nil]; omega) | (simp; omega)) : p := h
end Go.Ik
