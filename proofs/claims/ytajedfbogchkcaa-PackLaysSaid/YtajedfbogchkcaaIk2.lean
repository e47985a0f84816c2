/-
  A region that draws its order: quiet operations (one value in every world of a class) beside operations that act, where the acting ones are ordered among themselves: the text's order serves for all.
-/
import Derived.Test.YtajedfbogchkcaaIk1
set_option linter.unusedVariables false
set_option linter.unusedSimpArgs false
namespace Go.Ik
open Go

section
variable {P : Program} {ops : Array Oper} {C : World → Prop} {A : Nat → Bool} {Z : Nat}

/-- operation 'i' comes up -/
def dOp (P : Program) (ops : Array Oper) (C : World → Prop) (A : Nat → Bool) (Z : Nat) (i : Nat) (K : Act → World → Prop) (a : Act) (w : World) : Prop :=
  match ops[i]? with
  | none => K a w
  | some o =>
    if Region.wanted o (yielded ops a.tmps) = true then
      if A i = true then out P (fun v w' => (i = Z ∨ C w') ∧ K (a.put o.dst v) w') ((execOp a.eval o).run P w)
      else ∃ v, (∀ w', C w' → (execOp a.eval o).run P w' = .ok (.value v) w') ∧ K (a.put o.dst v) w
    else K (a.put o.dst undef) w

def wd (P : Program) (ops : Array Oper) (C : World → Prop) (A : Nat → Bool) (Z : Nat) (Q : Act → World → Prop) : List Nat → Act → World → Prop
  | [], a, w => Q a w
  | i :: r, a, w => dOp P ops C A Z i (wd P ops C A Z Q r) a w

/-- whatever order is picked -/
def anyD (P : Program) (ops : Array Oper) (C : World → Prop) (A : Nat → Bool) (Z : Nat) (Q : Act → World → Prop) : Nat → Array Bool → Act → World → Prop
  | 0, listed, a, w => Region.ready .any ops listed = [] ∧ Q a w
  | fuel + 1, listed, a, w =>
    (Region.ready .any ops listed = [] → Q a w) ∧
    ∀ i ∈ Region.ready .any ops listed, dOp P ops C A Z i (anyD P ops C A Z Q fuel (listed.setIfInBounds i true)) a w

/-- quiet 'i' in state 'a' yields 'v' in every world of the class -/
def Yl (P : Program) (ops : Array Oper) (C : World → Prop) (A : Nat → Bool) (i : Nat) (o : Oper) (v : Value) (a : Act) : Prop :=
  (Region.wanted o (yielded ops a.tmps) = true ∧ A i = false ∧ ∀ w', C w' → (execOp a.eval o).run P w' = .ok (.value v) w') ∨
  (Region.wanted o (yielded ops a.tmps) = false ∧ v = undef)

theorem Yl.dOp {i : Nat} {o : Oper} {v : Value} {a : Act} {w : World} {K : Act → World → Prop} (hi : ops[i]? = some o) (hy : Yl P ops C A i o v a) (h : K (a.put o.dst v) w) : dOp P ops C A Z i K a w := by
  unfold Ik.dOp
  simp only [hi]
  rcases hy with ⟨hw, hA, hv⟩ | ⟨hw, rfl⟩
  · simp only [hw, hA, if_true, Bool.false_eq_true, if_false]; exact ⟨v, hv, h⟩
  · simp only [hw, Bool.false_eq_true, if_false]; exact h

theorem Yl.of_same {i : Nat} {o : Oper} {v : Value} {a a' : Act} (hy : Yl P ops C A i o v a) (he : execOp a'.eval o = execOp a.eval o)
    (hw : Region.wanted o (yielded ops a'.tmps) = Region.wanted o (yielded ops a.tmps)) : Yl P ops C A i o v a' := by
  unfold Yl at *
  rw [he, hw]
  exact hy

/-- one quiet operation moved ahead of another one 'j' -/
theorem dOp_put {i j : Nat} {oi oj : Oper} {v : Value} (hj : ops[j]? = some oj) (hap : oi.apart ops oj = true)
    (hsi : ∀ cs b, oi.op ≠ .select cs b) (hsj : ∀ cs b, oj.op ≠ .select cs b) {K : Act → World → Prop} {a : Act} {w : World}
    (hy : Yl P ops C A i oi v a) (h : dOp P ops C A Z j K (a.put oi.dst v) w) :
    dOp P ops C A Z j (fun a' w' => Yl P ops C A i oi v a' ∧ K (a'.put oi.dst v) w') a w := by
  obtain ⟨h1, h2, h3⟩ := Oper.apart_spec hap
  have keep : ∀ u, Yl P ops C A i oi v (a.put oj.dst u) := fun u =>
    hy.of_same (execOp_put oi hsi a oj.dst u h3) (wanted_put oi a oj.dst u h3)
  unfold dOp at *
  simp only [hj] at *
  rw [wanted_put oj a oi.dst v h1, execOp_put oj hsj a oi.dst v h1] at h
  split
  · rename_i hw
    simp only [hw, if_true] at h
    split
    · rename_i hA
      simp only [hA, if_true] at h
      exact out_mono (fun u w' hu => ⟨hu.1, keep u, by rw [← Act.put_comm a v u h2]; exact hu.2⟩) h
    · rename_i hA
      simp only [hA] at h
      obtain ⟨u, hu, hk⟩ := h
      exact ⟨u, hu, keep u, by rw [← Act.put_comm a v u h2]; exact hk⟩
  · rename_i hw
    simp only [hw] at h
    exact ⟨keep _, by rw [← Act.put_comm a v undef h2]; exact h⟩

theorem dOp_mono {i : Nat} {K K' : Act → World → Prop} {a : Act} {w : World} (hne : i ≠ Z) (h : ∀ a w, C w → K a w → K' a w) (hC : C w) (hh : dOp P ops C A Z i K a w) : dOp P ops C A Z i K' a w := by
  unfold dOp at *
  split
  · exact h _ _ hC (by simpa [*] using hh)
  · rename_i o ho
    simp only [ho] at hh
    split
    · rename_i hw
      simp only [hw, if_true] at hh
      split
      · rename_i hA
        simp only [hA, if_true] at hh
        exact out_mono (fun v w' hv => ⟨hv.1, h _ _ (hv.1.resolve_left hne) hv.2⟩) hh
      · rename_i hA
        simp only [hA] at hh
        obtain ⟨v, h1, h2⟩ := hh
        exact ⟨v, h1, h _ _ hC h2⟩
    · rename_i hw
      simp only [hw] at hh
      exact h _ _ hC hh

/-! what comes behind what -/
/-- 'm j' as bits: all that operation 'j' comes behind -/
def closedB (ops : Array Oper) (m : Array Nat) : Bool :=
  (List.range ops.size).all fun j => match ops[j]? with
    | some o => m.getD j 0 == o.after.foldl (fun s e => if Region.binds .any e then s ||| 2 ^ e.on ||| m.getD e.on 0 else s) 0
    | none => true

def DC (m : Array Nat) (listed : Array Bool) : Prop := ∀ j k, listed.getD j false = true → (m.getD j 0).testBit k = true → listed.getD k false = true

theorem foldl_bits (m : Array Nat) (k : Nat) : ∀ (l : List Edge) (s : Nat), (l.foldl (fun s e => if Region.binds .any e then s ||| 2 ^ e.on ||| m.getD e.on 0 else s) s).testBit k = true →
    s.testBit k = true ∨ ∃ e ∈ l, Region.binds .any e = true ∧ (e.on = k ∨ (m.getD e.on 0).testBit k = true)
  | [], s, h => .inl h
  | e :: l, s, h => by
    rcases foldl_bits m k l _ h with h | ⟨e', he', h⟩
    · by_cases hb : Region.binds .any e = true
      · simp only [hb, if_true, Nat.testBit_or, Bool.or_eq_true] at h
        rcases h with (h | h) | h
        · exact .inl h
        · refine .inr ⟨e, by simp, hb, .inl ?_⟩
          rw [Nat.testBit_two_pow] at h
          simpa using h
        · exact .inr ⟨e, by simp, hb, .inr h⟩
      · simp only [hb] at h
        exact .inl h
    · exact .inr ⟨e', by simp [he'], h⟩

theorem ready_closed {m : Array Nat} {listed : Array Bool} (hcl : closedB ops m = true) (hd : DC m listed) {j : Nat} (hj : j ∈ Region.ready .any ops listed) {k : Nat} (hk : (m.getD j 0).testBit k = true) : listed.getD k false = true := by
  obtain ⟨_, o, ho, hall⟩ := mem_ready.1 hj
  have hlt : j < ops.size := (Array.getElem?_eq_some_iff.1 ho).1
  have h1 := List.all_eq_true.1 hcl j (List.mem_range.2 hlt)
  simp only [ho, beq_iff_eq] at h1
  rw [h1, ← Array.foldl_toList] at hk
  rcases foldl_bits m k _ _ hk with h | ⟨e, he, hb, h⟩
  · simp at h
  · have hl := hall e (Array.mem_toList_iff.1 he) hb
    rcases h with rfl | h
    · exact hl
    · exact hd _ _ hl h

theorem getD_set_self {listed : Array Bool} {i j : Nat} (h : (listed.setIfInBounds i true).getD j false = true) : j = i ∨ listed.getD j false = true := by
  by_cases hij : i = j
  · exact .inl hij.symm
  · rw [getD_set_ne false hij] at h; exact .inr h

theorem DC.set {m : Array Nat} {listed : Array Bool} (hcl : closedB ops m = true) (hd : DC m listed) {j : Nat} (hj : j ∈ Region.ready .any ops listed) : DC m (listed.setIfInBounds j true) := by
  intro a k ha hk
  rcases getD_set_self ha with rfl | ha
  · exact getD_set_true (ready_closed hcl hd hj hk)
  · exact getD_set_true (hd a k ha hk)

theorem listed_lt {listed : Array Bool} {i : Nat} (h : listed.getD i true = false) : listed.getD i false = false := by
  rcases Nat.lt_or_ge i listed.size with h' | h'
  · simpa [h'] using h
  · simp [Array.getElem?_eq_none h'] at h

/-- 'Z' comes behind all others -/
def ZC (ops : Array Oper) (m : Array Nat) (Z : Nat) : Prop := ∀ k, Z < ops.size → k < ops.size → k ≠ Z → (m.getD Z 0).testBit k = true
theorem ready_lt {listed : Array Bool} {j : Nat} (hj : j ∈ Region.ready .any ops listed) : j < ops.size := by
  obtain ⟨_, o, ho, _⟩ := mem_ready.1 hj
  exact (Array.getElem?_eq_some_iff.1 ho).1
theorem getD_lt {listed : Array Bool} {k : Nat} (h : listed.getD k false = true) : listed.getD k true = true := by
  rcases Nat.lt_or_ge k listed.size with h' | h'
  · simpa [h'] using h
  · simp [Array.getElem?_eq_none h'] at h
theorem Z_last {m : Array Nat} {listed : Array Bool} (hcl : closedB ops m = true) (hz : ZC ops m Z) (hd : DC m listed) (hj : Z ∈ Region.ready .any ops listed) {k : Nat} (hk : k < ops.size) (hne : k ≠ Z) : listed.getD k true = true :=
  getD_lt (ready_closed hcl hd hj (hz k (ready_lt hj) hk hne))
theorem Z_done {m : Array Nat} {listed : Array Bool} (hcl : closedB ops m = true) (hz : ZC ops m Z) (hd : DC m listed) (hj : Z ∈ Region.ready .any ops listed) : Region.ready .any ops (listed.setIfInBounds Z true) = [] := by
  cases hr : Region.ready .any ops (listed.setIfInBounds Z true) with
  | nil => rfl
  | cons a l =>
    exfalso
    have ha : a ∈ Region.ready .any ops (listed.setIfInBounds Z true) := by rw [hr]; simp
    have hlt := ready_lt ha
    have h1 := (mem_ready.1 ha).1
    by_cases haz : a = Z
    · subst haz
      have hzl := (mem_ready.1 hj).1
      have hsz : a < listed.size := by
        rcases Nat.lt_or_ge a listed.size with h | h
        · exact h
        · simp [Array.getElem?_eq_none h] at hzl
      simp [hsz] at h1
    · rw [getD_set_ne true (Ne.symm haz)] at h1
      rw [Z_last hcl hz hd hj hlt haz] at h1
      cases h1

theorem wpAny_of_anyD {m : Array Nat} (hcl : closedB ops m = true) (hz : ZC ops m Z) {Q : Act → World → Prop} {Q' : Exit → Act → World → Prop} (hQ : ∀ a w, Q a w → Q' .normal a w) : ∀ (fuel : Nat) (listed : Array Bool) (a : Act) (w : World), (C w ∨ Region.ready .any ops listed = []) → DC m listed →
    anyD P ops C A Z Q fuel listed a w → wpAny P .any ops Q' fuel listed a w
  | 0, _, _, _, _, _, h => ⟨h.1, hQ _ _ h.2⟩
  | fuel + 1, listed, a, w, hC, hdc, h => ⟨fun h0 => hQ _ _ (h.1 h0), fun i hi => by
      have hC' : C w := by
        rcases hC with h | h
        · exact h
        · rw [h] at hi; cases hi
      have hdc' := hdc.set hcl hi
      have h2 := h.2 i hi
      unfold dOp at h2
      unfold wpOp
      split
      · rename_i ho
        simp only [ho] at h2
        exact wpAny_of_anyD hcl hz hQ fuel _ _ _ (.inl hC') hdc' h2
      · rename_i o ho
        simp only [ho] at h2
        split
        · rename_i hw
          simp only [hw, if_true] at h2
          refine .inl ?_
          split at h2
          · refine out_upon (fun v w' hv => wpAny_of_anyD hcl hz hQ fuel _ _ _ ?_ hdc' hv.2) h2
            rcases hv.1 with e | e
            · subst e; exact .inr (Z_done hcl hz hdc hi)
            · exact .inl e
          · obtain ⟨v, h3, h4⟩ := h2
            unfold Oper.wp
            rw [h3 w hC']
            exact wpAny_of_anyD hcl hz hQ fuel _ _ _ (.inl hC') hdc' h4
        · rename_i hw
          simp only [hw] at h2
          exact wpAny_of_anyD hcl hz hQ fuel _ _ _ (.inl hC') hdc' h2⟩

/-- a quiet operation that is ready may come first -/
theorem first_quiet {m : Array Nat} (hcl : closedB ops m = true) (hz : ZC ops m Z) {Q : Act → World → Prop} {i : Nat} {oi : Oper} {v : Value} (hi : ops[i]? = some oi) (hsel : ∀ (j : Nat) (o : Oper) cs b, ops[j]? = some o → o.op ≠ .select cs b) :
    ∀ (fuel : Nat) (listed : Array Bool) (a : Act) (w : World), C w → DC m listed →
      (∀ j oj, ops[j]? = some oj → j ≠ i → listed.getD j true = false → (m.getD j 0).testBit i = false → oi.apart ops oj = true) →
      i ∈ Region.ready .any ops listed → Yl P ops C A i oi v a →
      anyD P ops C A Z Q fuel (listed.setIfInBounds i true) (a.put oi.dst v) w → anyD P ops C A Z Q (fuel + 1) listed a w := by
  intro fuel
  induction fuel with
  | zero =>
    intro listed a w hC _ _ hr hy H
    refine ⟨fun h => (by rw [h] at hr; cases hr), fun j hj => ?_⟩
    by_cases hji : j = i
    · subst hji; exact hy.dOp hi H
    · have := ready_mono hj hji
      rw [H.1] at this
      cases this
  | succ fuel ih =>
    intro listed a w hC hdc hfree hr hy H
    refine ⟨fun h => (by rw [h] at hr; cases hr), fun j hj => ?_⟩
    by_cases hji : j = i
    · subst hji; exact hy.dOp hi H
    · have h1 := H.2 j (ready_mono hj hji)
      obtain ⟨hjun, oj, hoj, hall⟩ := mem_ready.1 hj
      have hnot : (m.getD j 0).testBit i = false := by
        cases hb : (m.getD j 0).testBit i with
        | false => rfl
        | true =>
          have h2 := ready_closed hcl hdc hj hb
          rw [listed_lt (mem_ready.1 hr).1] at h2
          cases h2
      have h2 := dOp_put hoj (hfree j oj hoj hji hjun hnot) (fun cs b => hsel i oi cs b hi) (fun cs b => hsel j oj cs b hoj) hy h1
      have hfree' : ∀ k ok, ops[k]? = some ok → k ≠ i → (listed.setIfInBounds j true).getD k true = false →
          (m.getD k 0).testBit i = false → oi.apart ops ok = true := fun k ok hk hki hun hno => by
        refine hfree k ok hk hki ?_ hno
        by_cases hjk : j = k
        · subst hjk; exact hjun
        · rw [getD_set_ne true hjk] at hun; exact hun
      have hjz : j ≠ Z := fun e => by
        subst e
        have h5 := Z_last hcl hz hdc hj (ready_lt hr) (Ne.symm hji)
        rw [(mem_ready.1 hr).1] at h5; cases h5
      refine dOp_mono hjz (fun a' w' hC' h3 => ih (listed.setIfInBounds j true) a' w' hC' (hdc.set hcl hj) hfree' (ready_mono hr (Ne.symm hji)) h3.1 ?_) hC h2
      rw [Array.setIfInBounds_comm _ _ hji]
      exact h3.2

/-- an acting operation that is ready may come first -/
theorem first_act {m : Array Nat} (hcl : closedB ops m = true) (hz : ZC ops m Z) {Q : Act → World → Prop} {i : Nat} {oi : Oper} (hi : ops[i]? = some oi) (hA : A i = true) (hsel : ∀ (j : Nat) (o : Oper) cs b, ops[j]? = some o → o.op ≠ .select cs b) :
    ∀ (fuel : Nat) (listed : Array Bool) (a : Act) (w : World), C w → DC m listed →
      (∀ j oj, ops[j]? = some oj → j ≠ i → listed.getD j true = false → (m.getD j 0).testBit i = false → oi.apart ops oj = true ∧ A j = false) →
      i ∈ Region.ready .any ops listed → Region.wanted oi (yielded ops a.tmps) = true →
      out P (fun v w' => (i = Z ∨ C w') ∧ anyD P ops C A Z Q fuel (listed.setIfInBounds i true) (a.put oi.dst v) w') ((execOp a.eval oi).run P w) → anyD P ops C A Z Q (fuel + 1) listed a w := by
  intro fuel
  induction fuel with
  | zero =>
    intro listed a w hC _ _ hr hw H
    refine ⟨fun h => (by rw [h] at hr; cases hr), fun j hj => ?_⟩
    by_cases hji : j = i
    · subst hji; unfold dOp; simp only [hi, hw, hA, if_true]; exact H
    · obtain ⟨v, w', _, hk⟩ := out_some H
      have := ready_mono hj hji
      rw [hk.1] at this
      cases this
  | succ fuel ih =>
    intro listed a w hC hdc hfree hr hw H
    refine ⟨fun h => (by rw [h] at hr; cases hr), fun j hj => ?_⟩
    by_cases hji : j = i
    · subst hji; unfold dOp; simp only [hi, hw, hA, if_true]; exact H
    · obtain ⟨hjun, oj, hoj, hall⟩ := mem_ready.1 hj
      have hnot : (m.getD j 0).testBit i = false := by
        cases hb : (m.getD j 0).testBit i with
        | false => rfl
        | true =>
          have h2 := ready_closed hcl hdc hj hb
          rw [listed_lt (mem_ready.1 hr).1] at h2
          cases h2
      obtain ⟨hap, hAj⟩ := hfree j oj hoj hji hjun hnot
      obtain ⟨p1, p2, p3⟩ := Oper.apart_spec hap
      have hfree' : ∀ k ok, ops[k]? = some ok → k ≠ i → (listed.setIfInBounds j true).getD k true = false →
          (m.getD k 0).testBit i = false → oi.apart ops ok = true ∧ A k = false := fun k ok hk hki hun hno => by
        refine hfree k ok hk hki ?_ hno
        by_cases hjk : j = k
        · subst hjk; exact hjun
        · rw [getD_set_ne true hjk] at hun; exact hun
      have hsi := fun cs b => hsel i oi cs b hi
      have hsj := fun cs b => hsel j oj cs b hoj
      -- what 'j' yields, whatever 'i' left
      have after : ∀ v w', anyD P ops C A Z Q (fuel + 1) (listed.setIfInBounds i true) (a.put oi.dst v) w' →
          dOp P ops C A Z j (anyD P ops C A Z Q fuel ((listed.setIfInBounds i true).setIfInBounds j true)) (a.put oi.dst v) w' := fun v w' hk => hk.2 j (ready_mono hj hji)
      unfold dOp
      simp only [hoj, hAj, Bool.false_eq_true, if_false]
      by_cases hwj : Region.wanted oj (yielded ops a.tmps) = true
      · simp only [hwj, if_true]
        have get : ∀ v w', anyD P ops C A Z Q (fuel + 1) (listed.setIfInBounds i true) (a.put oi.dst v) w' →
            ∃ u, (∀ w', C w' → (execOp a.eval oj).run P w' = .ok (.value u) w') ∧ anyD P ops C A Z Q fuel ((listed.setIfInBounds i true).setIfInBounds j true) ((a.put oi.dst v).put oj.dst u) w' := fun v w' hk => by
          have h1 := after v w' hk
          unfold dOp at h1
          simp only [hoj, hAj, Bool.false_eq_true, if_false] at h1
          rw [wanted_put oj a oi.dst v p1, hwj, if_pos rfl, execOp_put oj hsj a oi.dst v p1] at h1
          exact h1
        have hiz : i ≠ Z := fun e => by
          subst e
          have h5 := Z_last hcl hz hdc hr (ready_lt hj) hji
          rw [hjun] at h5; cases h5
        obtain ⟨v0, w0, hC0, hk0⟩ := out_some H
        obtain ⟨u, hu, _⟩ := get v0 w0 hk0
        refine ⟨u, hu, ih (listed.setIfInBounds j true) (a.put oj.dst u) w hC (hdc.set hcl hj) hfree' (ready_mono hr (Ne.symm hji)) ?_ ?_⟩
        · rw [wanted_put oi a oj.dst u p3]; exact hw
        · rw [execOp_put oi hsi a oj.dst u p3]
          refine out_mono (fun v w' ⟨hc, hk⟩ => ⟨hc, ?_⟩) H
          obtain ⟨u', hu', hk'⟩ := get v w' hk
          have e : u' = u := by
            have h1 := hu w hC
            rw [hu' w hC] at h1
            simpa using h1
          subst e
          rw [Array.setIfInBounds_comm _ _ hji, ← Act.put_comm a v u' p2]
          exact hk'
      · simp only [hwj, Bool.false_eq_true, if_false]
        refine ih (listed.setIfInBounds j true) (a.put oj.dst undef) w hC (hdc.set hcl hj) hfree' (ready_mono hr (Ne.symm hji)) ?_ ?_
        · rw [wanted_put oi a oj.dst undef p3]; exact hw
        · rw [execOp_put oi hsi a oj.dst undef p3]
          refine out_mono (fun v w' ⟨hc, hk⟩ => ⟨hc, ?_⟩) H
          have h1 := after v w' hk
          unfold dOp at h1
          simp only [hoj] at h1
          rw [wanted_put oj a oi.dst v p1, if_neg (by simpa using hwj)] at h1
          rw [Array.setIfInBounds_comm _ _ hji, ← Act.put_comm a v undef p2]
          exact h1

/-- the check of the text's order -/
def freeB (ops : Array Oper) (m : Array Nat) (A : Nat → Bool) (listed : Array Bool) (i : Nat) : Bool :=
  (List.range ops.size).all fun j => j == i || listed.getD j true || (m.getD j 0).testBit i ||
    (match ops[i]?, ops[j]? with
     | some oi, some oj => oi.apart ops oj && !(A i && A j)
     | _, _ => true)

def lexD (ops : Array Oper) (m : Array Nat) (A : Nat → Bool) : Nat → Nat → Array Bool → Bool
  | 0, _, listed => (Region.ready .any ops listed).isEmpty
  | fuel + 1, k, listed => (Region.ready .any ops listed).contains k && freeB ops m A listed k && lexD ops m A fuel (k + 1) (listed.setIfInBounds k true)

def ZB (ops : Array Oper) (m : Array Nat) (Z : Nat) : Bool := Nat.ble ops.size Z || (List.range ops.size).all fun k => k == Z || (m.getD Z 0).testBit k
theorem ZB_spec {m : Array Nat} (h : ZB ops m Z = true) : ZC ops m Z := fun k hz hk hne => by
  unfold ZB at h
  rcases Bool.or_eq_true _ _ ▸ h with h | h
  · have := Nat.le_of_ble_eq_true h; omega
  · have := List.all_eq_true.1 h k (List.mem_range.2 hk)
    simp only [Bool.or_eq_true, beq_iff_eq] at this
    exact this.resolve_left hne
def drawB (ops : Array Oper) (A : Nat → Bool) (Z : Nat) : Bool :=
  ZB ops (Region.before ops) Z && Region.noSelect ops && closedB ops (Region.before ops) && lexD ops (Region.before ops) A ops.size 0 (Array.replicate ops.size false)

theorem freeB_spec {m : Array Nat} {listed : Array Bool} {i : Nat} {oi : Oper} (hi : ops[i]? = some oi) (h : freeB ops m A listed i = true) :
    ∀ j oj, ops[j]? = some oj → j ≠ i → listed.getD j true = false → (m.getD j 0).testBit i = false → oi.apart ops oj = true ∧ (A i && A j) = false := by
  intro j oj hj hne hl hm
  have h1 := List.all_eq_true.1 h j (List.mem_range.2 (Array.getElem?_eq_some_iff.1 hj).1)
  simp only [hi, hj, hl, hm, Bool.or_false, Bool.or_eq_true, beq_iff_eq, Bool.and_eq_true, Bool.not_eq_true'] at h1
  rcases h1 with h1 | h1
  · exact absurd h1 hne
  · exact h1

theorem anyD_lex {m : Array Nat} (hcl : closedB ops m = true) (hz : ZC ops m Z) {Q : Act → World → Prop} (hs : Region.noSelect ops = true) : ∀ (fuel k : Nat) (listed : Array Bool) (a : Act) (w : World), (C w ∨ fuel = 0) → DC m listed →
    k + fuel = ops.size → lexD ops m A fuel k listed = true → wd P ops C A Z Q (List.range' k fuel) a w → anyD P ops C A Z Q fuel listed a w
  | 0, _, _, _, _, _, _, _, hB, h => ⟨by simpa [lexD] using hB, h⟩
  | fuel + 1, k, listed, a, w, hC0, hdc, hsz, hB, h => by
    have hC : C w := hC0.resolve_right (by omega)
    have hlt : k < ops.size := by omega
    have h0 : ops[k]? = some ops[k] := by simp [hlt]
    simp only [lexD, Bool.and_eq_true, List.contains_iff_mem] at hB
    obtain ⟨⟨hr, hf⟩, hB'⟩ := hB
    have hfr := freeB_spec h0 hf
    rw [List.range'_succ] at h
    simp only [wd] at h
    have hdc' := hdc.set hcl hr
    have hfin : k = Z → fuel = 0 := fun e => by
      subst e
      have hd := Z_done hcl hz hdc hr
      cases fuel with
      | zero => rfl
      | succ f =>
        simp only [lexD, Bool.and_eq_true, List.contains_iff_mem] at hB'
        rw [hd] at hB'
        exact absurd hB'.1.1 (by simp)
    have hrec : ∀ a w, (C w ∨ fuel = 0) → wd P ops C A Z Q (List.range' (k + 1) fuel) a w → anyD P ops C A Z Q fuel (listed.setIfInBounds k true) a w := fun a w hc hk =>
      anyD_lex hcl hz hs fuel (k + 1) _ a w hc hdc' (by omega) hB' hk
    unfold dOp at h
    simp only [h0] at h
    by_cases hw : Region.wanted ops[k] (yielded ops a.tmps) = true
    · simp only [hw, if_true] at h
      by_cases hA : A k = true
      · simp only [hA, if_true] at h
        exact first_act hcl hz h0 hA (Region.noSelect_spec hs) fuel listed a w hC hdc (fun j oj hj hne hl hm => ⟨(hfr j oj hj hne hl hm).1, by have := (hfr j oj hj hne hl hm).2; simpa [hA] using this⟩) hr hw
          (out_mono (fun v w' hv => ⟨hv.1, hrec _ _ (hv.1.elim (fun e => .inr (hfin e)) .inl) hv.2⟩) h)
      · simp only [hA] at h
        obtain ⟨v, hv, hk⟩ := h
        exact first_quiet hcl hz h0 (Region.noSelect_spec hs) fuel listed a w hC hdc (fun j oj hj hne hl hm => (hfr j oj hj hne hl hm).1) hr (.inl ⟨hw, by simpa using hA, hv⟩) (hrec _ _ (.inl hC) hk)
    · simp only [hw] at h
      exact first_quiet (A := A) (v := undef) hcl hz h0 (Region.noSelect_spec hs) fuel listed a w hC hdc (fun j oj hj hne hl hm => (hfr j oj hj hne hl hm).1) hr (.inr ⟨by simpa using hw, rfl⟩) (hrec _ _ (.inl hC) h)

theorem wp_region_D {id : Nat} {Q : Exit → Act → World → Prop} {a : Act} {w : World} (hm : P.follows .mixedOrders = true) (hB : drawB ops A Z = true) (hC : C w.drew)
    (h : wd P ops C A Z (fun a' w' => Q .normal a' w') (List.range' 0 ops.size) a w.drew) : (Code.region id ops true).wp P Q a w := by
  simp only [drawB, Bool.and_eq_true] at hB
  have hz := ZB_spec hB.1.1.1
  have hdc : DC (Region.before ops) (Array.replicate ops.size false) := fun j k hj => by
    simp only [Array.getD_eq_getD_getElem?, Array.getElem?_replicate] at hj
    split at hj <;> simp at hj
  refine wp_region_any hm (wpAny_of_anyD (C := C) (A := A) (Z := Z) hB.1.2 hz (Q := fun a' w' => Q .normal a' w') (fun _ _ h => h) _ _ _ _ (.inl hC) hdc ?_)
  exact anyD_lex hB.1.2 hz hB.1.1.2 ops.size 0 _ a _ (.inl hC) hdc (by omega) hB.2 h

/-! the judgement over slots' facts -/
variable {f : FuncId} {R : Ending → World → Prop} {n : Nat}

def OD (P : Program) (f : FuncId) (R : Ending → World → Prop) (n : Nat) (C : World → Prop) (A : Nat → Bool) (Z : Nat) (ops : Array Oper) (l : List Nat) (E : Env) (k : List Item) (w : World) : Prop :=
  ∀ a, Sat n E a → wd P ops C A Z (fun a w => Run P f R k a w) l a w

theorem r_draw (A : Nat → Bool) (Z : Nat) (C : World → Prop) {id : Nat} {ops : Array Oper} {E : Env} {k : List Item} {w : World} (hm : P.follows .mixedOrders = true) (hB : drawB ops A Z = true)
    (h : C w.drew ∧ OD P f R n C A Z ops (List.range' 0 ops.size) E k w.drew) : RunE P f R n E (.code (.region id ops true) :: k) w :=
  fun a ha => run_code (wp_region_D (A := A) (C := C) (Z := Z) hm hB h.1 (by
    have := h.2 a ha
    refine cast ?_ this
    congr
    funext a' w'
    simp))

theorem OD.nil {ops : Array Oper} {E : Env} {k : List Item} {w : World} (h : RunE P f R n E k w) : OD P f R n C A Z ops [] E k w := fun a ha => h a ha
theorem OD.sub {ops : Array Oper} {l : List Nat} {E E' : Env} {k : List Item} {w : World} (h : OD P f R n C A Z ops l E' k w) (hs : Ik.sub E' E) : OD P f R n C A Z ops l E k w := fun a ha => h a (ha.sub hs)
theorem OD.q {ops : Array Oper} {o : Oper} {i : Nat} {l : List Nat} {E : Env} {k : List Item} {w : World} {v : Value} (ho : ops[i]? = some o) (hA : A i = false) (hq : Q1 P o E C v)
    (hw : want n ops E o.guard = some true) (hd : dstOk n o.dst = true) (h : OD P f R n C A Z ops l (pu o.dst v E) k w) : OD P f R n C A Z ops (i :: l) E k w := by
  intro a ha
  simp only [wd, dOp, ho, want_spec ha hw, hA, if_true, Bool.false_eq_true, if_false]
  exact ⟨v, hq a ha.has, h _ (ha.put hd v)⟩
theorem OD.sk {ops : Array Oper} {o : Oper} {i : Nat} {l : List Nat} {E : Env} {k : List Item} {w : World} (ho : ops[i]? = some o)
    (hw : want n ops E o.guard = some false) (hd : dstOk n o.dst = true) (h : OD P f R n C A Z ops l (pu o.dst undef E) k w) : OD P f R n C A Z ops (i :: l) E k w := by
  intro a ha
  simp only [wd, dOp, ho, want_spec ha hw, Bool.false_eq_true, if_false]
  exact h _ (ha.put hd undef)
theorem OD.act {ops : Array Oper} {o : Oper} {i : Nat} {l : List Nat} {E : Env} {k : List Item} {w : World} (ho : ops[i]? = some o) (hA : A i = true)
    (hw : want n ops E o.guard = some true) (hd : dstOk n o.dst = true) (ha : AW P o E w (fun v w' => (i = Z ∨ C w') ∧ OD P f R n C A Z ops l (pu o.dst v E) k w')) : OD P f R n C A Z ops (i :: l) E k w := by
  intro a hs
  simp only [wd, dOp, ho, want_spec hs hw, hA, if_true]
  exact out_mono (fun v w' hv => ⟨hv.1, hv.2 _ (hs.put hd v)⟩) (ha a hs.has)
end
end Go.Ik
