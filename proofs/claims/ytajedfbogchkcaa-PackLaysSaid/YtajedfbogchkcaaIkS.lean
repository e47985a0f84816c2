/-
  Resources that lie apart from one another, by their blocks.
-/
import Derived.Test.YtajedfbogchkcaaIk9
set_option linter.unusedVariables false
set_option linter.unusedSimpArgs false
set_option linter.unusedSectionVars false
namespace Go.Ik
open Go

/-- what is said of some blocks, and of blocks 'R' that nobody writes -/
structure Res (R : Nat → Prop) where
  p : (Nat → Prop) → World → Prop
  keep : ∀ {F : Nat → Prop} {w w' : World} {M : Nat → Prop}, p F w → Mod M w w' → (∀ b, F b → ¬ M b) → (∀ b, R b → ¬ M b) → p F w'

/-- resources that lie apart within blocks 'U' -/
def Sep {R : Nat → Prop} (L : List (Res R)) (U : Nat → Prop) (w : World) : Prop :=
  ∃ Fs : Nat → Nat → Prop, (∀ (i : Nat) (A : Res R), L[i]? = some A → A.p (Fs i) w) ∧ (∀ i b, Fs i b → (U b ∧ ¬ R b) ∧ b < w.heap.size) ∧ ∀ i j b, i ≠ j → Fs i b → ¬ Fs j b

section
variable {R : Nat → Prop} {L : List (Res R)} {U : Nat → Prop} {w w' : World}
theorem Sep.keep {M : Nat → Prop} (h : Sep L U w) (hm : Mod M w w') (hU : ∀ b, U b → b < w.heap.size → ¬ M b) (hR : ∀ b, R b → ¬ M b) : Sep L U w' := by
  obtain ⟨Fs, h1, h2, h3⟩ := h
  exact ⟨Fs, fun i A hA => A.keep (h1 i A hA) hm (fun b hb => hU b (h2 i b hb).1.1 (h2 i b hb).2) hR, fun i b hb => ⟨(h2 i b hb).1, Nat.lt_of_lt_of_le (h2 i b hb).2 hm.size⟩, h3⟩
theorem Sep.mono {U' : Nat → Prop} (h : Sep L U w) (hU : ∀ b, U b → U' b) : Sep L U' w := by
  obtain ⟨Fs, h1, h2, h3⟩ := h
  exact ⟨Fs, h1, fun i b hb => ⟨⟨hU b (h2 i b hb).1.1, (h2 i b hb).1.2⟩, (h2 i b hb).2⟩, h3⟩
theorem Sep.act {i : Nat} {A : Res R} (h : Sep L U w) (hR : ∀ b, R b → b < w.heap.size) (hi : L[i]? = some A) : ∃ F, A.p F w ∧ (∀ b, F b → (U b ∧ ¬ R b) ∧ b < w.heap.size) ∧ ∀ (w' : World) (F' : Nat → Prop) (A' : Res R), Mod F w w' → A'.p F' w' → (∀ b, F' b → b < w'.heap.size ∧ (F b ∨ (w.heap.size ≤ b ∧ U b))) → Sep (L.set i A') U w' := by
  obtain ⟨Fs, h1, h2, h3⟩ := h
  refine ⟨Fs i, h1 i A hi, h2 i, fun w' F' A' hm hA' hF' => ⟨fun k => if k = i then F' else Fs k, fun k B hB => ?_, fun k b hb => ?_, fun j k b hjk hj hk => ?_⟩⟩
  · by_cases hk : k = i
    · subst hk
      rw [List.getElem?_set_self (List.getElem?_eq_some_iff.1 hi).1] at hB
      simp only [if_true]
      cases hB; exact hA'
    · rw [List.getElem?_set_ne (fun e => hk e.symm)] at hB
      simp only [if_neg hk]
      exact B.keep (h1 k B hB) hm (fun b hb hx => h3 k i b hk hb hx) fun b hb hx => (h2 i b hx).1.2 hb
  · by_cases hk : k = i
    · subst hk
      simp only [if_true] at hb
      obtain ⟨h4, h5⟩ := hF' b hb
      exact ⟨h5.elim (fun h => (h2 k b h).1) (fun h => ⟨h.2, fun hr => by have := hR b hr; omega⟩), h4⟩
    · simp only [if_neg hk] at hb
      exact ⟨(h2 k b hb).1, Nat.lt_of_lt_of_le (h2 k b hb).2 hm.size⟩
  · by_cases hji : j = i
    · have hki : k ≠ i := fun e => hjk (hji.trans e.symm)
      simp only [if_pos hji] at hj
      simp only [if_neg hki] at hk
      rcases (hF' b hj).2 with h5 | h5
      · exact h3 i k b (fun e => hki e.symm) h5 hk
      · have := (h2 k b hk).2; omega
    · simp only [if_neg hji] at hj
      by_cases hki : k = i
      · simp only [if_pos hki] at hk
        rcases (hF' b hk).2 with h5 | h5
        · exact h3 j i b hji hj h5
        · have := (h2 j b hj).2; omega
      · simp only [if_neg hki] at hk
        exact h3 j k b hjk hj hk
theorem Sep.new {A : Res R} {F : Nat → Prop} (h : Sep L U w) (hR : ∀ b, R b → b < w.heap.size) (hm : Ext w w') (hA : A.p F w') (hF : ∀ b, F b → U b ∧ w.heap.size ≤ b ∧ b < w'.heap.size) : Sep (L ++ [A]) U w' := by
  obtain ⟨Fs, h1, h2, h3⟩ := h
  refine ⟨fun k => if k = L.length then F else Fs k, fun k B hB => ?_, fun k b hb => ?_, fun j k b hjk hj hk => ?_⟩
  · by_cases hk : k = L.length
    · subst hk
      rw [List.getElem?_append_right (Nat.le_refl _)] at hB
      simp only [Nat.sub_self, List.getElem?_cons_zero, Option.some.injEq] at hB
      subst hB
      simp only [if_true]; exact hA
    · simp only [if_neg hk]
      have hlt := (List.getElem?_eq_some_iff.1 hB).1
      simp only [List.length_append, List.length_cons, List.length_nil] at hlt
      rw [List.getElem?_append_left (by omega)] at hB
      exact B.keep (h1 k B hB) hm (fun b hb hx => hx) fun _ _ hx => hx
  · by_cases hk : k = L.length
    · simp only [if_pos hk] at hb
      exact ⟨⟨(hF b hb).1, fun hr => by have := hR b hr; have := (hF b hb).2.1; omega⟩, (hF b hb).2.2⟩
    · simp only [if_neg hk] at hb
      exact ⟨(h2 k b hb).1, Nat.lt_of_lt_of_le (h2 k b hb).2 hm.size⟩
  · by_cases hji : j = L.length
    · have hki : k ≠ L.length := fun e => hjk (hji.trans e.symm)
      simp only [if_pos hji] at hj
      simp only [if_neg hki] at hk
      have := (h2 k b hk).2; have := (hF b hj).2.1; omega
    · simp only [if_neg hji] at hj
      by_cases hki : k = L.length
      · simp only [if_pos hki] at hk
        have := (h2 j b hj).2; have := (hF b hk).2.1; omega
      · simp only [if_neg hki] at hk
        exact h3 j k b hjk hj hk
theorem sel_at {α : Type} {L : List α} : ∀ (is : List Nat) (k : Nat), (∀ i ∈ is, i < L.length) → (is.filterMap fun i => L[i]?)[k]? = (is[k]?).bind fun i => L[i]?
  | [], k, _ => by simp
  | i :: is, 0, h => by
    have := h i (by simp)
    simp [List.getElem?_eq_getElem this]
  | i :: is, k + 1, h => by
    have := h i (by simp)
    rw [List.filterMap_cons, List.getElem?_eq_getElem this]
    simp only [List.getElem?_cons_succ]
    exact sel_at is k fun j hj => h j (by simp [hj])
theorem Sep.sel (is : List Nat) (h : Sep L U w) (hl : (is.all fun i => decide (i < L.length)) = true) (hn : is.Nodup) : Sep (is.filterMap fun i => L[i]?) U w := by
  obtain ⟨Fs, h1, h2, h3⟩ := h
  have hl' : ∀ i ∈ is, i < L.length := fun i hi => of_decide_eq_true (List.all_eq_true.1 hl i hi)
  refine ⟨fun k b => ∃ i, is[k]? = some i ∧ Fs i b, fun k B hB => ?_, fun k b hb => ?_, fun j k b hjk hj hk => ?_⟩
  · rw [sel_at is k hl'] at hB
    obtain ⟨i, hi, hB⟩ := Option.bind_eq_some_iff.1 hB
    have e : (fun b => ∃ i, is[k]? = some i ∧ Fs i b) = Fs i := by
      funext b
      rw [hi]
      exact propext ⟨fun ⟨j, hj, hb⟩ => by cases hj; exact hb, fun hb => ⟨i, rfl, hb⟩⟩
    show B.p (fun b => ∃ i, is[k]? = some i ∧ Fs i b) w
    rw [e]; exact h1 i B hB
  · obtain ⟨i, _, hb⟩ := hb
    exact h2 i b hb
  · obtain ⟨i, hi, hbi⟩ := hj
    obtain ⟨i', hi', hbi'⟩ := hk
    refine h3 i i' b (fun e => ?_) hbi hbi'
    subst e
    obtain ⟨q1, q2⟩ := List.getElem?_eq_some_iff.1 hi
    obtain ⟨q3, q4⟩ := List.getElem?_eq_some_iff.1 hi'
    exact hjk ((List.getElem_inj hn).1 (q2.trans q4.symm))
theorem Sep.imp {i : Nat} {A A' : Res R} (h : Sep L U w) (hR : ∀ b, R b → b < w.heap.size) (hi : L[i]? = some A) (hA : ∀ F, A.p F w → A'.p F w) : Sep (L.set i A') U w := by
  obtain ⟨F, h1, h2, k⟩ := h.act hR hi
  exact k w F A' (Mod.refl _ _) (hA F h1) fun b hb => ⟨(h2 b hb).2, .inl hb⟩
theorem Sep.two {i j : Nat} {A B : Res R} (h : Sep L U w) (hi : L[i]? = some A) (hj : L[j]? = some B) (hn : i ≠ j) : ∃ F G, A.p F w ∧ B.p G w ∧ (∀ b, G b → ¬ F b) := by
  obtain ⟨Fs, h1, h2, h3⟩ := h
  exact ⟨Fs i, Fs j, h1 i A hi, h1 j B hj, fun b hb hx => h3 i j b hn hx hb⟩
end
/-- several as one -/
def boxR {R : Nat → Prop} (L : List (Res R)) : Res R := ⟨fun F w => Sep L F w, fun h hm hF hR => h.keep hm (fun b hb _ => hF b hb) hR⟩
theorem Sep.close {R : Nat → Prop} {L1 L2 : List (Res R)} {U : Nat → Prop} {w : World} (h : Sep (L1 ++ L2) U w) : Sep (L1 ++ [boxR L2]) U w := by
  obtain ⟨Fs, h1, h2, h3⟩ := h
  refine ⟨fun k b => if k < L1.length then Fs k b else k = L1.length ∧ ∃ j, Fs (L1.length + j) b, fun k B hB => ?_, fun k b hb => ?_, fun j k b hjk hj hk => ?_⟩
  · by_cases hk : k < L1.length
    · simp only [if_pos hk]
      rw [List.getElem?_append_left hk] at hB
      exact h1 k B (by rw [List.getElem?_append_left hk]; exact hB)
    · have hlt := (List.getElem?_eq_some_iff.1 hB).1
      simp only [List.length_append, List.length_cons, List.length_nil] at hlt
      have hk' : k = L1.length := by omega
      subst hk'
      rw [List.getElem?_append_right (Nat.le_refl _)] at hB
      simp only [Nat.sub_self, List.getElem?_cons_zero, Option.some.injEq] at hB
      subst hB
      simp only [Nat.lt_irrefl, if_false, true_and]
      exact ⟨fun j => Fs (L1.length + j), fun j A hA => h1 _ A (by rw [List.getElem?_append_right (by omega), Nat.add_sub_cancel_left]; exact hA), fun j b hb => ⟨⟨⟨j, hb⟩, (h2 _ b hb).1.2⟩, (h2 _ b hb).2⟩, fun i j b hij => h3 _ _ b (by omega)⟩
  · by_cases hk : k < L1.length
    · simp only [if_pos hk] at hb; exact h2 k b hb
    · simp only [if_neg hk] at hb
      obtain ⟨_, j, hb⟩ := hb
      exact h2 _ b hb
  · by_cases hj' : j < L1.length
    · simp only [if_pos hj'] at hj
      by_cases hk' : k < L1.length
      · simp only [if_pos hk'] at hk; exact h3 j k b hjk hj hk
      · simp only [if_neg hk'] at hk
        obtain ⟨_, m, hk⟩ := hk
        exact h3 j _ b (by omega) hj hk
    · simp only [if_neg hj'] at hj
      obtain ⟨e, m, hj⟩ := hj
      by_cases hk' : k < L1.length
      · simp only [if_pos hk'] at hk
        exact h3 _ k b (by omega) hj hk
      · simp only [if_neg hk'] at hk
        exact hjk (e.trans hk.1.symm)
theorem Sep.open {R : Nat → Prop} {L1 L2 : List (Res R)} {U : Nat → Prop} {w : World} (h : Sep (L1 ++ [boxR L2]) U w) : Sep (L1 ++ L2) U w := by
  obtain ⟨Fs, h1, h2, h3⟩ := h
  obtain ⟨Gs, g1, g2, g3⟩ := h1 L1.length (boxR L2) (by rw [List.getElem?_append_right (Nat.le_refl _)]; simp)
  refine ⟨fun k => if k < L1.length then Fs k else Gs (k - L1.length), fun k B hB => ?_, fun k b hb => ?_, fun j k b hjk hj hk => ?_⟩
  · by_cases hk : k < L1.length
    · simp only [if_pos hk]
      rw [List.getElem?_append_left hk] at hB
      exact h1 k B (by rw [List.getElem?_append_left hk]; exact hB)
    · simp only [if_neg hk]
      rw [List.getElem?_append_right (by omega)] at hB
      exact g1 _ B hB
  · by_cases hk : k < L1.length
    · simp only [if_pos hk] at hb; exact h2 k b hb
    · simp only [if_neg hk] at hb
      exact ⟨(h2 _ b (g2 _ b hb).1.1).1, (g2 _ b hb).2⟩
  · by_cases hj' : j < L1.length
    · simp only [if_pos hj'] at hj
      by_cases hk' : k < L1.length
      · simp only [if_pos hk'] at hk; exact h3 j k b hjk hj hk
      · simp only [if_neg hk'] at hk
        exact h3 j L1.length b (by omega) hj (g2 _ b hk).1.1
    · simp only [if_neg hj'] at hj
      by_cases hk' : k < L1.length
      · simp only [if_pos hk'] at hk
        exact h3 L1.length k b (by omega) (g2 _ b hj).1.1 hk
      · simp only [if_neg hk'] at hk
        exact g3 _ _ b (by omega) hj hk

/-! kinds of resources -/
section
variable {R : Nat → Prop}
def bkR (b : Nat) (cs : List Value) (e : TypeId) : Res R := ⟨fun F w => Bk w b cs e ∧ F b, fun h hm hF _ => ⟨h.1.keep hm (hF b h.2), h.2⟩⟩
def accR {α : Type} (enc : α → List Value) (e : TypeId) (sz : Nat) (v : Value) (l : List α) : Res R :=
  ⟨fun F w => ∃ g, Acc enc e sz w g v l ∧ ∀ b, b + 1 = g → F b, fun ⟨g, h1, h2⟩ hm hF _ => ⟨g, h1.keep hm fun b hb => hF b (h2 b hb.symm), h2⟩⟩
/-- slices that are read only, in blocks of one's own or in those that nobody writes -/
def slR {α : Type} (enc : α → List Value) (vs : List (Value × List α)) : Res R :=
  ⟨fun F w => ∀ x ∈ vs, Sl enc w (fun b => F b ∨ R b) x.1 x.2, fun h hm hF hR x hx => (h x hx).keep hm fun b hb => hb.elim (hF b) (hR b)⟩
def mapR {α β : Type} [DecidableEq α] (key : α → Value) (val : β → Value) (b : Nat) (m : List (α × β)) : Res R :=
  ⟨fun F w => MapO key val w b m ∧ F b, fun {F w w' M} h hm hF _ => ⟨by
    obtain ⟨⟨es, c, h1, h2⟩, hb⟩ := h
    exact ⟨es, c, hm.keep _ _ h1 (hF b hb), h2⟩, h.2⟩⟩
def itR (b : Nat) (s : Str) (pos : Nat) : Res R := ⟨fun F w => It w b s pos ∧ F b, fun h hm hF _ => ⟨hm.keep _ _ h.1 (hF b h.2), h.2⟩⟩
def lentR {α : Type} (enc : α → List Value) (e : TypeId) (b : Nat) (l r : List α) : Res R := ⟨fun F w => Lent enc e w b l r ∧ F b, fun h hm hF _ => ⟨hm.keep _ _ h.1 (hF b h.2), h.2⟩⟩
def exR {α : Type} (A : α → Res R) : Res R := ⟨fun F w => ∃ a, (A a).p F w, fun ⟨a, h⟩ hm hF hR => ⟨a, (A a).keep h hm hF hR⟩⟩
def andR (P : Prop) (A : Res R) : Res R := ⟨fun F w => P ∧ A.p F w, fun h hm hF hR => ⟨h.1, A.keep h.2 hm hF hR⟩⟩
def noR : Res R := ⟨fun _ _ => True, fun _ _ _ _ => trivial⟩
end
theorem mg_weaken {F : Nat → Prop} {b : Nat} {w w' : World} (hm : Mod (Mg (b + 1)) w w') (hb : F b) : Mod F w w' := hm.weaken fun b' hb' _ => by
  have e : b' = b := by unfold Mg at hb'; omega
  rw [e]; exact hb
/-- where a walk stands: what may have been written since the call began; what is held -/
structure St (R F0 : Nat → Prop) (w0 w : World) (L : List (Res R)) : Prop where
  mod : Mod F0 w0 w
  far : ∀ b, R b → b < w0.heap.size ∧ ¬ F0 b
  sep : Sep L (fun b => F0 b ∨ w0.heap.size ≤ b) w

section
variable {R F0 : Nat → Prop} {w0 w w' : World} {L : List (Res R)} {i j : Nat} {A B : Res R}
theorem St.rlt (h : St R F0 w0 w L) : ∀ b, R b → b < w.heap.size := fun b hb => Nat.lt_of_lt_of_le (h.far b hb).1 h.mod.size
theorem St.start (w0 : World) (hR : ∀ b, R b → b < w0.heap.size) : St R (fun _ => False) w0 w0 [] := ⟨Mod.refl _ _, fun b hb => ⟨hR b hb, id⟩, ⟨fun _ _ => False, fun i A h => by simp at h, fun _ _ h => h.elim, fun _ _ _ _ h => h.elim⟩⟩
theorem St.start0 (w0 : World) : St (fun _ => False) (fun _ => False) w0 w0 [] := St.start w0 fun _ h => h.elim
theorem St.start1 {F : Nat → Prop} (hA : A.p F w0) (hF : ∀ b, F b → b < w0.heap.size ∧ ¬ R b) (hR : ∀ b, R b → b < w0.heap.size) : St R F w0 w0 [A] := ⟨Mod.refl _ _, fun b hb => ⟨hR b hb, fun h => (hF b h).2 hb⟩, ⟨fun i b => i = 0 ∧ F b, fun i B h => by
    cases i with
    | zero =>
      simp only [List.getElem?_cons_zero, Option.some.injEq] at h
      subst h
      simpa using hA
    | succ i => simp at h, fun i b h => ⟨⟨.inl h.2, (hF b h.2).2⟩, (hF b h.2).1⟩, fun i j b hij h1 h2 => hij (h1.1.trans h2.1.symm)⟩⟩
theorem St.ext (h : St R F0 w0 w L) (hm : Ext w w') : St R F0 w0 w' L := ⟨h.mod.ext hm, h.far, h.sep.keep hm (fun _ _ _ x => x) fun _ _ x => x⟩
theorem St.get (h : St R F0 w0 w L) (hi : L[i]? = some A) : ∃ F, A.p F w ∧ ∀ b, F b → b < w.heap.size := by
  obtain ⟨Fs, h1, h2, _⟩ := h.sep
  exact ⟨Fs i, h1 i A hi, fun b hb => (h2 i b hb).2⟩
theorem St.act (h : St R F0 w0 w L) (hi : L[i]? = some A) : ∃ F, A.p F w ∧ (∀ b, F b → ((F0 b ∨ w0.heap.size ≤ b) ∧ ¬ R b) ∧ b < w.heap.size) ∧ ∀ (w' : World) (F' : Nat → Prop) (A' : Res R), Mod F w w' → A'.p F' w' → (∀ b, F' b → b < w'.heap.size ∧ (F b ∨ w.heap.size ≤ b)) → St R F0 w0 w' (L.set i A') := by
  obtain ⟨F, h1, h2, k⟩ := h.sep.act h.rlt hi
  refine ⟨F, h1, h2, fun w' F' A' hm hA' hF' => ⟨h.mod.then hm fun b hb hl => (h2 b hb).1.1.resolve_right (by omega), h.far, k w' F' A' hm hA' fun b hb => ⟨(hF' b hb).1, (hF' b hb).2.imp id fun hb => ⟨hb, .inr (Nat.le_trans h.mod.size hb)⟩⟩⟩⟩
theorem St.act2 (h : St R F0 w0 w L) (hi : L[i]? = some A) (hj : L[j]? = some B) (hn : i ≠ j) : ∃ F G, A.p F w ∧ B.p G w ∧ (∀ b, G b → ¬ F b) ∧ (∀ b, F b → ((F0 b ∨ w0.heap.size ≤ b) ∧ ¬ R b) ∧ b < w.heap.size) ∧ (∀ b, G b → b < w.heap.size) ∧ ∀ (w' : World) (F' : Nat → Prop) (A' : Res R), Mod F w w' → A'.p F' w' → (∀ b, F' b → b < w'.heap.size ∧ (F b ∨ w.heap.size ≤ b)) → St R F0 w0 w' (L.set i A') := by
  obtain ⟨Fs, h1, h2, h3⟩ := h.sep
  let U : Nat → Prop := fun b => F0 b ∨ w0.heap.size ≤ b
  have hS : Sep L U w := ⟨Fs, h1, h2, h3⟩
  refine ⟨Fs i, Fs j, h1 i A hi, h1 j B hj, fun b hb hx => h3 i j b hn hx hb, h2 i, fun b hb => (h2 j b hb).2, fun w' F' A' hm hA' hF' => ⟨h.mod.then hm fun b hb hl => (h2 i b hb).1.1.resolve_right (by omega), h.far, ?_⟩⟩
  refine ⟨fun k => if k = i then F' else Fs k, fun k B hB => ?_, fun k b hb => ?_, fun j k b hjk hj hk => ?_⟩
  · by_cases hk : k = i
    · subst hk
      rw [List.getElem?_set_self (List.getElem?_eq_some_iff.1 hi).1] at hB
      simp only [if_true]
      cases hB; exact hA'
    · rw [List.getElem?_set_ne (fun e => hk e.symm)] at hB
      simp only [if_neg hk]
      exact B.keep (h1 k B hB) hm (fun b hb hx => h3 k i b hk hb hx) fun b hb hx => (h2 i b hx).1.2 hb
  · by_cases hk : k = i
    · subst hk
      simp only [if_true] at hb
      obtain ⟨h4, h5⟩ := hF' b hb
      exact ⟨h5.elim (fun h => (h2 k b h).1) (fun hb => ⟨.inr (Nat.le_trans h.mod.size hb), fun hr => by have := h.rlt b hr; omega⟩), h4⟩
    · simp only [if_neg hk] at hb
      exact ⟨(h2 k b hb).1, Nat.lt_of_lt_of_le (h2 k b hb).2 hm.size⟩
  · by_cases hji : j = i
    · have hki : k ≠ i := fun e => hjk (hji.trans e.symm)
      simp only [if_pos hji] at hj
      simp only [if_neg hki] at hk
      rcases (hF' b hj).2 with h5 | h5
      · exact h3 i k b (fun e => hki e.symm) h5 hk
      · have := (h2 k b hk).2; omega
    · simp only [if_neg hji] at hj
      by_cases hki : k = i
      · simp only [if_pos hki] at hk
        rcases (hF' b hk).2 with h5 | h5
        · exact h3 j i b hji hj h5
        · have := (h2 j b hj).2; omega
      · simp only [if_neg hki] at hk
        exact h3 j k b hjk hj hk
theorem St.new {F : Nat → Prop} (h : St R F0 w0 w L) (hm : Ext w w') (hA : A.p F w') (hF : ∀ b, F b → w.heap.size ≤ b ∧ b < w'.heap.size) : St R F0 w0 w' (L ++ [A]) :=
  ⟨h.mod.ext hm, h.far, h.sep.new h.rlt hm hA fun b hb => ⟨.inr (Nat.le_trans h.mod.size (hF b hb).1), hF b hb⟩⟩
theorem St.sel (is : List Nat) (h : St R F0 w0 w L) (hl : (is.all fun i => decide (i < L.length)) = true) (hn : is.Nodup) : St R F0 w0 w (is.filterMap fun i => L[i]?) := ⟨h.mod, h.far, h.sep.sel is hl hn⟩
theorem St.imp {A' : Res R} (h : St R F0 w0 w L) (hi : L[i]? = some A) (hA : ∀ F, A.p F w → A'.p F w) : St R F0 w0 w (L.set i A') := ⟨h.mod, h.far, h.sep.imp h.rlt hi hA⟩
theorem St.close {L1 L2 : List (Res R)} (h : St R F0 w0 w (L1 ++ L2)) : St R F0 w0 w (L1 ++ [boxR L2]) := ⟨h.mod, h.far, h.sep.close⟩
theorem St.open {L1 L2 : List (Res R)} (h : St R F0 w0 w (L1 ++ [boxR L2])) : St R F0 w0 w (L1 ++ L2) := ⟨h.mod, h.far, h.sep.open⟩
theorem St.fin (h : St R F0 w0 w [A]) : Mod F0 w0 w ∧ ∃ F', A.p F' w ∧ ∀ b, F' b → b < w.heap.size ∧ (F0 b ∨ w0.heap.size ≤ b) := by
  obtain ⟨Fs, h1, h2, _⟩ := h.sep
  exact ⟨h.mod, Fs 0, h1 0 A rfl, fun b hb => ⟨(h2 0 b hb).2, (h2 0 b hb).1.1⟩⟩
theorem St.exo {α : Type} {A : α → Res R} (h : St R F0 w0 w L) (hi : L[i]? = some (exR A)) : ∃ a, St R F0 w0 w (L.set i (A a)) := by
  obtain ⟨F, ⟨a, ha⟩, h2, k⟩ := h.act hi
  exact ⟨a, k w F (A a) (Mod.refl _ _) ha fun b hb => ⟨(h2 b hb).2, .inl hb⟩⟩
theorem St.exi {α : Type} {A : α → Res R} (h : St R F0 w0 w L) (a : α) (hi : L[i]? = some (A a)) : St R F0 w0 w (L.set i (exR A)) := h.imp hi fun F x => ⟨a, x⟩

/-! blocks -/
theorem St.bk {b : Nat} {cs : List Value} {e : TypeId} (h : St R F0 w0 w L) (hi : L[i]? = some (bkR b cs e)) : Bk w b cs e := by
  obtain ⟨F, h1, _⟩ := h.get hi; exact h1.1
theorem St.bkK {b : Nat} {cs cs' : List Value} {e : TypeId} (h : St R F0 w0 w L) (hi : L[i]? = some (bkR b cs e)) (hm : Mod (Mg (b + 1)) w w') (hk : Bk w' b cs' e) : St R F0 w0 w' (L.set i (bkR b cs' e)) := by
  obtain ⟨F, h1, h2, k⟩ := h.act hi
  exact k w' F _ (mg_weaken hm h1.2) ⟨hk, h1.2⟩ fun b hb => ⟨Nat.lt_of_lt_of_le (h2 b hb).2 hm.size, .inl hb⟩
theorem St.newBk {b : Nat} {cs : List Value} {e : TypeId} (h : St R F0 w0 w L) (hm : Ext w w') (hb : b = w.heap.size) (hk : Bk w' b cs e) : St R F0 w0 w' (L ++ [bkR b cs e]) :=
  h.new (F := fun x => x = b) hm ⟨hk, rfl⟩ fun x hx => by have := hk.lt; omega
theorem St.map {α β : Type} [DecidableEq α] {key : α → Value} {val : β → Value} {b : Nat} {m : List (α × β)} (h : St R F0 w0 w L) (hi : L[i]? = some (mapR key val b m)) : MapO key val w b m := by
  obtain ⟨F, h1, _⟩ := h.get hi; exact h1.1
theorem St.mapK {α β : Type} [DecidableEq α] {key : α → Value} {val : β → Value} {b : Nat} {m m' : List (α × β)} (h : St R F0 w0 w L) (hi : L[i]? = some (mapR key val b m)) (hm : Mod (Mg (b + 1)) w w') (hk : MapO key val w' b m') : St R F0 w0 w' (L.set i (mapR key val b m')) := by
  obtain ⟨F, h1, h2, k⟩ := h.act hi
  exact k w' F _ (mg_weaken hm h1.2) ⟨hk, h1.2⟩ fun b hb => ⟨Nat.lt_of_lt_of_le (h2 b hb).2 hm.size, .inl hb⟩
theorem St.newMap {α β : Type} [DecidableEq α] {key : α → Value} {val : β → Value} {b : Nat} {m : List (α × β)} (h : St R F0 w0 w L) (hm : Ext w w') (hb : b = w.heap.size) (hk : MapO key val w' b m) : St R F0 w0 w' (L ++ [mapR key val b m]) :=
  h.new (F := fun x => x = b) hm ⟨hk, rfl⟩ fun x hx => by have := hk.lt; omega
theorem St.it {b : Nat} {s : Str} {pos : Nat} (h : St R F0 w0 w L) (hi : L[i]? = some (itR b s pos)) : It w b s pos := by
  obtain ⟨F, h1, _⟩ := h.get hi; exact h1.1
theorem St.itK {b : Nat} {s : Str} {pos pos' : Nat} (h : St R F0 w0 w L) (hi : L[i]? = some (itR b s pos)) (hm : Mod (Mg (b + 1)) w w') (hk : It w' b s pos') : St R F0 w0 w' (L.set i (itR b s pos')) := by
  obtain ⟨F, h1, h2, k⟩ := h.act hi
  exact k w' F _ (mg_weaken hm h1.2) ⟨hk, h1.2⟩ fun b hb => ⟨Nat.lt_of_lt_of_le (h2 b hb).2 hm.size, .inl hb⟩
theorem St.newIt {b : Nat} {s : Str} {pos : Nat} (h : St R F0 w0 w L) (hm : Ext w w') (hb : b = w.heap.size) (hk : It w' b s pos) : St R F0 w0 w' (L ++ [itR b s pos]) :=
  h.new (F := fun x => x = b) hm ⟨hk, rfl⟩ fun x hx => by have := hk.lt; omega
/-! slices -/
section
variable {α : Type} {enc : α → List Value} {e : TypeId} {sz : Nat} {v : Value} {l : List α}
theorem Acc.uniq {g g' : Nat} {w' : World} (h : Acc enc e sz w g v l) {e' : TypeId} {sz' : Nat} {l' : List α} (h' : Acc enc e' sz' w' g' v l') : g = g' := by
  rcases h with ⟨h1, _, h2⟩ | ⟨b, cap, cur, h0, h1, _⟩ <;> rcases h' with ⟨k1, _, k2⟩ | ⟨b', cap', cur', k0, k1, _⟩
  · omega
  · rw [h1] at k1; simp at k1
  · rw [h1] at k1; simp at k1
  · rw [h1] at k1
    simp only [Value.slice.injEq, Option.some.injEq, Addr.mk.injEq] at k1
    omega
theorem St.accK (h : St R F0 w0 w L) (hi : L[i]? = some (accR enc e sz v l)) : ∃ g, Acc enc e sz w g v l ∧ g ≤ w.heap.size ∧ ∀ (w' : World) (g' : Nat) (v' : Value) (l' : List α), Mod (Mg g) w w' → Acc enc e sz w' g' v' l' → (g' = g ∨ w.heap.size < g') → St R F0 w0 w' (L.set i (accR enc e sz v' l')) := by
  obtain ⟨F, ⟨g, h1, h3⟩, h2, k⟩ := h.act hi
  refine ⟨g, h1, h1.lt, fun w' g' v' l' hm ha hg => k w' (fun b => b + 1 = g') _ (hm.weaken fun b hb _ => h3 b hb) ⟨g', ha, fun b hb => hb⟩ fun b hb => ⟨?_, ?_⟩⟩
  · have := ha.lt; omega
  · rcases hg with hg | hg
    · exact .inl (h3 b (by omega))
    · exact .inr (by omega)
theorem St.acc (h : St R F0 w0 w L) (hi : L[i]? = some (accR enc e sz v l)) : ∃ g, Acc enc e sz w g v l := by
  obtain ⟨g, h1, _⟩ := h.accK hi; exact ⟨g, h1⟩
theorem St.newAcc {g : Nat} (h : St R F0 w0 w L) (hm : Ext w w') (ha : Acc enc e sz w' g v l) (hg : g = 0 ∨ w.heap.size < g) : St R F0 w0 w' (L ++ [accR enc e sz v l]) :=
  h.new (F := fun b => b + 1 = g) hm ⟨g, ha, fun b hb => hb⟩ fun b hb => by have := ha.lt; omega
theorem St.ne {b g : Nat} {cs : List Value} {e' : TypeId} (h : St R F0 w0 w L) (hi : L[i]? = some (accR enc e sz v l)) (hj : L[j]? = some (bkR b cs e')) (hij : i ≠ j) (ha : Acc enc e sz w g v l) : b + 1 ≠ g := by
  obtain ⟨F, G, ⟨g', h1, h2⟩, h3, h4⟩ := h.sep.two hi hj hij
  have := ha.uniq h1
  subst this
  intro e
  exact h4 b h3.2 (h2 b e)
theorem St.sl {vs : List (Value × List α)} {k : Nat} (h : St R F0 w0 w L) (hi : L[i]? = some (slR enc vs)) (hk : vs[k]? = some (v, l)) : Sl enc w (Iv 0 w.heap.size) v l := by
  obtain ⟨F, h1, h2⟩ := h.get hi
  exact (h1 _ (List.mem_of_getElem? hk)).mono fun b hb => ⟨Nat.zero_le _, hb.elim (h2 b) (h.rlt b)⟩
theorem St.slK {vs : List (Value × List α)} {k : Nat} (h : St R F0 w0 w L) (hi : L[i]? = some (slR enc vs)) (hk : vs[k]? = some (v, l)) : ∃ F : Nat → Prop, Sl enc w F v l ∧ ∀ v' l', Sl enc w F v' l' → St R F0 w0 w (L.set i (slR enc (vs ++ [(v', l')]))) := by
  obtain ⟨F, h1, h2, k'⟩ := h.act hi
  refine ⟨fun b => F b ∨ R b, h1 _ (List.mem_of_getElem? hk), fun v' l' hs => k' w F _ (Mod.refl _ _) (fun x hx => ?_) fun b hb => ⟨(h2 b hb).2, .inl hb⟩⟩
  rcases List.mem_append.1 hx with hx | hx
  · exact h1 x hx
  · simp only [List.mem_singleton] at hx
    subst hx; exact hs
theorem St.newSl (h : St R F0 w0 w L) (hm : Ext w w') (hs : Sl enc w' (Iv w.heap.size w'.heap.size) v l) : St R F0 w0 w' (L ++ [slR enc [(v, l)]]) :=
  h.new (F := Iv w.heap.size w'.heap.size) hm (fun x hx => by simp only [List.mem_singleton] at hx; subst hx; exact hs.mono fun b hb => .inl hb) fun b hb => hb
theorem St.newSlB {b : Nat} (h : St R F0 w0 w L) (hm : Ext w w') (hb : b = w.heap.size) (hz : w'.heap.size = w.heap.size + 1) (hs : Sl enc w' (Iv b (b + 1)) v l) : St R F0 w0 w' (L ++ [slR enc [(v, l)]]) :=
  h.newSl hm (hs.mono fun x hx => by unfold Iv at *; omega)
theorem St.view1 {vs : List (Value × List α)} {k : Nat} (h : St R F0 w0 w L) (hi : L[i]? = some (slR enc vs)) (hk : vs[k]? = some (v, l)) : St R F0 w0 w (L.set i (slR enc [(v, l)])) :=
  h.imp hi fun F hx x hx' => by
    simp only [List.mem_singleton] at hx'
    subst hx'
    exact hx _ (List.mem_of_getElem? hk)
theorem Sl.atF {F : Nat → Prop} (h : Sl enc w F v l) {P : Program} {t : TypeId} {by_ : Nat} {g : Bool} {z : List Value} (ht : P.underlying t = some (.slice e)) (he : tyI P e = some (g, sz, by_, z)) (hsz : ∀ x, (enc x).length = sz) {k : IntKind} {n : Int} (i : Nat) (hn : n = (i : Int)) (hi : i < l.length) :
    ∃ x b off, l[i]? = some x ∧ (∀ w, (Instr.indexAt t v (.int k n)).run P w = .ok (ptr b off) w) ∧ F b ∧ Row w b off (enc x) := by
  obtain ⟨b, off, h1, h2, h3⟩ := h.at ht he hsz (k := k) i hn hi
  exact ⟨l[i], b, off, by simp, h1, h2, h3⟩
/-- an element's row, wherever it was found first -/
theorem Sl.rowAt {F : Nat → Prop} (h : Sl enc w F v l) {P : Program} {t : TypeId} {by_ : Nat} {g : Bool} {z : List Value} (ht : P.underlying t = some (.slice e)) (he : tyI P e = some (g, sz, by_, z)) (hsz : ∀ x, (enc x).length = sz) {k : IntKind} {n : Int} (i : Nat) (hn : n = (i : Int)) {x : α} {b off : Nat} (hx : l[i]? = some x)
    (hr : ∀ w, (Instr.indexAt t v (.int k n)).run P w = .ok (ptr b off) w) : Row w b off (enc x) := by
  obtain ⟨x', b', off', hx', hr', _, hrow⟩ := h.atF ht he hsz (k := k) i hn (List.getElem?_eq_some_iff.1 hx).1
  have e1 := (hr w).symm.trans (hr' w)
  simp only [ptr, Result.ok.injEq, Value.pointer.injEq, Option.some.injEq, Addr.mk.injEq, and_true] at e1
  obtain ⟨rfl, rfl⟩ := e1
  rw [hx] at hx'
  cases hx'
  exact hrow
/-- an own slice that is read only from now on -/
theorem St.freeze (h : St R F0 w0 w L) (hi : L[i]? = some (accR enc e sz v l)) : St R F0 w0 w (L.set i (slR enc [(v, l)])) :=
  h.imp hi fun F hx x hx' => by
    obtain ⟨g, h1, h2⟩ := hx
    simp only [List.mem_singleton] at hx'
    subst hx'
    refine h1.sl.mono fun b hb => ?_
    rcases h1 with ⟨_, _, h4⟩ | ⟨b', cap, cur, h0, _⟩
    · unfold Iv at hb; omega
    · exact .inl (h2 b (by unfold Iv at hb; omega))
/-- what lies in blocks that nobody writes -/
theorem St.newFar {G : Nat → Prop} (h : St R F0 w0 w L) (hs : Sl enc w0 G v l) (hG : ∀ b, G b → R b) : St R F0 w0 w (L ++ [slR enc [(v, l)]]) :=
  h.new (F := fun _ => False) (Mod.refl _ _) (fun x hx => by
    simp only [List.mem_singleton] at hx
    subst hx
    exact (hs.keep h.mod fun b hb => (h.far b (hG b hb)).2).mono fun b hb => .inr (hG b hb)) fun _ hb => hb.elim
end
end
/-! what a call that holds nothing of the caller's leaves -/
section
variable {w0 w : World} {R : Nat → Prop} {L0 : List (Res (fun _ => False))} {L : List (Res R)} {i : Nat} {α : Type} {enc : α → List Value} {e : TypeId} {sz : Nat} {v : Value} {l : List α}
theorem St.slOut {vs : List (Value × List α)} {k : Nat} (h : St (fun _ => False) (fun _ => False) w0 w L0) (hi : L0[i]? = some (slR enc vs)) (hk : vs[k]? = some (v, l)) : Sl enc w (Iv w0.heap.size w.heap.size) v l := by
  obtain ⟨F, h1, h2, _⟩ := h.act hi
  exact (h1 _ (List.mem_of_getElem? hk)).mono fun b hb => ⟨(h2 b (hb.resolve_right id)).1.1.resolve_left fun x => x, (h2 b (hb.resolve_right id)).2⟩
theorem St.accOut (h : St R (fun _ => False) w0 w L) (hi : L[i]? = some (accR enc e sz v l)) : ∃ g, Acc enc e sz w g v l ∧ (g = 0 ∨ w0.heap.size < g) := by
  obtain ⟨F, ⟨g, h1, h3⟩, h2, _⟩ := h.act hi
  refine ⟨g, h1, ?_⟩
  rcases (by omega : g = 0 ∨ 0 < g) with hg | hg
  · exact .inl hg
  · have := (h2 (g - 1) (h3 _ (by omega))).1.1.resolve_left fun x => x
    exact .inr (by omega)
theorem St.accSl (h : St R (fun _ => False) w0 w L) (hi : L[i]? = some (accR enc e sz v l)) : Sl enc w (Iv w0.heap.size w.heap.size) v l := by
  obtain ⟨g, h1, h2⟩ := h.accOut hi
  exact h1.fresh h2
end
/-- what lies outside stays -/
theorem St.out {R F0 G : Nat → Prop} {w0 w : World} {L : List (Res R)} {α : Type} {enc : α → List Value} {v : Value} {l : List α} (h : St R F0 w0 w L) (hs : Sl enc w0 G v l) (hG : ∀ b, G b → ¬ F0 b) : Sl enc w G v l := hs.keep h.mod hG
end Go.Ik
namespace Go.Ik
open Go
/-- a list in a cell of its own -/
def tbR {R : Nat → Prop} {α : Type} (te e : TypeId) (sz : Nat) (enc : α → List Value) (bl : Nat) (l : List α) : Res R := exR fun v : Value => boxR [bkR bl [v] te, accR enc e sz v l]
end Go.Ik
