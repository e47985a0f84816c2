/-
  A graph as Build answers it.
-/
import Derived.Test.YtajedfbogchkcaaMGraph2
set_option linter.unusedVariables false
set_option linter.unusedSimpArgs false
namespace Go.Ml
open Go.Ik

theorem encT_len : ∀ rs : List Nat, (encT rs).length ≤ 4 * rs.length
  | [] => by simp [encT]
  | c :: rs => by
    have h := encT_len rs
    have h4 := encL_len4 c
    have e : encT (c :: rs) = encL c ++ encT rs := rfl
    rw [e, List.length_append, List.length_cons]; omega
theorem word_short {w : Str} (h : word w = true) : w.length ≤ 48 := by
  unfold word at h
  rw [Bool.and_eq_true, decide_eq_true_eq, decide_eq_true_eq] at h
  have hf : Fine w := by
    intro hm
    unfold lenT at h; rw [if_pos hm] at h; omega
  have hl := lenT_fine hf
  have he := encT_len (runes w)
  rw [(encT_runes w hf).1] at he
  omega
theorem sum_le {l : List Str} {m : Nat} (h : ∀ x ∈ l, x.length ≤ m) : sumLen l ≤ l.length * m := by
  induction l with
  | nil => simp [sumLen]
  | cons a l ih =>
    rw [sumLen_cons, List.length_cons, Nat.add_mul]
    have := h a (by simp)
    have := ih fun x hx => h x (by simp [hx])
    omega
theorem good_sum {l : List Str} (h : goodL l = 0) : l.length ≤ 60 ∧ sumLen l ≤ 2880 := by
  obtain ⟨h1, h2, _⟩ := good_words h
  have := sum_le (l := l) (m := 48) fun x hx => word_short (h2 x hx)
  omega
/-- nodes of words as they are built -/
def graphB (words : List Str) : GS := if words = [] then [([], [])] else graphM words
def gnodes (words : List Str) : List GN := if goodL words = 0 then gnOf (graphB words) else []
theorem gnodes_no {words : List Str} (h : goodL words ≠ 0) : gnodes words = [] := by unfold gnodes; rw [if_neg h]
theorem gnodes_yes {words : List Str} (h : goodL words = 0) : gnodes words = gnOf (graphB words) := by unfold gnodes; rw [if_pos h]
theorem gnodes_nil {words : List Str} (h : words = []) : gnodes words = [(false, [])] := by subst h; decide
theorem graphM_len {words : List Str} (h : goodL words = 0) : (graphM words).length ≤ 2881 := by
  have h1 := addM_len 13 [] words (good_deep h).1
  have h2 := (good_sum h).2
  unfold graphM
  simp only [List.length_nil] at h1
  omega
theorem all2_len {α β : Type} {R : α → β → Prop} {a : List α} {b : List β} (h : All2 R a b) : a.length = b.length := (All2.get h).1
theorem groups_count : ∀ (n : Nat) (l : List Str), l.length ≤ n → (groups l).length ≤ l.length
  | _, [], _ => by simp [groups_nil]
  | 0, _ :: _, h => by simp at h
  | n + 1, s :: r, h => by
    rw [groups_cons]
    have hm := more_len s r
    have := groups_count n (moreP (pfx s) (s :: r)) (by simp only [List.length_cons] at h; omega)
    simp only [List.length_cons]; omega
theorem strip_le (p : Str) (l : List Str) : (stripP p l).length ≤ l.length := by have := strip_len p l; omega
theorem groups_sub : ∀ (n : Nat) (l : List Str), l.length ≤ n → ∀ g ∈ groups l, g.2.length ≤ l.length
  | _, [], _, g, hg => by simp [groups_nil] at hg
  | 0, _ :: _, h, _, _ => by simp at h
  | n + 1, s :: r, h, g, hg => by
    rw [groups_cons] at hg
    have hm := more_len s r
    rcases List.mem_cons.1 hg with rfl | hg
    · exact strip_le _ _
    · have := groups_sub n (moreP (pfx s) (s :: r)) (by simp only [List.length_cons] at h; omega) g hg
      simp only [List.length_cons]; omega
theorem edgesM_names {add : GS → List Str → GS × Nat} {L : Nat} : ∀ (gs : List (Nat × List Str)) (s : GS), (∀ g ∈ gs, ∀ s, (∀ y ∈ s, y.1.length ≤ L) → ∀ y ∈ (add s g.2).1, y.1.length ≤ L) → (∀ y ∈ s, y.1.length ≤ L) → ∀ y ∈ (edgesM add s gs).1, y.1.length ≤ L
  | [], s, _, hs => hs
  | g :: gs, s, h, hs => by
    show ∀ y ∈ (edgesM add (add s g.2).1 gs).1, _
    exact edgesM_names gs _ (fun g' hg' => h g' (by simp [hg'])) (h g (by simp) s hs)
theorem addM_short {L : Nat} : ∀ (f : Nat) (s : GS) (rests : List Str), (∀ y ∈ s, y.1.length ≤ L) → rests.length ≤ L → ∀ y ∈ (addM f s rests).1, y.1.length ≤ L
  | 0, s, rests, hs, _ => hs
  | f + 1, s, rests, hs, hr => by
    unfold addM
    cases hi : s.findIdx? fun x => x.1 == rests with
    | some i => exact hs
    | none =>
      have h1 := edgesM_names (add := addM f) (L := L) (groups (dropE rests)) (s ++ [(rests, [])]) (fun g hgm s' hs' => addM_short f s' g.2 hs' (by
        have := groups_sub _ (dropE rests) (Nat.le_refl _) g hgm
        have := dropE_len rests
        omega)) (fun y hy => by
          rcases List.mem_append.1 hy with hy | hy
          · exact hs y hy
          · simp only [List.mem_singleton] at hy; subst hy; exact hr)
      intro y hy
      rcases List.mem_or_eq_of_mem_set hy with hy | rfl
      · exact h1 y hy
      · exact hr
theorem gok_of {words : List Str} (h : goodL words = 0) : GOk (gnodes words) (graphB words) words := by
  rw [gnodes_yes h]
  unfold graphB
  split
  · rename_i he; subst he; exact GOk.empty
  · rename_i he
    have hw := graphM_ok (good_deep h).2 (good_deep h).1 he
    have hl := graphM_len h
    refine GOk.of hw (by omega) fun y hy => ?_
    have hc := all2_len (hw.node y hy).corr
    have hg := groups_count _ (dropE y.1) (Nat.le_refl _)
    have hd := dropE_len y.1
    have hyl : y.1.length ≤ 60 := addM_short 13 [] words (by simp) (good_sum h).1 y hy
    omega
end Go.Ml
namespace Go.Ik
open Go

theorem nr_rel {w : World} {F : Nat → Prop} : ∀ {t : List RNode} {xs : Ml.GS}, NR w F t xs → NRel w F t (gnOf xs)
  | _, _, .nil => .nil
  | _, _, .cons h r => .cons h (nr_rel r)
theorem gr_built {w : World} {bG gN lo n m : Nat} {vN : Value} {e nt : TypeId} {t : List RNode} {xs : Ml.GS} (hb : Bk w bG [vN] e) (hN : Acc encN nt 2 w gN vN t) (hR : NR w (Ivx n m gN) t xs) (h1 : lo ≤ bG) (h2 : lo ≤ n) (hg : gN = 0 ∨ lo < gN) (hm : m ≤ w.heap.size) (hne : xs ≠ []) :
    Gr 0 w lo w.heap.size (ptr bG 0) (gnOf xs) :=
  .inr ⟨bG, vN, t, rfl, by simpa [gnOf] using hne, ⟨h1, hb.lt, hb.row⟩, hN.fresh hg, nr_rel (NR.mono hR fun b hb => by unfold Ivx at hb; unfold Iv; omega)⟩
theorem gr_one {w : World} {bG lo lo' hi' : Nat} {vN : Value} {e : TypeId} (hb : Bk w bG [vN] e) (hs : Sl encN w (Iv lo' hi') vN [RNode.mk false (SH.mk none 0 0)]) (h1 : lo ≤ bG) (h2 : lo ≤ lo') (h3 : hi' ≤ w.heap.size) : Gr 0 w lo w.heap.size (ptr bG 0) [(false, [])] :=
  .inr ⟨bG, vN, _, rfl, by simp, ⟨h1, hb.lt, hb.row⟩, hs.iv h2 h3, .cons ⟨rfl, Sl.nil⟩ .nil⟩
end Go.Ik
