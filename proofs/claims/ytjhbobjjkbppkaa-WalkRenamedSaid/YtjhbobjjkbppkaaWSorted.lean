/-
  The walk through list.Sorted.
-/
import Derived.Test.YtjhbobjjkbppkaaWSort
import Derived.Test.YtjhbobjjkbppkaaWText
set_option linter.unusedVariables false
set_option linter.unusedSimpArgs false
namespace Go.Proofs
open Go.Ik Go.Ml
set_option maxRecDepth 20000 in
set_option maxHeartbeats 4000000 in
theorem lsorted_c {w0 : World}  {v_words : Value} {words : List Str} (h_words : Sl encS w0 (Iv 0 w0.heap.size) v_words words) (hok : Ml.LOk words) (hln_words : words.length ≤ 1000000) :
    Calls Try.prog 31 #[v_words] w0 (Ret fun rv w1 => (∃ gr, Acc encS 9 1 w1 gr rv (Ml.sortedM words) ∧ (gr = 0 ∨ w0.heap.size < gr)) ∧ Ext w0 w1) := by
  have hE0 : Ext w0 w0 := Mod.refl _ _
  have hle1 := h_words.le
  refine calls_enter Try.func31 rfl Try.ntmps31 rfl ?_
  refine r_seq ?_
  refine r_region ?_
  refine OL.q (Q1.assign rfl) rfl rfl ?_
  refine OL.nil ?_
  refine r_seq ?_
  refine r_region ?_
  refine OL.q (Q1.assign rfl) rfl rfl ?_
  refine OL.nil ?_
  refine r_seq ?_
  refine r_seq ?_
  refine r_region ?_
  refine OL.q (Q1.move rfl) rfl rfl ?_
  refine OL.q (Q1.move rfl) rfl rfl ?_
  refine OL.q (Q1.lenSl Try.underlying22 (h_words) rfl) rfl rfl ?_
  refine OL.q (Q1.min rfl rfl) rfl rfl ?_
  obtain ⟨v1, hr1, hl1⟩ := Sl.part (P := Try.prog) h_words Try.underlying22 ti9 encS_len (0) ((min words.length 1000)) (.inl ⟨rfl, rfl⟩) (.inr ⟨.i64, (min (((words.length : Nat) : Int)) 1000), rfl, by omega⟩) (by omega) (by first | assumption | omega)
  refine OL.q (Q1.sliceV rfl rfl rfl rfl hr1) rfl rfl ?_
  replace hl1 : Sl encS w0 (Iv 0 w0.heap.size) v1 (words.take ((min words.length 1000))) := by simpa using hl1
  refine OL.q (Q1.lenSl Try.underlying22 (hl1) rfl) rfl rfl ?_
  refine OL.q (Q1.move rfl) rfl rfl ?_
  refine OL.nil ?_
  refine r_block ?_
  refine r_loop (I := fun m E W => ∃ (v_l : Value) (g_l : Nat) (l : List Str) (k : Nat), E = [(3, v_l), (11, v1), (12, .int .i64 (((((words.take ((min words.length 1000)))).length : Nat) : Int))), (13, .int .i64 (((k : Nat) : Int)))] ∧ m = (words.take (min words.length 1000)).length - k ∧ Ext w0 W ∧ w0.heap.size ≤ W.heap.size ∧ Acc encS 9 1 W g_l v_l l ∧ (g_l = 0 ∨ w0.heap.size < g_l) ∧ Sl encS W (Iv 0 w0.heap.size) v1 ((words.take ((min words.length 1000)))) ∧ (l = ((words.take (min words.length 1000)).take k).filter Ml.word) ∧ (l.length ≤ k) ∧ (k ≤ 1000)) ?_ ?_
  · refine ⟨_, _, ⟨(.slice none 0 0 : Value), (0 : Nat), ([] : List Str), (0 : Nat), rfl, rfl, hE0, Nat.le_refl _, Acc.nil, (by omega), hl1, (by rfl), (by exact Nat.zero_le _), (by omega)⟩, ⟨rfl, rfl, rfl, rfl, trivial⟩⟩
  · rintro _ _ w1 ⟨v_l, g_l, l, k, rfl, rfl, hE1, hs1, ha1, hg1, f1, hi, hl, hk⟩ ih1
    have htk : (words.take (min words.length 1000)).length ≤ 1000 := by rw [List.length_take]; omega
    refine r_seq ?_
    refine r_region ?_
    refine OL.qb (Q1.lt rfl rfl) rfl rfl ?_
    intro b1 hb1
    refine OL.nil ?_
    refine r_seq ?_
    cases b1 with
    | true =>
      replace hb1 := of_decide_eq_true hb1.symm
      refine r_cond_t rfl ?_
      refine r_skip ?_
      refine r_seq ?_
      refine r_block ?_
      refine r_seq ?_
      refine r_region ?_
      obtain ⟨x1, b2, o1, hx1, hr2, hl2, hu1, hw1⟩ := Sl.at' (P := Try.prog) f1 Try.underlying22 ti9 encS_len (k := .i64) (n := ((k : Nat) : Int)) (k) (by omega) (by first | assumption | omega)
      refine OL.q (Q1.indexAddr rfl rfl hr2) rfl rfl ?_
      refine OL.q (Q1.load1 ti9 rfl (fun _ e => e ▸ hw1)) rfl rfl ?_
      refine OL.q (Q1.assign rfl) rfl rfl ?_
      refine OL.nil ?_
      refine r_seq ?_
      refine r_region ?_
      refine OL.q (Q1.move rfl) rfl rfl ?_
      refine OL.act rfl rfl (AW.callF cl43 rfl (tword_c (w0 := w1)  x1 (by exact hok.att hx1)) ?_)
      rintro _ w2 ⟨⟨b3, hb2, rfl⟩, hm1⟩
      have hl3 := ha1.lt
      have f2 := ha1.ext hm1
      have f3 := f1.ext hm1
      have hE2 := hE1.ext hm1
      have hs2 := hm1.size
      refine OL.nil ?_
      cases b3 with
      | true =>
        replace hb2 := hb2.symm
        refine r_cond_t rfl ?_
        refine r_region ?_
        refine OL.q (Q1.move rfl) rfl rfl ?_
        refine OL.q (Q1.move rfl) rfl rfl ?_
        refine OL.act rfl rfl (AW.buildSlice [strV x1] Try.underlying22 ti9 rfl rfl rfl (by decide) ?_)
        intro w3 b4 hm2 hb3 hz1 hk1
        have hl4 := f2.lt
        have f4 := f2.ext hm2
        have f5 := f3.ext hm2
        have hE3 := hE2.ext hm2
        have hs3 := hm2.size
        have hl5 := Sl.of_blk (enc := encS) hk1 ([x1] : List Str) 1 rfl rfl (by unfold maxLen; omega)
        have hl6 := f4.lt
        refine OL.act rfl rfl (AW.append f4 Try.underlying22 ti9 rfl encS_len encS_one rfl rfl (hl5) (by first | omega | (simp only [List.length_append, List.length_cons, List.length_nil]; omega) | (simp; omega)) (by unfold maxLen; first | omega | (simp only [List.length_append, List.length_cons, List.length_nil]; omega) | (simp; omega)) ?_)
        intro v2 g1 w4 ha2 hm3 hg2 hz2
        have hl7 := f4.lt
        have f6 := f5.keepG hm3 (by omega)
        have f7 := hl5.keepG hm3 (by omega)
        have hE4 := Ext.thenG hE3 hm3 (by omega)
        have hs4 := hm3.size
        refine OL.q (Q1.assign rfl) rfl rfl ?_
        refine OL.nil ?_
        refine r_inBlock ?_
        refine r_region ?_
        refine OL.q (Q1.addI (((k + 1 : Nat) : Int)) rfl rfl (by omega)) rfl rfl ?_
        refine OL.q (Q1.move rfl) rfl rfl ?_
        refine OL.nil ?_
        exact (ih1 _ _ _ ⟨(v2 : Value), (g1 : Nat), ((l ++ [x1]) : List Str), (k + 1 : Nat), rfl, rfl, hE4, (by omega), ha2, (by omega), f6, (by first | (rw [Ml.filter_take_yes hx1 (by assumption), hi]) | (rw [Ml.filter_take_no hx1 (by assumption)]; exact hi) | (exfalso; omega)), (by first | omega | (simp only [List.length_append, List.length_cons, List.length_nil]; omega) | (exfalso; omega)), (by first | omega | (exfalso; omega))⟩ (by omega)).sub ⟨rfl, rfl, rfl, rfl, trivial⟩
      | false =>
        replace hb2 := hb2.symm
        refine r_cond_f rfl ?_
        refine r_skip ?_
        refine r_inBlock ?_
        refine r_region ?_
        refine OL.q (Q1.addI (((k + 1 : Nat) : Int)) rfl rfl (by omega)) rfl rfl ?_
        refine OL.q (Q1.move rfl) rfl rfl ?_
        refine OL.nil ?_
        exact (ih1 _ _ _ ⟨(v_l : Value), (g_l : Nat), (l : List Str), (k + 1 : Nat), rfl, rfl, hE2, (by omega), f2, (by omega), f3, (by first | (rw [Ml.filter_take_yes hx1 (by assumption), hi]) | (rw [Ml.filter_take_no hx1 (by assumption)]; exact hi) | (exfalso; omega)), (by first | omega | (simp only [List.length_append, List.length_cons, List.length_nil]; omega) | (exfalso; omega)), (by first | omega | (exfalso; omega))⟩ (by omega)).sub ⟨rfl, rfl, rfl, rfl, trivial⟩
    | false =>
      replace hb1 := of_decide_eq_false hb1.symm
      refine r_cond_f rfl ?_
      refine r_exit rfl ?_
      refine r_seq ?_
      refine r_region ?_
      refine OL.q (Q1.assign rfl) rfl rfl ?_
      refine OL.nil ?_
      refine r_seq ?_
      refine r_region ?_
      refine OL.q (Q1.move rfl) rfl rfl ?_
      refine OL.q (Q1.move rfl) rfl rfl ?_
      have hn1 := Ml.sortL_len l
      refine OL.act rfl rfl (AW.callF cl48 rfl (sort_c (w0 := w1) ha1 (by omega)) ?_)
      rintro _ w2 ⟨rfl, ha2, hm1⟩
      have hl2 := ha1.lt
      have f2 := f1.keepG hm1 (by omega)
      have hE2 := Ext.thenG hE1 hm1 (by omega)
      have hs2 := hm1.size
      refine OL.nil ?_
      refine r_seq ?_
      refine r_region ?_
      refine OL.q (Q1.move rfl) rfl rfl ?_
      refine OL.act rfl rfl (AW.callF cl49 rfl (compact_c (w0 := w2) ha2 (by omega)) ?_)
      rintro v2 w3 ⟨ha3, hm2⟩
      have hl3 := ha2.lt
      have f3 := f2.keepG hm2 (by omega)
      have hE3 := Ext.thenG hE2 hm2 (by omega)
      have hs3 := hm2.size
      refine OL.q (Q1.assign rfl) rfl rfl ?_
      refine OL.nil ?_
      refine r_ret1 Try.func31 rfl rfl ?_
      exact Ret.mk ⟨⟨_, Acc.cast ha3 (by first | exact Ml.sortedM_eq hi (by omega) | (exfalso; omega)), by omega⟩, hE3⟩
end Go.Proofs
