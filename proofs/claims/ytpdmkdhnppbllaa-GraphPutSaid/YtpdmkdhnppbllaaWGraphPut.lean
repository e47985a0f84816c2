/-
  The walk through the law GraphPut.
-/
import Derived.Test.YtpdmkdhnppbllaaWAwake
import Derived.Test.YtpdmkdhnppbllaaWSorted
import Derived.Test.YtpdmkdhnppbllaaLwPut
set_option linter.unusedVariables false
set_option linter.unusedSimpArgs false
namespace Go.Proofs
open Go.Ik Go.Ml
set_option maxRecDepth 20000 in
set_option maxHeartbeats 4000000 in
theorem GraphPut_c {w0 : World}  {v_words : Value} {words : List Str} (s : Str) (h_words : Sl encS w0 (Iv 0 w0.heap.size) v_words words) (hok : Ml.LOk words) :
    Calls Try.prog 10 #[v_words, strV s] w0 (Ret fun rv w1 => (∃ rb : Bool, rb = true ∧ rv = .bool rb) ∧ Ext w0 w1) := by
  have hE0 : Ext w0 w0 := Mod.refl _ _
  have hle1 := h_words.le
  refine calls_enter Try.func10 rfl Try.ntmps10 rfl ?_
  refine r_seq ?_
  refine r_region ?_
  refine OL.q (Q1.assign rfl) rfl rfl ?_
  refine OL.nil ?_
  refine r_seq ?_
  refine r_seq ?_
  refine r_region ?_
  refine OL.q (Q1.move rfl) rfl rfl ?_
  refine OL.act rfl rfl (AW.callF cl11 rfl (greatT_c (w0 := w0) (l := words)  ((h_words).iv (Nat.zero_le _) (by omega))) ?_)
  rintro _ w1 ⟨⟨b1, hb1, rfl⟩, hm1⟩
  have f1 := h_words.ext hm1
  have hE1 := hE0.ext hm1
  have hs1 := hm1.size
  refine OL.q (Q1.move rfl) rfl rfl ?_
  cases b1 with
  | true =>
    replace hb1 := hb1.symm
    refine OL.sk rfl rfl ?_
    refine OL.sk rfl rfl ?_
    refine OL.sk rfl rfl ?_
    refine OL.q (Q1.pick_t rfl rfl) rfl rfl ?_
    refine OL.nil ?_
    refine r_cond_t rfl ?_
    refine r_seq ?_
    refine r_region ?_
    refine OL.act rfl rfl (AW.callF cl12 rfl (awake8_c (w0 := w1)   ) ?_)
    rintro _ w2 ⟨⟨_, rfl, rfl⟩, hm2⟩
    have f2 := f1.ext hm2
    have hE2 := hE1.ext hm2
    have hs2 := hm2.size
    refine OL.q (Q1.assign rfl) rfl rfl ?_
    refine OL.nil ?_
    refine r_ret1 Try.func10 rfl rfl ?_
    exact Ret.mk ⟨⟨_, (by rfl), rfl⟩, hE2⟩
  | false =>
    replace hb1 := hb1.symm
    refine OL.q (Q1.move rfl) rfl rfl ?_
    refine OL.q (Q1.lenS Try.underlying9 rfl) rfl rfl ?_
    refine OL.qb (Q1.gt rfl rfl) rfl rfl ?_
    intro b2 hb2
    refine OL.q (Q1.pick_f rfl rfl) rfl rfl ?_
    refine OL.nil ?_
    cases b2 with
    | true =>
      replace hb2 := of_decide_eq_true hb2.symm
      refine r_cond_t rfl ?_
      refine r_seq ?_
      refine r_region ?_
      refine OL.act rfl rfl (AW.callF cl12 rfl (awake8_c (w0 := w1)   ) ?_)
      rintro _ w2 ⟨⟨_, rfl, rfl⟩, hm2⟩
      have f2 := f1.ext hm2
      have hE2 := hE1.ext hm2
      have hs2 := hm2.size
      refine OL.q (Q1.assign rfl) rfl rfl ?_
      refine OL.nil ?_
      refine r_ret1 Try.func10 rfl rfl ?_
      exact Ret.mk ⟨⟨_, (by rfl), rfl⟩, hE2⟩
    | false =>
      replace hb2 := of_decide_eq_false hb2.symm
      refine r_cond_f rfl ?_
      refine r_skip ?_
      refine r_seq ?_
      refine r_region ?_
      refine OL.q (Q1.move rfl) rfl rfl ?_
      have hl8 := Ml.greatT_len (l := words) (by assumption)
      refine OL.act rfl rfl (AW.callF cl37 rfl (lsorted_c (w0 := w1) (words := words)  ((f1).iv (Nat.zero_le _) (by omega)) (by first | assumption | (intro s hs; revert s; decide +kernel)) (by first | assumption | omega | (simp; done))) ?_)
      rintro v1 w2 ⟨⟨gr1, h1, hg1⟩, hm2⟩
      have f2 := f1.ext hm2
      have hE2 := hE1.ext hm2
      have hs2 := hm2.size
      have hle_1 := h1.le
      have hlt_1 := h1.lt
      have := Ml.sortedM_len words
      refine OL.q (Q1.assign rfl) rfl rfl ?_
      refine OL.nil ?_
      refine r_seq ?_
      refine r_seq ?_
      refine r_region ?_
      refine OL.q (Q1.move rfl) rfl rfl ?_
      refine OL.q (Q1.lenSl Try.underlying22 (h1.sl) rfl) rfl rfl ?_
      refine OL.qb (Q1.eq rfl rfl) rfl rfl ?_
      intro b3 hb3
      refine OL.q (Q1.move rfl) rfl rfl ?_
      cases b3 with
      | true =>
        replace hb3 := eq_of_beq hb3.symm
        refine OL.sk rfl rfl ?_
        refine OL.sk rfl rfl ?_
        refine OL.sk rfl rfl ?_
        refine OL.q (Q1.pick_t rfl rfl) rfl rfl ?_
        refine OL.q (Q1.move rfl) rfl rfl ?_
        refine OL.sk rfl rfl ?_
        refine OL.sk rfl rfl ?_
        refine OL.sk rfl rfl ?_
        refine OL.q (Q1.pick_t rfl rfl) rfl rfl ?_
        refine OL.nil ?_
        refine r_cond_t rfl ?_
        refine r_seq ?_
        refine r_region ?_
        refine OL.act rfl rfl (AW.callF cl12 rfl (awake8_c (w0 := w2)   ) ?_)
        rintro _ w3 ⟨⟨_, rfl, rfl⟩, hm3⟩
        have hl1 := h1.lt
        have f3 := f2.ext hm3
        have f4 := h1.ext hm3
        have hE3 := hE2.ext hm3
        have hs3 := hm3.size
        refine OL.q (Q1.assign rfl) rfl rfl ?_
        refine OL.nil ?_
        refine r_ret1 Try.func10 rfl rfl ?_
        exact Ret.mk ⟨⟨_, (by rfl), rfl⟩, hE3⟩
      | false =>
        replace hb3 := ne_of_beq_false hb3.symm
        refine OL.q (Q1.move rfl) rfl rfl ?_
        refine OL.q (Q1.lenSl Try.underlying22 (h1.sl) rfl) rfl rfl ?_
        refine OL.qb (Q1.gt rfl rfl) rfl rfl ?_
        intro b4 hb4
        refine OL.q (Q1.pick_f rfl rfl) rfl rfl ?_
        refine OL.q (Q1.move rfl) rfl rfl ?_
        cases b4 with
        | true =>
          replace hb4 := of_decide_eq_true hb4.symm
          refine OL.sk rfl rfl ?_
          refine OL.sk rfl rfl ?_
          refine OL.sk rfl rfl ?_
          refine OL.q (Q1.pick_t rfl rfl) rfl rfl ?_
          refine OL.nil ?_
          refine r_cond_t rfl ?_
          refine r_seq ?_
          refine r_region ?_
          refine OL.act rfl rfl (AW.callF cl12 rfl (awake8_c (w0 := w2)   ) ?_)
          rintro _ w3 ⟨⟨_, rfl, rfl⟩, hm3⟩
          have hl1 := h1.lt
          have f3 := f2.ext hm3
          have f4 := h1.ext hm3
          have hE3 := hE2.ext hm3
          have hs3 := hm3.size
          refine OL.q (Q1.assign rfl) rfl rfl ?_
          refine OL.nil ?_
          refine r_ret1 Try.func10 rfl rfl ?_
          exact Ret.mk ⟨⟨_, (by rfl), rfl⟩, hE3⟩
        | false =>
          replace hb4 := of_decide_eq_false hb4.symm
          refine OL.q (Q1.move rfl) rfl rfl ?_
          refine OL.act rfl rfl (AW.callF cl38 rfl (tlen_c (w0 := w2)  s (by first | assumption | omega)) ?_)
          rintro _ w3 ⟨rfl, hm3, hp1⟩
          have hl1 := h1.lt
          have f3 := f2.ext hm3
          have f4 := h1.ext hm3
          have hE3 := hE2.ext hm3
          have hs3 := hm3.size
          refine OL.qb (Q1.lt rfl rfl) rfl rfl ?_
          intro b5 hb5
          refine OL.q (Q1.pick_f rfl rfl) rfl rfl ?_
          refine OL.nil ?_
          cases b5 with
          | true =>
            replace hb5 := of_decide_eq_true hb5.symm
            refine r_cond_t rfl ?_
            refine r_seq ?_
            refine r_region ?_
            refine OL.act rfl rfl (AW.callF cl12 rfl (awake8_c (w0 := w3)   ) ?_)
            rintro _ w4 ⟨⟨_, rfl, rfl⟩, hm4⟩
            have hl2 := f4.lt
            have f5 := f3.ext hm4
            have f6 := f4.ext hm4
            have hE4 := hE3.ext hm4
            have hs4 := hm4.size
            refine OL.q (Q1.assign rfl) rfl rfl ?_
            refine OL.nil ?_
            refine r_ret1 Try.func10 rfl rfl ?_
            exact Ret.mk ⟨⟨_, (by rfl), rfl⟩, hE4⟩
          | false =>
            replace hb5 := of_decide_eq_false hb5.symm
            refine r_cond_f rfl ?_
            refine r_skip ?_
            refine r_seq ?_
            refine r_region ?_
            refine OL.q (Q1.assign rfl) rfl rfl ?_
            have hlp : 0 ≤ Ml.lenT s := by omega
            have hin0 : Ml.sortedM words ≠ [] := fun e => by have e2 := congrArg List.length e; simp only [List.length_nil] at e2; omega
            have hig := Ml.sorted_good (words := words) (by omega)
            have hlps := Ml.lenT_le s
            refine OL.nil ?_
            refine r_seq ?_
            refine r_seq ?_
            refine r_region ?_
            refine OL.q (Q1.assign rfl) rfl rfl ?_
            refine OL.nil ?_
            refine r_block ?_
            refine r_loop (I := fun m E W => ∃ (v_a : Value) (g_a : Nat) (a : List Str) (i : Nat), E = [(1, strV s), (5, v1), (6, v_a), (7, .int .i64 (((i : Nat) : Int)))] ∧ m = (Ml.sortedM words).length - i ∧ Ext w0 W ∧ w3.heap.size ≤ W.heap.size ∧ Acc encS 9 1 W g_a v_a a ∧ (g_a = 0 ∨ w0.heap.size < g_a) ∧ Acc encS 9 1 W gr1 v1 ((Ml.sortedM words)) ∧ (g_a ≠ gr1 ∨ gr1 = 0) ∧ (a = Ml.putW s ((Ml.sortedM words).take i)) ∧ (∀ w ∈ (Ml.sortedM words).take i, Ml.lenT w + Ml.lenT s ≤ 12) ∧ (i ≤ (Ml.sortedM words).length) ∧ (a.length ≤ i) ∧ (∀ x ∈ a, x.length ≤ 88)) ?_ ?_
            · refine ⟨_, _, ⟨(.slice none 0 0 : Value), (0 : Nat), ([] : List Str), (0 : Nat), rfl, rfl, hE3, Nat.le_refl _, Acc.nil, (by omega), f4, (by omega), (by rfl), (by simp), (by exact Nat.zero_le _), (by exact Nat.zero_le _), (by (intro x hx; simp at hx))⟩, ⟨rfl, rfl, rfl, rfl, trivial⟩⟩
            · rintro _ _ w4 ⟨v_a, g_a, a, i, rfl, rfl, hE4, hs4, ha1, hg2, f5, hn1, ha, hbd, hil, hali, haok⟩ ih1
              refine r_seq ?_
              refine r_seq ?_
              refine r_region ?_
              refine OL.q (Q1.move rfl) rfl rfl ?_
              refine OL.q (Q1.move rfl) rfl rfl ?_
              refine OL.q (Q1.lenSl Try.underlying22 (f5.sl) rfl) rfl rfl ?_
              refine OL.qb (Q1.lt rfl rfl) rfl rfl ?_
              intro b6 hb6
              refine OL.nil ?_
              cases b6 with
              | true =>
                replace hb6 := of_decide_eq_true hb6.symm
                refine r_cond_t rfl ?_
                refine r_skip ?_
                refine r_seq ?_
                refine r_block ?_
                refine r_seq ?_
                refine r_seq ?_
                refine r_region ?_
                refine OL.q (Q1.move rfl) rfl rfl ?_
                refine OL.q (Q1.move rfl) rfl rfl ?_
                obtain ⟨x1, b7, o1, hx1, hr1, hl2, hu1, hw1⟩ := Sl.at' (P := Try.prog) f5.sl Try.underlying22 ti9 encS_len (k := .i64) (n := ((i : Nat) : Int)) (i) (by omega) (by first | assumption | omega)
                refine OL.q (Q1.indexAddr rfl rfl hr1) rfl rfl ?_
                refine OL.q (Q1.load1 ti9 rfl (fun _ e => e ▸ hw1)) rfl rfl ?_
                have hx1e := Ml.lenT_le x1
                have hx1l := Ml.sortedM_ok hok hx1
                have hx1s : x1.length ≤ 48 := Ml.word_short (Ml.sortedM_word hx1)
                refine OL.act rfl rfl (AW.callF cl38 rfl (tlen_c (w0 := w4)  x1 (by first | assumption | omega)) ?_)
                rintro _ w5 ⟨rfl, hm4, hp2⟩
                have hl3 := ha1.lt
                have hl4 := f5.lt
                have f6 := ha1.ext hm4
                have f7 := f5.ext hm4
                have hE5 := hE4.ext hm4
                have hs5 := hm4.size
                refine OL.q (Q1.move rfl) rfl rfl ?_
                refine OL.act rfl rfl (AW.callF cl38 rfl (tlen_c (w0 := w5)  s (by first | assumption | omega)) ?_)
                rintro _ w6 ⟨rfl, hm5, hp3⟩
                have hl5 := f6.lt
                have hl6 := f7.lt
                have f8 := f6.ext hm5
                have f9 := f7.ext hm5
                have hE6 := hE5.ext hm5
                have hs6 := hm5.size
                refine OL.q (Q1.addI (((Ml.lenT x1) + ((Ml.lenT s)))) rfl rfl (by omega)) rfl rfl ?_
                refine OL.qb (Q1.gt rfl rfl) rfl rfl ?_
                intro b8 hb7
                refine OL.nil ?_
                cases b8 with
                | true =>
                  replace hb7 := of_decide_eq_true hb7.symm
                  refine r_cond_t rfl ?_
                  refine r_seq ?_
                  refine r_region ?_
                  refine OL.act rfl rfl (AW.callF cl12 rfl (awake8_c (w0 := w6)   ) ?_)
                  rintro _ w7 ⟨⟨_, rfl, rfl⟩, hm6⟩
                  have hl7 := f8.lt
                  have hl8 := f9.lt
                  have f10 := f8.ext hm6
                  have f11 := f9.ext hm6
                  have hE7 := hE6.ext hm6
                  have hs7 := hm6.size
                  refine OL.q (Q1.assign rfl) rfl rfl ?_
                  refine OL.nil ?_
                  refine r_ret1 Try.func10 rfl rfl ?_
                  exact Ret.mk ⟨⟨_, (by rfl), rfl⟩, hE7⟩
                | false =>
                  replace hb7 := of_decide_eq_false hb7.symm
                  refine r_cond_f rfl ?_
                  refine r_skip ?_
                  refine r_region ?_
                  refine OL.q (Q1.move rfl) rfl rfl ?_
                  refine OL.q (Q1.move rfl) rfl rfl ?_
                  refine OL.q (Q1.move rfl) rfl rfl ?_
                  refine OL.q (Q1.move rfl) rfl rfl ?_
                  obtain ⟨x2, b9, o2, hx2, hr2, hl7, hu2, hw2⟩ := Sl.at' (P := Try.prog) f9.sl Try.underlying22 ti9 encS_len (k := .i64) (n := ((i : Nat) : Int)) (i) (by omega) (by first | assumption | omega)
                  obtain rfl : x1 = x2 := Option.some.inj (hx1.symm.trans hx2)
                  refine OL.q (Q1.indexAddr rfl rfl hr2) rfl rfl ?_
                  refine OL.q (Q1.load1 ti9 rfl (fun _ e => e ▸ hw2)) rfl rfl ?_
                  refine OL.q (Q1.catS rfl rfl (by first | omega | (simp only [List.length_append]; omega))) rfl rfl ?_
                  refine OL.act rfl rfl (AW.buildSlice [strV ((s ++ x1))] Try.underlying22 ti9 rfl rfl rfl (by decide) ?_)
                  intro w7 b10 hm6 hb8 hz1 hk1
                  have hl8 := f8.lt
                  have hl9 := f9.lt
                  have f10 := f8.ext hm6
                  have f11 := f9.ext hm6
                  have hE7 := hE6.ext hm6
                  have hs7 := hm6.size
                  have hl10 := Sl.of_blk (enc := encS) hk1 ([(s ++ x1)] : List Str) 1 rfl rfl (by unfold maxLen; omega)
                  have hl11 := f10.lt
                  refine OL.act rfl rfl (AW.append f10 Try.underlying22 ti9 rfl encS_len encS_one rfl rfl (hl10) (by first | omega | (simp only [List.length_append, List.length_cons, List.length_nil]; omega) | (simp; omega)) (by unfold maxLen; first | omega | (simp only [List.length_append, List.length_cons, List.length_nil]; omega) | (simp; omega)) ?_)
                  intro v2 g1 w8 ha2 hm7 hg3 hz2
                  have hl12 := f10.lt
                  have hl13 := f11.lt
                  have f12 := f11.keepG hm7 (by omega)
                  have f13 := hl10.keepG hm7 (by omega)
                  have hE8 := Ext.thenG hE7 hm7 (by omega)
                  have hs8 := hm7.size
                  refine OL.q (Q1.assign rfl) rfl rfl ?_
                  refine OL.nil ?_
                  refine r_inBlock ?_
                  refine r_region ?_
                  refine OL.q (Q1.move rfl) rfl rfl ?_
                  refine OL.q (Q1.addI (((i + 1 : Nat) : Int)) rfl rfl (by omega)) rfl rfl ?_
                  refine OL.q (Q1.assign rfl) rfl rfl ?_
                  refine OL.nil ?_
                  exact (ih1 _ _ _ ⟨(v2 : Value), (g1 : Nat), ((a ++ [(s ++ x1)]) : List Str), (i + 1 : Nat), rfl, rfl, hE8, (by omega), ha2, (by omega), f12, (by omega), (by first | exact Ml.put_take ha hx1 | (exfalso; omega)), (by first | exact Ml.put_bound hbd hx1 (by assumption) | (exfalso; omega)), (by first | omega | (exfalso; omega)), (by first | (simp only [List.length_append, List.length_cons, List.length_nil]; omega) | (exfalso; omega)), (by first | (intro x hx; rcases List.mem_append.1 hx with hx | hx; exact haok x hx; simp only [List.mem_singleton] at hx; subst hx; simp only [List.length_append]; omega) | (exfalso; omega))⟩ (by omega)).sub ⟨rfl, rfl, rfl, rfl, trivial⟩
              | false =>
                replace hb6 := of_decide_eq_false hb6.symm
                refine r_cond_f rfl ?_
                refine r_exit rfl ?_
                refine r_seq ?_
                refine r_region ?_
                refine OL.q (Q1.move rfl) rfl rfl ?_
                have haf : a = Ml.putW s (Ml.sortedM words) := by rw [ha, List.take_of_length_le (by omega)]
                have hal : ∀ w ∈ Ml.sortedM words, Ml.lenT w + Ml.lenT s ≤ 12 := by rw [List.take_of_length_le (by omega)] at hbd; exact hbd
                obtain ⟨hpg, hpn⟩ := Ml.put_law hig hin0 hlp hal
                have hgl1 := (Ml.graphB_len hig).2
                have hge : (Ml.gnodes (Ml.sortedM words)).length = (Ml.graphB (Ml.sortedM words)).length := by rw [Ml.gnodes_yes hig]; exact gnOf_len _
                refine OL.act rfl rfl (AW.callF cl14 rfl (build_c (w0 := w4) (words := (Ml.sortedM words))  ((f5.sl).iv (Nat.zero_le _) (by omega)) (by first | exact (fun x hx => by have := haok x hx; omega) | (intro x hx; obtain ⟨k, hk⟩ := List.mem_iff_getElem?.1 hx; exact Ml.sortedM_ok hok hk)) (by first | assumption | omega)) ?_)
                rintro _ w5 ⟨vg1, _, rfl, ⟨lo1, hi1, hgr_1, hlo1, hhi1⟩, rfl, hm4⟩
                have hl2 := ha1.lt
                have hl3 := f5.lt
                have f6 := ha1.ext hm4
                have f7 := f5.ext hm4
                have hE5 := hE4.ext hm4
                have hs5 := hm4.size
                have := Ml.goodL_range ((Ml.sortedM words))
                refine OL.q (Q1.move rfl) rfl rfl ?_
                refine OL.q (Q1.extract rfl rfl) rfl rfl ?_
                refine OL.q (Q1.extract rfl rfl) rfl rfl ?_
                refine OL.q (Q1.assign rfl) rfl rfl ?_
                refine OL.q (Q1.assign rfl) rfl rfl ?_
                refine OL.nil ?_
                refine r_seq ?_
                refine r_region ?_
                refine OL.q (Q1.move rfl) rfl rfl ?_
                refine OL.act rfl rfl (AW.callF cl14 rfl (build_c (w0 := w5) (words := a)  ((f6.sl).iv (Nat.zero_le _) (by omega)) (by first | exact (fun x hx => by have := haok x hx; omega) | (intro x hx; obtain ⟨k, hk⟩ := List.mem_iff_getElem?.1 hx; exact Ml.sortedM_ok hok hk)) (by first | assumption | omega)) ?_)
                rintro _ w6 ⟨vg2, _, rfl, ⟨lo2, hi2, hgr_2, hlo2, hhi2⟩, rfl, hm5⟩
                have hl4 := f6.lt
                have hl5 := f7.lt
                have f8 := f6.ext hm5
                have f9 := f7.ext hm5
                have f10 := hgr_1.ext hm5
                have hE6 := hE5.ext hm5
                have hs6 := hm5.size
                have := Ml.goodL_range a
                refine OL.q (Q1.move rfl) rfl rfl ?_
                refine OL.q (Q1.extract rfl rfl) rfl rfl ?_
                refine OL.q (Q1.extract rfl rfl) rfl rfl ?_
                refine OL.q (Q1.assign rfl) rfl rfl ?_
                refine OL.q (Q1.assign rfl) rfl rfl ?_
                refine OL.nil ?_
                refine r_seq ?_
                refine r_region ?_
                refine OL.q (Q1.move rfl) rfl rfl ?_
                refine OL.qb (Q1.eq rfl rfl) rfl rfl ?_
                intro b7 hb7
                obtain rfl : b7 = true := hb7.trans (by exact beq_iff_eq.2 hig)
                refine OL.q (Q1.move rfl) rfl rfl ?_
                refine OL.q (Q1.move rfl) rfl rfl ?_
                refine OL.qb (Q1.eq rfl rfl) rfl rfl ?_
                intro b8 hb8
                obtain rfl : b8 = true := hb8.trans (by exact beq_iff_eq.2 (by rw [haf]; exact hpg))
                refine OL.q (Q1.pick_t rfl rfl) rfl rfl ?_
                refine OL.q (Q1.move rfl) rfl rfl ?_
                refine OL.q (Q1.move rfl) rfl rfl ?_
                refine OL.act rfl rfl (AW.callF cl18 rfl (nodes_c (w0 := w6)   hgr_2 (by omega)) ?_)
                rintro _ w7 ⟨rfl, hm6⟩
                have hl6 := f8.lt
                have hl7 := f9.lt
                have f11 := f8.ext hm6
                have f12 := f9.ext hm6
                have f13 := f10.ext hm6
                have f14 := hgr_2.ext hm6
                have hE7 := hE6.ext hm6
                have hs7 := hm6.size
                refine OL.q (Q1.move rfl) rfl rfl ?_
                refine OL.act rfl rfl (AW.callF cl18 rfl (nodes_c (w0 := w7)   f13 (by omega)) ?_)
                rintro _ w8 ⟨rfl, hm7⟩
                have hl8 := f11.lt
                have hl9 := f12.lt
                have f15 := f11.ext hm7
                have f16 := f12.ext hm7
                have f17 := f13.ext hm7
                have f18 := f14.ext hm7
                have hE8 := hE7.ext hm7
                have hs8 := hm7.size
                refine OL.q (Q1.move rfl) rfl rfl ?_
                refine OL.act rfl rfl (AW.callF cl38 rfl (tlen_c (w0 := w8)  s (by first | assumption | omega)) ?_)
                rintro _ w9 ⟨rfl, hm8, hp2⟩
                have hl10 := f15.lt
                have hl11 := f16.lt
                have f19 := f15.ext hm8
                have f20 := f16.ext hm8
                have f21 := f17.ext hm8
                have f22 := f18.ext hm8
                have hE9 := hE8.ext hm8
                have hs9 := hm8.size
                refine OL.q (Q1.addI (((((((Ml.gnodes ((Ml.sortedM words)))).length : Nat) : Int)) + ((Ml.lenT s)))) rfl rfl (by omega)) rfl rfl ?_
                refine OL.qb (Q1.eq rfl rfl) rfl rfl ?_
                intro b9 hb9
                obtain rfl : b9 = true := hb9.trans (by exact beq_iff_eq.2 (by rw [haf]; exact hpn))
                refine OL.q (Q1.pick_t rfl rfl) rfl rfl ?_
                refine OL.q (Q1.move rfl) rfl rfl ?_
                refine OL.act rfl rfl (AW.callF cl12 rfl (awake8_c (w0 := w9)   ) ?_)
                rintro _ w10 ⟨⟨_, rfl, rfl⟩, hm9⟩
                have hl12 := f19.lt
                have hl13 := f20.lt
                have f23 := f19.ext hm9
                have f24 := f20.ext hm9
                have f25 := f21.ext hm9
                have f26 := f22.ext hm9
                have hE10 := hE9.ext hm9
                have hs10 := hm9.size
                refine OL.q (Q1.pick_t rfl rfl) rfl rfl ?_
                refine OL.q (Q1.assign rfl) rfl rfl ?_
                refine OL.nil ?_
                refine r_ret1 Try.func10 rfl rfl ?_
                exact Ret.mk ⟨⟨_, (by rfl), rfl⟩, hE10⟩
end Go.Proofs
