/-
  Walks through the reference of chapter 4.
-/
import Derived.Test.YtjfjanaddcddlaaWRef1
import Derived.Test.YtjfjanaddcddlaaPlRef4
set_option linter.unusedVariables false
set_option linter.unusedSimpArgs false
namespace Go.Proofs
open Go.Ik Go.Ml
set_option maxRecDepth 20000 in
set_option maxHeartbeats 4000000 in
theorem r4good_c {w0 : World} {v_l : Value} {l : List Str} (h_l : Sl encS w0 (Iv 0 w0.heap.size) v_l l) (hsk_l : Ml.SOk l) :
    Calls Try.prog 15 #[v_l] w0 (Ret fun rv w1 => rv = .int .i64 (Ml.goodL l) ∧ Ext w0 w1) := by
  have hE0 : Ext w0 w0 := Mod.refl _ _
  have hle1 := h_l.le
  refine calls_enter Try.func15 rfl Try.ntmps15 rfl ?_
  refine r_seq ?_
  refine r_region ?_
  refine OL.q (Q1.assign rfl) rfl rfl ?_
  refine OL.nil ?_
  refine r_seq ?_
  refine r_seq ?_
  refine r_region ?_
  refine OL.q (Q1.move rfl) rfl rfl ?_
  refine OL.q (Q1.lenSl Try.underlying22 (h_l) rfl) rfl rfl ?_
  refine OL.qb (Q1.gt rfl rfl) rfl rfl ?_
  intro b1 hb1
  refine OL.nil ?_
  cases b1 with
  | true =>
    replace hb1 := of_decide_eq_true hb1.symm
    refine r_cond_t rfl ?_
    refine r_seq ?_
    refine r_region ?_
    refine OL.q (Q1.assign rfl) rfl rfl ?_
    refine OL.nil ?_
    refine r_ret1 Try.func15 rfl rfl ?_
    exact Ret.mk ⟨(congrArg (Value.int .i64) (by first | exact Ml.goodL_full (by omega) | exact Ml.goodL_word (by omega) hx1 (by assumption) | exact Ml.goodL_sort' (by omega) ha hj hx1 hx2 (by omega) | exact Ml.goodL_ok (by omega) ha hr (by omega) | (exfalso; omega))), hE0⟩
  | false =>
    replace hb1 := of_decide_eq_false hb1.symm
    refine r_cond_f rfl ?_
    refine r_skip ?_
    refine r_seq ?_
    refine r_seq ?_
    refine r_region ?_
    refine OL.q (Q1.assign rfl) rfl rfl ?_
    refine OL.nil ?_
    refine r_block ?_
    refine r_loop (I := fun m E W => ∃ (k : Nat), E = [(0, v_l), (3, .int .i64 (((k : Nat) : Int)))] ∧ m = l.length - k ∧ Ext w0 W ∧ w0.heap.size ≤ W.heap.size ∧ Sl encS W (Iv 0 w0.heap.size) v_l l ∧ ((l.take k).all Ml.word = true)) ?_ ?_
    · refine ⟨_, _, ⟨(0 : Nat), rfl, rfl, hE0, Nat.le_refl _, h_l, (by rfl)⟩, ⟨rfl, rfl, trivial⟩⟩
    · rintro _ _ w1 ⟨k, rfl, rfl, hE1, hs1, f1, hi⟩ ih1
      refine r_seq ?_
      refine r_seq ?_
      refine r_region ?_
      refine OL.q (Q1.move rfl) rfl rfl ?_
      refine OL.q (Q1.move rfl) rfl rfl ?_
      refine OL.q (Q1.lenSl Try.underlying22 (f1) rfl) rfl rfl ?_
      refine OL.qb (Q1.lt rfl rfl) rfl rfl ?_
      intro b2 hb2
      refine OL.nil ?_
      cases b2 with
      | true =>
        replace hb2 := of_decide_eq_true hb2.symm
        refine r_cond_t rfl ?_
        refine r_skip ?_
        refine r_seq ?_
        refine r_block ?_
        refine r_seq ?_
        refine r_region ?_
        refine OL.q (Q1.move rfl) rfl rfl ?_
        refine OL.q (Q1.move rfl) rfl rfl ?_
        obtain ⟨x1, b3, o1, hx1, hr1, hl1, hu1, hw1⟩ := Sl.at' (P := Try.prog) f1 Try.underlying22 ti9 encS_len (k := .i64) (n := ((k : Nat) : Int)) (k) (by omega) (by first | assumption | omega)
        refine OL.q (Q1.indexAddr rfl rfl hr1) rfl rfl ?_
        refine OL.q (Q1.load1 ti9 rfl (fun _ e => e ▸ hw1)) rfl rfl ?_
        refine OL.act rfl rfl (AW.callF cl30 rfl (rword_c (w0 := w1)  x1 (by exact hsk_l.at (by assumption))) ?_)
        rintro _ w2 ⟨⟨b4, hb3, rfl⟩, hm1⟩
        have f2 := f1.ext hm1
        have hE2 := hE1.ext hm1
        have hs2 := hm1.size
        cases b4 with
        | true =>
          replace hb3 := hb3.symm
          refine OL.q (Q1.not rfl) rfl rfl ?_
          refine OL.nil ?_
          refine r_cond_f rfl ?_
          refine r_skip ?_
          refine r_inBlock ?_
          refine r_region ?_
          refine OL.q (Q1.move rfl) rfl rfl ?_
          refine OL.q (Q1.addI (((k + 1 : Nat) : Int)) rfl rfl (by omega)) rfl rfl ?_
          refine OL.q (Q1.assign rfl) rfl rfl ?_
          refine OL.nil ?_
          exact (ih1 _ _ _ ⟨(k + 1 : Nat), rfl, rfl, hE2, (by omega), f2, (by first | exact Ml.all_take_succ hi (by assumption) (by assumption) | (exfalso; omega))⟩ (by omega)).sub ⟨rfl, rfl, trivial⟩
        | false =>
          replace hb3 := hb3.symm
          refine OL.q (Q1.not rfl) rfl rfl ?_
          refine OL.nil ?_
          refine r_cond_t rfl ?_
          refine r_seq ?_
          refine r_region ?_
          refine OL.q (Q1.assign rfl) rfl rfl ?_
          refine OL.nil ?_
          refine r_ret1 Try.func15 rfl rfl ?_
          exact Ret.mk ⟨(congrArg (Value.int .i64) (by first | exact Ml.goodL_full (by omega) | exact Ml.goodL_word (by omega) hx1 (by assumption) | exact Ml.goodL_sort' (by omega) ha hj hx1 hx2 (by omega) | exact Ml.goodL_ok (by omega) ha hr (by omega) | (exfalso; omega))), hE2⟩
      | false =>
        replace hb2 := of_decide_eq_false hb2.symm
        refine r_cond_f rfl ?_
        refine r_exit rfl ?_
        refine r_seq ?_
        refine r_seq ?_
        refine r_region ?_
        refine OL.q (Q1.assign rfl) rfl rfl ?_
        refine OL.nil ?_
        refine r_block ?_
        refine r_loop (I := fun m E W => ∃ (j : Nat), E = [(0, v_l), (4, .int .i64 (((j : Nat) : Int)))] ∧ m = l.length - j ∧ Ext w0 W ∧ w1.heap.size ≤ W.heap.size ∧ Sl encS W (Iv 0 w0.heap.size) v_l l ∧ (1 ≤ j) ∧ (Ml.rising (l.take j) = true)) ?_ ?_
        · refine ⟨_, _, ⟨(1 : Nat), rfl, rfl, hE1, Nat.le_refl _, f1, (by omega), (by exact Ml.rising_one _)⟩, ⟨rfl, rfl, trivial⟩⟩
        · rintro _ _ w2 ⟨j, rfl, rfl, hE2, hs2, f2, hj, hr⟩ ih2
          have ha := Ml.all_of_take hi (by omega)
          refine r_seq ?_
          refine r_seq ?_
          refine r_region ?_
          refine OL.q (Q1.move rfl) rfl rfl ?_
          refine OL.q (Q1.move rfl) rfl rfl ?_
          refine OL.q (Q1.lenSl Try.underlying22 (f2) rfl) rfl rfl ?_
          refine OL.qb (Q1.lt rfl rfl) rfl rfl ?_
          intro b3 hb3
          refine OL.nil ?_
          cases b3 with
          | true =>
            replace hb3 := of_decide_eq_true hb3.symm
            refine r_cond_t rfl ?_
            refine r_skip ?_
            refine r_seq ?_
            refine r_block ?_
            refine r_seq ?_
            refine r_draw1 (fun i => Nat.beq i 9) 11 (fun w' => Mod (Mg 0) w2 w') mixed (by kernel_rfl) ?_
            intro w3 hm1
            have f3 := f2.ext hm1
            have hE3 := hE2.ext hm1
            have hs3 := hm1.size
            have hCw3 : Mod (Mg 0) w2 w3 := Mod.ofExt hm1
            refine ⟨hCw3, ?_⟩
            rw [show List.range' 0 (Array.size _) = [0, 1, 2, 3, 4, 5, 6, 7, 8, 9, 10] from rfl]
            refine OD.q rfl rfl (Q1.move rfl) rfl rfl ?_
            refine OD.q rfl rfl (Q1.move rfl) rfl rfl ?_
            refine OD.q rfl rfl (Q1.subI ((((j : Nat) : Int) - 1)) rfl rfl (by omega)) rfl rfl ?_
            obtain ⟨x1, b4, o1, hx1, hr1, hl1, hu1, hw1⟩ := Sl.at' (P := Try.prog) f2 Try.underlying22 ti9 encS_len (k := .i64) (n := (((j : Nat) : Int) - 1)) ((j - 1)) (by omega) (by first | assumption | omega)
            refine OD.q rfl rfl (Q1.indexAddr rfl rfl hr1) rfl rfl ?_
            refine OD.q rfl rfl (Q1.load1 ti9 rfl (fun _ hc => hw1.keepG hc (by omega))) rfl rfl ?_
            refine OD.q rfl rfl (Q1.move rfl) rfl rfl ?_
            refine OD.q rfl rfl (Q1.move rfl) rfl rfl ?_
            obtain ⟨x2, b5, o2, hx2, hr2, hl2, hu2, hw2⟩ := Sl.at' (P := Try.prog) f2 Try.underlying22 ti9 encS_len (k := .i64) (n := ((j : Nat) : Int)) (j) (by omega) (by first | assumption | omega)
            refine OD.q rfl rfl (Q1.indexAddr rfl rfl hr2) rfl rfl ?_
            refine OD.q rfl rfl (Q1.load1 ti9 rfl (fun _ hc => hw2.keepG hc (by omega))) rfl rfl ?_
            refine OD.act rfl rfl rfl rfl (AW.callF cl31 rfl (rcmp_c (w0 := w3)  x1 x2 (by exact hsk_l.at hx1) (by exact hsk_l.at hx2)) ?_)
            rintro _ w4 ⟨rfl, hm2, hp1⟩
            have f4 := f3.ext hm2
            have hE4 := hE3.ext hm2
            have hs4 := hm2.size
            have hCw4 := hCw3.ext hm2
            refine ⟨.inr hCw4, ?_⟩
            refine OD.qb rfl rfl (Q1.ge rfl rfl) rfl rfl ?_
            intro b6 hb4
            refine OD.nil ?_
            cases b6 with
            | true =>
              replace hb4 := of_decide_eq_true hb4.symm
              refine r_cond_t rfl ?_
              refine r_seq ?_
              refine r_region ?_
              refine OL.q (Q1.assign rfl) rfl rfl ?_
              refine OL.nil ?_
              refine r_ret1 Try.func15 rfl rfl ?_
              exact Ret.mk ⟨(congrArg (Value.int .i64) (by first | exact Ml.goodL_full (by omega) | exact Ml.goodL_word (by omega) hx1 (by assumption) | exact Ml.goodL_sort' (by omega) ha hj hx1 hx2 (by omega) | exact Ml.goodL_ok (by omega) ha hr (by omega) | (exfalso; omega))), hE4⟩
            | false =>
              replace hb4 := of_decide_eq_false hb4.symm
              refine r_cond_f rfl ?_
              refine r_skip ?_
              refine r_inBlock ?_
              refine r_region ?_
              refine OL.q (Q1.move rfl) rfl rfl ?_
              refine OL.q (Q1.addI (((j + 1 : Nat) : Int)) rfl rfl (by omega)) rfl rfl ?_
              refine OL.q (Q1.assign rfl) rfl rfl ?_
              refine OL.nil ?_
              exact (ih2 _ _ _ ⟨(j + 1 : Nat), rfl, rfl, hE4, (by omega), f4, (by first | omega | (exfalso; omega)), (by first | exact Ml.rising_step hr hj (by assumption) (by assumption) (by omega) | (exfalso; omega))⟩ (by omega)).sub ⟨rfl, rfl, trivial⟩
          | false =>
            replace hb3 := of_decide_eq_false hb3.symm
            refine r_cond_f rfl ?_
            refine r_exit rfl ?_
            refine r_seq ?_
            refine r_region ?_
            refine OL.q (Q1.assign rfl) rfl rfl ?_
            refine OL.nil ?_
            refine r_ret1 Try.func15 rfl rfl ?_
            exact Ret.mk ⟨(congrArg (Value.int .i64) (by first | exact Ml.goodL_full (by omega) | exact Ml.goodL_word (by omega) hx1 (by assumption) | exact Ml.goodL_sort' (by omega) ha hj hx1 hx2 (by omega) | exact Ml.goodL_ok (by omega) ha hr (by omega) | (exfalso; omega))), hE2⟩
set_option maxRecDepth 20000 in
set_option maxHeartbeats 4000000 in
theorem r4put_c {w0 : World} {v_l : Value} {l : List Str} (w : Str) (h_l : Sl encS w0 (Iv 0 w0.heap.size) v_l l) (hsk_l : Ml.SOk l) (hs_w : w.length ≤ 1000000000) (hln_l : l.length ≤ 1000000) :
    Calls Try.prog 32 #[v_l, strV w] w0 (Ret fun rv w1 => Sl encS w1 (Iv w0.heap.size w1.heap.size) rv (Ml.putM l w) ∧ Ext w0 w1) := by
  have hE0 : Ext w0 w0 := Mod.refl _ _
  have hle1 := h_l.le
  refine calls_enter Try.func32 rfl Try.ntmps32 rfl ?_
  refine r_seq ?_
  refine r_region ?_
  refine OL.q (Q1.assign rfl) rfl rfl ?_
  refine OL.nil ?_
  refine r_seq ?_
  refine r_region ?_
  refine OL.q (Q1.assign rfl) rfl rfl ?_
  refine OL.nil ?_
  refine r_seq ?_
  refine r_region ?_
  refine OL.q (Q1.assign rfl) rfl rfl ?_
  refine OL.nil ?_
  refine r_seq ?_
  refine r_seq ?_
  refine r_region ?_
  refine OL.q (Q1.assign rfl) rfl rfl ?_
  refine OL.nil ?_
  refine r_block ?_
  refine r_loop (I := fun m E W => ∃ (v_o : Value) (g_o : Nat) (o : List Str) (b : Bool) (k : Nat), E = [(0, v_l), (1, strV w), (5, v_o), (6, .bool b), (7, .int .i64 (((k : Nat) : Int)))] ∧ m = l.length - k ∧ Ext w0 W ∧ w0.heap.size ≤ W.heap.size ∧ Acc encS 9 1 W g_o v_o o ∧ (g_o = 0 ∨ w0.heap.size < g_o) ∧ Sl encS W (Iv 0 w0.heap.size) v_l l ∧ (o ++ Ml.putG b (l.drop k) w = Ml.putM l w) ∧ (o.length ≤ 2 * k) ∧ (k ≤ l.length)) ?_ ?_
  · refine ⟨_, _, ⟨(.slice none 0 0 : Value), (0 : Nat), ([] : List Str), (false : Bool), (0 : Nat), rfl, rfl, hE0, Nat.le_refl _, Acc.nil, (by omega), h_l, (by rfl), (by exact Nat.zero_le _), (by exact Nat.zero_le _)⟩, ⟨rfl, rfl, rfl, rfl, rfl, trivial⟩⟩
  · rintro _ _ w1 ⟨v_o, g_o, o, b, k, rfl, rfl, hE1, hs1, ha1, hg1, f1, hi, hol, hkl⟩ ih1
    refine r_seq ?_
    refine r_seq ?_
    refine r_region ?_
    refine OL.q (Q1.move rfl) rfl rfl ?_
    refine OL.q (Q1.move rfl) rfl rfl ?_
    refine OL.q (Q1.lenSl Try.underlying22 (f1) rfl) rfl rfl ?_
    refine OL.qb (Q1.lt rfl rfl) rfl rfl ?_
    intro b1 hb1
    refine OL.nil ?_
    cases b1 with
    | true =>
      replace hb1 := of_decide_eq_true hb1.symm
      refine r_cond_t rfl ?_
      refine r_skip ?_
      refine r_seq ?_
      refine r_block ?_
      refine r_seq ?_
      refine r_region ?_
      refine OL.q (Q1.move rfl) rfl rfl ?_
      refine OL.q (Q1.move rfl) rfl rfl ?_
      obtain ⟨x1, b2, o1, hx1, hr1, hl1, hu1, hw1⟩ := Sl.at' (P := Try.prog) f1 Try.underlying22 ti9 encS_len (k := .i64) (n := ((k : Nat) : Int)) (k) (by omega) (by first | assumption | omega)
      refine OL.q (Q1.indexAddr rfl rfl hr1) rfl rfl ?_
      refine OL.q (Q1.load1 ti9 rfl (fun _ e => e ▸ hw1)) rfl rfl ?_
      refine OL.q (Q1.move rfl) rfl rfl ?_
      refine OL.act rfl rfl (AW.callF cl31 rfl (rcmp_c (w0 := w1)  x1 w (by exact hsk_l.at hx1) (by exact hs_w)) ?_)
      rintro _ w2 ⟨rfl, hm1, hp1⟩
      have hl2 := ha1.lt
      have f2 := ha1.ext hm1
      have f3 := f1.ext hm1
      have hE2 := hE1.ext hm1
      have hs2 := hm1.size
      refine OL.q (Q1.assign rfl) rfl rfl ?_
      refine OL.nil ?_
      refine r_seq ?_
      refine r_seq ?_
      refine r_region ?_
      refine OL.q (Q1.move rfl) rfl rfl ?_
      cases b with
      | true =>
        refine OL.q (Q1.not rfl) rfl rfl ?_
        refine OL.q (Q1.move rfl) rfl rfl ?_
        refine OL.sk rfl rfl ?_
        refine OL.sk rfl rfl ?_
        refine OL.q (Q1.pick_f rfl rfl) rfl rfl ?_
        refine OL.nil ?_
        refine r_cond_f rfl ?_
        refine r_skip ?_
        refine r_seq ?_
        refine r_seq ?_
        refine r_region ?_
        refine OL.q (Q1.move rfl) rfl rfl ?_
        refine OL.qb (Q1.eq rfl rfl) rfl rfl ?_
        intro b3 hb2
        refine OL.nil ?_
        cases b3 with
        | true =>
          replace hb2 := eq_of_beq hb2.symm
          refine r_cond_t rfl ?_
          refine r_region ?_
          refine OL.q (Q1.assign rfl) rfl rfl ?_
          refine OL.nil ?_
          refine r_region ?_
          refine OL.q (Q1.move rfl) rfl rfl ?_
          refine OL.q (Q1.move rfl) rfl rfl ?_
          refine OL.q (Q1.move rfl) rfl rfl ?_
          obtain ⟨x2, b4, o2, hx2, hr2, hl3, hu2, hw2⟩ := Sl.at' (P := Try.prog) f3 Try.underlying22 ti9 encS_len (k := .i64) (n := ((k : Nat) : Int)) (k) (by omega) (by first | assumption | omega)
          obtain rfl : x1 = x2 := Option.some.inj (hx1.symm.trans hx2)
          refine OL.q (Q1.indexAddr rfl rfl hr2) rfl rfl ?_
          refine OL.q (Q1.load1 ti9 rfl (fun _ e => e ▸ hw2)) rfl rfl ?_
          refine OL.act rfl rfl (AW.buildSlice [strV x1] Try.underlying22 ti9 rfl rfl rfl (by decide) ?_)
          intro w3 b5 hm2 hb3 hz1 hk1
          have hl4 := f2.lt
          have f4 := f2.ext hm2
          have f5 := f3.ext hm2
          have hE3 := hE2.ext hm2
          have hs3 := hm2.size
          have hl5 := Sl.of_blk (enc := encS) hk1 ([x1] : List Str) 1 rfl rfl (by unfold maxLen; omega)
          have hl6 := f4.lt
          refine OL.act rfl rfl (AW.append f4 Try.underlying22 ti9 rfl encS_len encS_one rfl rfl (hl5) (by first | omega | (simp only [List.length_append, List.length_cons, List.length_nil]; omega) | (simp; omega)) (by unfold maxLen; first | omega | (simp only [List.length_append, List.length_cons, List.length_nil]; omega) | (simp; omega)) ?_)
          intro v1 g1 w4 ha2 hm3 hg2 hz2
          have hl7 := f4.lt
          have f6 := f5.keepG hm3 (by omega)
          have f7 := hl5.keepG hm3 (by omega)
          have hE4 := Ext.thenG hE3 hm3 (by omega)
          have hs4 := hm3.size
          refine OL.q (Q1.assign rfl) rfl rfl ?_
          refine OL.nil ?_
          refine r_inBlock ?_
          refine r_region ?_
          refine OL.q (Q1.move rfl) rfl rfl ?_
          refine OL.q (Q1.addI (((k + 1 : Nat) : Int)) rfl rfl (by omega)) rfl rfl ?_
          refine OL.q (Q1.assign rfl) rfl rfl ?_
          refine OL.nil ?_
          exact (ih1 _ _ _ ⟨(v1 : Value), (g1 : Nat), ((o ++ [x1]) : List Str), (true : Bool), (k + 1 : Nat), rfl, rfl, hE4, (by omega), ha2, (by omega), f6, (by first | exact Ml.put_in hi hx1 rfl (by omega) | exact Ml.put_eq hi hx1 (by omega) | exact Ml.put_on hi hx1 (by simp; omega) (by omega) | exact Ml.put_on hi hx1 (by simp) (by omega) | (exfalso; omega)), (by first | omega | (simp only [List.length_append, List.length_cons, List.length_nil]; omega) | (exfalso; omega)), (by first | omega | (exfalso; omega))⟩ (by omega)).sub ⟨rfl, rfl, rfl, rfl, rfl, trivial⟩
        | false =>
          replace hb2 := ne_of_beq_false hb2.symm
          refine r_cond_f rfl ?_
          refine r_skip ?_
          refine r_region ?_
          refine OL.q (Q1.move rfl) rfl rfl ?_
          refine OL.q (Q1.move rfl) rfl rfl ?_
          refine OL.q (Q1.move rfl) rfl rfl ?_
          obtain ⟨x2, b4, o2, hx2, hr2, hl3, hu2, hw2⟩ := Sl.at' (P := Try.prog) f3 Try.underlying22 ti9 encS_len (k := .i64) (n := ((k : Nat) : Int)) (k) (by omega) (by first | assumption | omega)
          obtain rfl : x1 = x2 := Option.some.inj (hx1.symm.trans hx2)
          refine OL.q (Q1.indexAddr rfl rfl hr2) rfl rfl ?_
          refine OL.q (Q1.load1 ti9 rfl (fun _ e => e ▸ hw2)) rfl rfl ?_
          refine OL.act rfl rfl (AW.buildSlice [strV x1] Try.underlying22 ti9 rfl rfl rfl (by decide) ?_)
          intro w3 b5 hm2 hb3 hz1 hk1
          have hl4 := f2.lt
          have f4 := f2.ext hm2
          have f5 := f3.ext hm2
          have hE3 := hE2.ext hm2
          have hs3 := hm2.size
          have hl5 := Sl.of_blk (enc := encS) hk1 ([x1] : List Str) 1 rfl rfl (by unfold maxLen; omega)
          have hl6 := f4.lt
          refine OL.act rfl rfl (AW.append f4 Try.underlying22 ti9 rfl encS_len encS_one rfl rfl (hl5) (by first | omega | (simp only [List.length_append, List.length_cons, List.length_nil]; omega) | (simp; omega)) (by unfold maxLen; first | omega | (simp only [List.length_append, List.length_cons, List.length_nil]; omega) | (simp; omega)) ?_)
          intro v1 g1 w4 ha2 hm3 hg2 hz2
          have hl7 := f4.lt
          have f6 := f5.keepG hm3 (by omega)
          have f7 := hl5.keepG hm3 (by omega)
          have hE4 := Ext.thenG hE3 hm3 (by omega)
          have hs4 := hm3.size
          refine OL.q (Q1.assign rfl) rfl rfl ?_
          refine OL.nil ?_
          refine r_inBlock ?_
          refine r_region ?_
          refine OL.q (Q1.move rfl) rfl rfl ?_
          refine OL.q (Q1.addI (((k + 1 : Nat) : Int)) rfl rfl (by omega)) rfl rfl ?_
          refine OL.q (Q1.assign rfl) rfl rfl ?_
          refine OL.nil ?_
          exact (ih1 _ _ _ ⟨(v1 : Value), (g1 : Nat), ((o ++ [x1]) : List Str), (true : Bool), (k + 1 : Nat), rfl, rfl, hE4, (by omega), ha2, (by omega), f6, (by first | exact Ml.put_in hi hx1 rfl (by omega) | exact Ml.put_eq hi hx1 (by omega) | exact Ml.put_on hi hx1 (by simp; omega) (by omega) | exact Ml.put_on hi hx1 (by simp) (by omega) | (exfalso; omega)), (by first | omega | (simp only [List.length_append, List.length_cons, List.length_nil]; omega) | (exfalso; omega)), (by first | omega | (exfalso; omega))⟩ (by omega)).sub ⟨rfl, rfl, rfl, rfl, rfl, trivial⟩
      | false =>
        refine OL.q (Q1.not rfl) rfl rfl ?_
        refine OL.q (Q1.move rfl) rfl rfl ?_
        refine OL.q (Q1.move rfl) rfl rfl ?_
        refine OL.qb (Q1.gt rfl rfl) rfl rfl ?_
        intro b3 hb2
        refine OL.q (Q1.pick_t rfl rfl) rfl rfl ?_
        refine OL.nil ?_
        cases b3 with
        | true =>
          replace hb2 := of_decide_eq_true hb2.symm
          refine r_cond_t rfl ?_
          refine r_seq ?_
          refine r_region ?_
          refine OL.q (Q1.move rfl) rfl rfl ?_
          refine OL.q (Q1.move rfl) rfl rfl ?_
          refine OL.act rfl rfl (AW.buildSlice [strV w] Try.underlying22 ti9 rfl rfl rfl (by decide) ?_)
          intro w3 b4 hm2 hb3 hz1 hk1
          have hl3 := f2.lt
          have f4 := f2.ext hm2
          have f5 := f3.ext hm2
          have hE3 := hE2.ext hm2
          have hs3 := hm2.size
          have hl4 := Sl.of_blk (enc := encS) hk1 ([w] : List Str) 1 rfl rfl (by unfold maxLen; omega)
          have hl5 := f4.lt
          refine OL.act rfl rfl (AW.append f4 Try.underlying22 ti9 rfl encS_len encS_one rfl rfl (hl4) (by first | omega | (simp only [List.length_append, List.length_cons, List.length_nil]; omega) | (simp; omega)) (by unfold maxLen; first | omega | (simp only [List.length_append, List.length_cons, List.length_nil]; omega) | (simp; omega)) ?_)
          intro v1 g1 w4 ha2 hm3 hg2 hz2
          have hl6 := f4.lt
          have f6 := f5.keepG hm3 (by omega)
          have f7 := hl4.keepG hm3 (by omega)
          have hE4 := Ext.thenG hE3 hm3 (by omega)
          have hs4 := hm3.size
          refine OL.q (Q1.assign rfl) rfl rfl ?_
          refine OL.nil ?_
          refine r_region ?_
          refine OL.q (Q1.assign rfl) rfl rfl ?_
          refine OL.nil ?_
          refine r_seq ?_
          refine r_seq ?_
          refine r_region ?_
          refine OL.q (Q1.move rfl) rfl rfl ?_
          refine OL.qb (Q1.eq rfl rfl) rfl rfl ?_
          intro b5 hb4
          refine OL.nil ?_
          cases b5 with
          | true =>
            replace hb4 := eq_of_beq hb4.symm
            refine r_cond_t rfl ?_
            refine r_region ?_
            refine OL.q (Q1.assign rfl) rfl rfl ?_
            refine OL.nil ?_
            refine r_region ?_
            refine OL.q (Q1.move rfl) rfl rfl ?_
            refine OL.q (Q1.move rfl) rfl rfl ?_
            refine OL.q (Q1.move rfl) rfl rfl ?_
            obtain ⟨x2, b6, o2, hx2, hr2, hl7, hu2, hw2⟩ := Sl.at' (P := Try.prog) f6 Try.underlying22 ti9 encS_len (k := .i64) (n := ((k : Nat) : Int)) (k) (by omega) (by first | assumption | omega)
            obtain rfl : x1 = x2 := Option.some.inj (hx1.symm.trans hx2)
            refine OL.q (Q1.indexAddr rfl rfl hr2) rfl rfl ?_
            refine OL.q (Q1.load1 ti9 rfl (fun _ e => e ▸ hw2)) rfl rfl ?_
            refine OL.act rfl rfl (AW.buildSlice [strV x1] Try.underlying22 ti9 rfl rfl rfl (by decide) ?_)
            intro w5 b7 hm4 hb5 hz3 hk2
            have hl8 := ha2.lt
            have f8 := ha2.ext hm4
            have f9 := f6.ext hm4
            have f10 := f7.ext hm4
            have hE5 := hE4.ext hm4
            have hs5 := hm4.size
            have hl9 := Sl.of_blk (enc := encS) hk2 ([x1] : List Str) 1 rfl rfl (by unfold maxLen; omega)
            have hl10 := f8.lt
            refine OL.act rfl rfl (AW.append f8 Try.underlying22 ti9 rfl encS_len encS_one rfl rfl (hl9) (by first | omega | (simp only [List.length_append, List.length_cons, List.length_nil]; omega) | (simp; omega)) (by unfold maxLen; first | omega | (simp only [List.length_append, List.length_cons, List.length_nil]; omega) | (simp; omega)) ?_)
            intro v2 g2 w6 ha3 hm5 hg3 hz4
            have hl11 := f8.lt
            have f11 := f9.keepG hm5 (by omega)
            have f12 := f10.keepG hm5 (by omega)
            have f13 := hl9.keepG hm5 (by omega)
            have hE6 := Ext.thenG hE5 hm5 (by omega)
            have hs6 := hm5.size
            refine OL.q (Q1.assign rfl) rfl rfl ?_
            refine OL.nil ?_
            refine r_inBlock ?_
            refine r_region ?_
            refine OL.q (Q1.move rfl) rfl rfl ?_
            refine OL.q (Q1.addI (((k + 1 : Nat) : Int)) rfl rfl (by omega)) rfl rfl ?_
            refine OL.q (Q1.assign rfl) rfl rfl ?_
            refine OL.nil ?_
            exact (ih1 _ _ _ ⟨(v2 : Value), (g2 : Nat), (((o ++ [w]) ++ [x1]) : List Str), (true : Bool), (k + 1 : Nat), rfl, rfl, hE6, (by omega), ha3, (by omega), f11, (by first | exact Ml.put_in hi hx1 rfl (by omega) | exact Ml.put_eq hi hx1 (by omega) | exact Ml.put_on hi hx1 (by simp; omega) (by omega) | exact Ml.put_on hi hx1 (by simp) (by omega) | (exfalso; omega)), (by first | omega | (simp only [List.length_append, List.length_cons, List.length_nil]; omega) | (exfalso; omega)), (by first | omega | (exfalso; omega))⟩ (by omega)).sub ⟨rfl, rfl, rfl, rfl, rfl, trivial⟩
          | false =>
            replace hb4 := ne_of_beq_false hb4.symm
            refine r_cond_f rfl ?_
            refine r_skip ?_
            refine r_region ?_
            refine OL.q (Q1.move rfl) rfl rfl ?_
            refine OL.q (Q1.move rfl) rfl rfl ?_
            refine OL.q (Q1.move rfl) rfl rfl ?_
            obtain ⟨x2, b6, o2, hx2, hr2, hl7, hu2, hw2⟩ := Sl.at' (P := Try.prog) f6 Try.underlying22 ti9 encS_len (k := .i64) (n := ((k : Nat) : Int)) (k) (by omega) (by first | assumption | omega)
            obtain rfl : x1 = x2 := Option.some.inj (hx1.symm.trans hx2)
            refine OL.q (Q1.indexAddr rfl rfl hr2) rfl rfl ?_
            refine OL.q (Q1.load1 ti9 rfl (fun _ e => e ▸ hw2)) rfl rfl ?_
            refine OL.act rfl rfl (AW.buildSlice [strV x1] Try.underlying22 ti9 rfl rfl rfl (by decide) ?_)
            intro w5 b7 hm4 hb5 hz3 hk2
            have hl8 := ha2.lt
            have f8 := ha2.ext hm4
            have f9 := f6.ext hm4
            have f10 := f7.ext hm4
            have hE5 := hE4.ext hm4
            have hs5 := hm4.size
            have hl9 := Sl.of_blk (enc := encS) hk2 ([x1] : List Str) 1 rfl rfl (by unfold maxLen; omega)
            have hl10 := f8.lt
            refine OL.act rfl rfl (AW.append f8 Try.underlying22 ti9 rfl encS_len encS_one rfl rfl (hl9) (by first | omega | (simp only [List.length_append, List.length_cons, List.length_nil]; omega) | (simp; omega)) (by unfold maxLen; first | omega | (simp only [List.length_append, List.length_cons, List.length_nil]; omega) | (simp; omega)) ?_)
            intro v2 g2 w6 ha3 hm5 hg3 hz4
            have hl11 := f8.lt
            have f11 := f9.keepG hm5 (by omega)
            have f12 := f10.keepG hm5 (by omega)
            have f13 := hl9.keepG hm5 (by omega)
            have hE6 := Ext.thenG hE5 hm5 (by omega)
            have hs6 := hm5.size
            refine OL.q (Q1.assign rfl) rfl rfl ?_
            refine OL.nil ?_
            refine r_inBlock ?_
            refine r_region ?_
            refine OL.q (Q1.move rfl) rfl rfl ?_
            refine OL.q (Q1.addI (((k + 1 : Nat) : Int)) rfl rfl (by omega)) rfl rfl ?_
            refine OL.q (Q1.assign rfl) rfl rfl ?_
            refine OL.nil ?_
            exact (ih1 _ _ _ ⟨(v2 : Value), (g2 : Nat), (((o ++ [w]) ++ [x1]) : List Str), (true : Bool), (k + 1 : Nat), rfl, rfl, hE6, (by omega), ha3, (by omega), f11, (by first | exact Ml.put_in hi hx1 rfl (by omega) | exact Ml.put_eq hi hx1 (by omega) | exact Ml.put_on hi hx1 (by simp; omega) (by omega) | exact Ml.put_on hi hx1 (by simp) (by omega) | (exfalso; omega)), (by first | omega | (simp only [List.length_append, List.length_cons, List.length_nil]; omega) | (exfalso; omega)), (by first | omega | (exfalso; omega))⟩ (by omega)).sub ⟨rfl, rfl, rfl, rfl, rfl, trivial⟩
        | false =>
          replace hb2 := of_decide_eq_false hb2.symm
          refine r_cond_f rfl ?_
          refine r_skip ?_
          refine r_seq ?_
          refine r_seq ?_
          refine r_region ?_
          refine OL.q (Q1.move rfl) rfl rfl ?_
          refine OL.qb (Q1.eq rfl rfl) rfl rfl ?_
          intro b4 hb3
          refine OL.nil ?_
          cases b4 with
          | true =>
            replace hb3 := eq_of_beq hb3.symm
            refine r_cond_t rfl ?_
            refine r_region ?_
            refine OL.q (Q1.assign rfl) rfl rfl ?_
            refine OL.nil ?_
            refine r_region ?_
            refine OL.q (Q1.move rfl) rfl rfl ?_
            refine OL.q (Q1.move rfl) rfl rfl ?_
            refine OL.q (Q1.move rfl) rfl rfl ?_
            obtain ⟨x2, b5, o2, hx2, hr2, hl3, hu2, hw2⟩ := Sl.at' (P := Try.prog) f3 Try.underlying22 ti9 encS_len (k := .i64) (n := ((k : Nat) : Int)) (k) (by omega) (by first | assumption | omega)
            obtain rfl : x1 = x2 := Option.some.inj (hx1.symm.trans hx2)
            refine OL.q (Q1.indexAddr rfl rfl hr2) rfl rfl ?_
            refine OL.q (Q1.load1 ti9 rfl (fun _ e => e ▸ hw2)) rfl rfl ?_
            refine OL.act rfl rfl (AW.buildSlice [strV x1] Try.underlying22 ti9 rfl rfl rfl (by decide) ?_)
            intro w3 b6 hm2 hb4 hz1 hk1
            have hl4 := f2.lt
            have f4 := f2.ext hm2
            have f5 := f3.ext hm2
            have hE3 := hE2.ext hm2
            have hs3 := hm2.size
            have hl5 := Sl.of_blk (enc := encS) hk1 ([x1] : List Str) 1 rfl rfl (by unfold maxLen; omega)
            have hl6 := f4.lt
            refine OL.act rfl rfl (AW.append f4 Try.underlying22 ti9 rfl encS_len encS_one rfl rfl (hl5) (by first | omega | (simp only [List.length_append, List.length_cons, List.length_nil]; omega) | (simp; omega)) (by unfold maxLen; first | omega | (simp only [List.length_append, List.length_cons, List.length_nil]; omega) | (simp; omega)) ?_)
            intro v1 g1 w4 ha2 hm3 hg2 hz2
            have hl7 := f4.lt
            have f6 := f5.keepG hm3 (by omega)
            have f7 := hl5.keepG hm3 (by omega)
            have hE4 := Ext.thenG hE3 hm3 (by omega)
            have hs4 := hm3.size
            refine OL.q (Q1.assign rfl) rfl rfl ?_
            refine OL.nil ?_
            refine r_inBlock ?_
            refine r_region ?_
            refine OL.q (Q1.move rfl) rfl rfl ?_
            refine OL.q (Q1.addI (((k + 1 : Nat) : Int)) rfl rfl (by omega)) rfl rfl ?_
            refine OL.q (Q1.assign rfl) rfl rfl ?_
            refine OL.nil ?_
            exact (ih1 _ _ _ ⟨(v1 : Value), (g1 : Nat), ((o ++ [x1]) : List Str), (true : Bool), (k + 1 : Nat), rfl, rfl, hE4, (by omega), ha2, (by omega), f6, (by first | exact Ml.put_in hi hx1 rfl (by omega) | exact Ml.put_eq hi hx1 (by omega) | exact Ml.put_on hi hx1 (by simp; omega) (by omega) | exact Ml.put_on hi hx1 (by simp) (by omega) | (exfalso; omega)), (by first | omega | (simp only [List.length_append, List.length_cons, List.length_nil]; omega) | (exfalso; omega)), (by first | omega | (exfalso; omega))⟩ (by omega)).sub ⟨rfl, rfl, rfl, rfl, rfl, trivial⟩
          | false =>
            replace hb3 := ne_of_beq_false hb3.symm
            refine r_cond_f rfl ?_
            refine r_skip ?_
            refine r_region ?_
            refine OL.q (Q1.move rfl) rfl rfl ?_
            refine OL.q (Q1.move rfl) rfl rfl ?_
            refine OL.q (Q1.move rfl) rfl rfl ?_
            obtain ⟨x2, b5, o2, hx2, hr2, hl3, hu2, hw2⟩ := Sl.at' (P := Try.prog) f3 Try.underlying22 ti9 encS_len (k := .i64) (n := ((k : Nat) : Int)) (k) (by omega) (by first | assumption | omega)
            obtain rfl : x1 = x2 := Option.some.inj (hx1.symm.trans hx2)
            refine OL.q (Q1.indexAddr rfl rfl hr2) rfl rfl ?_
            refine OL.q (Q1.load1 ti9 rfl (fun _ e => e ▸ hw2)) rfl rfl ?_
            refine OL.act rfl rfl (AW.buildSlice [strV x1] Try.underlying22 ti9 rfl rfl rfl (by decide) ?_)
            intro w3 b6 hm2 hb4 hz1 hk1
            have hl4 := f2.lt
            have f4 := f2.ext hm2
            have f5 := f3.ext hm2
            have hE3 := hE2.ext hm2
            have hs3 := hm2.size
            have hl5 := Sl.of_blk (enc := encS) hk1 ([x1] : List Str) 1 rfl rfl (by unfold maxLen; omega)
            have hl6 := f4.lt
            refine OL.act rfl rfl (AW.append f4 Try.underlying22 ti9 rfl encS_len encS_one rfl rfl (hl5) (by first | omega | (simp only [List.length_append, List.length_cons, List.length_nil]; omega) | (simp; omega)) (by unfold maxLen; first | omega | (simp only [List.length_append, List.length_cons, List.length_nil]; omega) | (simp; omega)) ?_)
            intro v1 g1 w4 ha2 hm3 hg2 hz2
            have hl7 := f4.lt
            have f6 := f5.keepG hm3 (by omega)
            have f7 := hl5.keepG hm3 (by omega)
            have hE4 := Ext.thenG hE3 hm3 (by omega)
            have hs4 := hm3.size
            refine OL.q (Q1.assign rfl) rfl rfl ?_
            refine OL.nil ?_
            refine r_inBlock ?_
            refine r_region ?_
            refine OL.q (Q1.move rfl) rfl rfl ?_
            refine OL.q (Q1.addI (((k + 1 : Nat) : Int)) rfl rfl (by omega)) rfl rfl ?_
            refine OL.q (Q1.assign rfl) rfl rfl ?_
            refine OL.nil ?_
            exact (ih1 _ _ _ ⟨(v1 : Value), (g1 : Nat), ((o ++ [x1]) : List Str), (false : Bool), (k + 1 : Nat), rfl, rfl, hE4, (by omega), ha2, (by omega), f6, (by first | exact Ml.put_in hi hx1 rfl (by omega) | exact Ml.put_eq hi hx1 (by omega) | exact Ml.put_on hi hx1 (by simp; omega) (by omega) | exact Ml.put_on hi hx1 (by simp) (by omega) | (exfalso; omega)), (by first | omega | (simp only [List.length_append, List.length_cons, List.length_nil]; omega) | (exfalso; omega)), (by first | omega | (exfalso; omega))⟩ (by omega)).sub ⟨rfl, rfl, rfl, rfl, rfl, trivial⟩
    | false =>
      replace hb1 := of_decide_eq_false hb1.symm
      refine r_cond_f rfl ?_
      refine r_exit rfl ?_
      refine r_seq ?_
      refine r_seq ?_
      refine r_region ?_
      refine OL.q (Q1.move rfl) rfl rfl ?_
      cases b with
      | true =>
        refine OL.q (Q1.not rfl) rfl rfl ?_
        refine OL.nil ?_
        refine r_cond_f rfl ?_
        refine r_skip ?_
        refine r_seq ?_
        refine r_region ?_
        refine OL.q (Q1.move rfl) rfl rfl ?_
        refine OL.q (Q1.assign rfl) rfl rfl ?_
        refine OL.nil ?_
        refine r_ret1 Try.func32 rfl rfl ?_
        exact Ret.mk ⟨(Sl.cast (ha1.fresh (by omega)) (by first | exact Ml.put_end hi (by omega) | exact Ml.put_end' hi (by omega) | (exfalso; omega))), hE1⟩
      | false =>
        refine OL.q (Q1.not rfl) rfl rfl ?_
        refine OL.nil ?_
        refine r_cond_t rfl ?_
        refine r_region ?_
        refine OL.q (Q1.move rfl) rfl rfl ?_
        refine OL.q (Q1.move rfl) rfl rfl ?_
        refine OL.act rfl rfl (AW.buildSlice [strV w] Try.underlying22 ti9 rfl rfl rfl (by decide) ?_)
        intro w2 b2 hm1 hb2 hz1 hk1
        have hl1 := ha1.lt
        have f2 := ha1.ext hm1
        have f3 := f1.ext hm1
        have hE2 := hE1.ext hm1
        have hs2 := hm1.size
        have hl2 := Sl.of_blk (enc := encS) hk1 ([w] : List Str) 1 rfl rfl (by unfold maxLen; omega)
        have hl3 := f2.lt
        refine OL.act rfl rfl (AW.append f2 Try.underlying22 ti9 rfl encS_len encS_one rfl rfl (hl2) (by first | omega | (simp only [List.length_append, List.length_cons, List.length_nil]; omega) | (simp; omega)) (by unfold maxLen; first | omega | (simp only [List.length_append, List.length_cons, List.length_nil]; omega) | (simp; omega)) ?_)
        intro v1 g1 w3 ha2 hm2 hg2 hz2
        have hl4 := f2.lt
        have f4 := f3.keepG hm2 (by omega)
        have f5 := hl2.keepG hm2 (by omega)
        have hE3 := Ext.thenG hE2 hm2 (by omega)
        have hs3 := hm2.size
        refine OL.q (Q1.assign rfl) rfl rfl ?_
        refine OL.nil ?_
        refine r_seq ?_
        refine r_region ?_
        refine OL.q (Q1.move rfl) rfl rfl ?_
        refine OL.q (Q1.assign rfl) rfl rfl ?_
        refine OL.nil ?_
        refine r_ret1 Try.func32 rfl rfl ?_
        exact Ret.mk ⟨(Sl.cast (ha2.fresh (by omega)) (by first | exact Ml.put_end hi (by omega) | exact Ml.put_end' hi (by omega) | (exfalso; omega))), hE3⟩
set_option maxRecDepth 20000 in
set_option maxHeartbeats 4000000 in
theorem r4sorted_c {w0 : World} {v_l : Value} {l : List Str} (h_l : Sl encS w0 (Iv 0 w0.heap.size) v_l l) (hsk_l : Ml.SOk l) :
    Calls Try.prog 17 #[v_l] w0 (Ret fun rv w1 => Sl encS w1 (Iv w0.heap.size w1.heap.size) rv (Ml.sortedM l) ∧ Ext w0 w1) := by
  have hE0 : Ext w0 w0 := Mod.refl _ _
  have hle1 := h_l.le
  refine calls_enter Try.func17 rfl Try.ntmps17 rfl ?_
  refine r_seq ?_
  refine r_region ?_
  refine OL.q (Q1.assign rfl) rfl rfl ?_
  refine OL.nil ?_
  refine r_seq ?_
  refine r_region ?_
  refine OL.q (Q1.assign rfl) rfl rfl ?_
  refine OL.nil ?_
  refine r_seq ?_
  refine r_seq ?_
  refine r_region ?_
  refine OL.q (Q1.assign rfl) rfl rfl ?_
  refine OL.nil ?_
  refine r_block ?_
  refine r_loop (I := fun m E W => ∃ (v_o : Value) (o : List Str) (k : Nat), E = [(0, v_l), (3, v_o), (4, .int .i64 (((k : Nat) : Int)))] ∧ m = l.length - k ∧ Ext w0 W ∧ w0.heap.size ≤ W.heap.size ∧ Sl encS W (Iv w0.heap.size W.heap.size) v_o o ∧ Sl encS W (Iv 0 w0.heap.size) v_l l ∧ (o = Ml.foldP [] ((l.take k).filter Ml.word)) ∧ (k ≤ 1000) ∧ (o.length ≤ k)) ?_ ?_
  · refine ⟨_, _, ⟨(.slice none 0 0 : Value), ([] : List Str), (0 : Nat), rfl, rfl, hE0, Nat.le_refl _, Sl.nil, h_l, (by rfl), (by omega), (by exact Nat.zero_le _)⟩, ⟨rfl, rfl, rfl, trivial⟩⟩
  · rintro _ _ w1 ⟨v_o, o, k, rfl, rfl, hE1, hs1, ha1, f1, hi, hk, hol⟩ ih1
    refine r_seq ?_
    refine r_seq ?_
    refine r_region ?_
    refine OL.q (Q1.move rfl) rfl rfl ?_
    refine OL.q (Q1.move rfl) rfl rfl ?_
    refine OL.q (Q1.lenSl Try.underlying22 (f1) rfl) rfl rfl ?_
    refine OL.qb (Q1.lt rfl rfl) rfl rfl ?_
    intro b1 hb1
    refine OL.q (Q1.move rfl) rfl rfl ?_
    cases b1 with
    | true =>
      replace hb1 := of_decide_eq_true hb1.symm
      refine OL.q (Q1.move rfl) rfl rfl ?_
      refine OL.qb (Q1.lt rfl rfl) rfl rfl ?_
      intro b2 hb2
      refine OL.q (Q1.pick_t rfl rfl) rfl rfl ?_
      refine OL.nil ?_
      cases b2 with
      | true =>
        replace hb2 := of_decide_eq_true hb2.symm
        refine r_cond_t rfl ?_
        refine r_skip ?_
        refine r_seq ?_
        refine r_block ?_
        refine r_seq ?_
        refine r_region ?_
        refine OL.q (Q1.move rfl) rfl rfl ?_
        refine OL.q (Q1.move rfl) rfl rfl ?_
        obtain ⟨x1, b3, o1, hx1, hr1, hl1, hu1, hw1⟩ := Sl.at' (P := Try.prog) f1 Try.underlying22 ti9 encS_len (k := .i64) (n := ((k : Nat) : Int)) (k) (by omega) (by first | assumption | omega)
        refine OL.q (Q1.indexAddr rfl rfl hr1) rfl rfl ?_
        refine OL.q (Q1.load1 ti9 rfl (fun _ e => e ▸ hw1)) rfl rfl ?_
        refine OL.act rfl rfl (AW.callF cl30 rfl (rword_c (w0 := w1)  x1 (by exact hsk_l.at hx1)) ?_)
        rintro _ w2 ⟨⟨b4, hb3, rfl⟩, hm1⟩
        have f2 := ha1.ext hm1
        have f3 := f1.ext hm1
        have hE2 := hE1.ext hm1
        have hs2 := hm1.size
        refine OL.nil ?_
        cases b4 with
        | true =>
          replace hb3 := hb3.symm
          refine r_cond_t rfl ?_
          refine r_region ?_
          refine OL.q (Q1.move rfl) rfl rfl ?_
          refine OL.q (Q1.move rfl) rfl rfl ?_
          refine OL.q (Q1.move rfl) rfl rfl ?_
          obtain ⟨x2, b5, o2, hx2, hr2, hl2, hu2, hw2⟩ := Sl.at' (P := Try.prog) f3 Try.underlying22 ti9 encS_len (k := .i64) (n := ((k : Nat) : Int)) (k) (by omega) (by first | assumption | omega)
          obtain rfl : x1 = x2 := Option.some.inj (hx1.symm.trans hx2)
          refine OL.q (Q1.indexAddr rfl rfl hr2) rfl rfl ?_
          refine OL.q (Q1.load1 ti9 rfl (fun _ e => e ▸ hw2)) rfl rfl ?_
          refine OL.act rfl rfl (AW.callF cl32 rfl (r4put_c (w0 := w2) (l := o) x1 ((f2).iv (Nat.zero_le _) (by omega)) (by exact Ml.sref_ok hsk_l hi) (by exact hsk_l.at hx1) (by first | assumption | omega | (simp; done))) ?_)
          rintro v1 w3 ⟨h1, hm2⟩
          have f4 := f2.ext hm2
          have f5 := f3.ext hm2
          have hE3 := hE2.ext hm2
          have hs3 := hm2.size
          have hle_1 := h1.le
          have := Ml.putM_len o x1
          refine OL.q (Q1.assign rfl) rfl rfl ?_
          refine OL.nil ?_
          refine r_inBlock ?_
          refine r_region ?_
          refine OL.q (Q1.move rfl) rfl rfl ?_
          refine OL.q (Q1.addI (((k + 1 : Nat) : Int)) rfl rfl (by omega)) rfl rfl ?_
          refine OL.q (Q1.assign rfl) rfl rfl ?_
          refine OL.nil ?_
          exact (ih1 _ _ _ ⟨(v1 : Value), ((Ml.putM o x1) : List Str), (k + 1 : Nat), rfl, rfl, hE3, (by omega), ((h1).iv (by omega) (by omega)), f5, (by first | exact Ml.sref_yes hi hx1 (by assumption) | exact Ml.sref_no hi hx1 (by assumption) | (exfalso; omega)), (by first | omega | (exfalso; omega)), (by first | omega | (simp only [List.length_append, List.length_cons, List.length_nil]; omega) | (exfalso; omega))⟩ (by omega)).sub ⟨rfl, rfl, rfl, trivial⟩
        | false =>
          replace hb3 := hb3.symm
          refine r_cond_f rfl ?_
          refine r_skip ?_
          refine r_inBlock ?_
          refine r_region ?_
          refine OL.q (Q1.move rfl) rfl rfl ?_
          refine OL.q (Q1.addI (((k + 1 : Nat) : Int)) rfl rfl (by omega)) rfl rfl ?_
          refine OL.q (Q1.assign rfl) rfl rfl ?_
          refine OL.nil ?_
          exact (ih1 _ _ _ ⟨(v_o : Value), (o : List Str), (k + 1 : Nat), rfl, rfl, hE2, (by omega), ((f2).iv (by omega) (by omega)), f3, (by first | exact Ml.sref_yes hi hx1 (by assumption) | exact Ml.sref_no hi hx1 (by assumption) | (exfalso; omega)), (by first | omega | (exfalso; omega)), (by first | omega | (simp only [List.length_append, List.length_cons, List.length_nil]; omega) | (exfalso; omega))⟩ (by omega)).sub ⟨rfl, rfl, rfl, trivial⟩
      | false =>
        replace hb2 := of_decide_eq_false hb2.symm
        refine r_cond_f rfl ?_
        refine r_exit rfl ?_
        refine r_seq ?_
        refine r_region ?_
        refine OL.q (Q1.move rfl) rfl rfl ?_
        refine OL.q (Q1.assign rfl) rfl rfl ?_
        refine OL.nil ?_
        refine r_ret1 Try.func17 rfl rfl ?_
        exact Ret.mk ⟨(Sl.cast (ha1.iv (by omega) (by omega)) (by first | exact Ml.sref_end hi (by omega) hk | (exfalso; omega))), hE1⟩
    | false =>
      replace hb1 := of_decide_eq_false hb1.symm
      refine OL.sk rfl rfl ?_
      refine OL.sk rfl rfl ?_
      refine OL.q (Q1.pick_f rfl rfl) rfl rfl ?_
      refine OL.nil ?_
      refine r_cond_f rfl ?_
      refine r_exit rfl ?_
      refine r_seq ?_
      refine r_region ?_
      refine OL.q (Q1.move rfl) rfl rfl ?_
      refine OL.q (Q1.assign rfl) rfl rfl ?_
      refine OL.nil ?_
      refine r_ret1 Try.func17 rfl rfl ?_
      exact Ret.mk ⟨(Sl.cast (ha1.iv (by omega) (by omega)) (by first | exact Ml.sref_end hi (by omega) hk | (exfalso; omega))), hE1⟩
set_option maxRecDepth 20000 in
set_option maxHeartbeats 4000000 in
theorem r4at_c {w0 : World} {v_l : Value} {l : List Str} (w : Str) (h_l : Sl encS w0 (Iv 0 w0.heap.size) v_l l) (hsk_l : Ml.SOk l) (hs_w : w.length ≤ 1000000000) (hso_l : Ml.Sorted l) :
    Calls Try.prog 25 #[v_l, strV w] w0 (Ret fun rv w1 => ∃ u0 u1, rv = .tuple #[u0, u1] ∧ u0 = .int .i64 (((Ml.belowW l w : Nat) : Int)) ∧ (∃ rb : Bool, rb = (l.contains w) ∧ u1 = .bool rb) ∧ Ext w0 w1) := by
  have hE0 : Ext w0 w0 := Mod.refl _ _
  have hle1 := h_l.le
  refine calls_enter Try.func25 rfl Try.ntmps25 rfl ?_
  refine r_seq ?_
  refine r_region ?_
  refine OL.q (Q1.assign rfl) rfl rfl ?_
  refine OL.q (Q1.assign rfl) rfl rfl ?_
  refine OL.nil ?_
  refine r_seq ?_
  refine r_region ?_
  refine OL.q (Q1.assign rfl) rfl rfl ?_
  refine OL.nil ?_
  refine r_seq ?_
  refine r_seq ?_
  refine r_region ?_
  refine OL.q (Q1.assign rfl) rfl rfl ?_
  refine OL.nil ?_
  refine r_block ?_
  refine r_loop (I := fun m E W => ∃ (n : Nat) (k : Nat), E = [(0, v_l), (1, strV w), (6, .int .i64 (((n : Nat) : Int))), (7, .int .i64 (((k : Nat) : Int)))] ∧ m = l.length - k ∧ Ext w0 W ∧ w0.heap.size ≤ W.heap.size ∧ Sl encS W (Iv 0 w0.heap.size) v_l l ∧ (n = Ml.belowW (l.take k) w) ∧ (n ≤ k) ∧ (∀ x ∈ l.take k, x ≠ w)) ?_ ?_
  · refine ⟨_, _, ⟨(0 : Nat), (0 : Nat), rfl, rfl, hE0, Nat.le_refl _, h_l, (by rfl), (by omega), (by (intro x hx; simp at hx))⟩, ⟨rfl, rfl, rfl, rfl, trivial⟩⟩
  · rintro _ _ w1 ⟨n, k, rfl, rfl, hE1, hs1, f1, hn, hnk, hno⟩ ih1
    refine r_seq ?_
    refine r_seq ?_
    refine r_region ?_
    refine OL.q (Q1.move rfl) rfl rfl ?_
    refine OL.q (Q1.move rfl) rfl rfl ?_
    refine OL.q (Q1.lenSl Try.underlying22 (f1) rfl) rfl rfl ?_
    refine OL.qb (Q1.lt rfl rfl) rfl rfl ?_
    intro b1 hb1
    refine OL.nil ?_
    cases b1 with
    | true =>
      replace hb1 := of_decide_eq_true hb1.symm
      refine r_cond_t rfl ?_
      refine r_skip ?_
      refine r_seq ?_
      refine r_block ?_
      refine r_seq ?_
      refine r_seq ?_
      refine r_region ?_
      refine OL.q (Q1.move rfl) rfl rfl ?_
      refine OL.q (Q1.move rfl) rfl rfl ?_
      obtain ⟨x1, b2, o1, hx1, hr1, hl1, hu1, hw1⟩ := Sl.at' (P := Try.prog) f1 Try.underlying22 ti9 encS_len (k := .i64) (n := ((k : Nat) : Int)) (k) (by omega) (by first | assumption | omega)
      refine OL.q (Q1.indexAddr rfl rfl hr1) rfl rfl ?_
      refine OL.q (Q1.load1 ti9 rfl (fun _ e => e ▸ hw1)) rfl rfl ?_
      refine OL.q (Q1.move rfl) rfl rfl ?_
      refine OL.qb (Q1.eqS rfl rfl) rfl rfl ?_
      intro b3 hb2
      refine OL.nil ?_
      cases b3 with
      | true =>
        replace hb2 := eq_of_beq hb2.symm
        refine r_cond_t rfl ?_
        refine r_seq ?_
        refine r_region ?_
        refine OL.q (Q1.move rfl) rfl rfl ?_
        refine OL.q (Q1.assign rfl) rfl rfl ?_
        refine OL.q (Q1.assign rfl) rfl rfl ?_
        refine OL.nil ?_
        refine r_ret2 Try.func25 rfl rfl rfl ?_
        exact Ret.mk ⟨_, _, rfl, (congrArg (Value.int .i64) (by first | exact (Ml.rat_found hso_l hn hx1 (by assumption)).1 | exact (Ml.rat_found hso_l hn hx1 (by assumption)).2 | exact (Ml.rat_end hn (by omega) hno).1 | exact (Ml.rat_end hn (by omega) hno).2 | (exfalso; omega))), ⟨_, (by first | exact (Ml.rat_found hso_l hn hx1 (by assumption)).1 | exact (Ml.rat_found hso_l hn hx1 (by assumption)).2 | exact (Ml.rat_end hn (by omega) hno).1 | exact (Ml.rat_end hn (by omega) hno).2 | (exfalso; omega)), rfl⟩, hE1⟩
      | false =>
        replace hb2 := ne_of_beq_false hb2.symm
        refine r_cond_f rfl ?_
        refine r_skip ?_
        refine r_seq ?_
        refine r_region ?_
        refine OL.q (Q1.move rfl) rfl rfl ?_
        refine OL.q (Q1.move rfl) rfl rfl ?_
        obtain ⟨x2, b4, o2, hx2, hr2, hl2, hu2, hw2⟩ := Sl.at' (P := Try.prog) f1 Try.underlying22 ti9 encS_len (k := .i64) (n := ((k : Nat) : Int)) (k) (by omega) (by first | assumption | omega)
        obtain rfl : x1 = x2 := Option.some.inj (hx1.symm.trans hx2)
        refine OL.q (Q1.indexAddr rfl rfl hr2) rfl rfl ?_
        refine OL.q (Q1.load1 ti9 rfl (fun _ e => e ▸ hw2)) rfl rfl ?_
        refine OL.q (Q1.move rfl) rfl rfl ?_
        refine OL.act rfl rfl (AW.callF cl31 rfl (rcmp_c (w0 := w1)  x1 w (by exact hsk_l.at hx1) (by exact hs_w)) ?_)
        rintro _ w2 ⟨rfl, hm1, hp1⟩
        have f2 := f1.ext hm1
        have hE2 := hE1.ext hm1
        have hs2 := hm1.size
        refine OL.qb (Q1.lt rfl rfl) rfl rfl ?_
        intro b5 hb3
        refine OL.nil ?_
        cases b5 with
        | true =>
          replace hb3 := of_decide_eq_true hb3.symm
          refine r_cond_t rfl ?_
          refine r_region ?_
          refine OL.q (Q1.move rfl) rfl rfl ?_
          refine OL.q (Q1.addI (((n + 1 : Nat) : Int)) rfl rfl (by omega)) rfl rfl ?_
          refine OL.q (Q1.assign rfl) rfl rfl ?_
          refine OL.nil ?_
          refine r_inBlock ?_
          refine r_region ?_
          refine OL.q (Q1.move rfl) rfl rfl ?_
          refine OL.q (Q1.addI (((k + 1 : Nat) : Int)) rfl rfl (by omega)) rfl rfl ?_
          refine OL.q (Q1.assign rfl) rfl rfl ?_
          refine OL.nil ?_
          exact (ih1 _ _ _ ⟨(n + 1 : Nat), (k + 1 : Nat), rfl, rfl, hE2, (by omega), f2, (by first | exact Ml.rat_yes hn hx1 (by omega) | exact Ml.rat_no hn hx1 (by omega) | (exfalso; omega)), (by first | omega | (exfalso; omega)), (by first | exact Ml.none_step hno hx1 (by assumption) | (exfalso; omega))⟩ (by omega)).sub ⟨rfl, rfl, rfl, rfl, trivial⟩
        | false =>
          replace hb3 := of_decide_eq_false hb3.symm
          refine r_cond_f rfl ?_
          refine r_skip ?_
          refine r_inBlock ?_
          refine r_region ?_
          refine OL.q (Q1.move rfl) rfl rfl ?_
          refine OL.q (Q1.addI (((k + 1 : Nat) : Int)) rfl rfl (by omega)) rfl rfl ?_
          refine OL.q (Q1.assign rfl) rfl rfl ?_
          refine OL.nil ?_
          exact (ih1 _ _ _ ⟨(n : Nat), (k + 1 : Nat), rfl, rfl, hE2, (by omega), f2, (by first | exact Ml.rat_yes hn hx1 (by omega) | exact Ml.rat_no hn hx1 (by omega) | (exfalso; omega)), (by first | omega | (exfalso; omega)), (by first | exact Ml.none_step hno hx1 (by assumption) | (exfalso; omega))⟩ (by omega)).sub ⟨rfl, rfl, rfl, rfl, trivial⟩
    | false =>
      replace hb1 := of_decide_eq_false hb1.symm
      refine r_cond_f rfl ?_
      refine r_exit rfl ?_
      refine r_seq ?_
      refine r_region ?_
      refine OL.q (Q1.move rfl) rfl rfl ?_
      refine OL.q (Q1.assign rfl) rfl rfl ?_
      refine OL.q (Q1.assign rfl) rfl rfl ?_
      refine OL.nil ?_
      refine r_ret2 Try.func25 rfl rfl rfl ?_
      exact Ret.mk ⟨_, _, rfl, (congrArg (Value.int .i64) (by first | exact (Ml.rat_found hso_l hn hx1 (by assumption)).1 | exact (Ml.rat_found hso_l hn hx1 (by assumption)).2 | exact (Ml.rat_end hn (by omega) hno).1 | exact (Ml.rat_end hn (by omega) hno).2 | (exfalso; omega))), ⟨_, (by first | exact (Ml.rat_found hso_l hn hx1 (by assumption)).1 | exact (Ml.rat_found hso_l hn hx1 (by assumption)).2 | exact (Ml.rat_end hn (by omega) hno).1 | exact (Ml.rat_end hn (by omega) hno).2 | (exfalso; omega)), rfl⟩, hE1⟩
set_option maxRecDepth 20000 in
set_option maxHeartbeats 4000000 in
theorem r4merge_c {w0 : World} {v_a : Value} {a : List Str} {v_b : Value} {b : List Str} (h_a : Sl encS w0 (Iv 0 w0.heap.size) v_a a) (h_b : Sl encS w0 (Iv 0 w0.heap.size) v_b b) (hsk_a : Ml.SOk a) (hsk_b : Ml.SOk b) (hso_a : Ml.Sorted a) (hso_b : Ml.Sorted b) (hla : a.length ≤ 1000) (hlb : b.length ≤ 1000) :
    Calls Try.prog 26 #[v_a, v_b] w0 (Ret fun rv w1 => Sl encS w1 (Iv w0.heap.size w1.heap.size) rv (Ml.mergeL a b) ∧ Ext w0 w1) := by
  have hE0 : Ext w0 w0 := Mod.refl _ _
  have hle1 := h_a.le
  have hle2 := h_b.le
  refine calls_enter Try.func26 rfl Try.ntmps26 rfl ?_
  refine r_seq ?_
  refine r_region ?_
  refine OL.q (Q1.assign rfl) rfl rfl ?_
  refine OL.nil ?_
  refine r_seq ?_
  refine r_region ?_
  refine OL.q (Q1.move rfl) rfl rfl ?_
  refine OL.act rfl rfl (AW.append (Acc.nil (enc := encS) (e := 9) (sz := 1) (w := w0)) Try.underlying22 ti9 rfl encS_len encS_one rfl rfl (h_a) (by first | omega | (simp only [List.length_append, List.length_cons, List.length_nil]; omega) | (simp; omega)) (by unfold maxLen; first | omega | (simp only [List.length_append, List.length_cons, List.length_nil]; omega) | (simp; omega)) ?_)
  intro v1 g1 w1 ha1 hm1 hg1 hz1
  replace hm1 := hm1.toExt
  have f1 := h_a.ext hm1
  have f2 := h_b.ext hm1
  have hE1 := hE0.ext hm1
  have hs1 := hm1.size
  refine OL.q (Q1.assign rfl) rfl rfl ?_
  refine OL.nil ?_
  refine r_seq ?_
  refine r_seq ?_
  refine r_region ?_
  refine OL.q (Q1.assign rfl) rfl rfl ?_
  refine OL.nil ?_
  refine r_block ?_
  refine r_loop (I := fun m E W => ∃ (v_o : Value) (o : List Str) (k : Nat), E = [(1, v_b), (5, v_o), (6, .int .i64 (((k : Nat) : Int)))] ∧ m = b.length - k ∧ Ext w0 W ∧ w1.heap.size ≤ W.heap.size ∧ Sl encS W (Iv w0.heap.size W.heap.size) v_o o ∧ Sl encS W (Iv 0 w0.heap.size) v_b b ∧ (o = Ml.foldP a (b.take k)) ∧ (o.length ≤ a.length + k) ∧ (k ≤ b.length)) ?_ ?_
  · refine ⟨_, _, ⟨(v1 : Value), (([] ++ a) : List Str), (0 : Nat), rfl, rfl, hE1, Nat.le_refl _, (ha1.fresh (by omega)), f2, (by rfl), (by (simp)), (by omega)⟩, ⟨rfl, rfl, rfl, trivial⟩⟩
  · rintro _ _ w2 ⟨v_o, o, k, rfl, rfl, hE2, hs2, ha2, f3, hi, hol, hkb⟩ ih1
    have hln_o : o.length ≤ 1000000 := by omega
    refine r_seq ?_
    refine r_seq ?_
    refine r_region ?_
    refine OL.q (Q1.move rfl) rfl rfl ?_
    refine OL.q (Q1.move rfl) rfl rfl ?_
    refine OL.q (Q1.lenSl Try.underlying22 (f3) rfl) rfl rfl ?_
    refine OL.qb (Q1.lt rfl rfl) rfl rfl ?_
    intro b1 hb1
    refine OL.nil ?_
    cases b1 with
    | true =>
      replace hb1 := of_decide_eq_true hb1.symm
      refine r_cond_t rfl ?_
      refine r_skip ?_
      refine r_seq ?_
      refine r_block ?_
      refine r_region ?_
      refine OL.q (Q1.move rfl) rfl rfl ?_
      refine OL.q (Q1.move rfl) rfl rfl ?_
      refine OL.q (Q1.move rfl) rfl rfl ?_
      obtain ⟨x1, b2, o1, hx1, hr1, hl1, hu1, hw1⟩ := Sl.at' (P := Try.prog) f3 Try.underlying22 ti9 encS_len (k := .i64) (n := ((k : Nat) : Int)) (k) (by omega) (by first | assumption | omega)
      refine OL.q (Q1.indexAddr rfl rfl hr1) rfl rfl ?_
      refine OL.q (Q1.load1 ti9 rfl (fun _ e => e ▸ hw1)) rfl rfl ?_
      refine OL.act rfl rfl (AW.callF cl32 rfl (r4put_c (w0 := w2) (l := o) x1 ((ha2).iv (Nat.zero_le _) (by omega)) (by exact Ml.mref_ok hsk_a hsk_b hi) (by exact hsk_b.at hx1) (by first | assumption | omega | (simp; done))) ?_)
      rintro v2 w3 ⟨h1, hm2⟩
      have f4 := ha2.ext hm2
      have f5 := f3.ext hm2
      have hE3 := hE2.ext hm2
      have hs3 := hm2.size
      have hle_1 := h1.le
      have := Ml.putM_len o x1
      refine OL.q (Q1.assign rfl) rfl rfl ?_
      refine OL.nil ?_
      refine r_inBlock ?_
      refine r_region ?_
      refine OL.q (Q1.move rfl) rfl rfl ?_
      refine OL.q (Q1.addI (((k + 1 : Nat) : Int)) rfl rfl (by omega)) rfl rfl ?_
      refine OL.q (Q1.assign rfl) rfl rfl ?_
      refine OL.nil ?_
      exact (ih1 _ _ _ ⟨(v2 : Value), ((Ml.putM o x1) : List Str), (k + 1 : Nat), rfl, rfl, hE3, (by omega), ((h1).iv (by omega) (by omega)), f5, (by first | exact Ml.mref_step hi hx1 | (exfalso; omega)), (by first | omega | (simp only [List.length_append, List.length_cons, List.length_nil]; omega) | (exfalso; omega)), (by first | omega | (exfalso; omega))⟩ (by omega)).sub ⟨rfl, rfl, rfl, trivial⟩
    | false =>
      replace hb1 := of_decide_eq_false hb1.symm
      refine r_cond_f rfl ?_
      refine r_exit rfl ?_
      refine r_seq ?_
      refine r_region ?_
      refine OL.q (Q1.move rfl) rfl rfl ?_
      refine OL.q (Q1.assign rfl) rfl rfl ?_
      refine OL.nil ?_
      refine r_ret1 Try.func26 rfl rfl ?_
      exact Ret.mk ⟨(Sl.cast (ha2.iv (by omega) (by omega)) (by first | exact Ml.mref_end hi (by omega) hso_a hso_b | (exfalso; omega))), hE2⟩
set_option maxRecDepth 20000 in
set_option maxHeartbeats 4000000 in
theorem r4without_c {w0 : World} {v_a : Value} {a : List Str} {v_b : Value} {b : List Str} (h_a : Sl encS w0 (Iv 0 w0.heap.size) v_a a) (h_b : Sl encS w0 (Iv 0 w0.heap.size) v_b b) (hsk_a : Ml.SOk a) (hsk_b : Ml.SOk b) (hso_b : Ml.Sorted b) (hln_a : a.length ≤ 1000000) (hln_b : b.length ≤ 1000000) :
    Calls Try.prog 27 #[v_a, v_b] w0 (Ret fun rv w1 => Sl encS w1 (Iv w0.heap.size w1.heap.size) rv (Ml.withoutM a b) ∧ Ext w0 w1) := by
  have hE0 : Ext w0 w0 := Mod.refl _ _
  have hle1 := h_a.le
  have hle2 := h_b.le
  refine calls_enter Try.func27 rfl Try.ntmps27 rfl ?_
  refine r_seq ?_
  refine r_region ?_
  refine OL.q (Q1.assign rfl) rfl rfl ?_
  refine OL.nil ?_
  refine r_seq ?_
  refine r_region ?_
  refine OL.q (Q1.assign rfl) rfl rfl ?_
  refine OL.nil ?_
  refine r_seq ?_
  refine r_seq ?_
  refine r_region ?_
  refine OL.q (Q1.assign rfl) rfl rfl ?_
  refine OL.nil ?_
  refine r_block ?_
  refine r_loop (I := fun m E W => ∃ (v_l : Value) (g_l : Nat) (l : List Str) (k : Nat), E = [(0, v_a), (1, v_b), (5, v_l), (6, .int .i64 (((k : Nat) : Int)))] ∧ m = a.length - k ∧ Ext w0 W ∧ w0.heap.size ≤ W.heap.size ∧ Acc encS 9 1 W g_l v_l l ∧ (g_l = 0 ∨ w0.heap.size < g_l) ∧ Sl encS W (Iv 0 w0.heap.size) v_a a ∧ Sl encS W (Iv 0 w0.heap.size) v_b b ∧ (l = (a.take k).filter fun w => !b.contains w) ∧ (l.length ≤ k)) ?_ ?_
  · refine ⟨_, _, ⟨(.slice none 0 0 : Value), (0 : Nat), ([] : List Str), (0 : Nat), rfl, rfl, hE0, Nat.le_refl _, Acc.nil, (by omega), h_a, h_b, (by rfl), (by exact Nat.zero_le _)⟩, ⟨rfl, rfl, rfl, rfl, trivial⟩⟩
  · rintro _ _ w1 ⟨v_l, g_l, l, k, rfl, rfl, hE1, hs1, ha1, hg1, f1, f2, hi, hl⟩ ih1
    refine r_seq ?_
    refine r_seq ?_
    refine r_region ?_
    refine OL.q (Q1.move rfl) rfl rfl ?_
    refine OL.q (Q1.move rfl) rfl rfl ?_
    refine OL.q (Q1.lenSl Try.underlying22 (f1) rfl) rfl rfl ?_
    refine OL.qb (Q1.lt rfl rfl) rfl rfl ?_
    intro b1 hb1
    refine OL.nil ?_
    cases b1 with
    | true =>
      replace hb1 := of_decide_eq_true hb1.symm
      refine r_cond_t rfl ?_
      refine r_skip ?_
      refine r_seq ?_
      refine r_block ?_
      refine r_seq ?_
      refine r_region ?_
      refine OL.q (Q1.move rfl) rfl rfl ?_
      refine OL.q (Q1.move rfl) rfl rfl ?_
      refine OL.q (Q1.move rfl) rfl rfl ?_
      obtain ⟨x1, b2, o1, hx1, hr1, hl1, hu1, hw1⟩ := Sl.at' (P := Try.prog) f1 Try.underlying22 ti9 encS_len (k := .i64) (n := ((k : Nat) : Int)) (k) (by omega) (by first | assumption | omega)
      refine OL.q (Q1.indexAddr rfl rfl hr1) rfl rfl ?_
      refine OL.q (Q1.load1 ti9 rfl (fun _ e => e ▸ hw1)) rfl rfl ?_
      refine OL.act rfl rfl (AW.callF cl25 rfl (r4at_c (w0 := w1) (l := b) x1 ((f2).iv (Nat.zero_le _) (by omega)) (by exact hsk_b) (by exact hsk_a.at hx1) (by exact hso_b)) ?_)
      rintro _ w2 ⟨_, _, rfl, rfl, ⟨b3, hb2, rfl⟩, hm1⟩
      have hl2 := ha1.lt
      have f3 := ha1.ext hm1
      have f4 := f1.ext hm1
      have f5 := f2.ext hm1
      have hE2 := hE1.ext hm1
      have hs2 := hm1.size
      have := Ml.belowW_le b x1
      refine OL.q (Q1.move rfl) rfl rfl ?_
      refine OL.q (Q1.extract rfl rfl) rfl rfl ?_
      refine OL.q (Q1.extract rfl rfl) rfl rfl ?_
      refine OL.q (Q1.assign rfl) rfl rfl ?_
      refine OL.q (Q1.assign rfl) rfl rfl ?_
      refine OL.nil ?_
      refine r_seq ?_
      refine r_region ?_
      refine OL.q (Q1.move rfl) rfl rfl ?_
      cases b3 with
      | true =>
        replace hb2 := hb2.symm
        refine OL.q (Q1.not rfl) rfl rfl ?_
        refine OL.nil ?_
        refine r_cond_f rfl ?_
        refine r_skip ?_
        refine r_inBlock ?_
        refine r_region ?_
        refine OL.q (Q1.move rfl) rfl rfl ?_
        refine OL.q (Q1.addI (((k + 1 : Nat) : Int)) rfl rfl (by omega)) rfl rfl ?_
        refine OL.q (Q1.assign rfl) rfl rfl ?_
        refine OL.nil ?_
        exact (ih1 _ _ _ ⟨(v_l : Value), (g_l : Nat), (l : List Str), (k + 1 : Nat), rfl, rfl, hE2, (by omega), f3, (by omega), f4, f5, (by first | exact Ml.wo_yes hi hx1 (by assumption) | exact Ml.wo_no hi hx1 (by assumption) | (exfalso; omega)), (by first | omega | (simp only [List.length_append, List.length_cons, List.length_nil]; omega) | (exfalso; omega))⟩ (by omega)).sub ⟨rfl, rfl, rfl, rfl, trivial⟩
      | false =>
        replace hb2 := hb2.symm
        refine OL.q (Q1.not rfl) rfl rfl ?_
        refine OL.nil ?_
        refine r_cond_t rfl ?_
        refine r_region ?_
        refine OL.q (Q1.move rfl) rfl rfl ?_
        refine OL.q (Q1.move rfl) rfl rfl ?_
        refine OL.q (Q1.move rfl) rfl rfl ?_
        obtain ⟨x2, b4, o2, hx2, hr2, hl3, hu2, hw2⟩ := Sl.at' (P := Try.prog) f4 Try.underlying22 ti9 encS_len (k := .i64) (n := ((k : Nat) : Int)) (k) (by omega) (by first | assumption | omega)
        obtain rfl : x1 = x2 := Option.some.inj (hx1.symm.trans hx2)
        refine OL.q (Q1.indexAddr rfl rfl hr2) rfl rfl ?_
        refine OL.q (Q1.load1 ti9 rfl (fun _ e => e ▸ hw2)) rfl rfl ?_
        refine OL.act rfl rfl (AW.buildSlice [strV x1] Try.underlying22 ti9 rfl rfl rfl (by decide) ?_)
        intro w3 b5 hm2 hb3 hz1 hk1
        have hl4 := f3.lt
        have f6 := f3.ext hm2
        have f7 := f4.ext hm2
        have f8 := f5.ext hm2
        have hE3 := hE2.ext hm2
        have hs3 := hm2.size
        have hl5 := Sl.of_blk (enc := encS) hk1 ([x1] : List Str) 1 rfl rfl (by unfold maxLen; omega)
        have hl6 := f6.lt
        refine OL.act rfl rfl (AW.append f6 Try.underlying22 ti9 rfl encS_len encS_one rfl rfl (hl5) (by first | omega | (simp only [List.length_append, List.length_cons, List.length_nil]; omega) | (simp; omega)) (by unfold maxLen; first | omega | (simp only [List.length_append, List.length_cons, List.length_nil]; omega) | (simp; omega)) ?_)
        intro v1 g1 w4 ha2 hm3 hg2 hz2
        have hl7 := f6.lt
        have f9 := f7.keepG hm3 (by omega)
        have f10 := f8.keepG hm3 (by omega)
        have f11 := hl5.keepG hm3 (by omega)
        have hE4 := Ext.thenG hE3 hm3 (by omega)
        have hs4 := hm3.size
        refine OL.q (Q1.assign rfl) rfl rfl ?_
        refine OL.nil ?_
        refine r_inBlock ?_
        refine r_region ?_
        refine OL.q (Q1.move rfl) rfl rfl ?_
        refine OL.q (Q1.addI (((k + 1 : Nat) : Int)) rfl rfl (by omega)) rfl rfl ?_
        refine OL.q (Q1.assign rfl) rfl rfl ?_
        refine OL.nil ?_
        exact (ih1 _ _ _ ⟨(v1 : Value), (g1 : Nat), ((l ++ [x1]) : List Str), (k + 1 : Nat), rfl, rfl, hE4, (by omega), ha2, (by omega), f9, f10, (by first | exact Ml.wo_yes hi hx1 (by assumption) | exact Ml.wo_no hi hx1 (by assumption) | (exfalso; omega)), (by first | omega | (simp only [List.length_append, List.length_cons, List.length_nil]; omega) | (exfalso; omega))⟩ (by omega)).sub ⟨rfl, rfl, rfl, rfl, trivial⟩
    | false =>
      replace hb1 := of_decide_eq_false hb1.symm
      refine r_cond_f rfl ?_
      refine r_exit rfl ?_
      refine r_seq ?_
      refine r_region ?_
      refine OL.q (Q1.move rfl) rfl rfl ?_
      refine OL.q (Q1.assign rfl) rfl rfl ?_
      refine OL.nil ?_
      refine r_ret1 Try.func27 rfl rfl ?_
      exact Ret.mk ⟨(Sl.cast (ha1.fresh (by omega)) (by first | rw [hi, Ml.filter_take_all (by omega)]; rfl | (exfalso; omega))), hE1⟩
end Go.Proofs
