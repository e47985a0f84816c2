/-
  The walk through the law ListAt.
-/
import Derived.Test.YtjfjanaddcddlaaWAwake
set_option linter.unusedVariables false
set_option linter.unusedSimpArgs false
namespace Go.Proofs
open Go.Ik Go.Ml
set_option maxHeartbeats 4000000 in
theorem ListAt_c {w0 : World} {v_a : Value} {a : List Str} (w : Str) (h_a : Sl encS w0 (Iv 0 w0.heap.size) v_a a) (hok_a : Ml.LOk a) :
    Calls Try.prog 5 #[v_a, strV w] w0 (Ret fun rv w1 => (∃ rb : Bool, rb = true ∧ rv = .bool rb) ∧ Ext w0 w1) := by
  have hE0 : Ext w0 w0 := Mod.refl _ _
  have hle1 := h_a.le
  refine calls_enter Try.func5 rfl Try.ntmps5 rfl ?_
  refine r_seq ?_
  refine r_region ?_
  refine OL.q (Q1.assign rfl) rfl rfl ?_
  refine OL.nil ?_
  refine r_seq ?_
  refine r_seq ?_
  refine r_region ?_
  refine OL.q (Q1.move rfl) rfl rfl ?_
  refine OL.act rfl rfl (AW.callF cl9 rfl (greatT_c (w0 := w0) (l := a)  ((h_a).iv (Nat.zero_le _) (by omega))) ?_)
  rintro _ w1 ⟨⟨b1, hb1, rfl⟩, hm1⟩
  have f1 := h_a.ext hm1
  have hE1 := hE0.ext hm1
  have hs1 := hm1.size
  refine OL.q (Q1.move rfl) rfl rfl ?_
  cases b1 with
  | true =>
    replace hb1 := hb1.symm
    refine OL.sk rfl rfl ?_
    refine OL.sk rfl rfl ?_
    refine OL.sk rfl rfl ?_
    refine OL.q (Q1.pick_t rfl rfl) rfl rfl ?_
    refine OL.q (Q1.move rfl) rfl rfl ?_
    refine OL.sk rfl rfl ?_
    refine OL.sk rfl rfl ?_
    refine OL.sk rfl rfl ?_
    refine OL.q (Q1.pick_t rfl rfl) rfl rfl ?_
    refine OL.nil ?_
    refine r_cond_t rfl ?_
    refine r_seq ?_
    refine r_region ?_
    refine OL.act rfl rfl (AW.callF cl10 rfl (awake4_c (w0 := w1)   ) ?_)
    rintro _ w2 ⟨⟨_, rfl, rfl⟩, hm2⟩
    have f2 := f1.ext hm2
    have hE2 := hE1.ext hm2
    have hs2 := hm2.size
    refine OL.q (Q1.assign rfl) rfl rfl ?_
    refine OL.nil ?_
    refine r_ret1 Try.func5 rfl rfl ?_
    exact Ret.mk ⟨⟨_, (by first | rfl | (exfalso; exact Ml.at_no hx1 (by assumption) (by assumption)) | (exfalso; exact Ml.at_no hx2 (by assumption) (by assumption)) | (exfalso; omega)), rfl⟩, hE2⟩
  | false =>
    replace hb1 := hb1.symm
    refine OL.q (Q1.move rfl) rfl rfl ?_
    refine OL.q (Q1.lenS Try.underlying9 rfl) rfl rfl ?_
    refine OL.qb (Q1.gt rfl rfl) rfl rfl ?_
    intro b2 hb2
    refine OL.q (Q1.pick_f rfl rfl) rfl rfl ?_
    refine OL.q (Q1.move rfl) rfl rfl ?_
    cases b2 with
    | true =>
      replace hb2 := of_decide_eq_true hb2.symm
      refine OL.sk rfl rfl ?_
      refine OL.sk rfl rfl ?_
      refine OL.sk rfl rfl ?_
      refine OL.q (Q1.pick_t rfl rfl) rfl rfl ?_
      refine OL.nil ?_
      refine r_cond_t rfl ?_
      refine r_seq ?_
      refine r_region ?_
      refine OL.act rfl rfl (AW.callF cl10 rfl (awake4_c (w0 := w1)   ) ?_)
      rintro _ w2 ⟨⟨_, rfl, rfl⟩, hm2⟩
      have f2 := f1.ext hm2
      have hE2 := hE1.ext hm2
      have hs2 := hm2.size
      refine OL.q (Q1.assign rfl) rfl rfl ?_
      refine OL.nil ?_
      refine r_ret1 Try.func5 rfl rfl ?_
      exact Ret.mk ⟨⟨_, (by first | rfl | (exfalso; exact Ml.at_no hx1 (by assumption) (by assumption)) | (exfalso; exact Ml.at_no hx2 (by assumption) (by assumption)) | (exfalso; omega)), rfl⟩, hE2⟩
    | false =>
      replace hb2 := of_decide_eq_false hb2.symm
      refine OL.q (Q1.move rfl) rfl rfl ?_
      refine OL.act rfl rfl (AW.callF cl14 rfl (lgood_c (w0 := w1) (words := a)  ((f1).iv (Nat.zero_le _) (by omega)) (by assumption)) ?_)
      rintro _ w2 ⟨rfl, hm2⟩
      have f2 := f1.ext hm2
      have hE2 := hE1.ext hm2
      have hs2 := hm2.size
      refine OL.qb (Q1.ne rfl rfl) rfl rfl ?_
      intro b3 hb3
      refine OL.q (Q1.pick_f rfl rfl) rfl rfl ?_
      refine OL.nil ?_
      cases b3 with
      | true =>
        replace hb3 := bne_iff_ne.1 hb3.symm
        refine r_cond_t rfl ?_
        refine r_seq ?_
        refine r_region ?_
        refine OL.act rfl rfl (AW.callF cl10 rfl (awake4_c (w0 := w2)   ) ?_)
        rintro _ w3 ⟨⟨_, rfl, rfl⟩, hm3⟩
        have f3 := f2.ext hm3
        have hE3 := hE2.ext hm3
        have hs3 := hm3.size
        refine OL.q (Q1.assign rfl) rfl rfl ?_
        refine OL.nil ?_
        refine r_ret1 Try.func5 rfl rfl ?_
        exact Ret.mk ⟨⟨_, (by first | rfl | (exfalso; exact Ml.at_no hx1 (by assumption) (by assumption)) | (exfalso; exact Ml.at_no hx2 (by assumption) (by assumption)) | (exfalso; omega)), rfl⟩, hE3⟩
      | false =>
        replace hb3 := bne_eq_false_iff_eq.1 hb3.symm
        refine r_cond_f rfl ?_
        refine r_skip ?_
        refine r_seq ?_
        refine r_region ?_
        refine OL.q (Q1.move rfl) rfl rfl ?_
        have hga : Ml.goodL a = 0 := by assumption
        have hsa := Ml.good_sorted hga
        have hla := Ml.good_len hga
        refine OL.q (Q1.move rfl) rfl rfl ?_
        refine OL.act rfl rfl (AW.callF cl22 rfl (lat_c (w0 := w2) (words := a) w ((f2).iv (Nat.zero_le _) (by omega)) (by first | assumption | exact Ml.rising_sorted (by decide +kernel)) (by first | assumption | omega | (simp; done))) ?_)
        rintro _ w3 ⟨_, _, rfl, rfl, ⟨b4, hb4, rfl⟩, hm3⟩
        have f3 := f2.ext hm3
        have hE3 := hE2.ext hm3
        have hs3 := hm3.size
        have := Ml.belowW_le a w
        refine OL.q (Q1.move rfl) rfl rfl ?_
        refine OL.q (Q1.extract rfl rfl) rfl rfl ?_
        refine OL.q (Q1.extract rfl rfl) rfl rfl ?_
        refine OL.q (Q1.assign rfl) rfl rfl ?_
        refine OL.q (Q1.assign rfl) rfl rfl ?_
        refine OL.nil ?_
        refine r_seq ?_
        refine r_seq ?_
        refine r_region ?_
        refine OL.q (Q1.move rfl) rfl rfl ?_
        refine OL.qb (Q1.lt rfl rfl) rfl rfl ?_
        intro b5 hb5
        obtain rfl : b5 = false := hb5.trans (by exact decide_eq_false (by omega))
        refine OL.q (Q1.move rfl) rfl rfl ?_
        refine OL.q (Q1.move rfl) rfl rfl ?_
        refine OL.q (Q1.move rfl) rfl rfl ?_
        refine OL.q (Q1.lenSl Try.underlying22 (f3) rfl) rfl rfl ?_
        refine OL.qb (Q1.gt rfl rfl) rfl rfl ?_
        intro b6 hb6
        obtain rfl : b6 = false := hb6.trans (by exact decide_eq_false (by omega))
        refine OL.q (Q1.pick_f rfl rfl) rfl rfl ?_
        refine OL.q (Q1.move rfl) rfl rfl ?_
        refine OL.q (Q1.move rfl) rfl rfl ?_
        refine OL.q (Q1.move rfl) rfl rfl ?_
        cases b4 with
        | true =>
          replace hb4 := hb4.symm
          refine OL.q (Q1.move rfl) rfl rfl ?_
          have hin := Ml.at_mem_lt hsa (by assumption)
          refine OL.q (Q1.move rfl) rfl rfl ?_
          refine OL.q (Q1.lenSl Try.underlying22 (f3) rfl) rfl rfl ?_
          refine OL.qb (Q1.eq rfl rfl) rfl rfl ?_
          intro b7 hb7
          obtain rfl : b7 = false := hb7.trans (by exact beq_eq_false_iff_ne.2 (by omega))
          refine OL.q (Q1.move rfl) rfl rfl ?_
          refine OL.q (Q1.move rfl) rfl rfl ?_
          refine OL.q (Q1.move rfl) rfl rfl ?_
          obtain ⟨x1, b8, o1, hx1, hr1, hl1, hu1, hw1⟩ := Sl.at' (P := Try.prog) f3 Try.underlying22 ti9 encS_len (k := .i64) (n := (((Ml.belowW a w : Nat) : Int))) (Ml.belowW a w) (by omega) (by first | assumption | omega)
          refine OL.q (Q1.indexAddr rfl rfl hr1) rfl rfl ?_
          refine OL.q (Q1.load1 ti9 rfl (fun _ e => e ▸ hw1)) rfl rfl ?_
          refine OL.q (Q1.move rfl) rfl rfl ?_
          refine OL.qb (Q1.neS rfl rfl) rfl rfl ?_
          intro b9 hb8
          obtain rfl : b9 = false := hb8.trans (by exact Ml.snbeq (Ml.at_eq hsa (by assumption) hx1))
          refine OL.q (Q1.pick_f rfl rfl) rfl rfl ?_
          refine OL.q (Q1.pick_t rfl rfl) rfl rfl ?_
          refine OL.q (Q1.pick_f rfl rfl) rfl rfl ?_
          refine OL.nil ?_
          refine r_cond_f rfl ?_
          refine r_skip ?_
          refine r_seq ?_
          refine r_seq ?_
          refine r_region ?_
          refine OL.q (Q1.assign rfl) rfl rfl ?_
          refine OL.nil ?_
          refine r_block ?_
          refine r_loop (I := fun m E W => ∃ (i : Nat), E = [(0, v_a), (1, strV w), (5, .int .i64 ((((Ml.belowW a w : Nat) : Int)))), (6, .bool true), (7, .int .i64 (((i : Nat) : Int)))] ∧ m = a.length - i ∧ Ext w0 W ∧ w3.heap.size ≤ W.heap.size ∧ Sl encS W (Iv 0 w0.heap.size) v_a a) ?_ ?_
          · refine ⟨_, _, ⟨(0 : Nat), rfl, rfl, hE3, Nat.le_refl _, f3⟩, ⟨rfl, rfl, rfl, rfl, rfl, trivial⟩⟩
          · rintro _ _ w4 ⟨i, rfl, rfl, hE4, hs4, f4⟩ ih1
            refine r_seq ?_
            refine r_seq ?_
            refine r_region ?_
            refine OL.q (Q1.move rfl) rfl rfl ?_
            refine OL.q (Q1.move rfl) rfl rfl ?_
            refine OL.q (Q1.lenSl Try.underlying22 (f4) rfl) rfl rfl ?_
            refine OL.qb (Q1.lt rfl rfl) rfl rfl ?_
            intro b10 hb9
            refine OL.nil ?_
            cases b10 with
            | true =>
              replace hb9 := of_decide_eq_true hb9.symm
              refine r_cond_t rfl ?_
              refine r_skip ?_
              refine r_seq ?_
              refine r_block ?_
              refine r_seq ?_
              refine r_region ?_
              refine OL.q (Q1.move rfl) rfl rfl ?_
              refine OL.q (Q1.move rfl) rfl rfl ?_
              obtain ⟨x2, b11, o2, hx2, hr2, hl2, hu2, hw2⟩ := Sl.at' (P := Try.prog) f4 Try.underlying22 ti9 encS_len (k := .i64) (n := ((i : Nat) : Int)) (i) (by omega) (by first | assumption | omega)
              refine OL.q (Q1.indexAddr rfl rfl hr2) rfl rfl ?_
              refine OL.q (Q1.load1 ti9 rfl (fun _ e => e ▸ hw2)) rfl rfl ?_
              refine OL.q (Q1.move rfl) rfl rfl ?_
              refine OL.act rfl rfl (AW.callF cl21 rfl (tcmp_c (w0 := w4)  x2 w ) ?_)
              rintro _ w5 ⟨rfl, hm4, hp1⟩
              have f5 := f4.ext hm4
              have hE5 := hE4.ext hm4
              have hs5 := hm4.size
              refine OL.q (Q1.assign rfl) rfl rfl ?_
              refine OL.nil ?_
              refine r_seq ?_
              refine r_region ?_
              refine OL.q (Q1.move rfl) rfl rfl ?_
              refine OL.qb (Q1.lt rfl rfl) rfl rfl ?_
              intro b12 hb10
              refine OL.q (Q1.move rfl) rfl rfl ?_
              refine OL.q (Q1.move rfl) rfl rfl ?_
              refine OL.qb (Q1.lt rfl rfl) rfl rfl ?_
              intro b13 hb11
              refine OL.qb (Q1.neB Try.underlying4 rfl rfl) rfl rfl ?_
              intro b14 hb12
              obtain rfl : b14 = false := hb12.trans (by first | exact Ml.nbeqB (by assumption) (by assumption) (by have := Ml.at_lt hsa (w := w) hx2; omega) | exact Ml.nbeqB (by assumption) (by assumption) (by have := Ml.at_lt hsa (w := w) hx1; omega))
              refine OL.q (Q1.move rfl) rfl rfl ?_
              refine OL.q (Q1.move rfl) rfl rfl ?_
              refine OL.qb (Q1.eq rfl rfl) rfl rfl ?_
              intro b15 hb13
              refine OL.q (Q1.move rfl) rfl rfl ?_
              cases b15 with
              | true =>
                replace hb13 := eq_of_beq hb13.symm
                refine OL.q (Q1.move rfl) rfl rfl ?_
                refine OL.q (Q1.not rfl) rfl rfl ?_
                refine OL.q (Q1.pick_t rfl rfl) rfl rfl ?_
                refine OL.q (Q1.pick_f rfl rfl) rfl rfl ?_
                refine OL.nil ?_
                refine r_cond_f rfl ?_
                refine r_skip ?_
                refine r_inBlock ?_
                refine r_region ?_
                refine OL.q (Q1.move rfl) rfl rfl ?_
                refine OL.q (Q1.addI (((i + 1 : Nat) : Int)) rfl rfl (by omega)) rfl rfl ?_
                refine OL.q (Q1.assign rfl) rfl rfl ?_
                refine OL.nil ?_
                exact (ih1 _ _ _ ⟨(i + 1 : Nat), rfl, rfl, hE5, (by omega), f5⟩ (by omega)).sub ⟨rfl, rfl, rfl, rfl, rfl, trivial⟩
              | false =>
                replace hb13 := ne_of_beq_false hb13.symm
                refine OL.sk rfl rfl ?_
                refine OL.sk rfl rfl ?_
                refine OL.q (Q1.pick_f rfl rfl) rfl rfl ?_
                refine OL.q (Q1.pick_f rfl rfl) rfl rfl ?_
                refine OL.nil ?_
                refine r_cond_f rfl ?_
                refine r_skip ?_
                refine r_inBlock ?_
                refine r_region ?_
                refine OL.q (Q1.move rfl) rfl rfl ?_
                refine OL.q (Q1.addI (((i + 1 : Nat) : Int)) rfl rfl (by omega)) rfl rfl ?_
                refine OL.q (Q1.assign rfl) rfl rfl ?_
                refine OL.nil ?_
                exact (ih1 _ _ _ ⟨(i + 1 : Nat), rfl, rfl, hE5, (by omega), f5⟩ (by omega)).sub ⟨rfl, rfl, rfl, rfl, rfl, trivial⟩
            | false =>
              replace hb9 := of_decide_eq_false hb9.symm
              refine r_cond_f rfl ?_
              refine r_exit rfl ?_
              refine r_seq ?_
              refine r_region ?_
              refine OL.act rfl rfl (AW.callF cl10 rfl (awake4_c (w0 := w4)   ) ?_)
              rintro _ w5 ⟨⟨_, rfl, rfl⟩, hm4⟩
              have f5 := f4.ext hm4
              have hE5 := hE4.ext hm4
              have hs5 := hm4.size
              refine OL.q (Q1.assign rfl) rfl rfl ?_
              refine OL.nil ?_
              refine r_ret1 Try.func5 rfl rfl ?_
              exact Ret.mk ⟨⟨_, (by first | rfl | (exfalso; exact Ml.at_no hx1 (by assumption) (by assumption)) | (exfalso; exact Ml.at_no hx2 (by assumption) (by assumption)) | (exfalso; omega)), rfl⟩, hE5⟩
        | false =>
          replace hb4 := hb4.symm
          refine OL.sk rfl rfl ?_
          refine OL.sk rfl rfl ?_
          refine OL.sk rfl rfl ?_
          refine OL.sk rfl rfl ?_
          refine OL.sk rfl rfl ?_
          refine OL.sk rfl rfl ?_
          refine OL.sk rfl rfl ?_
          refine OL.sk rfl rfl ?_
          refine OL.sk rfl rfl ?_
          refine OL.sk rfl rfl ?_
          refine OL.sk rfl rfl ?_
          refine OL.sk rfl rfl ?_
          refine OL.q (Q1.pick_f rfl rfl) rfl rfl ?_
          refine OL.q (Q1.pick_f rfl rfl) rfl rfl ?_
          refine OL.nil ?_
          refine r_cond_f rfl ?_
          refine r_skip ?_
          refine r_seq ?_
          refine r_seq ?_
          refine r_region ?_
          refine OL.q (Q1.assign rfl) rfl rfl ?_
          refine OL.nil ?_
          refine r_block ?_
          refine r_loop (I := fun m E W => ∃ (i : Nat), E = [(0, v_a), (1, strV w), (5, .int .i64 ((((Ml.belowW a w : Nat) : Int)))), (6, .bool false), (7, .int .i64 (((i : Nat) : Int)))] ∧ m = a.length - i ∧ Ext w0 W ∧ w3.heap.size ≤ W.heap.size ∧ Sl encS W (Iv 0 w0.heap.size) v_a a) ?_ ?_
          · refine ⟨_, _, ⟨(0 : Nat), rfl, rfl, hE3, Nat.le_refl _, f3⟩, ⟨rfl, rfl, rfl, rfl, rfl, trivial⟩⟩
          · rintro _ _ w4 ⟨i, rfl, rfl, hE4, hs4, f4⟩ ih1
            refine r_seq ?_
            refine r_seq ?_
            refine r_region ?_
            refine OL.q (Q1.move rfl) rfl rfl ?_
            refine OL.q (Q1.move rfl) rfl rfl ?_
            refine OL.q (Q1.lenSl Try.underlying22 (f4) rfl) rfl rfl ?_
            refine OL.qb (Q1.lt rfl rfl) rfl rfl ?_
            intro b7 hb7
            refine OL.nil ?_
            cases b7 with
            | true =>
              replace hb7 := of_decide_eq_true hb7.symm
              refine r_cond_t rfl ?_
              refine r_skip ?_
              refine r_seq ?_
              refine r_block ?_
              refine r_seq ?_
              refine r_region ?_
              refine OL.q (Q1.move rfl) rfl rfl ?_
              refine OL.q (Q1.move rfl) rfl rfl ?_
              obtain ⟨x1, b8, o1, hx1, hr1, hl1, hu1, hw1⟩ := Sl.at' (P := Try.prog) f4 Try.underlying22 ti9 encS_len (k := .i64) (n := ((i : Nat) : Int)) (i) (by omega) (by first | assumption | omega)
              refine OL.q (Q1.indexAddr rfl rfl hr1) rfl rfl ?_
              refine OL.q (Q1.load1 ti9 rfl (fun _ e => e ▸ hw1)) rfl rfl ?_
              refine OL.q (Q1.move rfl) rfl rfl ?_
              refine OL.act rfl rfl (AW.callF cl21 rfl (tcmp_c (w0 := w4)  x1 w ) ?_)
              rintro _ w5 ⟨rfl, hm4, hp1⟩
              have f5 := f4.ext hm4
              have hE5 := hE4.ext hm4
              have hs5 := hm4.size
              refine OL.q (Q1.assign rfl) rfl rfl ?_
              refine OL.nil ?_
              refine r_seq ?_
              refine r_region ?_
              refine OL.q (Q1.move rfl) rfl rfl ?_
              refine OL.qb (Q1.lt rfl rfl) rfl rfl ?_
              intro b9 hb8
              refine OL.q (Q1.move rfl) rfl rfl ?_
              refine OL.q (Q1.move rfl) rfl rfl ?_
              refine OL.qb (Q1.lt rfl rfl) rfl rfl ?_
              intro b10 hb9
              refine OL.qb (Q1.neB Try.underlying4 rfl rfl) rfl rfl ?_
              intro b11 hb10
              obtain rfl : b11 = false := hb10.trans (by first | exact Ml.nbeqB (by assumption) (by assumption) (by have := Ml.at_lt hsa (w := w) hx2; omega) | exact Ml.nbeqB (by assumption) (by assumption) (by have := Ml.at_lt hsa (w := w) hx1; omega))
              refine OL.q (Q1.move rfl) rfl rfl ?_
              refine OL.q (Q1.move rfl) rfl rfl ?_
              refine OL.qb (Q1.eq rfl rfl) rfl rfl ?_
              intro b12 hb11
              refine OL.q (Q1.move rfl) rfl rfl ?_
              cases b12 with
              | true =>
                replace hb11 := eq_of_beq hb11.symm
                refine OL.q (Q1.move rfl) rfl rfl ?_
                refine OL.q (Q1.not rfl) rfl rfl ?_
                refine OL.q (Q1.pick_t rfl rfl) rfl rfl ?_
                refine OL.q (Q1.pick_f rfl rfl) rfl rfl ?_
                refine OL.nil ?_
                refine r_cond_t rfl ?_
                refine r_seq ?_
                refine r_region ?_
                refine OL.q (Q1.assign rfl) rfl rfl ?_
                refine OL.nil ?_
                refine r_ret1 Try.func5 rfl rfl ?_
                exact Ret.mk ⟨⟨_, (by first | rfl | (exfalso; exact Ml.at_no hx1 (by assumption) (by assumption)) | (exfalso; exact Ml.at_no hx2 (by assumption) (by assumption)) | (exfalso; omega)), rfl⟩, hE5⟩
              | false =>
                replace hb11 := ne_of_beq_false hb11.symm
                refine OL.sk rfl rfl ?_
                refine OL.sk rfl rfl ?_
                refine OL.q (Q1.pick_f rfl rfl) rfl rfl ?_
                refine OL.q (Q1.pick_f rfl rfl) rfl rfl ?_
                refine OL.nil ?_
                refine r_cond_f rfl ?_
                refine r_skip ?_
                refine r_inBlock ?_
                refine r_region ?_
                refine OL.q (Q1.move rfl) rfl rfl ?_
                refine OL.q (Q1.addI (((i + 1 : Nat) : Int)) rfl rfl (by omega)) rfl rfl ?_
                refine OL.q (Q1.assign rfl) rfl rfl ?_
                refine OL.nil ?_
                exact (ih1 _ _ _ ⟨(i + 1 : Nat), rfl, rfl, hE5, (by omega), f5⟩ (by omega)).sub ⟨rfl, rfl, rfl, rfl, rfl, trivial⟩
            | false =>
              replace hb7 := of_decide_eq_false hb7.symm
              refine r_cond_f rfl ?_
              refine r_exit rfl ?_
              refine r_seq ?_
              refine r_region ?_
              refine OL.act rfl rfl (AW.callF cl10 rfl (awake4_c (w0 := w4)   ) ?_)
              rintro _ w5 ⟨⟨_, rfl, rfl⟩, hm4⟩
              have f5 := f4.ext hm4
              have hE5 := hE4.ext hm4
              have hs5 := hm4.size
              refine OL.q (Q1.assign rfl) rfl rfl ?_
              refine OL.nil ?_
              refine r_ret1 Try.func5 rfl rfl ?_
              exact Ret.mk ⟨⟨_, (by first | rfl | (exfalso; exact Ml.at_no hx1 (by assumption) (by assumption)) | (exfalso; exact Ml.at_no hx2 (by assumption) (by assumption)) | (exfalso; omega)), rfl⟩, hE5⟩
end Go.Proofs
