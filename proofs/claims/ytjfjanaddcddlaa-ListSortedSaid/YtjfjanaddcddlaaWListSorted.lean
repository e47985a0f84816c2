/-
  The walk through the law ListSorted.
-/
import Derived.Test.YtjfjanaddcddlaaWAwake
set_option linter.unusedVariables false
set_option linter.unusedSimpArgs false
namespace Go.Proofs
open Go.Ik Go.Ml
set_option maxHeartbeats 4000000 in
theorem ListSorted_c {w0 : World} {v_words : Value} {words : List Str} (h_words : Sl encS w0 (Iv 0 w0.heap.size) v_words words) (hok_words : Ml.LOk words) :
    Calls Try.prog 4 #[v_words] w0 (Ret fun rv w1 => (∃ rb : Bool, rb = true ∧ rv = .bool rb) ∧ Ext w0 w1) := by
  have hE0 : Ext w0 w0 := Mod.refl _ _
  have hle1 := h_words.le
  refine calls_enter Try.func4 rfl Try.ntmps4 rfl ?_
  refine r_seq ?_
  refine r_region ?_
  refine OL.q (Q1.assign rfl) rfl rfl ?_
  refine OL.nil ?_
  refine r_seq ?_
  refine r_seq ?_
  refine r_region ?_
  refine OL.q (Q1.move rfl) rfl rfl ?_
  refine OL.act rfl rfl (AW.callF cl9 rfl (greatT_c (w0 := w0) (l := words)  ((h_words).iv (Nat.zero_le _) (by omega))) ?_)
  rintro _ w1 ⟨⟨b1, hb1, rfl⟩, hm1⟩
  have f1 := h_words.ext hm1
  have hE1 := hE0.ext hm1
  have hs1 := hm1.size
  refine OL.nil ?_
  cases b1 with
  | true =>
    replace hb1 := hb1.symm
    refine r_cond_t rfl ?_
    refine r_seq ?_
    refine r_region ?_
    refine OL.act rfl rfl (AW.callF cl10 rfl (awake4_c (w0 := w1)   ) ?_)
    rintro _ w2 ⟨⟨_, rfl, rfl⟩, hm2⟩
    have f2 := f1.ext hm2
    have hE2 := hE1.ext hm2
    have hs2 := hm2.size
    refine OL.q (Q1.assign rfl) rfl rfl ?_
    refine OL.nil ?_
    refine r_ret1 Try.func4 rfl rfl ?_
    exact Ret.mk ⟨⟨_, (by rfl), rfl⟩, hE2⟩
  | false =>
    replace hb1 := hb1.symm
    refine r_cond_f rfl ?_
    refine r_skip ?_
    refine r_seq ?_
    refine r_region ?_
    refine OL.q (Q1.move rfl) rfl rfl ?_
    have hgt : Ml.greatT words = false := by assumption
    have hl8 := Ml.greatT_len hgt
    refine OL.act rfl rfl (AW.callF cl12 rfl (lsorted_c (w0 := w1) (words := words)  ((f1).iv (Nat.zero_le _) (by omega)) (by first | assumption | (intro s hs; revert s; decide +kernel)) (by first | assumption | omega | (simp; done))) ?_)
    rintro v1 w2 ⟨h1, hm2⟩
    have f2 := f1.ext hm2
    have hE2 := hE1.ext hm2
    have hs2 := hm2.size
    have hle_1 := h1.le
    have := Ml.sortedM_len words
    refine OL.q (Q1.assign rfl) rfl rfl ?_
    refine OL.nil ?_
    refine r_seq ?_
    refine r_seq ?_
    refine r_region ?_
    refine OL.q (Q1.assign rfl) rfl rfl ?_
    refine OL.nil ?_
    refine r_block ?_
    refine r_loop (I := fun m E W => ∃ (i : Nat), E = [(0, v_words), (3, v1), (4, .int .i64 (((i : Nat) : Int)))] ∧ m = (Ml.sortedM words).length - i ∧ Ext w0 W ∧ w2.heap.size ≤ W.heap.size ∧ Sl encS W (Iv 0 w0.heap.size) v_words words ∧ Sl encS W (Iv w1.heap.size w2.heap.size) v1 ((Ml.sortedM words))) ?_ ?_
    · refine ⟨_, _, ⟨(0 : Nat), rfl, rfl, hE2, Nat.le_refl _, f2, h1⟩, ⟨rfl, rfl, rfl, trivial⟩⟩
    · rintro _ _ w3 ⟨i, rfl, rfl, hE3, hs3, f3, f4⟩ ih1
      refine r_seq ?_
      refine r_seq ?_
      refine r_region ?_
      refine OL.q (Q1.move rfl) rfl rfl ?_
      refine OL.q (Q1.move rfl) rfl rfl ?_
      refine OL.q (Q1.lenSl Try.underlying22 (f4) rfl) rfl rfl ?_
      refine OL.qb (Q1.lt rfl rfl) rfl rfl ?_
      intro b2 hb2
      refine OL.nil ?_
      cases b2 with
      | true =>
        replace hb2 := of_decide_eq_true hb2.symm
        refine r_cond_t rfl ?_
        refine r_skip ?_
        refine r_seq ?_
        refine r_block ?_
        refine r_seq ?_
        refine r_draw1 (fun i => Nat.beq i 4 || Nat.beq i 19) (fun w' => Mod (Mg 0) w3 w') mixed (by kernel_rfl) ?_
        intro w4 hm3
        have f5 := f3.ext hm3
        have f6 := f4.ext hm3
        have hE4 := hE3.ext hm3
        have hs4 := hm3.size
        have hCw4 : Mod (Mg 0) w3 w4 := Mod.ofExt hm3
        refine ⟨hCw4, ?_⟩
        rw [show List.range' 0 (Array.size _) = [0, 1, 2, 3, 4, 5, 6, 7, 8, 9, 10, 11, 12, 13, 14, 15, 16, 17, 18, 19, 20, 21, 22] from rfl]
        refine OD.q rfl rfl (Q1.move rfl) rfl rfl ?_
        refine OD.q rfl rfl (Q1.move rfl) rfl rfl ?_
        obtain ⟨x1, b3, o1, hx1, hr1, hl1, hu1, hw1⟩ := Sl.at' (P := Try.prog) f4 Try.underlying22 ti9 encS_len (k := .i64) (n := ((i : Nat) : Int)) (i) (by omega) (by first | assumption | omega)
        refine OD.q rfl rfl (Q1.indexAddr rfl rfl hr1) rfl rfl ?_
        refine OD.q rfl rfl (Q1.load1 ti9 rfl (fun _ hc => hw1.keepG hc (by omega))) rfl rfl ?_
        refine OD.act rfl rfl rfl rfl (AW.callF cl20 rfl (tword_c (w0 := w4)  x1 (by first | exact Ml.sortedM_ok hok_words hx1 | exact hok_words.at hx1)) ?_)
        rintro _ w5 ⟨⟨b4, hb3, rfl⟩, hm4⟩
        have f7 := f5.ext hm4
        have f8 := f6.ext hm4
        have hE5 := hE4.ext hm4
        have hs5 := hm4.size
        have hCw5 := hCw4.ext hm4
        refine ⟨hCw5, ?_⟩
        obtain rfl : b4 = true := hb3.trans (by exact Ml.sortedM_word hx1)
        refine OD.q rfl rfl (Q1.not rfl) rfl rfl ?_
        refine OD.q rfl rfl (Q1.move rfl) rfl rfl ?_
        refine OD.q rfl rfl (Q1.move rfl) rfl rfl ?_
        refine OD.qb rfl rfl (Q1.gt rfl rfl) rfl rfl ?_
        intro b5 hb4
        refine OD.q rfl rfl (Q1.move rfl) rfl rfl ?_
        cases b5 with
        | true =>
          replace hb4 := of_decide_eq_true hb4.symm
          refine OD.q rfl rfl (Q1.move rfl) rfl rfl ?_
          refine OD.q rfl rfl (Q1.move rfl) rfl rfl ?_
          refine OD.q rfl rfl (Q1.subI ((((i : Nat) : Int) - 1)) rfl rfl (by omega)) rfl rfl ?_
          obtain ⟨x2, b6, o2, hx2, hr2, hl2, hu2, hw2⟩ := Sl.at' (P := Try.prog) f4 Try.underlying22 ti9 encS_len (k := .i64) (n := (((i : Nat) : Int) - 1)) ((i - 1)) (by omega) (by first | assumption | omega)
          refine OD.q rfl rfl (Q1.indexAddr rfl rfl hr2) rfl rfl ?_
          refine OD.q rfl rfl (Q1.load1 ti9 rfl (fun _ hc => hw2.keepG hc (by omega))) rfl rfl ?_
          refine OD.q rfl rfl (Q1.move rfl) rfl rfl ?_
          refine OD.q rfl rfl (Q1.move rfl) rfl rfl ?_
          obtain ⟨x3, b7, o3, hx3, hr3, hl3, hu3, hw3⟩ := Sl.at' (P := Try.prog) f4 Try.underlying22 ti9 encS_len (k := .i64) (n := ((i : Nat) : Int)) (i) (by omega) (by first | assumption | omega)
          obtain rfl : x1 = x3 := Option.some.inj (hx1.symm.trans hx3)
          refine OD.q rfl rfl (Q1.indexAddr rfl rfl hr3) rfl rfl ?_
          refine OD.q rfl rfl (Q1.load1 ti9 rfl (fun _ hc => hw3.keepG hc (by omega))) rfl rfl ?_
          refine OD.act rfl rfl rfl rfl (AW.callF cl21 rfl (tcmp_c (w0 := w5)  x2 x1 ) ?_)
          rintro _ w6 ⟨rfl, hm5, hp1⟩
          have f9 := f7.ext hm5
          have f10 := f8.ext hm5
          have hE6 := hE5.ext hm5
          have hs6 := hm5.size
          have hCw6 := hCw5.ext hm5
          refine ⟨hCw6, ?_⟩
          refine OD.qb rfl rfl (Q1.ge rfl rfl) rfl rfl ?_
          intro b8 hb5
          obtain rfl : b8 = false := hb5.trans (by exact decide_eq_false (by have := Ml.sortedM_lt (by assumption) hx1 (by omega : i - 1 < i); omega))
          refine OD.q rfl rfl (Q1.pick_t rfl rfl) rfl rfl ?_
          refine OD.q rfl rfl (Q1.pick_f rfl rfl) rfl rfl ?_
          refine OD.nil ?_
          refine r_cond_f rfl ?_
          refine r_skip ?_
          refine r_inBlock ?_
          refine r_region ?_
          refine OL.q (Q1.move rfl) rfl rfl ?_
          refine OL.q (Q1.addI (((i + 1 : Nat) : Int)) rfl rfl (by omega)) rfl rfl ?_
          refine OL.q (Q1.assign rfl) rfl rfl ?_
          refine OL.nil ?_
          exact (ih1 _ _ _ ⟨(i + 1 : Nat), rfl, rfl, hE6, (by omega), f9, f10⟩ (by omega)).sub ⟨rfl, rfl, rfl, trivial⟩
        | false =>
          replace hb4 := of_decide_eq_false hb4.symm
          refine OD.sk rfl rfl rfl ?_
          refine OD.sk rfl rfl rfl ?_
          refine OD.sk rfl rfl rfl ?_
          refine OD.sk rfl rfl rfl ?_
          refine OD.sk rfl rfl rfl ?_
          refine OD.sk rfl rfl rfl ?_
          refine OD.sk rfl rfl rfl ?_
          refine OD.sk rfl rfl rfl ?_
          refine OD.sk rfl rfl rfl ?_
          refine OD.sk rfl rfl rfl ?_
          refine OD.sk rfl rfl rfl ?_
          refine OD.q rfl rfl (Q1.pick_f rfl rfl) rfl rfl ?_
          refine OD.q rfl rfl (Q1.pick_f rfl rfl) rfl rfl ?_
          refine OD.nil ?_
          refine r_cond_f rfl ?_
          refine r_skip ?_
          refine r_inBlock ?_
          refine r_region ?_
          refine OL.q (Q1.move rfl) rfl rfl ?_
          refine OL.q (Q1.addI (((i + 1 : Nat) : Int)) rfl rfl (by omega)) rfl rfl ?_
          refine OL.q (Q1.assign rfl) rfl rfl ?_
          refine OL.nil ?_
          exact (ih1 _ _ _ ⟨(i + 1 : Nat), rfl, rfl, hE5, (by omega), f7, f8⟩ (by omega)).sub ⟨rfl, rfl, rfl, trivial⟩
      | false =>
        replace hb2 := of_decide_eq_false hb2.symm
        refine r_cond_f rfl ?_
        refine r_exit rfl ?_
        refine r_seq ?_
        refine r_seq ?_
        refine r_region ?_
        refine OL.q (Q1.assign rfl) rfl rfl ?_
        refine OL.nil ?_
        refine r_block ?_
        refine r_loop (I := fun m E W => ∃ (i : Nat), E = [(0, v_words), (3, v1), (5, .int .i64 (((i : Nat) : Int)))] ∧ m = words.length - i ∧ Ext w0 W ∧ w3.heap.size ≤ W.heap.size ∧ Sl encS W (Iv 0 w0.heap.size) v_words words ∧ Sl encS W (Iv w1.heap.size w2.heap.size) v1 ((Ml.sortedM words))) ?_ ?_
        · refine ⟨_, _, ⟨(0 : Nat), rfl, rfl, hE3, Nat.le_refl _, f3, f4⟩, ⟨rfl, rfl, rfl, trivial⟩⟩
        · rintro _ _ w4 ⟨i, rfl, rfl, hE4, hs4, f5, f6⟩ ih2
          refine r_seq ?_
          refine r_seq ?_
          refine r_region ?_
          refine OL.q (Q1.move rfl) rfl rfl ?_
          refine OL.q (Q1.move rfl) rfl rfl ?_
          refine OL.q (Q1.lenSl Try.underlying22 (f5) rfl) rfl rfl ?_
          refine OL.qb (Q1.lt rfl rfl) rfl rfl ?_
          intro b3 hb3
          refine OL.nil ?_
          cases b3 with
          | true =>
            replace hb3 := of_decide_eq_true hb3.symm
            refine r_cond_t rfl ?_
            refine r_skip ?_
            refine r_seq ?_
            refine r_block ?_
            refine r_seq ?_
            refine r_region ?_
            refine OL.q (Q1.move rfl) rfl rfl ?_
            refine OL.q (Q1.move rfl) rfl rfl ?_
            refine OL.q (Q1.move rfl) rfl rfl ?_
            obtain ⟨x1, b4, o1, hx1, hr1, hl1, hu1, hw1⟩ := Sl.at' (P := Try.prog) f5 Try.underlying22 ti9 encS_len (k := .i64) (n := ((i : Nat) : Int)) (i) (by omega) (by first | assumption | omega)
            refine OL.q (Q1.indexAddr rfl rfl hr1) rfl rfl ?_
            refine OL.q (Q1.load1 ti9 rfl (fun _ e => e ▸ hw1)) rfl rfl ?_
            refine OL.act rfl rfl (AW.callF cl22 rfl (lat_c (w0 := w4) (words := (Ml.sortedM words)) x1 ((f6).iv (Nat.zero_le _) (by omega)) (by exact (Ml.sortedM_spec words).1) (by first | assumption | omega | (simp; done))) ?_)
            rintro _ w5 ⟨_, _, rfl, rfl, ⟨b5, hb4, rfl⟩, hm3⟩
            have f7 := f5.ext hm3
            have f8 := f6.ext hm3
            have hE5 := hE4.ext hm3
            have hs5 := hm3.size
            have := Ml.belowW_le ((Ml.sortedM words)) x1
            refine OL.q (Q1.move rfl) rfl rfl ?_
            refine OL.q (Q1.extract rfl rfl) rfl rfl ?_
            refine OL.q (Q1.extract rfl rfl) rfl rfl ?_
            refine OL.q (Q1.assign rfl) rfl rfl ?_
            refine OL.q (Q1.assign rfl) rfl rfl ?_
            refine OL.nil ?_
            refine r_seq ?_
            refine r_region ?_
            refine OL.q (Q1.move rfl) rfl rfl ?_
            refine OL.q (Q1.move rfl) rfl rfl ?_
            refine OL.q (Q1.move rfl) rfl rfl ?_
            obtain ⟨x2, b6, o2, hx2, hr2, hl2, hu2, hw2⟩ := Sl.at' (P := Try.prog) f7 Try.underlying22 ti9 encS_len (k := .i64) (n := ((i : Nat) : Int)) (i) (by omega) (by first | assumption | omega)
            obtain rfl : x1 = x2 := Option.some.inj (hx1.symm.trans hx2)
            refine OL.q (Q1.indexAddr rfl rfl hr2) rfl rfl ?_
            refine OL.q (Q1.load1 ti9 rfl (fun _ e => e ▸ hw2)) rfl rfl ?_
            refine OL.act rfl rfl (AW.callF cl20 rfl (tword_c (w0 := w5)  x1 (by first | exact Ml.sortedM_ok hok_words hx1 | exact hok_words.at hx1)) ?_)
            rintro _ w6 ⟨⟨b7, hb5, rfl⟩, hm4⟩
            have f9 := f7.ext hm4
            have f10 := f8.ext hm4
            have hE6 := hE5.ext hm4
            have hs6 := hm4.size
            refine OL.qb (Q1.neB Try.underlying4 rfl rfl) rfl rfl ?_
            intro b8 hb6
            obtain rfl : b8 = false := hb6.trans (by exact Ml.nbeqBB (by assumption) (by assumption) (Ml.sortedM_in (by omega) hx1))
            refine OL.nil ?_
            refine r_cond_f rfl ?_
            refine r_skip ?_
            refine r_inBlock ?_
            refine r_region ?_
            refine OL.q (Q1.move rfl) rfl rfl ?_
            refine OL.q (Q1.addI (((i + 1 : Nat) : Int)) rfl rfl (by omega)) rfl rfl ?_
            refine OL.q (Q1.assign rfl) rfl rfl ?_
            refine OL.nil ?_
            exact (ih2 _ _ _ ⟨(i + 1 : Nat), rfl, rfl, hE6, (by omega), f9, f10⟩ (by omega)).sub ⟨rfl, rfl, rfl, trivial⟩
          | false =>
            replace hb3 := of_decide_eq_false hb3.symm
            refine r_cond_f rfl ?_
            refine r_exit rfl ?_
            refine r_seq ?_
            refine r_region ?_
            refine OL.q (Q1.move rfl) rfl rfl ?_
            refine OL.q (Q1.lenSl Try.underlying22 (f6) rfl) rfl rfl ?_
            refine OL.q (Q1.move rfl) rfl rfl ?_
            refine OL.q (Q1.lenSl Try.underlying22 (f5) rfl) rfl rfl ?_
            refine OL.qb (Q1.le rfl rfl) rfl rfl ?_
            intro b4 hb4
            obtain rfl : b4 = true := hb4.trans (by exact decide_eq_true (by omega))
            refine OL.q (Q1.move rfl) rfl rfl ?_
            refine OL.act rfl rfl (AW.callF cl10 rfl (awake4_c (w0 := w4)   ) ?_)
            rintro _ w5 ⟨⟨_, rfl, rfl⟩, hm3⟩
            have f7 := f5.ext hm3
            have f8 := f6.ext hm3
            have hE5 := hE4.ext hm3
            have hs5 := hm3.size
            refine OL.q (Q1.pick_t rfl rfl) rfl rfl ?_
            refine OL.q (Q1.assign rfl) rfl rfl ?_
            refine OL.nil ?_
            refine r_ret1 Try.func4 rfl rfl ?_
            exact Ret.mk ⟨⟨_, (by rfl), rfl⟩, hE5⟩
end Go.Proofs
