/-
  Walks through what the statements share.
-/
import Derived.Test.YtnikbecfjbjbbaaFacts
set_option linter.unusedVariables false
set_option linter.unusedSimpArgs false
namespace Go.Proofs
open Go.Ik Go.Ml
set_option maxRecDepth 20000 in
set_option maxHeartbeats 4000000 in
theorem great26_c {w0 : World}  {v_recs : Value} {recs : List RRec} (h_recs : Sl encRec w0 (Iv 0 w0.heap.size) v_recs recs) (hd : ∀ r ∈ recs, RecD w0 (Iv 0 w0.heap.size) r) :
    Calls Try.prog 4 #[v_recs] w0 (Ret fun rv w1 => (∃ rb : Bool, rb = (greatR recs) ∧ rv = .bool rb) ∧ Ext w0 w1) := by
  have hle_recs := h_recs.le
  have hS0 := St.start0 w0
  refine calls_enter Try.func4 rfl Try.ntmps4 rfl ?_
  refine r_seq ?_
  refine r_region ?_
  refine OL.q (Q1.assign rfl) rfl rfl ?_
  refine OL.nil ?_
  refine r_seq ?_
  refine r_seq ?_
  refine r_region ?_
  refine OL.q (Q1.assign rfl) rfl rfl ?_
  refine OL.nil ?_
  refine r_block ?_
  refine r_loop (I := fun m E W => ∃ (i : Nat), E = [(0, v_recs), (3, .int .i64 (((i : Nat) : Int)))] ∧ m = recs.length - i ∧ St (fun _ => False) (fun _ => False) w0 W [] ∧ ((recs.take i).any badR = false)) ?_ ?_
  · refine ⟨_, _, ⟨(0 : Nat), rfl, rfl, hS0, (by rfl)⟩, ⟨rfl, rfl, trivial⟩⟩
  · rintro _ _ w1 ⟨i, rfl, rfl, hS1, hi⟩ ih1
    refine r_seq ?_
    refine r_seq ?_
    refine r_region ?_
    refine OL.q (Q1.move rfl) rfl rfl ?_
    refine OL.q (Q1.move rfl) rfl rfl ?_
    have f1 := hS1.out h_recs (fun _ _ h => h)
    refine OL.q (Q1.lenSl Try.underlying22 (f1) rfl) rfl rfl ?_
    refine OL.qb (Q1.lt rfl rfl) rfl rfl ?_
    intro b1 hb1
    refine OL.q (Q1.move rfl) rfl rfl ?_
    cases b1 with
    | true =>
      replace hb1 := of_decide_eq_true hb1.symm
      refine OL.q (Q1.move rfl) rfl rfl ?_
      refine OL.q (Q1.lenSl Try.underlying22 (f1) rfl) rfl rfl ?_
      refine OL.qb (Q1.le rfl rfl) rfl rfl ?_
      intro b2 hb2
      refine OL.q (Q1.pick_t rfl rfl) rfl rfl ?_
      refine OL.nil ?_
      cases b2 with
      | true =>
        replace hb2 := of_decide_eq_true hb2.symm
        refine r_cond_t rfl ?_
        refine r_skip ?_
        refine r_seq ?_
        refine r_block ?_
        refine r_seq ?_
        refine r_region ?_
        refine OL.q (Q1.move rfl) rfl rfl ?_
        refine OL.q (Q1.move rfl) rfl rfl ?_
        obtain ⟨x1, b3, o1, hx1, hr1, hl1, hw1⟩ := Sl.atF (P := Try.prog) f1 Try.underlying22 ti38 encRec_len (k := .i64) (n := ((i : Nat) : Int)) (i) (by omega) (by first | assumption | omega)
        refine OL.q (Q1.indexAddr rfl rfl hr1) rfl rfl ?_
        refine OL.q (Q1.fieldAddr fl38_3 rfl) rfl rfl ?_
        have hr2 := hw1.sub 9 1 (Nat.le_of_ble_eq_true rfl)
        refine OL.q (Q1.load1 ti36 rfl (fun _ e => e ▸ hr2)) rfl rfl ?_
        have hdp1 := hd x1 (List.mem_of_getElem? hx1)
        have hdf1 := hdp1.sent
        have hle_1 := hdf1.le
        have f2 := hS1.out hdf1 (fun _ _ h => h)
        refine OL.q (Q1.lenSl Try.underlying36 (f2) rfl) rfl rfl ?_
        refine OL.qb (Q1.gt rfl rfl) rfl rfl ?_
        intro b4 hb3
        refine OL.q (Q1.move rfl) rfl rfl ?_
        cases b4 with
        | true =>
          replace hb3 := of_decide_eq_true hb3.symm
          refine OL.sk rfl rfl ?_
          refine OL.sk rfl rfl ?_
          refine OL.sk rfl rfl ?_
          refine OL.sk rfl rfl ?_
          refine OL.sk rfl rfl ?_
          refine OL.sk rfl rfl ?_
          refine OL.sk rfl rfl ?_
          refine OL.q (Q1.pick_t rfl rfl) rfl rfl ?_
          refine OL.nil ?_
          refine r_cond_t rfl ?_
          refine r_seq ?_
          refine r_region ?_
          refine OL.q (Q1.assign rfl) rfl rfl ?_
          refine OL.nil ?_
          refine r_ret1 Try.func4 rfl rfl ?_
          exact Ret.mk ⟨⟨_, (by first | exact gr_yes hx1 (by omega) | exact gr_end hi (by omega) (by assumption) | (exfalso; omega)), rfl⟩, hS1.mod⟩
        | false =>
          replace hb3 := of_decide_eq_false hb3.symm
          refine OL.q (Q1.move rfl) rfl rfl ?_
          refine OL.q (Q1.move rfl) rfl rfl ?_
          obtain ⟨x2, b5, o2, hx2, hr3, hl2, hw2⟩ := Sl.atF (P := Try.prog) f1 Try.underlying22 ti38 encRec_len (k := .i64) (n := ((i : Nat) : Int)) (i) (by omega) (by first | assumption | omega)
          obtain rfl : x1 = x2 := Option.some.inj (hx1.symm.trans hx2)
          refine OL.q (Q1.indexAddr rfl rfl hr3) rfl rfl ?_
          refine OL.q (Q1.fieldAddr fl38_5 rfl) rfl rfl ?_
          have hr4 := hw2.sub 11 1 (Nat.le_of_ble_eq_true rfl)
          refine OL.q (Q1.load1 ti28 rfl (fun _ e => e ▸ hr4)) rfl rfl ?_
          have hdf2 := hdp1.lost
          have hle_2 := hdf2.le
          have f3 := hS1.out hdf2 (fun _ _ h => h)
          refine OL.q (Q1.lenSl Try.underlying28 (f3) rfl) rfl rfl ?_
          refine OL.qb (Q1.gt rfl rfl) rfl rfl ?_
          intro b6 hb4
          refine OL.q (Q1.pick_f rfl rfl) rfl rfl ?_
          refine OL.nil ?_
          cases b6 with
          | true =>
            replace hb4 := of_decide_eq_true hb4.symm
            refine r_cond_t rfl ?_
            refine r_seq ?_
            refine r_region ?_
            refine OL.q (Q1.assign rfl) rfl rfl ?_
            refine OL.nil ?_
            refine r_ret1 Try.func4 rfl rfl ?_
            exact Ret.mk ⟨⟨_, (by first | exact gr_yes hx1 (by omega) | exact gr_end hi (by omega) (by assumption) | (exfalso; omega)), rfl⟩, hS1.mod⟩
          | false =>
            replace hb4 := of_decide_eq_false hb4.symm
            refine r_cond_f rfl ?_
            refine r_skip ?_
            refine r_inBlock ?_
            refine r_region ?_
            refine OL.q (Q1.move rfl) rfl rfl ?_
            refine OL.q (Q1.addI (((i + 1 : Nat) : Int)) rfl rfl (by omega)) rfl rfl ?_
            refine OL.q (Q1.assign rfl) rfl rfl ?_
            refine OL.nil ?_
            exact (ih1 _ _ _ ⟨(i + 1 : Nat), rfl, rfl, hS1, (by first | exact gr_step hi hx1 (by omega) (by omega) | (exfalso; omega))⟩ (by omega)).sub ⟨rfl, rfl, trivial⟩
      | false =>
        replace hb2 := of_decide_eq_false hb2.symm
        refine r_cond_f rfl ?_
        refine r_exit rfl ?_
        refine r_seq ?_
        refine r_region ?_
        refine OL.q (Q1.move rfl) rfl rfl ?_
        refine OL.q (Q1.lenSl Try.underlying22 (f1) rfl) rfl rfl ?_
        refine OL.qb (Q1.gt rfl rfl) rfl rfl ?_
        intro b3 hb3
        refine OL.q (Q1.assign rfl) rfl rfl ?_
        refine OL.nil ?_
        refine r_ret1 Try.func4 rfl rfl ?_
        exact Ret.mk ⟨⟨_, (by first | exact gr_yes hx1 (by omega) | exact gr_end hi (by omega) (by assumption) | (exfalso; omega)), rfl⟩, hS1.mod⟩
    | false =>
      replace hb1 := of_decide_eq_false hb1.symm
      refine OL.sk rfl rfl ?_
      refine OL.sk rfl rfl ?_
      refine OL.sk rfl rfl ?_
      refine OL.q (Q1.pick_f rfl rfl) rfl rfl ?_
      refine OL.nil ?_
      refine r_cond_f rfl ?_
      refine r_exit rfl ?_
      refine r_seq ?_
      refine r_region ?_
      refine OL.q (Q1.move rfl) rfl rfl ?_
      refine OL.q (Q1.lenSl Try.underlying22 (f1) rfl) rfl rfl ?_
      refine OL.qb (Q1.gt rfl rfl) rfl rfl ?_
      intro b2 hb2
      refine OL.q (Q1.assign rfl) rfl rfl ?_
      refine OL.nil ?_
      refine r_ret1 Try.func4 rfl rfl ?_
      exact Ret.mk ⟨⟨_, (by first | exact gr_yes hx1 (by omega) | exact gr_end hi (by omega) (by assumption) | (exfalso; omega)), rfl⟩, hS1.mod⟩
set_option maxRecDepth 20000 in
set_option maxHeartbeats 4000000 in
theorem sameI_c {w0 : World}  {v_a : Value} {a : List Int} {v_b : Value} {b : List Int} (h_a : Sl Ik.encI w0 (Iv 0 w0.heap.size) v_a a) (h_b : Sl Ik.encI w0 (Iv 0 w0.heap.size) v_b b) :
    Calls Try.prog 8 #[v_a, v_b] w0 (Ret fun rv w1 => (∃ rb : Bool, rb = (decide (a = b)) ∧ rv = .bool rb) ∧ Ext w0 w1) := by
  have hE0 : Ext w0 w0 := Mod.refl _ _
  have hle1 := h_a.le
  have hle2 := h_b.le
  refine calls_enter Try.func8 rfl Try.ntmps8 rfl ?_
  refine r_seq ?_
  refine r_region ?_
  refine OL.q (Q1.assign rfl) rfl rfl ?_
  refine OL.nil ?_
  refine r_seq ?_
  refine r_seq ?_
  refine r_region ?_
  refine OL.q (Q1.move rfl) rfl rfl ?_
  refine OL.q (Q1.lenSl Try.underlying28 (h_a) rfl) rfl rfl ?_
  refine OL.q (Q1.move rfl) rfl rfl ?_
  refine OL.q (Q1.lenSl Try.underlying28 (h_b) rfl) rfl rfl ?_
  refine OL.qb (Q1.ne rfl rfl) rfl rfl ?_
  intro b1 hb1
  refine OL.nil ?_
  cases b1 with
  | true =>
    replace hb1 := bne_iff_ne.1 hb1.symm
    refine r_cond_t rfl ?_
    refine r_seq ?_
    refine r_region ?_
    refine OL.q (Q1.assign rfl) rfl rfl ?_
    refine OL.nil ?_
    refine r_ret1 Try.func8 rfl rfl ?_
    exact Ret.mk ⟨⟨_, (by first | (have e := Ml.same_not hx1 hx2 (by assumption); simp [e]) | (have e := Ml.same_all hi (by omega) (by omega); simp [e]) | (have e : a ≠ b := (fun e => absurd (congrArg List.length e) (by omega)); simp [e]) | (exfalso; omega)), rfl⟩, hE0⟩
  | false =>
    replace hb1 := bne_eq_false_iff_eq.1 hb1.symm
    refine r_cond_f rfl ?_
    refine r_skip ?_
    refine r_seq ?_
    refine r_seq ?_
    refine r_region ?_
    refine OL.q (Q1.assign rfl) rfl rfl ?_
    refine OL.nil ?_
    refine r_block ?_
    refine r_loop (I := fun m E W => ∃ (k : Nat), E = [(0, v_a), (1, v_b), (5, .int .i64 (((k : Nat) : Int)))] ∧ m = a.length - k ∧ Ext w0 W ∧ w0.heap.size ≤ W.heap.size ∧ Sl Ik.encI W (Iv 0 w0.heap.size) v_a a ∧ Sl Ik.encI W (Iv 0 w0.heap.size) v_b b ∧ (a.take k = b.take k)) ?_ ?_
    · refine ⟨_, _, ⟨(0 : Nat), rfl, rfl, hE0, Nat.le_refl _, h_a, h_b, (by rfl)⟩, ⟨rfl, rfl, rfl, trivial⟩⟩
    · rintro _ _ w1 ⟨k, rfl, rfl, hE1, hs1, f1, f2, hi⟩ ih1
      refine r_seq ?_
      refine r_seq ?_
      refine r_region ?_
      refine OL.q (Q1.move rfl) rfl rfl ?_
      refine OL.q (Q1.move rfl) rfl rfl ?_
      refine OL.q (Q1.lenSl Try.underlying28 (f1) rfl) rfl rfl ?_
      refine OL.qb (Q1.lt rfl rfl) rfl rfl ?_
      intro b2 hb2
      refine OL.nil ?_
      cases b2 with
      | true =>
        replace hb2 := of_decide_eq_true hb2.symm
        refine r_cond_t rfl ?_
        refine r_skip ?_
        refine r_seq ?_
        refine r_block ?_
        refine r_seq ?_
        refine r_draw1 (fun i => false) 9 (fun w' => Mod (Mg 0) w1 w') mixed (by kernel_rfl) ?_
        intro w2 hm1
        have f3 := f1.ext hm1
        have f4 := f2.ext hm1
        have hE2 := hE1.ext hm1
        have hs2 := hm1.size
        have hCw2 : Mod (Mg 0) w1 w2 := Mod.ofExt hm1
        refine ⟨hCw2, ?_⟩
        rw [show List.range' 0 (Array.size _) = [0, 1, 2, 3, 4, 5, 6, 7, 8] from rfl]
        refine OD.q rfl rfl (Q1.move rfl) rfl rfl ?_
        refine OD.q rfl rfl (Q1.move rfl) rfl rfl ?_
        obtain ⟨x1, b3, o1, hx1, hr1, hl1, hu1, hw1⟩ := Sl.at' (P := Try.prog) f1 Try.underlying28 ti3 Ik.encI_len (k := .i64) (n := ((k : Nat) : Int)) (k) (by omega) (by first | assumption | omega)
        refine OD.q rfl rfl (Q1.indexAddr rfl rfl hr1) rfl rfl ?_
        refine OD.q rfl rfl (Q1.load1 ti3 rfl (fun _ hc => hw1.keepG hc (by omega))) rfl rfl ?_
        refine OD.q rfl rfl (Q1.move rfl) rfl rfl ?_
        refine OD.q rfl rfl (Q1.move rfl) rfl rfl ?_
        obtain ⟨x2, b4, o2, hx2, hr2, hl2, hu2, hw2⟩ := Sl.at' (P := Try.prog) f2 Try.underlying28 ti3 Ik.encI_len (k := .i64) (n := ((k : Nat) : Int)) (k) (by omega) (by first | assumption | omega)
        refine OD.q rfl rfl (Q1.indexAddr rfl rfl hr2) rfl rfl ?_
        refine OD.q rfl rfl (Q1.load1 ti3 rfl (fun _ hc => hw2.keepG hc (by omega))) rfl rfl ?_
        refine OD.qb rfl rfl (Q1.ne rfl rfl) rfl rfl ?_
        intro b5 hb3
        refine OD.nil ?_
        cases b5 with
        | true =>
          replace hb3 := bne_iff_ne.1 hb3.symm
          refine r_cond_t rfl ?_
          refine r_seq ?_
          refine r_region ?_
          refine OL.q (Q1.assign rfl) rfl rfl ?_
          refine OL.nil ?_
          refine r_ret1 Try.func8 rfl rfl ?_
          exact Ret.mk ⟨⟨_, (by first | (have e := Ml.same_not hx1 hx2 (by assumption); simp [e]) | (have e := Ml.same_all hi (by omega) (by omega); simp [e]) | (have e : a ≠ b := (fun e => absurd (congrArg List.length e) (by omega)); simp [e]) | (exfalso; omega)), rfl⟩, hE2⟩
        | false =>
          replace hb3 := bne_eq_false_iff_eq.1 hb3.symm
          refine r_cond_f rfl ?_
          refine r_skip ?_
          refine r_inBlock ?_
          refine r_region ?_
          refine OL.q (Q1.move rfl) rfl rfl ?_
          refine OL.q (Q1.addI (((k + 1 : Nat) : Int)) rfl rfl (by omega)) rfl rfl ?_
          refine OL.q (Q1.assign rfl) rfl rfl ?_
          refine OL.nil ?_
          exact (ih1 _ _ _ ⟨(k + 1 : Nat), rfl, rfl, hE2, (by omega), f3, f4, (by first | exact Ml.same_take hi hx1 hx2 (by assumption) | (exfalso; omega))⟩ (by omega)).sub ⟨rfl, rfl, rfl, trivial⟩
      | false =>
        replace hb2 := of_decide_eq_false hb2.symm
        refine r_cond_f rfl ?_
        refine r_exit rfl ?_
        refine r_seq ?_
        refine r_region ?_
        refine OL.q (Q1.assign rfl) rfl rfl ?_
        refine OL.nil ?_
        refine r_ret1 Try.func8 rfl rfl ?_
        exact Ret.mk ⟨⟨_, (by first | (have e := Ml.same_not hx1 hx2 (by assumption); simp [e]) | (have e := Ml.same_all hi (by omega) (by omega); simp [e]) | (have e : a ≠ b := (fun e => absurd (congrArg List.length e) (by omega)); simp [e]) | (exfalso; omega)), rfl⟩, hE1⟩
end Go.Proofs
