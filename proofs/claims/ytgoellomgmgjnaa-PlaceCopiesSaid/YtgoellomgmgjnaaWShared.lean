/-
  Walks through what the statements share.
-/
import Derived.Test.YtgoellomgmgjnaaWPlace
set_option linter.unusedVariables false
set_option linter.unusedSimpArgs false
namespace Go.Proofs
open Go.Ik Go.Ml
set_option maxHeartbeats 4000000 in
theorem sameI_c {w0 : World} {v_a : Value} {a : List Int} {v_b : Value} {b : List Int} (h_a : Sl encI w0 (Iv 0 w0.heap.size) v_a a) (h_b : Sl encI w0 (Iv 0 w0.heap.size) v_b b) :
    Calls Try.prog 19 #[v_a, v_b] w0 (Ret fun rv w1 => (∃ rb : Bool, rb = (decide (a = b)) ∧ rv = .bool rb) ∧ Ext w0 w1) := by
  have hE0 : Ext w0 w0 := Mod.refl _ _
  have hle1 := h_a.le
  have hle2 := h_b.le
  refine calls_enter Try.func19 rfl Try.ntmps19 rfl ?_
  refine r_seq ?_
  refine r_region ?_
  refine OL.q (Q1.assign rfl) rfl rfl ?_
  refine OL.nil ?_
  refine r_seq ?_
  refine r_seq ?_
  refine r_region ?_
  refine OL.q (Q1.move rfl) rfl rfl ?_
  refine OL.q (Q1.lenSl Try.underlying28 (h_a) rfl) rfl rfl ?_
  refine OL.q (Q1.move rfl) rfl rfl ?_
  refine OL.q (Q1.lenSl Try.underlying28 (h_b) rfl) rfl rfl ?_
  refine OL.qb (Q1.ne rfl rfl) rfl rfl ?_
  intro b1 hb1
  refine OL.nil ?_
  cases b1 with
  | true =>
    replace hb1 := bne_iff_ne.1 hb1.symm
    refine r_cond_t rfl ?_
    refine r_seq ?_
    refine r_region ?_
    refine OL.q (Q1.assign rfl) rfl rfl ?_
    refine OL.nil ?_
    refine r_ret1 Try.func19 rfl rfl ?_
    exact Ret.mk ⟨⟨_, (by first | (have e := Ml.same_not hx1 hx2 (by assumption); simp [e]) | (have e := Ml.same_all hi (by omega) (by omega); simp [e]) | (have e : a ≠ b := (fun e => absurd (congrArg List.length e) (by omega)); simp [e]) | (exfalso; omega)), rfl⟩, hE0⟩
  | false =>
    replace hb1 := bne_eq_false_iff_eq.1 hb1.symm
    refine r_cond_f rfl ?_
    refine r_skip ?_
    refine r_seq ?_
    refine r_seq ?_
    refine r_region ?_
    refine OL.q (Q1.assign rfl) rfl rfl ?_
    refine OL.nil ?_
    refine r_block ?_
    refine r_loop (I := fun m E W => ∃ (k : Nat), E = [(0, v_a), (1, v_b), (5, .int .i64 (((k : Nat) : Int)))] ∧ m = a.length - k ∧ Ext w0 W ∧ w0.heap.size ≤ W.heap.size ∧ Sl encI W (Iv 0 w0.heap.size) v_a a ∧ Sl encI W (Iv 0 w0.heap.size) v_b b ∧ (a.take k = b.take k)) ?_ ?_
    · refine ⟨_, _, ⟨(0 : Nat), rfl, rfl, hE0, Nat.le_refl _, h_a, h_b, (by rfl)⟩, ⟨rfl, rfl, rfl, trivial⟩⟩
    · rintro _ _ w1 ⟨k, rfl, rfl, hE1, hs1, f1, f2, hi⟩ ih1
      refine r_seq ?_
      refine r_seq ?_
      refine r_region ?_
      refine OL.q (Q1.move rfl) rfl rfl ?_
      refine OL.q (Q1.move rfl) rfl rfl ?_
      refine OL.q (Q1.lenSl Try.underlying28 (f1) rfl) rfl rfl ?_
      refine OL.qb (Q1.lt rfl rfl) rfl rfl ?_
      intro b2 hb2
      refine OL.nil ?_
      cases b2 with
      | true =>
        replace hb2 := of_decide_eq_true hb2.symm
        refine r_cond_t rfl ?_
        refine r_skip ?_
        refine r_seq ?_
        refine r_block ?_
        refine r_seq ?_
        refine r_draw1 (fun i => false) (fun w' => Mod (Mg 0) w1 w') mixed (by kernel_rfl) ?_
        intro w2 hm1
        have f3 := f1.ext hm1
        have f4 := f2.ext hm1
        have hE2 := hE1.ext hm1
        have hs2 := hm1.size
        have hCw2 : Mod (Mg 0) w1 w2 := Mod.ofExt hm1
        refine ⟨hCw2, ?_⟩
        rw [show List.range' 0 (Array.size _) = [0, 1, 2, 3, 4, 5, 6, 7, 8] from rfl]
        refine OD.q rfl rfl (Q1.move rfl) rfl rfl ?_
        refine OD.q rfl rfl (Q1.move rfl) rfl rfl ?_
        obtain ⟨x1, b3, o1, hx1, hr1, hl1, hu1, hw1⟩ := Sl.at' (P := Try.prog) f1 Try.underlying28 ti3 encI_len (k := .i64) (n := ((k : Nat) : Int)) (k) (by omega) (by first | assumption | omega)
        refine OD.q rfl rfl (Q1.indexAddr rfl rfl hr1) rfl rfl ?_
        refine OD.q rfl rfl (Q1.load1 ti3 rfl (fun _ hc => hw1.keepG hc (by omega))) rfl rfl ?_
        refine OD.q rfl rfl (Q1.move rfl) rfl rfl ?_
        refine OD.q rfl rfl (Q1.move rfl) rfl rfl ?_
        obtain ⟨x2, b4, o2, hx2, hr2, hl2, hu2, hw2⟩ := Sl.at' (P := Try.prog) f2 Try.underlying28 ti3 encI_len (k := .i64) (n := ((k : Nat) : Int)) (k) (by omega) (by first | assumption | omega)
        refine OD.q rfl rfl (Q1.indexAddr rfl rfl hr2) rfl rfl ?_
        refine OD.q rfl rfl (Q1.load1 ti3 rfl (fun _ hc => hw2.keepG hc (by omega))) rfl rfl ?_
        refine OD.qb rfl rfl (Q1.ne rfl rfl) rfl rfl ?_
        intro b5 hb3
        refine OD.nil ?_
        cases b5 with
        | true =>
          replace hb3 := bne_iff_ne.1 hb3.symm
          refine r_cond_t rfl ?_
          refine r_seq ?_
          refine r_region ?_
          refine OL.q (Q1.assign rfl) rfl rfl ?_
          refine OL.nil ?_
          refine r_ret1 Try.func19 rfl rfl ?_
          exact Ret.mk ⟨⟨_, (by first | (have e := Ml.same_not hx1 hx2 (by assumption); simp [e]) | (have e := Ml.same_all hi (by omega) (by omega); simp [e]) | (have e : a ≠ b := (fun e => absurd (congrArg List.length e) (by omega)); simp [e]) | (exfalso; omega)), rfl⟩, hE2⟩
        | false =>
          replace hb3 := bne_eq_false_iff_eq.1 hb3.symm
          refine r_cond_f rfl ?_
          refine r_skip ?_
          refine r_inBlock ?_
          refine r_region ?_
          refine OL.q (Q1.move rfl) rfl rfl ?_
          refine OL.q (Q1.addI (((k + 1 : Nat) : Int)) rfl rfl (by omega)) rfl rfl ?_
          refine OL.q (Q1.assign rfl) rfl rfl ?_
          refine OL.nil ?_
          exact (ih1 _ _ _ ⟨(k + 1 : Nat), rfl, rfl, hE2, (by omega), f3, f4, (by first | exact Ml.same_take hi hx1 hx2 (by assumption) | (exfalso; omega))⟩ (by omega)).sub ⟨rfl, rfl, rfl, trivial⟩
      | false =>
        replace hb2 := of_decide_eq_false hb2.symm
        refine r_cond_f rfl ?_
        refine r_exit rfl ?_
        refine r_seq ?_
        refine r_region ?_
        refine OL.q (Q1.assign rfl) rfl rfl ?_
        refine OL.nil ?_
        refine r_ret1 Try.func19 rfl rfl ?_
        exact Ret.mk ⟨⟨_, (by first | (have e := Ml.same_not hx1 hx2 (by assumption); simp [e]) | (have e := Ml.same_all hi (by omega) (by omega); simp [e]) | (have e : a ≠ b := (fun e => absurd (congrArg List.length e) (by omega)); simp [e]) | (exfalso; omega)), rfl⟩, hE1⟩
set_option maxHeartbeats 4000000 in
theorem sameT_c {w0 : World} {v_a : Value} {a : List Str} {v_b : Value} {b : List Str} (h_a : Sl encS w0 (Iv 0 w0.heap.size) v_a a) (h_b : Sl encS w0 (Iv 0 w0.heap.size) v_b b) :
    Calls Try.prog 14 #[v_a, v_b] w0 (Ret fun rv w1 => (∃ rb : Bool, rb = (decide (a = b)) ∧ rv = .bool rb) ∧ Ext w0 w1) := by
  have hE0 : Ext w0 w0 := Mod.refl _ _
  have hle1 := h_a.le
  have hle2 := h_b.le
  refine calls_enter Try.func14 rfl Try.ntmps14 rfl ?_
  refine r_seq ?_
  refine r_region ?_
  refine OL.q (Q1.assign rfl) rfl rfl ?_
  refine OL.nil ?_
  refine r_seq ?_
  refine r_seq ?_
  refine r_region ?_
  refine OL.q (Q1.move rfl) rfl rfl ?_
  refine OL.q (Q1.lenSl Try.underlying22 (h_a) rfl) rfl rfl ?_
  refine OL.q (Q1.move rfl) rfl rfl ?_
  refine OL.q (Q1.lenSl Try.underlying22 (h_b) rfl) rfl rfl ?_
  refine OL.qb (Q1.ne rfl rfl) rfl rfl ?_
  intro b1 hb1
  refine OL.nil ?_
  cases b1 with
  | true =>
    replace hb1 := bne_iff_ne.1 hb1.symm
    refine r_cond_t rfl ?_
    refine r_seq ?_
    refine r_region ?_
    refine OL.q (Q1.assign rfl) rfl rfl ?_
    refine OL.nil ?_
    refine r_ret1 Try.func14 rfl rfl ?_
    exact Ret.mk ⟨⟨_, (by first | (have e := Ml.same_not hx1 hx2 (by assumption); simp [e]) | (have e := Ml.same_all hi (by omega) (by omega); simp [e]) | (have e : a ≠ b := (fun e => absurd (congrArg List.length e) (by omega)); simp [e]) | (exfalso; omega)), rfl⟩, hE0⟩
  | false =>
    replace hb1 := bne_eq_false_iff_eq.1 hb1.symm
    refine r_cond_f rfl ?_
    refine r_skip ?_
    refine r_seq ?_
    refine r_seq ?_
    refine r_region ?_
    refine OL.q (Q1.assign rfl) rfl rfl ?_
    refine OL.nil ?_
    refine r_block ?_
    refine r_loop (I := fun m E W => ∃ (k : Nat), E = [(0, v_a), (1, v_b), (5, .int .i64 (((k : Nat) : Int)))] ∧ m = a.length - k ∧ Ext w0 W ∧ w0.heap.size ≤ W.heap.size ∧ Sl encS W (Iv 0 w0.heap.size) v_a a ∧ Sl encS W (Iv 0 w0.heap.size) v_b b ∧ (a.take k = b.take k)) ?_ ?_
    · refine ⟨_, _, ⟨(0 : Nat), rfl, rfl, hE0, Nat.le_refl _, h_a, h_b, (by rfl)⟩, ⟨rfl, rfl, rfl, trivial⟩⟩
    · rintro _ _ w1 ⟨k, rfl, rfl, hE1, hs1, f1, f2, hi⟩ ih1
      refine r_seq ?_
      refine r_seq ?_
      refine r_region ?_
      refine OL.q (Q1.move rfl) rfl rfl ?_
      refine OL.q (Q1.move rfl) rfl rfl ?_
      refine OL.q (Q1.lenSl Try.underlying22 (f1) rfl) rfl rfl ?_
      refine OL.qb (Q1.lt rfl rfl) rfl rfl ?_
      intro b2 hb2
      refine OL.nil ?_
      cases b2 with
      | true =>
        replace hb2 := of_decide_eq_true hb2.symm
        refine r_cond_t rfl ?_
        refine r_skip ?_
        refine r_seq ?_
        refine r_block ?_
        refine r_seq ?_
        refine r_draw1 (fun i => false) (fun w' => Mod (Mg 0) w1 w') mixed (by kernel_rfl) ?_
        intro w2 hm1
        have f3 := f1.ext hm1
        have f4 := f2.ext hm1
        have hE2 := hE1.ext hm1
        have hs2 := hm1.size
        have hCw2 : Mod (Mg 0) w1 w2 := Mod.ofExt hm1
        refine ⟨hCw2, ?_⟩
        rw [show List.range' 0 (Array.size _) = [0, 1, 2, 3, 4, 5, 6, 7, 8] from rfl]
        refine OD.q rfl rfl (Q1.move rfl) rfl rfl ?_
        refine OD.q rfl rfl (Q1.move rfl) rfl rfl ?_
        obtain ⟨x1, b3, o1, hx1, hr1, hl1, hu1, hw1⟩ := Sl.at' (P := Try.prog) f1 Try.underlying22 ti9 encS_len (k := .i64) (n := ((k : Nat) : Int)) (k) (by omega) (by first | assumption | omega)
        refine OD.q rfl rfl (Q1.indexAddr rfl rfl hr1) rfl rfl ?_
        refine OD.q rfl rfl (Q1.load1 ti9 rfl (fun _ hc => hw1.keepG hc (by omega))) rfl rfl ?_
        refine OD.q rfl rfl (Q1.move rfl) rfl rfl ?_
        refine OD.q rfl rfl (Q1.move rfl) rfl rfl ?_
        obtain ⟨x2, b4, o2, hx2, hr2, hl2, hu2, hw2⟩ := Sl.at' (P := Try.prog) f2 Try.underlying22 ti9 encS_len (k := .i64) (n := ((k : Nat) : Int)) (k) (by omega) (by first | assumption | omega)
        refine OD.q rfl rfl (Q1.indexAddr rfl rfl hr2) rfl rfl ?_
        refine OD.q rfl rfl (Q1.load1 ti9 rfl (fun _ hc => hw2.keepG hc (by omega))) rfl rfl ?_
        refine OD.qb rfl rfl (Q1.neS rfl rfl) rfl rfl ?_
        intro b5 hb3
        refine OD.nil ?_
        cases b5 with
        | true =>
          replace hb3 := nbeq_t hb3
          refine r_cond_t rfl ?_
          refine r_seq ?_
          refine r_region ?_
          refine OL.q (Q1.assign rfl) rfl rfl ?_
          refine OL.nil ?_
          refine r_ret1 Try.func14 rfl rfl ?_
          exact Ret.mk ⟨⟨_, (by first | (have e := Ml.same_not hx1 hx2 (by assumption); simp [e]) | (have e := Ml.same_all hi (by omega) (by omega); simp [e]) | (have e : a ≠ b := (fun e => absurd (congrArg List.length e) (by omega)); simp [e]) | (exfalso; omega)), rfl⟩, hE2⟩
        | false =>
          replace hb3 := nbeq_f hb3
          refine r_cond_f rfl ?_
          refine r_skip ?_
          refine r_inBlock ?_
          refine r_region ?_
          refine OL.q (Q1.move rfl) rfl rfl ?_
          refine OL.q (Q1.addI (((k + 1 : Nat) : Int)) rfl rfl (by omega)) rfl rfl ?_
          refine OL.q (Q1.assign rfl) rfl rfl ?_
          refine OL.nil ?_
          exact (ih1 _ _ _ ⟨(k + 1 : Nat), rfl, rfl, hE2, (by omega), f3, f4, (by first | exact Ml.same_take hi hx1 hx2 (by assumption) | (exfalso; omega))⟩ (by omega)).sub ⟨rfl, rfl, rfl, trivial⟩
      | false =>
        replace hb2 := of_decide_eq_false hb2.symm
        refine r_cond_f rfl ?_
        refine r_exit rfl ?_
        refine r_seq ?_
        refine r_region ?_
        refine OL.q (Q1.assign rfl) rfl rfl ?_
        refine OL.nil ?_
        refine r_ret1 Try.func14 rfl rfl ?_
        exact Ret.mk ⟨⟨_, (by first | (have e := Ml.same_not hx1 hx2 (by assumption); simp [e]) | (have e := Ml.same_all hi (by omega) (by omega); simp [e]) | (have e : a ≠ b := (fun e => absurd (congrArg List.length e) (by omega)); simp [e]) | (exfalso; omega)), rfl⟩, hE1⟩
set_option maxHeartbeats 4000000 in
theorem greatT_c {w0 : World} {v_l : Value} {l : List Str} (h_l : Sl encS w0 (Iv 0 w0.heap.size) v_l l) :
    Calls Try.prog 15 #[v_l] w0 (Ret fun rv w1 => (∃ rb : Bool, rb = (Ml.greatT l) ∧ rv = .bool rb) ∧ Ext w0 w1) := by
  have hE0 : Ext w0 w0 := Mod.refl _ _
  have hle1 := h_l.le
  refine calls_enter Try.func15 rfl Try.ntmps15 rfl ?_
  refine r_seq ?_
  refine r_region ?_
  refine OL.q (Q1.assign rfl) rfl rfl ?_
  refine OL.nil ?_
  refine r_seq ?_
  refine r_seq ?_
  refine r_region ?_
  refine OL.q (Q1.assign rfl) rfl rfl ?_
  refine OL.nil ?_
  refine r_block ?_
  refine r_loop (I := fun m E W => ∃ (k : Nat), E = [(0, v_l), (3, .int .i64 (((k : Nat) : Int)))] ∧ m = l.length - k ∧ Ext w0 W ∧ w0.heap.size ≤ W.heap.size ∧ Sl encS W (Iv 0 w0.heap.size) v_l l ∧ ((l.take k).any (fun s => decide (s.length > 100)) = false)) ?_ ?_
  · refine ⟨_, _, ⟨(0 : Nat), rfl, rfl, hE0, Nat.le_refl _, h_l, (by rfl)⟩, ⟨rfl, rfl, trivial⟩⟩
  · rintro _ _ w1 ⟨k, rfl, rfl, hE1, hs1, f1, hi⟩ ih1
    refine r_seq ?_
    refine r_seq ?_
    refine r_region ?_
    refine OL.q (Q1.move rfl) rfl rfl ?_
    refine OL.q (Q1.move rfl) rfl rfl ?_
    refine OL.q (Q1.lenSl Try.underlying22 (f1) rfl) rfl rfl ?_
    refine OL.qb (Q1.lt rfl rfl) rfl rfl ?_
    intro b1 hb1
    refine OL.q (Q1.move rfl) rfl rfl ?_
    cases b1 with
    | true =>
      replace hb1 := of_decide_eq_true hb1.symm
      refine OL.q (Q1.move rfl) rfl rfl ?_
      refine OL.q (Q1.lenSl Try.underlying22 (f1) rfl) rfl rfl ?_
      refine OL.qb (Q1.le rfl rfl) rfl rfl ?_
      intro b2 hb2
      refine OL.q (Q1.pick_t rfl rfl) rfl rfl ?_
      refine OL.nil ?_
      cases b2 with
      | true =>
        replace hb2 := of_decide_eq_true hb2.symm
        refine r_cond_t rfl ?_
        refine r_skip ?_
        refine r_seq ?_
        refine r_block ?_
        refine r_seq ?_
        refine r_region ?_
        refine OL.q (Q1.move rfl) rfl rfl ?_
        refine OL.q (Q1.move rfl) rfl rfl ?_
        obtain ⟨x1, b3, o1, hx1, hr1, hl1, hu1, hw1⟩ := Sl.at' (P := Try.prog) f1 Try.underlying22 ti9 encS_len (k := .i64) (n := ((k : Nat) : Int)) (k) (by omega) (by first | assumption | omega)
        refine OL.q (Q1.indexAddr rfl rfl hr1) rfl rfl ?_
        refine OL.q (Q1.load1 ti9 rfl (fun _ e => e ▸ hw1)) rfl rfl ?_
        refine OL.q (Q1.lenS Try.underlying9 rfl) rfl rfl ?_
        refine OL.qb (Q1.gt rfl rfl) rfl rfl ?_
        intro b4 hb3
        refine OL.nil ?_
        cases b4 with
        | true =>
          replace hb3 := of_decide_eq_true hb3.symm
          refine r_cond_t rfl ?_
          refine r_seq ?_
          refine r_region ?_
          refine OL.q (Q1.assign rfl) rfl rfl ?_
          refine OL.nil ?_
          refine r_ret1 Try.func15 rfl rfl ?_
          exact Ret.mk ⟨⟨_, (by first | exact Ml.greatT_long hx1 (by omega) | exact Ml.greatT_end hi (by omega) (by assumption) | (exfalso; omega)), rfl⟩, hE1⟩
        | false =>
          replace hb3 := of_decide_eq_false hb3.symm
          refine r_cond_f rfl ?_
          refine r_skip ?_
          refine r_inBlock ?_
          refine r_region ?_
          refine OL.q (Q1.move rfl) rfl rfl ?_
          refine OL.q (Q1.addI (((k + 1 : Nat) : Int)) rfl rfl (by omega)) rfl rfl ?_
          refine OL.q (Q1.assign rfl) rfl rfl ?_
          refine OL.nil ?_
          exact (ih1 _ _ _ ⟨(k + 1 : Nat), rfl, rfl, hE1, (by omega), f1, (by first | exact Ml.any_take_no hi hx1 (decide_eq_false (by omega)) | (exfalso; omega))⟩ (by omega)).sub ⟨rfl, rfl, trivial⟩
      | false =>
        replace hb2 := of_decide_eq_false hb2.symm
        refine r_cond_f rfl ?_
        refine r_exit rfl ?_
        refine r_seq ?_
        refine r_region ?_
        refine OL.q (Q1.move rfl) rfl rfl ?_
        refine OL.q (Q1.lenSl Try.underlying22 (f1) rfl) rfl rfl ?_
        refine OL.qb (Q1.gt rfl rfl) rfl rfl ?_
        intro b3 hb3
        refine OL.q (Q1.assign rfl) rfl rfl ?_
        refine OL.nil ?_
        refine r_ret1 Try.func15 rfl rfl ?_
        exact Ret.mk ⟨⟨_, (by first | exact Ml.greatT_long hx1 (by omega) | exact Ml.greatT_end hi (by omega) (by assumption) | (exfalso; omega)), rfl⟩, hE1⟩
    | false =>
      replace hb1 := of_decide_eq_false hb1.symm
      refine OL.sk rfl rfl ?_
      refine OL.sk rfl rfl ?_
      refine OL.sk rfl rfl ?_
      refine OL.q (Q1.pick_f rfl rfl) rfl rfl ?_
      refine OL.nil ?_
      refine r_cond_f rfl ?_
      refine r_exit rfl ?_
      refine r_seq ?_
      refine r_region ?_
      refine OL.q (Q1.move rfl) rfl rfl ?_
      refine OL.q (Q1.lenSl Try.underlying22 (f1) rfl) rfl rfl ?_
      refine OL.qb (Q1.gt rfl rfl) rfl rfl ?_
      intro b2 hb2
      refine OL.q (Q1.assign rfl) rfl rfl ?_
      refine OL.nil ?_
      refine r_ret1 Try.func15 rfl rfl ?_
      exact Ret.mk ⟨⟨_, (by first | exact Ml.greatT_long hx1 (by omega) | exact Ml.greatT_end hi (by omega) (by assumption) | (exfalso; omega)), rfl⟩, hE1⟩
set_option maxHeartbeats 4000000 in
theorem greatC_c {w0 : World} {c : Cfg} {v_c_words : Value} {v_c_cuts : Value} (h_c_words : Sl encS w0 (Iv 0 w0.heap.size) v_c_words c.words) (h_c_cuts : Sl encKey w0 (Iv 0 w0.heap.size) v_c_cuts c.cuts) (h_c : Cfg.Ok c) :
    Calls Try.prog 5 #[.agg #[v_c_words, v_c_cuts, .int .i64 c.workers, .int .i64 c.copies, .int .i64 c.slots, .int .i64 c.batch, .int .i64 c.lease, .int .i64 c.hedge, .int .i64 c.first, .int .i64 c.cap, .int .i64 c.jitter, .int .i64 c.net]] w0 (Ret fun rv w1 => (∃ rb : Bool, rb = (Ml.greatC c) ∧ rv = .bool rb) ∧ Ext w0 w1) := by
  have hE0 : Ext w0 w0 := Mod.refl _ _
  have hle1 := h_c_words.le
  have hle2 := h_c_cuts.le
  have hc1 := h_c.workers
  have hc2 := h_c.copies
  have hc3 := h_c.slots
  have hc4 := h_c.batch
  have hc5 := h_c.lease
  have hc6 := h_c.hedge
  have hc7 := h_c.first
  have hc8 := h_c.cap
  have hc9 := h_c.jitter
  have hc10 := h_c.net
  refine calls_enter Try.func5 rfl Try.ntmps5 rfl ?_
  refine r_seq ?_
  refine r_region ?_
  refine OL.act rfl rfl (AW.box [v_c_words, v_c_cuts, .int .i64 c.workers, .int .i64 c.copies, .int .i64 c.slots, .int .i64 c.batch, .int .i64 c.lease, .int .i64 c.hedge, .int .i64 c.first, .int .i64 c.cap, .int .i64 c.jitter, .int .i64 c.net] rfl rfl ?_)
  intro w1 b1 hm1 hb1 hz1 hk1
  have f1 := h_c_words.ext hm1
  have f2 := h_c_cuts.ext hm1
  have hE1 := hE0.ext hm1
  have hs1 := hm1.size
  refine OL.q (Q1.assign rfl) rfl rfl ?_
  refine OL.nil ?_
  refine r_seq ?_
  refine r_seq ?_
  refine r_region ?_
  refine OL.q (Q1.assign rfl) rfl rfl ?_
  refine OL.nil ?_
  refine r_block ?_
  refine r_loop (I := fun m E W => ∃ (k : Nat), E = [(1, ptr b1 0), (3, .int .i64 (((k : Nat) : Int)))] ∧ m = c.cuts.length - k ∧ Ext w0 W ∧ w1.heap.size ≤ W.heap.size ∧ Bk W b1 [v_c_words, v_c_cuts, .int .i64 c.workers, .int .i64 c.copies, .int .i64 c.slots, .int .i64 c.batch, .int .i64 c.lease, .int .i64 c.hedge, .int .i64 c.first, .int .i64 c.cap, .int .i64 c.jitter, .int .i64 c.net] 25 ∧ Sl encS W (Iv 0 w0.heap.size) v_c_words c.words ∧ Sl encKey W (Iv 0 w0.heap.size) v_c_cuts c.cuts ∧ ((c.cuts.take k).any (fun s => decide (s.text.length > 100)) = false)) ?_ ?_
  · refine ⟨_, _, ⟨(0 : Nat), rfl, rfl, hE1, Nat.le_refl _, hk1, f1, f2, (by rfl)⟩, ⟨rfl, rfl, trivial⟩⟩
  · rintro _ _ w2 ⟨k, rfl, rfl, hE2, hs2, f3, f4, f5, hi⟩ ih1
    refine r_seq ?_
    refine r_seq ?_
    refine r_region ?_
    refine OL.q (Q1.move rfl) rfl rfl ?_
    refine OL.q (Q1.fieldAddr fl25_1 rfl) rfl rfl ?_
    refine OL.q (Q1.load1 ti23 rfl (fun _ e => e ▸ (f3.cell 1 _ rfl))) rfl rfl ?_
    refine OL.q (Q1.lenSl Try.underlying23 (f5) rfl) rfl rfl ?_
    refine OL.qb (Q1.lt rfl rfl) rfl rfl ?_
    intro b2 hb2
    refine OL.q (Q1.move rfl) rfl rfl ?_
    cases b2 with
    | true =>
      replace hb2 := of_decide_eq_true hb2.symm
      refine OL.q (Q1.fieldAddr fl25_1 rfl) rfl rfl ?_
      refine OL.q (Q1.load1 ti23 rfl (fun _ e => e ▸ (f3.cell 1 _ rfl))) rfl rfl ?_
      refine OL.q (Q1.lenSl Try.underlying23 (f5) rfl) rfl rfl ?_
      refine OL.qb (Q1.le rfl rfl) rfl rfl ?_
      intro b3 hb3
      refine OL.q (Q1.pick_t rfl rfl) rfl rfl ?_
      refine OL.nil ?_
      cases b3 with
      | true =>
        replace hb3 := of_decide_eq_true hb3.symm
        refine r_cond_t rfl ?_
        refine r_skip ?_
        refine r_seq ?_
        refine r_block ?_
        refine r_seq ?_
        refine r_region ?_
        refine OL.q (Q1.fieldAddr fl25_1 rfl) rfl rfl ?_
        refine OL.q (Q1.load1 ti23 rfl (fun _ e => e ▸ (f3.cell 1 _ rfl))) rfl rfl ?_
        refine OL.q (Q1.move rfl) rfl rfl ?_
        obtain ⟨x1, b4, o1, hx1, hr1, hl1, hu1, hw1⟩ := Sl.at' (P := Try.prog) f5 Try.underlying23 ti37 encKey_len (k := .i64) (n := ((k : Nat) : Int)) (k) (by omega) (by first | assumption | omega)
        refine OL.q (Q1.indexAddr rfl rfl hr1) rfl rfl ?_
        refine OL.q (Q1.fieldAddr fl37_1 rfl) rfl rfl ?_
        have hr2 := hw1.sub 1 1 (Nat.le_of_ble_eq_true rfl)
        refine OL.q (Q1.load1 ti9 rfl (fun _ e => e ▸ hr2)) rfl rfl ?_
        refine OL.q (Q1.lenS Try.underlying9 rfl) rfl rfl ?_
        refine OL.qb (Q1.gt rfl rfl) rfl rfl ?_
        intro b5 hb4
        refine OL.nil ?_
        cases b5 with
        | true =>
          replace hb4 := of_decide_eq_true hb4.symm
          refine r_cond_t rfl ?_
          refine r_seq ?_
          refine r_region ?_
          refine OL.q (Q1.assign rfl) rfl rfl ?_
          refine OL.nil ?_
          refine r_ret1 Try.func5 rfl rfl ?_
          exact Ret.mk ⟨⟨_, (by first | exact Ml.greatC_cut hx1 (by omega) | exact Ml.greatC_words (by assumption) | exact Ml.greatC_no hi (by omega) (by assumption) (by assumption) | (exfalso; omega)), rfl⟩, hE2⟩
        | false =>
          replace hb4 := of_decide_eq_false hb4.symm
          refine r_cond_f rfl ?_
          refine r_skip ?_
          refine r_inBlock ?_
          refine r_region ?_
          refine OL.q (Q1.move rfl) rfl rfl ?_
          refine OL.q (Q1.addI (((k + 1 : Nat) : Int)) rfl rfl (by omega)) rfl rfl ?_
          refine OL.q (Q1.assign rfl) rfl rfl ?_
          refine OL.nil ?_
          exact (ih1 _ _ _ ⟨(k + 1 : Nat), rfl, rfl, hE2, (by omega), f3, f4, f5, (by first | exact Ml.any_take_no hi hx1 (decide_eq_false (by omega)) | (exfalso; omega))⟩ (by omega)).sub ⟨rfl, rfl, trivial⟩
      | false =>
        replace hb3 := of_decide_eq_false hb3.symm
        refine r_cond_f rfl ?_
        refine r_exit rfl ?_
        refine r_seq ?_
        refine r_region ?_
        refine OL.q (Q1.fieldAddr fl25_0 rfl) rfl rfl ?_
        refine OL.q (Q1.load1 ti22 rfl (fun _ e => e ▸ (f3.cell 0 _ rfl))) rfl rfl ?_
        refine OL.act rfl rfl (AW.callF cl15 rfl (greatT_c (w0 := w2) (l := c.words)  ((f4).iv (Nat.zero_le _) (by omega))) ?_)
        rintro _ w3 ⟨⟨b4, hb4, rfl⟩, hm2⟩
        have f6 := f3.ext hm2
        have f7 := f4.ext hm2
        have f8 := f5.ext hm2
        have hE3 := hE2.ext hm2
        have hs3 := hm2.size
        refine OL.q (Q1.move rfl) rfl rfl ?_
        cases b4 with
        | true =>
          replace hb4 := hb4.symm
          refine OL.sk rfl rfl ?_
          refine OL.sk rfl rfl ?_
          refine OL.sk rfl rfl ?_
          refine OL.sk rfl rfl ?_
          refine OL.q (Q1.pick_t rfl rfl) rfl rfl ?_
          refine OL.q (Q1.assign rfl) rfl rfl ?_
          refine OL.nil ?_
          refine r_ret1 Try.func5 rfl rfl ?_
          exact Ret.mk ⟨⟨_, (by first | exact Ml.greatC_cut hx1 (by omega) | exact Ml.greatC_words (by assumption) | exact Ml.greatC_no hi (by omega) (by assumption) (by assumption) | (exfalso; omega)), rfl⟩, hE3⟩
        | false =>
          replace hb4 := hb4.symm
          refine OL.q (Q1.fieldAddr fl25_1 rfl) rfl rfl ?_
          refine OL.q (Q1.load1 ti23 rfl (fun _ e => e ▸ (f6.cell 1 _ rfl))) rfl rfl ?_
          refine OL.q (Q1.lenSl Try.underlying23 (f8) rfl) rfl rfl ?_
          refine OL.qb (Q1.gt rfl rfl) rfl rfl ?_
          intro b5 hb5
          refine OL.q (Q1.pick_f rfl rfl) rfl rfl ?_
          refine OL.q (Q1.assign rfl) rfl rfl ?_
          refine OL.nil ?_
          refine r_ret1 Try.func5 rfl rfl ?_
          exact Ret.mk ⟨⟨_, (by first | exact Ml.greatC_cut hx1 (by omega) | exact Ml.greatC_words (by assumption) | exact Ml.greatC_no hi (by omega) (by assumption) (by assumption) | (exfalso; omega)), rfl⟩, hE3⟩
    | false =>
      replace hb2 := of_decide_eq_false hb2.symm
      refine OL.sk rfl rfl ?_
      refine OL.sk rfl rfl ?_
      refine OL.sk rfl rfl ?_
      refine OL.sk rfl rfl ?_
      refine OL.q (Q1.pick_f rfl rfl) rfl rfl ?_
      refine OL.nil ?_
      refine r_cond_f rfl ?_
      refine r_exit rfl ?_
      refine r_seq ?_
      refine r_region ?_
      refine OL.q (Q1.fieldAddr fl25_0 rfl) rfl rfl ?_
      refine OL.q (Q1.load1 ti22 rfl (fun _ e => e ▸ (f3.cell 0 _ rfl))) rfl rfl ?_
      refine OL.act rfl rfl (AW.callF cl15 rfl (greatT_c (w0 := w2) (l := c.words)  ((f4).iv (Nat.zero_le _) (by omega))) ?_)
      rintro _ w3 ⟨⟨b3, hb3, rfl⟩, hm2⟩
      have f6 := f3.ext hm2
      have f7 := f4.ext hm2
      have f8 := f5.ext hm2
      have hE3 := hE2.ext hm2
      have hs3 := hm2.size
      refine OL.q (Q1.move rfl) rfl rfl ?_
      cases b3 with
      | true =>
        replace hb3 := hb3.symm
        refine OL.sk rfl rfl ?_
        refine OL.sk rfl rfl ?_
        refine OL.sk rfl rfl ?_
        refine OL.sk rfl rfl ?_
        refine OL.q (Q1.pick_t rfl rfl) rfl rfl ?_
        refine OL.q (Q1.assign rfl) rfl rfl ?_
        refine OL.nil ?_
        refine r_ret1 Try.func5 rfl rfl ?_
        exact Ret.mk ⟨⟨_, (by first | exact Ml.greatC_cut hx1 (by omega) | exact Ml.greatC_words (by assumption) | exact Ml.greatC_no hi (by omega) (by assumption) (by assumption) | (exfalso; omega)), rfl⟩, hE3⟩
      | false =>
        replace hb3 := hb3.symm
        refine OL.q (Q1.fieldAddr fl25_1 rfl) rfl rfl ?_
        refine OL.q (Q1.load1 ti23 rfl (fun _ e => e ▸ (f6.cell 1 _ rfl))) rfl rfl ?_
        refine OL.q (Q1.lenSl Try.underlying23 (f8) rfl) rfl rfl ?_
        refine OL.qb (Q1.gt rfl rfl) rfl rfl ?_
        intro b4 hb4
        refine OL.q (Q1.pick_f rfl rfl) rfl rfl ?_
        refine OL.q (Q1.assign rfl) rfl rfl ?_
        refine OL.nil ?_
        refine r_ret1 Try.func5 rfl rfl ?_
        exact Ret.mk ⟨⟨_, (by first | exact Ml.greatC_cut hx1 (by omega) | exact Ml.greatC_words (by assumption) | exact Ml.greatC_no hi (by omega) (by assumption) (by assumption) | (exfalso; omega)), rfl⟩, hE3⟩
set_option maxHeartbeats 4000000 in
theorem low_c {w0 : World} (x : Int) (n : Int) (h_x : I64 x) (h_n : I64 n) (hn : 1 ≤ n) :
    Calls Try.prog 9 #[.int .i64 x, .int .i64 n] w0 (Ret fun rv w1 => rv = .int .i64 (Ml.lowM x n) ∧ Ext w0 w1 ∧ 0 ≤ Ml.lowM x n ∧ Ml.lowM x n < n) := by
  have hE0 : Ext w0 w0 := Mod.refl _ _
  refine calls_enter Try.func9 rfl Try.ntmps9 rfl ?_
  refine r_seq ?_
  refine r_region ?_
  refine OL.q (Q1.assign rfl) rfl rfl ?_
  refine OL.nil ?_
  refine r_seq ?_
  refine r_region ?_
  refine OL.q (Q1.move rfl) rfl rfl ?_
  refine OL.q (Q1.convI (by kernel_rfl) Try.underlying45 rfl) rfl rfl ?_
  have hx64 := Ml.u64_range x
  refine OL.q (Q1.move rfl) rfl rfl ?_
  refine OL.q (Q1.convI (by kernel_rfl) Try.underlying45 rfl) rfl rfl ?_
  have hn64 := Ml.u64_same n (by omega)
  have := Int.emod_nonneg ((IntKind.u64.wrap x) : Int) (by omega : ((IntKind.u64.wrap n) : Int) ≠ 0)
  have := Int.emod_lt_of_pos ((IntKind.u64.wrap x) : Int) (by omega : (0 : Int) < (IntKind.u64.wrap n))
  refine OL.q (Q1.remI (((IntKind.u64.wrap x) % ((IntKind.u64.wrap n)))) rfl rfl ⟨by omega, by omega, rfl⟩) rfl rfl ?_
  have hlow := Ml.low_range x n hn
  refine OL.q (Q1.convI (by kernel_rfl) Try.underlying3 rfl) rfl rfl ?_
  refine OL.q (Q1.assign rfl) rfl rfl ?_
  refine OL.nil ?_
  refine r_ret1 Try.func9 rfl rfl ?_
  exact Ret.mk ⟨(congrArg (Value.int .i64) (by first | exact Ml.low_eq hn h_n | (exfalso; omega))), hE0, by exact Ml.low_range x n hn⟩
set_option maxHeartbeats 4000000 in
theorem awake13_c {w0 : World}   :
    Calls Try.prog 7 #[] w0 (Ret fun rv w1 => (∃ rb : Bool, rb = true ∧ rv = .bool rb) ∧ Ext w0 w1) := by
  have hE0 : Ext w0 w0 := Mod.refl _ _
  refine calls_enter Try.func7 rfl Try.ntmps7 rfl ?_
  refine r_seq ?_
  refine r_region ?_
  refine OL.q (Q1.assign rfl) rfl rfl ?_
  refine OL.nil ?_
  refine r_seq ?_
  refine r_region ?_
  refine OL.q (Q1.build (vs := #[(0, (.int .i64 2 : Value))]) (v := .agg #[.int .i64 2, strV []]) rfl (fun _ => by kernel_rfl)) rfl rfl ?_
  refine OL.q (Q1.build (vs := #[(0, (.int .i64 4 : Value))]) (v := .agg #[.int .i64 4, strV []]) rfl (fun _ => by kernel_rfl)) rfl rfl ?_
  refine OL.act rfl rfl (AW.buildSlice [(.agg #[.int .i64 2, strV []] : Value), (.agg #[.int .i64 4, strV []] : Value)] Try.underlying23 ti37 rfl rfl rfl (by decide) ?_)
  intro w1 b1 hm1 hb1 hz1 hk1
  have hE1 := hE0.ext hm1
  have hs1 := hm1.size
  have hl1 := Sl.of_blk (enc := encKey) hk1 ([(Key.mk 2 []), (Key.mk 4 [])] : List Key) 2 rfl rfl (by unfold maxLen; omega)
  refine OL.q (Q1.build (vs := #[(2, (.int .i64 3 : Value)), (3, (.int .i64 2 : Value)), (4, (.int .i64 1 : Value)), (5, (.int .i64 2 : Value)), (6, (.int .i64 5 : Value)), (7, (.int .i64 3 : Value)), (8, (.int .i64 1 : Value)), (9, (.int .i64 4 : Value)), (11, (.int .i64 8 : Value)), (1, (.slice (some ⟨b1, 0, none⟩) 2 2))]) (v := .agg #[.slice none 0 0, (.slice (some ⟨b1, 0, none⟩) 2 2), .int .i64 3, .int .i64 2, .int .i64 1, .int .i64 2, .int .i64 5, .int .i64 3, .int .i64 1, .int .i64 4, .int .i64 0, .int .i64 8]) rfl (fun _ => by kernel_rfl)) rfl rfl ?_
  refine OL.act rfl rfl (AW.alloc ti25 ?_)
  intro w2 b2 hm2 hb2 hz2 hk2
  have f1 := hl1.ext hm2
  have hE2 := hE1.ext hm2
  have hs2 := hm2.size
  refine OL.act rfl rfl (AW.store ti25 rfl rfl rfl rfl rfl hk2 (by decide) ?_)
  intro w3 hm3 hz3 hk3
  replace hk3 : Bk w3 b2 [.slice none 0 0, (.slice (some ⟨b1, 0, none⟩) 2 2), .int .i64 3, .int .i64 2, .int .i64 1, .int .i64 2, .int .i64 5, .int .i64 3, .int .i64 1, .int .i64 4, .int .i64 0, .int .i64 8] 25 := hk3
  have f2 := f1.keepG hm3 (by omega)
  have hE3 := Ext.thenG hE2 hm3 (by omega)
  have hs3 := hm3.size
  refine OL.nil ?_
  refine r_seq ?_
  refine r_region ?_
  refine OL.q (Q1.loadN ti25 rfl (fun _ e => e ▸ hk3.row) rfl) rfl rfl ?_
  refine OL.act rfl rfl (AW.callF cl6 rfl (may_c (w0 := w3) (c := (Cfg.mk [] ([(Key.mk 2 []), (Key.mk 4 [])]) 3 2 1 2 5 3 1 4 0 8))  Sl.nil ((f2).iv (Nat.zero_le _) (by omega)) (by first | assumption | exact Ml.Cfg.ok_of (by decide +kernel))) ?_)
  rintro _ w4 ⟨⟨b3, hb3, rfl⟩, hm4⟩
  have f3 := f2.ext hm4
  have f4 := hk3.ext hm4
  have hE4 := hE3.ext hm4
  have hs4 := hm4.size
  obtain rfl : b3 = true := hb3.trans (by decide +kernel)
  refine OL.q (Q1.move rfl) rfl rfl ?_
  refine OL.q (Q1.loadN ti25 rfl (fun _ e => e ▸ f4.row) rfl) rfl rfl ?_
  refine OL.act rfl rfl (AW.callF cl10 rfl (shards_c (w0 := w4) (c := (Cfg.mk [] ([(Key.mk 2 []), (Key.mk 4 [])]) 3 2 1 2 5 3 1 4 0 8))  Sl.nil ((f3).iv (Nat.zero_le _) (by omega)) (by first | assumption | exact Ml.Cfg.ok_of (by decide +kernel))) ?_)
  rintro _ w5 ⟨rfl, hm5⟩
  have f5 := f3.ext hm5
  have f6 := f4.ext hm5
  have hE5 := hE4.ext hm5
  have hs5 := hm5.size
  have := Ml.shards_le ((Cfg.mk [] ([(Key.mk 2 []), (Key.mk 4 [])]) 3 2 1 2 5 3 1 4 0 8))
  refine OL.qb (Q1.eq rfl rfl) rfl rfl ?_
  intro b4 hb4
  obtain rfl : b4 = true := hb4.trans (by decide +kernel)
  refine OL.q (Q1.pick_t rfl rfl) rfl rfl ?_
  refine OL.q (Q1.move rfl) rfl rfl ?_
  refine OL.q (Q1.loadN ti25 rfl (fun _ e => e ▸ f6.row) rfl) rfl rfl ?_
  refine OL.act rfl rfl (AW.callF cl11 rfl (copies_c (w0 := w5) (c := (Cfg.mk [] ([(Key.mk 2 []), (Key.mk 4 [])]) 3 2 1 2 5 3 1 4 0 8)) (2) Sl.nil ((f5).iv (Nat.zero_le _) (by omega)) (by first | assumption | exact Ml.Cfg.ok_of (by decide +kernel)) (by first | assumption | omega)) ?_)
  rintro v1 w6 ⟨h1, hm6⟩
  have f7 := f5.ext hm6
  have f8 := f6.ext hm6
  have hE6 := hE5.ext hm6
  have hs6 := hm6.size
  have hle_1 := h1.le
  refine OL.act rfl rfl (AW.buildSlice [(.int .i64 3 : Value), (.int .i64 1 : Value)] Try.underlying28 ti3 rfl rfl rfl (by decide) ?_)
  intro w7 b5 hm7 hb5 hz4 hk4
  have f9 := f7.ext hm7
  have f10 := f8.ext hm7
  have f11 := h1.ext hm7
  have hE7 := hE6.ext hm7
  have hs7 := hm7.size
  have hl2 := Sl.of_blk (enc := encI) hk4 ([3, 1] : List Int) 2 rfl rfl (by unfold maxLen; omega)
  refine OL.act rfl rfl (AW.callF cl19 rfl (sameI_c (w0 := w7) (a := (Ml.copiesM ((Cfg.mk [] ([(Key.mk 2 []), (Key.mk 4 [])]) 3 2 1 2 5 3 1 4 0 8)) 2)) (b := [3, 1])  ((f11).iv (Nat.zero_le _) (by omega)) ((hl2).iv (Nat.zero_le _) (by omega))) ?_)
  rintro _ w8 ⟨⟨b6, hb6, rfl⟩, hm8⟩
  have f12 := f9.ext hm8
  have f13 := f10.ext hm8
  have f14 := f11.ext hm8
  have f15 := hl2.ext hm8
  have hE8 := hE7.ext hm8
  have hs8 := hm8.size
  obtain rfl : b6 = true := hb6.trans (by decide +kernel)
  refine OL.q (Q1.pick_t rfl rfl) rfl rfl ?_
  refine OL.q (Q1.move rfl) rfl rfl ?_
  refine OL.q (Q1.loadN ti25 rfl (fun _ e => e ▸ f13.row) rfl) rfl rfl ?_
  refine OL.act rfl rfl (AW.callF cl8 rfl (keeps_c (w0 := w8) (c := (Cfg.mk [] ([(Key.mk 2 []), (Key.mk 4 [])]) 3 2 1 2 5 3 1 4 0 8)) (1) Sl.nil ((f12).iv (Nat.zero_le _) (by omega)) (by first | assumption | exact Ml.Cfg.ok_of (by decide +kernel)) (by first | assumption | omega)) ?_)
  rintro v2 w9 ⟨h2, hm9⟩
  have f16 := f12.ext hm9
  have f17 := f13.ext hm9
  have f18 := f14.ext hm9
  have f19 := f15.ext hm9
  have hE9 := hE8.ext hm9
  have hs9 := hm9.size
  have hle_2 := h2.le
  refine OL.act rfl rfl (AW.buildSlice [(.int .i64 0 : Value), (.int .i64 2 : Value)] Try.underlying28 ti3 rfl rfl rfl (by decide) ?_)
  intro w10 b7 hm10 hb7 hz5 hk5
  have f20 := f16.ext hm10
  have f21 := f17.ext hm10
  have f22 := f18.ext hm10
  have f23 := f19.ext hm10
  have f24 := h2.ext hm10
  have hE10 := hE9.ext hm10
  have hs10 := hm10.size
  have hl3 := Sl.of_blk (enc := encI) hk5 ([0, 2] : List Int) 2 rfl rfl (by unfold maxLen; omega)
  refine OL.act rfl rfl (AW.callF cl19 rfl (sameI_c (w0 := w10) (a := (Ml.keepsM ((Cfg.mk [] ([(Key.mk 2 []), (Key.mk 4 [])]) 3 2 1 2 5 3 1 4 0 8)) 1)) (b := [0, 2])  ((f24).iv (Nat.zero_le _) (by omega)) ((hl3).iv (Nat.zero_le _) (by omega))) ?_)
  rintro _ w11 ⟨⟨b8, hb8, rfl⟩, hm11⟩
  have f25 := f20.ext hm11
  have f26 := f21.ext hm11
  have f27 := f22.ext hm11
  have f28 := f23.ext hm11
  have f29 := f24.ext hm11
  have f30 := hl3.ext hm11
  have hE11 := hE10.ext hm11
  have hs11 := hm11.size
  obtain rfl : b8 = true := hb8.trans (by decide +kernel)
  refine OL.q (Q1.pick_t rfl rfl) rfl rfl ?_
  refine OL.q (Q1.move rfl) rfl rfl ?_
  refine OL.q (Q1.build (vs := #[]) (v := .agg #[.slice none 0 0, .slice none 0 0, .int .i64 0, .int .i64 0, .int .i64 0, .int .i64 0, .int .i64 0, .int .i64 0, .int .i64 0, .int .i64 0, .int .i64 0, .int .i64 0]) rfl (fun _ => by kernel_rfl)) rfl rfl ?_
  refine OL.act rfl rfl (AW.callF cl6 rfl (may_c (w0 := w11) (c := (Cfg.mk [] [] 0 0 0 0 0 0 0 0 0 0))  Sl.nil Sl.nil (by first | assumption | exact Ml.Cfg.ok_of (by decide +kernel))) ?_)
  rintro _ w12 ⟨⟨b9, hb9, rfl⟩, hm12⟩
  have f31 := f25.ext hm12
  have f32 := f26.ext hm12
  have f33 := f27.ext hm12
  have f34 := f28.ext hm12
  have f35 := f29.ext hm12
  have f36 := f30.ext hm12
  have hE12 := hE11.ext hm12
  have hs12 := hm12.size
  obtain rfl : b9 = false := hb9.trans (by decide +kernel)
  refine OL.q (Q1.not rfl) rfl rfl ?_
  refine OL.q (Q1.pick_t rfl rfl) rfl rfl ?_
  refine OL.q (Q1.assign rfl) rfl rfl ?_
  refine OL.nil ?_
  refine r_ret1 Try.func7 rfl rfl ?_
  exact Ret.mk ⟨⟨_, (by rfl), rfl⟩, hE12⟩
end Go.Proofs
