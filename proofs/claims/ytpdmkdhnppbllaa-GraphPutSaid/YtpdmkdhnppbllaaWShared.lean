/-
  Walks through what the statements share, and list.At.
-/
import Derived.Test.YtpdmkdhnppbllaaWText
import Derived.Test.YtpdmkdhnppbllaaMGraph
set_option linter.unusedVariables false
set_option linter.unusedSimpArgs false
namespace Go.Proofs
open Go.Ik Go.Ml
set_option maxRecDepth 20000 in
set_option maxHeartbeats 4000000 in
theorem sameE_c {w0 : World}  {v_a : Value} {a : List Ed} {v_b : Value} {b : List Ed} (h_a : Sl encE w0 (Iv 0 w0.heap.size) v_a a) (h_b : Sl encE w0 (Iv 0 w0.heap.size) v_b b) :
    Calls Try.prog 22 #[v_a, v_b] w0 (Ret fun rv w1 => (∃ rb : Bool, rb = (decide (a = b)) ∧ rv = .bool rb) ∧ Ext w0 w1) := by
  have hE0 : Ext w0 w0 := Mod.refl _ _
  have hle1 := h_a.le
  have hle2 := h_b.le
  refine calls_enter Try.func22 rfl Try.ntmps22 rfl ?_
  refine r_seq ?_
  refine r_region ?_
  refine OL.q (Q1.assign rfl) rfl rfl ?_
  refine OL.nil ?_
  refine r_seq ?_
  refine r_seq ?_
  refine r_region ?_
  refine OL.q (Q1.move rfl) rfl rfl ?_
  refine OL.q (Q1.lenSl Try.underlying39 (h_a) rfl) rfl rfl ?_
  refine OL.q (Q1.move rfl) rfl rfl ?_
  refine OL.q (Q1.lenSl Try.underlying39 (h_b) rfl) rfl rfl ?_
  refine OL.qb (Q1.ne rfl rfl) rfl rfl ?_
  intro b1 hb1
  refine OL.nil ?_
  cases b1 with
  | true =>
    replace hb1 := bne_iff_ne.1 hb1.symm
    refine r_cond_t rfl ?_
    refine r_seq ?_
    refine r_region ?_
    refine OL.q (Q1.assign rfl) rfl rfl ?_
    refine OL.nil ?_
    refine r_ret1 Try.func22 rfl rfl ?_
    exact Ret.mk ⟨⟨_, (by first | (have e := Ml.same_not hx1 hx2 (by assumption); simp [e]) | (have e := Ml.same_all hi (by omega) (by omega); simp [e]) | (have e : a ≠ b := (fun e => absurd (congrArg List.length e) (by omega)); simp [e]) | (exfalso; omega)), rfl⟩, hE0⟩
  | false =>
    replace hb1 := bne_eq_false_iff_eq.1 hb1.symm
    refine r_cond_f rfl ?_
    refine r_skip ?_
    refine r_seq ?_
    refine r_seq ?_
    refine r_region ?_
    refine OL.q (Q1.assign rfl) rfl rfl ?_
    refine OL.nil ?_
    refine r_block ?_
    refine r_loop (I := fun m E W => ∃ (k : Nat), E = [(0, v_a), (1, v_b), (5, .int .i64 (((k : Nat) : Int)))] ∧ m = a.length - k ∧ Ext w0 W ∧ w0.heap.size ≤ W.heap.size ∧ Sl encE W (Iv 0 w0.heap.size) v_a a ∧ Sl encE W (Iv 0 w0.heap.size) v_b b ∧ (a.take k = b.take k)) ?_ ?_
    · refine ⟨_, _, ⟨(0 : Nat), rfl, rfl, hE0, Nat.le_refl _, h_a, h_b, (by rfl)⟩, ⟨rfl, rfl, rfl, trivial⟩⟩
    · rintro _ _ w1 ⟨k, rfl, rfl, hE1, hs1, f1, f2, hi⟩ ih1
      refine r_seq ?_
      refine r_seq ?_
      refine r_region ?_
      refine OL.q (Q1.move rfl) rfl rfl ?_
      refine OL.q (Q1.move rfl) rfl rfl ?_
      refine OL.q (Q1.lenSl Try.underlying39 (f1) rfl) rfl rfl ?_
      refine OL.qb (Q1.lt rfl rfl) rfl rfl ?_
      intro b2 hb2
      refine OL.nil ?_
      cases b2 with
      | true =>
        replace hb2 := of_decide_eq_true hb2.symm
        refine r_cond_t rfl ?_
        refine r_skip ?_
        refine r_seq ?_
        refine r_block ?_
        refine r_seq ?_
        refine r_draw1 (fun i => false) 9 (fun w' => Mod (Mg 0) w1 w') mixed (by kernel_rfl) ?_
        intro w2 hm1
        have f3 := f1.ext hm1
        have f4 := f2.ext hm1
        have hE2 := hE1.ext hm1
        have hs2 := hm1.size
        have hCw2 : Mod (Mg 0) w1 w2 := Mod.ofExt hm1
        refine ⟨hCw2, ?_⟩
        rw [show List.range' 0 (Array.size _) = [0, 1, 2, 3, 4, 5, 6, 7, 8] from rfl]
        refine OD.q rfl rfl (Q1.move rfl) rfl rfl ?_
        refine OD.q rfl rfl (Q1.move rfl) rfl rfl ?_
        obtain ⟨x1, b3, o1, hx1, hr1, hl1, hu1, hw1⟩ := Sl.at' (P := Try.prog) f1 Try.underlying39 ti49 encE_len (k := .i64) (n := ((k : Nat) : Int)) (k) (by omega) (by first | assumption | omega)
        refine OD.q rfl rfl (Q1.indexAddr rfl rfl hr1) rfl rfl ?_
        refine OD.q rfl rfl (Q1.loadN ti49 rfl (fun _ hc => hw1.keepG hc (by omega)) rfl) rfl rfl ?_
        refine OD.q rfl rfl (Q1.move rfl) rfl rfl ?_
        refine OD.q rfl rfl (Q1.move rfl) rfl rfl ?_
        obtain ⟨x2, b4, o2, hx2, hr2, hl2, hu2, hw2⟩ := Sl.at' (P := Try.prog) f2 Try.underlying39 ti49 encE_len (k := .i64) (n := ((k : Nat) : Int)) (k) (by omega) (by first | assumption | omega)
        refine OD.q rfl rfl (Q1.indexAddr rfl rfl hr2) rfl rfl ?_
        refine OD.q rfl rfl (Q1.loadN ti49 rfl (fun _ hc => hw2.keepG hc (by omega)) rfl) rfl rfl ?_
        refine OD.qb rfl rfl (Q1.neStruct (by kernel_rfl) (eqS49 x1 x2) rfl rfl) rfl rfl ?_
        intro b5 hb3
        refine OD.nil ?_
        cases b5 with
        | true =>
          replace hb3 := ndec_t hb3
          refine r_cond_t rfl ?_
          refine r_seq ?_
          refine r_region ?_
          refine OL.q (Q1.assign rfl) rfl rfl ?_
          refine OL.nil ?_
          refine r_ret1 Try.func22 rfl rfl ?_
          exact Ret.mk ⟨⟨_, (by first | (have e := Ml.same_not hx1 hx2 (by assumption); simp [e]) | (have e := Ml.same_all hi (by omega) (by omega); simp [e]) | (have e : a ≠ b := (fun e => absurd (congrArg List.length e) (by omega)); simp [e]) | (exfalso; omega)), rfl⟩, hE2⟩
        | false =>
          replace hb3 := ndec_f hb3
          refine r_cond_f rfl ?_
          refine r_skip ?_
          refine r_inBlock ?_
          refine r_region ?_
          refine OL.q (Q1.move rfl) rfl rfl ?_
          refine OL.q (Q1.addI (((k + 1 : Nat) : Int)) rfl rfl (by omega)) rfl rfl ?_
          refine OL.q (Q1.assign rfl) rfl rfl ?_
          refine OL.nil ?_
          exact (ih1 _ _ _ ⟨(k + 1 : Nat), rfl, rfl, hE2, (by omega), f3, f4, (by first | exact Ml.same_take hi hx1 hx2 (by assumption) | (exfalso; omega))⟩ (by omega)).sub ⟨rfl, rfl, rfl, trivial⟩
      | false =>
        replace hb2 := of_decide_eq_false hb2.symm
        refine r_cond_f rfl ?_
        refine r_exit rfl ?_
        refine r_seq ?_
        refine r_region ?_
        refine OL.q (Q1.assign rfl) rfl rfl ?_
        refine OL.nil ?_
        refine r_ret1 Try.func22 rfl rfl ?_
        exact Ret.mk ⟨⟨_, (by first | (have e := Ml.same_not hx1 hx2 (by assumption); simp [e]) | (have e := Ml.same_all hi (by omega) (by omega); simp [e]) | (have e : a ≠ b := (fun e => absurd (congrArg List.length e) (by omega)); simp [e]) | (exfalso; omega)), rfl⟩, hE1⟩
set_option maxRecDepth 20000 in
set_option maxHeartbeats 4000000 in
theorem sameT_c {w0 : World}  {v_a : Value} {a : List Str} {v_b : Value} {b : List Str} (h_a : Sl encS w0 (Iv 0 w0.heap.size) v_a a) (h_b : Sl encS w0 (Iv 0 w0.heap.size) v_b b) :
    Calls Try.prog 28 #[v_a, v_b] w0 (Ret fun rv w1 => (∃ rb : Bool, rb = (decide (a = b)) ∧ rv = .bool rb) ∧ Ext w0 w1) := by
  have hE0 : Ext w0 w0 := Mod.refl _ _
  have hle1 := h_a.le
  have hle2 := h_b.le
  refine calls_enter Try.func28 rfl Try.ntmps28 rfl ?_
  refine r_seq ?_
  refine r_region ?_
  refine OL.q (Q1.assign rfl) rfl rfl ?_
  refine OL.nil ?_
  refine r_seq ?_
  refine r_seq ?_
  refine r_region ?_
  refine OL.q (Q1.move rfl) rfl rfl ?_
  refine OL.q (Q1.lenSl Try.underlying22 (h_a) rfl) rfl rfl ?_
  refine OL.q (Q1.move rfl) rfl rfl ?_
  refine OL.q (Q1.lenSl Try.underlying22 (h_b) rfl) rfl rfl ?_
  refine OL.qb (Q1.ne rfl rfl) rfl rfl ?_
  intro b1 hb1
  refine OL.nil ?_
  cases b1 with
  | true =>
    replace hb1 := bne_iff_ne.1 hb1.symm
    refine r_cond_t rfl ?_
    refine r_seq ?_
    refine r_region ?_
    refine OL.q (Q1.assign rfl) rfl rfl ?_
    refine OL.nil ?_
    refine r_ret1 Try.func28 rfl rfl ?_
    exact Ret.mk ⟨⟨_, (by first | (have e := Ml.same_not hx1 hx2 (by assumption); simp [e]) | (have e := Ml.same_all hi (by omega) (by omega); simp [e]) | (have e : a ≠ b := (fun e => absurd (congrArg List.length e) (by omega)); simp [e]) | (exfalso; omega)), rfl⟩, hE0⟩
  | false =>
    replace hb1 := bne_eq_false_iff_eq.1 hb1.symm
    refine r_cond_f rfl ?_
    refine r_skip ?_
    refine r_seq ?_
    refine r_seq ?_
    refine r_region ?_
    refine OL.q (Q1.assign rfl) rfl rfl ?_
    refine OL.nil ?_
    refine r_block ?_
    refine r_loop (I := fun m E W => ∃ (k : Nat), E = [(0, v_a), (1, v_b), (5, .int .i64 (((k : Nat) : Int)))] ∧ m = a.length - k ∧ Ext w0 W ∧ w0.heap.size ≤ W.heap.size ∧ Sl encS W (Iv 0 w0.heap.size) v_a a ∧ Sl encS W (Iv 0 w0.heap.size) v_b b ∧ (a.take k = b.take k)) ?_ ?_
    · refine ⟨_, _, ⟨(0 : Nat), rfl, rfl, hE0, Nat.le_refl _, h_a, h_b, (by rfl)⟩, ⟨rfl, rfl, rfl, trivial⟩⟩
    · rintro _ _ w1 ⟨k, rfl, rfl, hE1, hs1, f1, f2, hi⟩ ih1
      refine r_seq ?_
      refine r_seq ?_
      refine r_region ?_
      refine OL.q (Q1.move rfl) rfl rfl ?_
      refine OL.q (Q1.move rfl) rfl rfl ?_
      refine OL.q (Q1.lenSl Try.underlying22 (f1) rfl) rfl rfl ?_
      refine OL.qb (Q1.lt rfl rfl) rfl rfl ?_
      intro b2 hb2
      refine OL.nil ?_
      cases b2 with
      | true =>
        replace hb2 := of_decide_eq_true hb2.symm
        refine r_cond_t rfl ?_
        refine r_skip ?_
        refine r_seq ?_
        refine r_block ?_
        refine r_seq ?_
        refine r_draw1 (fun i => false) 9 (fun w' => Mod (Mg 0) w1 w') mixed (by kernel_rfl) ?_
        intro w2 hm1
        have f3 := f1.ext hm1
        have f4 := f2.ext hm1
        have hE2 := hE1.ext hm1
        have hs2 := hm1.size
        have hCw2 : Mod (Mg 0) w1 w2 := Mod.ofExt hm1
        refine ⟨hCw2, ?_⟩
        rw [show List.range' 0 (Array.size _) = [0, 1, 2, 3, 4, 5, 6, 7, 8] from rfl]
        refine OD.q rfl rfl (Q1.move rfl) rfl rfl ?_
        refine OD.q rfl rfl (Q1.move rfl) rfl rfl ?_
        obtain ⟨x1, b3, o1, hx1, hr1, hl1, hu1, hw1⟩ := Sl.at' (P := Try.prog) f1 Try.underlying22 ti9 encS_len (k := .i64) (n := ((k : Nat) : Int)) (k) (by omega) (by first | assumption | omega)
        refine OD.q rfl rfl (Q1.indexAddr rfl rfl hr1) rfl rfl ?_
        refine OD.q rfl rfl (Q1.load1 ti9 rfl (fun _ hc => hw1.keepG hc (by omega))) rfl rfl ?_
        refine OD.q rfl rfl (Q1.move rfl) rfl rfl ?_
        refine OD.q rfl rfl (Q1.move rfl) rfl rfl ?_
        obtain ⟨x2, b4, o2, hx2, hr2, hl2, hu2, hw2⟩ := Sl.at' (P := Try.prog) f2 Try.underlying22 ti9 encS_len (k := .i64) (n := ((k : Nat) : Int)) (k) (by omega) (by first | assumption | omega)
        refine OD.q rfl rfl (Q1.indexAddr rfl rfl hr2) rfl rfl ?_
        refine OD.q rfl rfl (Q1.load1 ti9 rfl (fun _ hc => hw2.keepG hc (by omega))) rfl rfl ?_
        refine OD.qb rfl rfl (Q1.neS rfl rfl) rfl rfl ?_
        intro b5 hb3
        refine OD.nil ?_
        cases b5 with
        | true =>
          replace hb3 := nbeq_t hb3
          refine r_cond_t rfl ?_
          refine r_seq ?_
          refine r_region ?_
          refine OL.q (Q1.assign rfl) rfl rfl ?_
          refine OL.nil ?_
          refine r_ret1 Try.func28 rfl rfl ?_
          exact Ret.mk ⟨⟨_, (by first | (have e := Ml.same_not hx1 hx2 (by assumption); simp [e]) | (have e := Ml.same_all hi (by omega) (by omega); simp [e]) | (have e : a ≠ b := (fun e => absurd (congrArg List.length e) (by omega)); simp [e]) | (exfalso; omega)), rfl⟩, hE2⟩
        | false =>
          replace hb3 := nbeq_f hb3
          refine r_cond_f rfl ?_
          refine r_skip ?_
          refine r_inBlock ?_
          refine r_region ?_
          refine OL.q (Q1.move rfl) rfl rfl ?_
          refine OL.q (Q1.addI (((k + 1 : Nat) : Int)) rfl rfl (by omega)) rfl rfl ?_
          refine OL.q (Q1.assign rfl) rfl rfl ?_
          refine OL.nil ?_
          exact (ih1 _ _ _ ⟨(k + 1 : Nat), rfl, rfl, hE2, (by omega), f3, f4, (by first | exact Ml.same_take hi hx1 hx2 (by assumption) | (exfalso; omega))⟩ (by omega)).sub ⟨rfl, rfl, rfl, trivial⟩
      | false =>
        replace hb2 := of_decide_eq_false hb2.symm
        refine r_cond_f rfl ?_
        refine r_exit rfl ?_
        refine r_seq ?_
        refine r_region ?_
        refine OL.q (Q1.assign rfl) rfl rfl ?_
        refine OL.nil ?_
        refine r_ret1 Try.func28 rfl rfl ?_
        exact Ret.mk ⟨⟨_, (by first | (have e := Ml.same_not hx1 hx2 (by assumption); simp [e]) | (have e := Ml.same_all hi (by omega) (by omega); simp [e]) | (have e : a ≠ b := (fun e => absurd (congrArg List.length e) (by omega)); simp [e]) | (exfalso; omega)), rfl⟩, hE1⟩
set_option maxRecDepth 20000 in
set_option maxHeartbeats 4000000 in
theorem greatT_c {w0 : World}  {v_l : Value} {l : List Str} (h_l : Sl encS w0 (Iv 0 w0.heap.size) v_l l) :
    Calls Try.prog 11 #[v_l] w0 (Ret fun rv w1 => (∃ rb : Bool, rb = (Ml.greatT l) ∧ rv = .bool rb) ∧ Ext w0 w1) := by
  have hE0 : Ext w0 w0 := Mod.refl _ _
  have hle1 := h_l.le
  refine calls_enter Try.func11 rfl Try.ntmps11 rfl ?_
  refine r_seq ?_
  refine r_region ?_
  refine OL.q (Q1.assign rfl) rfl rfl ?_
  refine OL.nil ?_
  refine r_seq ?_
  refine r_seq ?_
  refine r_region ?_
  refine OL.q (Q1.assign rfl) rfl rfl ?_
  refine OL.nil ?_
  refine r_block ?_
  refine r_loop (I := fun m E W => ∃ (k : Nat), E = [(0, v_l), (3, .int .i64 (((k : Nat) : Int)))] ∧ m = l.length - k ∧ Ext w0 W ∧ w0.heap.size ≤ W.heap.size ∧ Sl encS W (Iv 0 w0.heap.size) v_l l ∧ ((l.take k).any (fun s => decide (s.length > 100)) = false)) ?_ ?_
  · refine ⟨_, _, ⟨(0 : Nat), rfl, rfl, hE0, Nat.le_refl _, h_l, (by rfl)⟩, ⟨rfl, rfl, trivial⟩⟩
  · rintro _ _ w1 ⟨k, rfl, rfl, hE1, hs1, f1, hi⟩ ih1
    refine r_seq ?_
    refine r_seq ?_
    refine r_region ?_
    refine OL.q (Q1.move rfl) rfl rfl ?_
    refine OL.q (Q1.move rfl) rfl rfl ?_
    refine OL.q (Q1.lenSl Try.underlying22 (f1) rfl) rfl rfl ?_
    refine OL.qb (Q1.lt rfl rfl) rfl rfl ?_
    intro b1 hb1
    refine OL.q (Q1.move rfl) rfl rfl ?_
    cases b1 with
    | true =>
      replace hb1 := of_decide_eq_true hb1.symm
      refine OL.q (Q1.move rfl) rfl rfl ?_
      refine OL.q (Q1.lenSl Try.underlying22 (f1) rfl) rfl rfl ?_
      refine OL.qb (Q1.le rfl rfl) rfl rfl ?_
      intro b2 hb2
      refine OL.q (Q1.pick_t rfl rfl) rfl rfl ?_
      refine OL.nil ?_
      cases b2 with
      | true =>
        replace hb2 := of_decide_eq_true hb2.symm
        refine r_cond_t rfl ?_
        refine r_skip ?_
        refine r_seq ?_
        refine r_block ?_
        refine r_seq ?_
        refine r_region ?_
        refine OL.q (Q1.move rfl) rfl rfl ?_
        refine OL.q (Q1.move rfl) rfl rfl ?_
        obtain ⟨x1, b3, o1, hx1, hr1, hl1, hu1, hw1⟩ := Sl.at' (P := Try.prog) f1 Try.underlying22 ti9 encS_len (k := .i64) (n := ((k : Nat) : Int)) (k) (by omega) (by first | assumption | omega)
        refine OL.q (Q1.indexAddr rfl rfl hr1) rfl rfl ?_
        refine OL.q (Q1.load1 ti9 rfl (fun _ e => e ▸ hw1)) rfl rfl ?_
        refine OL.q (Q1.lenS Try.underlying9 rfl) rfl rfl ?_
        refine OL.qb (Q1.gt rfl rfl) rfl rfl ?_
        intro b4 hb3
        refine OL.nil ?_
        cases b4 with
        | true =>
          replace hb3 := of_decide_eq_true hb3.symm
          refine r_cond_t rfl ?_
          refine r_seq ?_
          refine r_region ?_
          refine OL.q (Q1.assign rfl) rfl rfl ?_
          refine OL.nil ?_
          refine r_ret1 Try.func11 rfl rfl ?_
          exact Ret.mk ⟨⟨_, (by first | exact Ml.greatT_long hx1 (by omega) | exact Ml.greatT_end hi (by omega) (by assumption) | (exfalso; omega)), rfl⟩, hE1⟩
        | false =>
          replace hb3 := of_decide_eq_false hb3.symm
          refine r_cond_f rfl ?_
          refine r_skip ?_
          refine r_inBlock ?_
          refine r_region ?_
          refine OL.q (Q1.move rfl) rfl rfl ?_
          refine OL.q (Q1.addI (((k + 1 : Nat) : Int)) rfl rfl (by omega)) rfl rfl ?_
          refine OL.q (Q1.assign rfl) rfl rfl ?_
          refine OL.nil ?_
          exact (ih1 _ _ _ ⟨(k + 1 : Nat), rfl, rfl, hE1, (by omega), f1, (by first | exact Ml.any_take_no hi hx1 (decide_eq_false (by omega)) | (exfalso; omega))⟩ (by omega)).sub ⟨rfl, rfl, trivial⟩
      | false =>
        replace hb2 := of_decide_eq_false hb2.symm
        refine r_cond_f rfl ?_
        refine r_exit rfl ?_
        refine r_seq ?_
        refine r_region ?_
        refine OL.q (Q1.move rfl) rfl rfl ?_
        refine OL.q (Q1.lenSl Try.underlying22 (f1) rfl) rfl rfl ?_
        refine OL.qb (Q1.gt rfl rfl) rfl rfl ?_
        intro b3 hb3
        refine OL.q (Q1.assign rfl) rfl rfl ?_
        refine OL.nil ?_
        refine r_ret1 Try.func11 rfl rfl ?_
        exact Ret.mk ⟨⟨_, (by first | exact Ml.greatT_long hx1 (by omega) | exact Ml.greatT_end hi (by omega) (by assumption) | (exfalso; omega)), rfl⟩, hE1⟩
    | false =>
      replace hb1 := of_decide_eq_false hb1.symm
      refine OL.sk rfl rfl ?_
      refine OL.sk rfl rfl ?_
      refine OL.sk rfl rfl ?_
      refine OL.q (Q1.pick_f rfl rfl) rfl rfl ?_
      refine OL.nil ?_
      refine r_cond_f rfl ?_
      refine r_exit rfl ?_
      refine r_seq ?_
      refine r_region ?_
      refine OL.q (Q1.move rfl) rfl rfl ?_
      refine OL.q (Q1.lenSl Try.underlying22 (f1) rfl) rfl rfl ?_
      refine OL.qb (Q1.gt rfl rfl) rfl rfl ?_
      intro b2 hb2
      refine OL.q (Q1.assign rfl) rfl rfl ?_
      refine OL.nil ?_
      refine r_ret1 Try.func11 rfl rfl ?_
      exact Ret.mk ⟨⟨_, (by first | exact Ml.greatT_long hx1 (by omega) | exact Ml.greatT_end hi (by omega) (by assumption) | (exfalso; omega)), rfl⟩, hE1⟩
set_option maxRecDepth 20000 in
set_option maxHeartbeats 4000000 in
theorem low_c {w0 : World}  (x : Int) (n : Int) (h_x : I64 x) (h_n : I64 n) (hn : 1 ≤ n) :
    Calls Try.prog 32 #[.int .i64 x, .int .i64 n] w0 (Ret fun rv w1 => rv = .int .i64 (Ml.lowM x n) ∧ Ext w0 w1 ∧ 0 ≤ Ml.lowM x n ∧ Ml.lowM x n < n) := by
  have hE0 : Ext w0 w0 := Mod.refl _ _
  refine calls_enter Try.func32 rfl Try.ntmps32 rfl ?_
  refine r_seq ?_
  refine r_region ?_
  refine OL.q (Q1.assign rfl) rfl rfl ?_
  refine OL.nil ?_
  refine r_seq ?_
  refine r_region ?_
  refine OL.q (Q1.move rfl) rfl rfl ?_
  refine OL.q (Q1.convI (by kernel_rfl) Try.underlying82 rfl) rfl rfl ?_
  have hx64 := Ml.u64_range x
  refine OL.q (Q1.move rfl) rfl rfl ?_
  refine OL.q (Q1.convI (by kernel_rfl) Try.underlying82 rfl) rfl rfl ?_
  have hn64 := Ml.u64_same n (by omega)
  have := Int.emod_nonneg ((IntKind.u64.wrap x) : Int) (by omega : ((IntKind.u64.wrap n) : Int) ≠ 0)
  have := Int.emod_lt_of_pos ((IntKind.u64.wrap x) : Int) (by omega : (0 : Int) < (IntKind.u64.wrap n))
  refine OL.q (Q1.remI (((IntKind.u64.wrap x) % ((IntKind.u64.wrap n)))) rfl rfl ⟨by omega, by omega, rfl⟩) rfl rfl ?_
  have hlow := Ml.low_range x n hn
  refine OL.q (Q1.convI (by kernel_rfl) Try.underlying3 rfl) rfl rfl ?_
  refine OL.q (Q1.assign rfl) rfl rfl ?_
  refine OL.nil ?_
  refine r_ret1 Try.func32 rfl rfl ?_
  exact Ret.mk ⟨(congrArg (Value.int .i64) (by first | exact Ml.low_eq hn h_n | (exfalso; omega))), hE0, by exact Ml.low_range x n hn⟩
set_option maxRecDepth 20000 in
set_option maxHeartbeats 4000000 in
theorem bsearch_c {w0 : World}  {v_x : Value} {x : List Str} (target : Str) (h_x : Sl encS w0 (Iv 0 w0.heap.size) v_x x) (hso_x : Ml.Sorted x) (hln_x : x.length ≤ 1000000) :
    Calls Try.prog 46 #[v_x, strV target, .func (.func 47) #[] #[]] w0 (Ret fun rv w1 => ∃ u0 u1, rv = .tuple #[u0, u1] ∧ u0 = .int .i64 (((Ml.belowW x target : Nat) : Int)) ∧ (∃ rb : Bool, rb = (x.contains target) ∧ u1 = .bool rb) ∧ Ext w0 w1) := by
  have hE0 : Ext w0 w0 := Mod.refl _ _
  have hle1 := h_x.le
  refine calls_enter Try.func46 rfl Try.ntmps46 rfl ?_
  refine r_seq ?_
  refine r_region ?_
  refine OL.q (Q1.assign rfl) rfl rfl ?_
  refine OL.q (Q1.assign rfl) rfl rfl ?_
  refine OL.nil ?_
  refine r_seq ?_
  refine r_region ?_
  refine OL.q (Q1.move rfl) rfl rfl ?_
  refine OL.q (Q1.lenSl Try.underlying22 (h_x) rfl) rfl rfl ?_
  refine OL.q (Q1.assign rfl) rfl rfl ?_
  refine OL.nil ?_
  refine r_seq ?_
  refine r_region ?_
  refine OL.q (Q1.move rfl) rfl rfl ?_
  refine OL.q (Q1.assign rfl) rfl rfl ?_
  refine OL.q (Q1.assign rfl) rfl rfl ?_
  refine OL.nil ?_
  refine r_seq ?_
  refine r_block ?_
  refine r_loop (I := fun m E W => ∃ (i : Nat) (j : Nat), E = [(0, v_x), (1, strV target), (2, .func (.func 47) #[] #[]), (8, .int .i64 (((x.length : Nat) : Int))), (9, .int .i64 (((i : Nat) : Int))), (10, .int .i64 (((j : Nat) : Int)))] ∧ m = j - i ∧ Ext w0 W ∧ w0.heap.size ≤ W.heap.size ∧ Sl encS W (Iv 0 w0.heap.size) v_x x ∧ (Ml.BsInv x target i j) ∧ (i ≤ j) ∧ (j ≤ x.length)) ?_ ?_
  · refine ⟨_, _, ⟨(0 : Nat), (x.length : Nat), rfl, rfl, hE0, Nat.le_refl _, h_x, (by exact Ml.BsInv.start x target), (by omega), (by omega)⟩, ⟨rfl, rfl, rfl, rfl, rfl, rfl, trivial⟩⟩
  · rintro _ _ w1 ⟨i, j, rfl, rfl, hE1, hs1, f1, hi, hij, hj⟩ ih1
    refine r_seq ?_
    refine r_seq ?_
    refine r_region ?_
    refine OL.q (Q1.move rfl) rfl rfl ?_
    refine OL.q (Q1.move rfl) rfl rfl ?_
    refine OL.qb (Q1.lt rfl rfl) rfl rfl ?_
    intro b1 hb1
    refine OL.nil ?_
    cases b1 with
    | true =>
      replace hb1 := of_decide_eq_true hb1.symm
      refine r_cond_t rfl ?_
      refine r_skip ?_
      refine r_block ?_
      refine r_seq ?_
      refine r_region ?_
      refine OL.q (Q1.move rfl) rfl rfl ?_
      refine OL.q (Q1.move rfl) rfl rfl ?_
      refine OL.q (Q1.addI (((i + j : Nat) : Int)) rfl rfl (by omega)) rfl rfl ?_
      refine OL.q (Q1.convN (by kernel_rfl) Try.underlying82 rfl (IntWalk.u64_in _ (by omega))) rfl rfl ?_
      refine OL.q (Q1.shr1 ((((i + j) / 2 : Nat) : Int)) rfl rfl (by omega)) rfl rfl ?_
      refine OL.q (Q1.convN (by kernel_rfl) Try.underlying3 rfl (IntWalk.i64_in _ (by omega))) rfl rfl ?_
      refine OL.q (Q1.assign rfl) rfl rfl ?_
      refine OL.nil ?_
      refine r_seq ?_
      refine r_region ?_
      refine OL.q (Q1.move rfl) rfl rfl ?_
      refine OL.q (Q1.move rfl) rfl rfl ?_
      refine OL.q (Q1.move rfl) rfl rfl ?_
      obtain ⟨x1, b2, o1, hx1, hr1, hl1, hu1, hw1⟩ := Sl.at' (P := Try.prog) f1 Try.underlying22 ti9 encS_len (k := .i64) (n := (((i + j) / 2 : Nat) : Int)) ((i + j) / 2) (by omega) (by first | assumption | omega)
      refine OL.q (Q1.indexAddr rfl rfl hr1) rfl rfl ?_
      refine OL.q (Q1.load1 ti9 rfl (fun _ e => e ▸ hw1)) rfl rfl ?_
      refine OL.q (Q1.move rfl) rfl rfl ?_
      refine OL.act rfl rfl (AW.call (first := []) (cap := []) cl47 rfl rfl (tcmp_c (w0 := w1)  x1 target ) ?_)
      rintro _ w2 ⟨rfl, hm1, hp1⟩
      have f2 := f1.ext hm1
      have hE2 := hE1.ext hm1
      have hs2 := hm1.size
      refine OL.qb (Q1.lt rfl rfl) rfl rfl ?_
      intro b3 hb2
      refine OL.nil ?_
      cases b3 with
      | true =>
        replace hb2 := of_decide_eq_true hb2.symm
        refine r_cond_t rfl ?_
        refine r_region ?_
        refine OL.q (Q1.move rfl) rfl rfl ?_
        refine OL.q (Q1.addI (((((i + j) / 2) + 1 : Nat) : Int)) rfl rfl (by omega)) rfl rfl ?_
        refine OL.q (Q1.assign rfl) rfl rfl ?_
        refine OL.nil ?_
        refine r_inBlock ?_
        exact (ih1 _ _ _ ⟨(((i + j) / 2) + 1 : Nat), (j : Nat), rfl, rfl, hE2, (by omega), f2, (by first | exact hi.up hso_x hx1 (by omega) | exact hi.dn hso_x hx1 (by omega) | (exfalso; omega)), (by first | omega | (exfalso; omega)), (by first | omega | (exfalso; omega))⟩ (by omega)).sub ⟨rfl, rfl, rfl, rfl, rfl, rfl, trivial⟩
      | false =>
        replace hb2 := of_decide_eq_false hb2.symm
        refine r_cond_f rfl ?_
        refine r_region ?_
        refine OL.q (Q1.move rfl) rfl rfl ?_
        refine OL.q (Q1.assign rfl) rfl rfl ?_
        refine OL.nil ?_
        refine r_inBlock ?_
        exact (ih1 _ _ _ ⟨(i : Nat), ((i + j) / 2 : Nat), rfl, rfl, hE2, (by omega), f2, (by first | exact hi.up hso_x hx1 (by omega) | exact hi.dn hso_x hx1 (by omega) | (exfalso; omega)), (by first | omega | (exfalso; omega)), (by first | omega | (exfalso; omega))⟩ (by omega)).sub ⟨rfl, rfl, rfl, rfl, rfl, rfl, trivial⟩
    | false =>
      replace hb1 := of_decide_eq_false hb1.symm
      refine r_cond_f rfl ?_
      refine r_exit rfl ?_
      refine r_seq ?_
      refine r_region ?_
      refine OL.q (Q1.move rfl) rfl rfl ?_
      refine OL.q (Q1.move rfl) rfl rfl ?_
      refine OL.q (Q1.move rfl) rfl rfl ?_
      refine OL.qb (Q1.lt rfl rfl) rfl rfl ?_
      intro b2 hb2
      refine OL.q (Q1.move rfl) rfl rfl ?_
      cases b2 with
      | true =>
        replace hb2 := of_decide_eq_true hb2.symm
        refine OL.q (Q1.move rfl) rfl rfl ?_
        refine OL.q (Q1.move rfl) rfl rfl ?_
        refine OL.q (Q1.move rfl) rfl rfl ?_
        obtain ⟨x1, b3, o1, hx1, hr1, hl1, hu1, hw1⟩ := Sl.at' (P := Try.prog) f1 Try.underlying22 ti9 encS_len (k := .i64) (n := ((i : Nat) : Int)) (i) (by omega) (by first | assumption | omega)
        refine OL.q (Q1.indexAddr rfl rfl hr1) rfl rfl ?_
        refine OL.q (Q1.load1 ti9 rfl (fun _ e => e ▸ hw1)) rfl rfl ?_
        refine OL.q (Q1.move rfl) rfl rfl ?_
        refine OL.act rfl rfl (AW.call (first := []) (cap := []) cl47 rfl rfl (tcmp_c (w0 := w1)  x1 target ) ?_)
        rintro _ w2 ⟨rfl, hm1, hp1⟩
        have f2 := f1.ext hm1
        have hE2 := hE1.ext hm1
        have hs2 := hm1.size
        refine OL.qb (Q1.eq rfl rfl) rfl rfl ?_
        intro b4 hb3
        refine OL.q (Q1.pick_t rfl rfl) rfl rfl ?_
        refine OL.q (Q1.assign rfl) rfl rfl ?_
        refine OL.q (Q1.assign rfl) rfl rfl ?_
        refine OL.nil ?_
        refine r_ret2 Try.func46 rfl rfl rfl ?_
        exact Ret.mk ⟨_, _, rfl, (congrArg (Value.int .i64) (by first | (rw [hi.count (by omega) (by omega)]) | exact hi.at hso_x (by omega) hx1 (by assumption) | exact hi.none (by omega) | (exfalso; omega))), ⟨_, (by first | (rw [hi.count (by omega) (by omega)]) | exact hi.at hso_x (by omega) hx1 (by assumption) | exact hi.none (by omega) | (exfalso; omega)), rfl⟩, hE2⟩
      | false =>
        replace hb2 := of_decide_eq_false hb2.symm
        refine OL.sk rfl rfl ?_
        refine OL.sk rfl rfl ?_
        refine OL.sk rfl rfl ?_
        refine OL.sk rfl rfl ?_
        refine OL.sk rfl rfl ?_
        refine OL.sk rfl rfl ?_
        refine OL.sk rfl rfl ?_
        refine OL.sk rfl rfl ?_
        refine OL.q (Q1.pick_f rfl rfl) rfl rfl ?_
        refine OL.q (Q1.assign rfl) rfl rfl ?_
        refine OL.q (Q1.assign rfl) rfl rfl ?_
        refine OL.nil ?_
        refine r_ret2 Try.func46 rfl rfl rfl ?_
        exact Ret.mk ⟨_, _, rfl, (congrArg (Value.int .i64) (by first | (rw [hi.count (by omega) (by omega)]) | exact hi.at hso_x (by omega) hx1 (by assumption) | exact hi.none (by omega) | (exfalso; omega))), ⟨_, (by first | (rw [hi.count (by omega) (by omega)]) | exact hi.at hso_x (by omega) hx1 (by assumption) | exact hi.none (by omega) | (exfalso; omega)), rfl⟩, hE1⟩
set_option maxRecDepth 20000 in
set_option maxHeartbeats 4000000 in
theorem lat_c {w0 : World}  {v_words : Value} {words : List Str} (w : Str) (h_words : Sl encS w0 (Iv 0 w0.heap.size) v_words words) (hso_words : Ml.Sorted words) (hln_words : words.length ≤ 1000000) :
    Calls Try.prog 30 #[v_words, strV w] w0 (Ret fun rv w1 => ∃ u0 u1, rv = .tuple #[u0, u1] ∧ u0 = .int .i64 (((Ml.belowW words w : Nat) : Int)) ∧ (∃ rb : Bool, rb = (words.contains w) ∧ u1 = .bool rb) ∧ Ext w0 w1) := by
  have hE0 : Ext w0 w0 := Mod.refl _ _
  have hle1 := h_words.le
  refine calls_enter Try.func30 rfl Try.ntmps30 rfl ?_
  refine r_seq ?_
  refine r_region ?_
  refine OL.q (Q1.assign rfl) rfl rfl ?_
  refine OL.q (Q1.assign rfl) rfl rfl ?_
  refine OL.nil ?_
  refine r_seq ?_
  refine r_region ?_
  refine OL.q (Q1.move rfl) rfl rfl ?_
  refine OL.q (Q1.move rfl) rfl rfl ?_
  refine OL.act rfl rfl (AW.callF cl46 rfl (bsearch_c (w0 := w0) (x := words) w ((h_words).iv (Nat.zero_le _) (by omega)) (by first | assumption | exact Ml.rising_sorted (by decide +kernel)) (by first | assumption | omega | (simp; done))) ?_)
  rintro _ w1 ⟨_, _, rfl, rfl, ⟨b1, hb1, rfl⟩, hm1⟩
  have f1 := h_words.ext hm1
  have hE1 := hE0.ext hm1
  have hs1 := hm1.size
  have := Ml.belowW_le words w
  refine OL.q (Q1.extract rfl rfl) rfl rfl ?_
  refine OL.q (Q1.extract rfl rfl) rfl rfl ?_
  refine OL.q (Q1.assign rfl) rfl rfl ?_
  refine OL.q (Q1.assign rfl) rfl rfl ?_
  refine OL.nil ?_
  refine r_ret2 Try.func30 rfl rfl rfl ?_
  exact Ret.mk ⟨_, _, rfl, (congrArg (Value.int .i64) (by first | rfl | assumption | (exfalso; omega))), ⟨_, (by first | rfl | assumption | (exfalso; omega)), rfl⟩, hE1⟩
end Go.Proofs
