/-
  The document's answer, and the law ScriptPrints.
-/
import Derived.Test.YtnikbecfjbjbbaaDoorWPrint
set_option linter.unusedVariables false
set_option linter.unusedSimpArgs false
namespace Go.Proofs
open Go.Ik Go.Ml
set_option maxRecDepth 20000 in
set_option maxHeartbeats 4000000 in
theorem num_c {w0 : World}  (e : Int)  :
    Calls Tryd.prog 19 #[.int .i64 e] w0 (Ret fun rv w1 => rv = .int .i64 (e) ∧ Ext w0 w1) := by
  have hE0 : Ext w0 w0 := Mod.refl _ _
  refine calls_enter Tryd.func19 rfl Tryd.ntmps19 rfl ?_
  refine r_seq ?_
  refine r_region ?_
  refine OL.q (Q1.assign rfl) rfl rfl ?_
  refine OL.nil ?_
  refine r_seq ?_
  refine r_region ?_
  refine OL.q (Q1.move rfl) rfl rfl ?_
  refine OL.q (Q1.assign rfl) rfl rfl ?_
  refine OL.nil ?_
  refine r_ret1 Tryd.func19 rfl rfl ?_
  exact Ret.mk ⟨(congrArg (Value.int .i64) (by rfl)), hE0⟩
set_option maxRecDepth 20000 in
set_option maxHeartbeats 4000000 in
theorem decimal_c (n : Nat) (hn : n ≤ 999999) {w0 : World} :
    Calls Tryd.prog 52 #[.int .i64 (n : Int)] w0 (Ret fun rv w1 => rv = strV (decD n) ∧ Ext w0 w1) := by
  induction n using Nat.strongRecOn generalizing w0 with
  | _ n ih =>
  replace ih : ∀ m : Nat, m < n → ∀ {w0 : World}, Calls Tryd.prog 52 #[.int .i64 (m : Int)] w0 (Ret fun rv w1 => rv = strV (decD m) ∧ Ext w0 w1) := fun m hm => ih m hm (by omega)
  have hS0 := St.start0 w0
  have hd10 : ([48, 49, 50, 51, 52, 53, 54, 55, 56, 57] : Str).length = 10 := rfl
  refine calls_enter Tryd.func52 rfl Tryd.ntmps52 rfl ?_
  refine r_seq ?_
  refine r_region ?_
  refine OL.q (Q1.assign rfl) rfl rfl ?_
  refine OL.nil ?_
  refine r_seq ?_
  refine r_seq ?_
  refine r_region ?_
  refine OL.q (Q1.move rfl) rfl rfl ?_
  refine OL.qb (Q1.lt rfl rfl) rfl rfl ?_
  intro b1 hb1
  refine OL.nil ?_
  cases b1 with
  | true =>
    replace hb1 := of_decide_eq_true hb1.symm
    refine r_cond_t rfl ?_
    refine r_seq ?_
    refine r_region ?_
    refine OL.q (Q1.move rfl) rfl rfl ?_
    refine OL.q (Q1.move rfl) rfl rfl ?_
    refine OL.q (Q1.addI (((n + 1 : Nat) : Int)) rfl rfl (by omega)) rfl rfl ?_
    refine OL.q (Q1.sliceS (n) (n + 1) Tryd.underlying9 rfl rfl rfl (by omega) (by omega) (by omega) (by first | assumption | omega)) rfl rfl ?_
    refine OL.q (Q1.assign rfl) rfl rfl ?_
    refine OL.nil ?_
    refine r_ret1 Tryd.func52 rfl rfl ?_
    exact Ret.mk ⟨congrArg strV (by first | exact dec_one (by omega) | exact dec_two (by omega) (by omega) (by omega)), hS0.mod⟩
  | false =>
    replace hb1 := of_decide_eq_false hb1.symm
    refine r_cond_f rfl ?_
    refine r_skip ?_
    refine r_seq ?_
    refine r_region ?_
    refine OL.q (Q1.move rfl) rfl rfl ?_
    refine OL.q (Q1.quoI ((((n : Nat) : Int) / 10)) rfl rfl (by omega)) rfl rfl ?_
    obtain ⟨m_w1, hnr1⟩ : ∃ m : Nat, ((((n : Nat) : Int) / 10) : Int) = (m : Int) := ⟨((((n : Nat) : Int) / 10)).toNat, by omega⟩
    rw [hnr1]
    refine OL.act rfl rfl (AW.callF cl52 rfl (ih m_w1 (by omega) (w0 := w0)) ?_)
    rintro _ w1 ⟨rfl, hm1⟩
    have hS1 := hS0.ext hm1
    have hdl_w1 := decD_len 5 m_w1 (by have : (10 : Nat) ^ (5 + 1) = 1000000 := rfl; omega)
    refine OL.q (Q1.move rfl) rfl rfl ?_
    have := Int.emod_nonneg (((n : Nat) : Int) : Int) (by omega : (10 : Int) ≠ 0)
    have := Int.emod_lt_of_pos (((n : Nat) : Int) : Int) (by omega : (0 : Int) < 10)
    refine OL.q (Q1.remI ((((n : Nat) : Int) % 10)) rfl rfl ⟨by omega, by omega, rfl⟩) rfl rfl ?_
    obtain ⟨m_w2, hnr2⟩ : ∃ m : Nat, ((((n : Nat) : Int) % 10) : Int) = (m : Int) := ⟨((((n : Nat) : Int) % 10)).toNat, by omega⟩
    rw [hnr2]
    refine OL.act rfl rfl (AW.callF cl52 rfl (ih m_w2 (by omega) (w0 := w1)) ?_)
    rintro _ w2 ⟨rfl, hm2⟩
    have hS2 := hS1.ext hm2
    have hdl_w2 := decD_len 5 m_w2 (by have : (10 : Nat) ^ (5 + 1) = 1000000 := rfl; omega)
    refine OL.q (Q1.catS rfl rfl (by first | omega | (simp only [List.length_append]; omega) | (simp only [List.length_append, List.length_cons, List.length_nil]; omega))) rfl rfl ?_
    refine OL.q (Q1.assign rfl) rfl rfl ?_
    refine OL.nil ?_
    refine r_ret1 Tryd.func52 rfl rfl ?_
    exact Ret.mk ⟨congrArg strV (by first | exact dec_one (by omega) | exact dec_two (by omega) (by omega) (by omega)), hS2.mod⟩
set_option maxRecDepth 20000 in
set_option maxHeartbeats 4000000 in
theorem rnums_c {w0 : World}  {v_ns : Value} {ns : List Int} (h_ns : Sl Ik.encI w0 (Iv 0 w0.heap.size) v_ns ns) (hnI : ∀ n ∈ ns, I64 n) (hnl : ns.length ≤ 1000) :
    Calls Tryd.prog 38 #[v_ns] w0 (Ret fun rv w1 => ∃ u0 u1, rv = .tuple #[u0, u1] ∧ u0 = strV ((rnumsM ns).1) ∧ (∃ rb : Bool, rb = ((rnumsM ns).2) ∧ u1 = .bool rb) ∧ Ext w0 w1) := by
  have hle_ns := h_ns.le
  have hS0 := St.start0 w0
  refine calls_enter Tryd.func38 rfl Tryd.ntmps38 rfl ?_
  refine r_seq ?_
  refine r_region ?_
  refine OL.q (Q1.assign rfl) rfl rfl ?_
  refine OL.q (Q1.assign rfl) rfl rfl ?_
  refine OL.nil ?_
  refine r_seq ?_
  refine r_region ?_
  refine OL.q (Q1.assign rfl) rfl rfl ?_
  refine OL.nil ?_
  refine r_seq ?_
  refine r_seq ?_
  refine r_region ?_
  refine OL.q (Q1.assign rfl) rfl rfl ?_
  refine OL.nil ?_
  refine r_block ?_
  refine r_loop (I := fun m E W => ∃ (s : Str) (i : Nat), E = [(0, v_ns), (4, strV s), (5, .int .i64 (((i : Nat) : Int)))] ∧ m = ns.length - i ∧ St (fun _ => False) (fun _ => False) w0 W [] ∧ (s = numsP (ns.take i)) ∧ ((ns.take i).any badN = false) ∧ (s.length ≤ i * 22)) ?_ ?_
  · refine ⟨_, _, ⟨(([] : Str) : Str), (0 : Nat), rfl, rfl, hS0, (by rfl), (by rfl), (by exact Nat.zero_le _)⟩, ⟨rfl, rfl, rfl, trivial⟩⟩
  · rintro _ _ w1 ⟨s, i, rfl, rfl, hS1, hs, hb, hsl⟩ ih1
    refine r_seq ?_
    refine r_seq ?_
    refine r_region ?_
    refine OL.q (Q1.move rfl) rfl rfl ?_
    refine OL.q (Q1.move rfl) rfl rfl ?_
    have f1 := hS1.out h_ns (fun _ _ h => h)
    refine OL.q (Q1.lenSl Tryd.underlying82 (f1) rfl) rfl rfl ?_
    refine OL.qb (Q1.lt rfl rfl) rfl rfl ?_
    intro b1 hb1
    refine OL.nil ?_
    cases b1 with
    | true =>
      replace hb1 := of_decide_eq_true hb1.symm
      refine r_cond_t rfl ?_
      refine r_skip ?_
      refine r_seq ?_
      refine r_block ?_
      refine r_seq ?_
      refine r_seq ?_
      refine r_region ?_
      refine OL.q (Q1.move rfl) rfl rfl ?_
      refine OL.q (Q1.move rfl) rfl rfl ?_
      obtain ⟨x1, b2, o1, hx1, hr1, hl1, hw1⟩ := Sl.atF (P := Tryd.prog) f1 Tryd.underlying82 ti3 Ik.encI_len (k := .i64) (n := ((i : Nat) : Int)) (i) (by omega) (by first | assumption | omega)
      refine OL.q (Q1.indexAddr rfl rfl hr1) rfl rfl ?_
      refine OL.q (Q1.load1 ti3 rfl (fun _ e => e ▸ hw1)) rfl rfl ?_
      refine OL.qb (Q1.lt rfl rfl) rfl rfl ?_
      intro b3 hb2
      have hxI : I64 x1 := hnI _ (List.mem_of_getElem? hx1)
      have hxl := itoa_l hxI
      refine OL.q (Q1.move rfl) rfl rfl ?_
      cases b3 with
      | true =>
        replace hb2 := of_decide_eq_true hb2.symm
        refine OL.sk rfl rfl ?_
        refine OL.sk rfl rfl ?_
        refine OL.sk rfl rfl ?_
        refine OL.sk rfl rfl ?_
        refine OL.sk rfl rfl ?_
        refine OL.q (Q1.pick_t rfl rfl) rfl rfl ?_
        refine OL.nil ?_
        refine r_cond_t rfl ?_
        refine r_seq ?_
        refine r_region ?_
        refine OL.q (Q1.assign rfl) rfl rfl ?_
        refine OL.q (Q1.assign rfl) rfl rfl ?_
        refine OL.nil ?_
        refine r_ret2 Tryd.func38 rfl rfl rfl ?_
        exact Ret.mk ⟨_, _, rfl, (congrArg strV (by first | (rw [rn_no hx1 (by omega)]) | (rw [rn_yes hb hs (by omega)]) | (exfalso; omega))), ⟨_, (by first | (rw [rn_no hx1 (by omega)]) | (rw [rn_yes hb hs (by omega)]) | (exfalso; omega)), rfl⟩, hS1.mod⟩
      | false =>
        replace hb2 := of_decide_eq_false hb2.symm
        refine OL.q (Q1.move rfl) rfl rfl ?_
        refine OL.q (Q1.move rfl) rfl rfl ?_
        obtain ⟨x2, b4, o2, hx2, hr2, hl2, hw2⟩ := Sl.atF (P := Tryd.prog) f1 Tryd.underlying82 ti3 Ik.encI_len (k := .i64) (n := ((i : Nat) : Int)) (i) (by omega) (by first | assumption | omega)
        obtain rfl : x1 = x2 := Option.some.inj (hx1.symm.trans hx2)
        refine OL.q (Q1.indexAddr rfl rfl hr2) rfl rfl ?_
        refine OL.q (Q1.load1 ti3 rfl (fun _ e => e ▸ hw2)) rfl rfl ?_
        refine OL.qb (Q1.gt rfl rfl) rfl rfl ?_
        intro b5 hb3
        refine OL.q (Q1.pick_f rfl rfl) rfl rfl ?_
        refine OL.nil ?_
        cases b5 with
        | true =>
          replace hb3 := of_decide_eq_true hb3.symm
          refine r_cond_t rfl ?_
          refine r_seq ?_
          refine r_region ?_
          refine OL.q (Q1.assign rfl) rfl rfl ?_
          refine OL.q (Q1.assign rfl) rfl rfl ?_
          refine OL.nil ?_
          refine r_ret2 Tryd.func38 rfl rfl rfl ?_
          exact Ret.mk ⟨_, _, rfl, (congrArg strV (by first | (rw [rn_no hx1 (by omega)]) | (rw [rn_yes hb hs (by omega)]) | (exfalso; omega))), ⟨_, (by first | (rw [rn_no hx1 (by omega)]) | (rw [rn_yes hb hs (by omega)]) | (exfalso; omega)), rfl⟩, hS1.mod⟩
        | false =>
          replace hb3 := of_decide_eq_false hb3.symm
          refine r_cond_f rfl ?_
          refine r_skip ?_
          refine r_region ?_
          refine OL.q (Q1.move rfl) rfl rfl ?_
          refine OL.q (Q1.catS rfl rfl (by first | omega | (simp only [List.length_append]; omega) | (simp only [List.length_append, List.length_cons, List.length_nil]; omega))) rfl rfl ?_
          refine OL.q (Q1.move rfl) rfl rfl ?_
          refine OL.q (Q1.move rfl) rfl rfl ?_
          obtain ⟨x3, b6, o3, hx3, hr3, hl3, hw3⟩ := Sl.atF (P := Tryd.prog) f1 Tryd.underlying82 ti3 Ik.encI_len (k := .i64) (n := ((i : Nat) : Int)) (i) (by omega) (by first | assumption | omega)
          obtain rfl : x1 = x3 := Option.some.inj (hx1.symm.trans hx3)
          refine OL.q (Q1.indexAddr rfl rfl hr3) rfl rfl ?_
          refine OL.q (Q1.load1 ti3 rfl (fun _ e => e ▸ hw3)) rfl rfl ?_
          obtain ⟨m_w2, hnr1⟩ : ∃ m : Nat, (x1 : Int) = (m : Int) := ⟨(x1).toNat, by omega⟩
          refine OL.act rfl rfl (AW.callF cl52 rfl (hnr1 ▸ decimal_c m_w2 (by omega) (w0 := w1)) ?_)
          rintro _ w2 ⟨rfl, hm1⟩
          have hS2 := hS1.ext hm1
          have hdm_w2 : decD m_w2 = Lib.itoa x1 := by rw [hnr1, itoa_nat]
          rw [hdm_w2]
          refine OL.q (Q1.catS rfl rfl (by first | omega | (simp only [List.length_append]; omega) | (simp only [List.length_append, List.length_cons, List.length_nil]; omega))) rfl rfl ?_
          refine OL.q (Q1.assign rfl) rfl rfl ?_
          refine OL.nil ?_
          refine r_inBlock ?_
          refine r_region ?_
          refine OL.q (Q1.move rfl) rfl rfl ?_
          refine OL.q (Q1.addI (((i + 1 : Nat) : Int)) rfl rfl (by omega)) rfl rfl ?_
          refine OL.q (Q1.assign rfl) rfl rfl ?_
          refine OL.nil ?_
          exact (ih1 _ _ _ ⟨(((s ++ ([32] : Str)) ++ (Lib.itoa x1)) : Str), (i + 1 : Nat), rfl, rfl, hS2, (by first | rw [hs, numsP_step hx1]; simp | (exfalso; omega)), (by first | exact rn_step hb hx1 (by omega) (by omega) | (exfalso; omega)), (by first | (simp only [List.length_append, List.length_cons, List.length_nil]; omega) | (exfalso; omega))⟩ (by omega)).sub ⟨rfl, rfl, rfl, trivial⟩
    | false =>
      replace hb1 := of_decide_eq_false hb1.symm
      refine r_cond_f rfl ?_
      refine r_exit rfl ?_
      refine r_seq ?_
      refine r_region ?_
      refine OL.q (Q1.move rfl) rfl rfl ?_
      refine OL.q (Q1.assign rfl) rfl rfl ?_
      refine OL.q (Q1.assign rfl) rfl rfl ?_
      refine OL.nil ?_
      refine r_ret2 Tryd.func38 rfl rfl rfl ?_
      exact Ret.mk ⟨_, _, rfl, (congrArg strV (by first | (rw [rn_no hx1 (by omega)]) | (rw [rn_yes hb hs (by omega)]) | (exfalso; omega))), ⟨_, (by first | (rw [rn_no hx1 (by omega)]) | (rw [rn_yes hb hs (by omega)]) | (exfalso; omega)), rfl⟩, hS1.mod⟩
set_option maxRecDepth 20000 in
set_option maxHeartbeats 4000000 in
theorem rset29_c {w0 : World}  {c : Cfg} {v_c_words : Value} {v_c_cuts : Value} (h_c_words : Sl encS w0 (Iv 0 w0.heap.size) v_c_words c.words) (h_c_cuts : Sl encKey w0 (Iv 0 w0.heap.size) v_c_cuts c.cuts) :
    Calls Tryd.prog 39 #[.agg #[v_c_words, v_c_cuts, .int .i64 c.workers, .int .i64 c.copies, .int .i64 c.slots, .int .i64 c.batch, .int .i64 c.lease, .int .i64 c.hedge, .int .i64 c.first, .int .i64 c.cap, .int .i64 c.jitter, .int .i64 c.net]] w0 (Ret fun rv w1 => Sl Ik.encI w1 (Iv w0.heap.size w1.heap.size) rv (setNums c) ∧ Ext w0 w1) := by
  have hle_c_words := h_c_words.le
  have hle_c_cuts := h_c_cuts.le
  have hS0 := St.start0 w0
  refine calls_enter Tryd.func39 rfl Tryd.ntmps39 rfl ?_
  refine r_seq ?_
  refine r_region ?_
  refine OL.act rfl rfl (AW.box [v_c_words, v_c_cuts, .int .i64 c.workers, .int .i64 c.copies, .int .i64 c.slots, .int .i64 c.batch, .int .i64 c.lease, .int .i64 c.hedge, .int .i64 c.first, .int .i64 c.cap, .int .i64 c.jitter, .int .i64 c.net] rfl rfl ?_)
  intro w1 b1 hm1 hb1 hz1 hk1
  have hS1 := hS0.ext hm1
  have hS2 : St (fun _ => False) (fun _ => False) w0 w1 [bkR b1 [v_c_words, v_c_cuts, .int .i64 c.workers, .int .i64 c.copies, .int .i64 c.slots, .int .i64 c.batch, .int .i64 c.lease, .int .i64 c.hedge, .int .i64 c.first, .int .i64 c.cap, .int .i64 c.jitter, .int .i64 c.net] 30] := hS0.newBk hm1 hb1 hk1
  refine OL.q (Q1.assign rfl) rfl rfl ?_
  refine OL.nil ?_
  refine r_seq ?_
  refine r_region ?_
  refine OL.q (Q1.fieldAddr fl30_2 rfl) rfl rfl ?_
  have f1 := hS2.bk (i := 0) rfl
  refine OL.q (Q1.load1 ti3 rfl (fun _ e => e ▸ (f1.cell 2 _ rfl))) rfl rfl ?_
  refine OL.q (Q1.fieldAddr fl30_3 rfl) rfl rfl ?_
  refine OL.q (Q1.load1 ti3 rfl (fun _ e => e ▸ (f1.cell 3 _ rfl))) rfl rfl ?_
  refine OL.q (Q1.fieldAddr fl30_4 rfl) rfl rfl ?_
  refine OL.q (Q1.load1 ti3 rfl (fun _ e => e ▸ (f1.cell 4 _ rfl))) rfl rfl ?_
  refine OL.q (Q1.fieldAddr fl30_5 rfl) rfl rfl ?_
  refine OL.q (Q1.load1 ti3 rfl (fun _ e => e ▸ (f1.cell 5 _ rfl))) rfl rfl ?_
  refine OL.q (Q1.fieldAddr fl30_6 rfl) rfl rfl ?_
  refine OL.q (Q1.load1 ti3 rfl (fun _ e => e ▸ (f1.cell 6 _ rfl))) rfl rfl ?_
  refine OL.q (Q1.fieldAddr fl30_7 rfl) rfl rfl ?_
  refine OL.q (Q1.load1 ti3 rfl (fun _ e => e ▸ (f1.cell 7 _ rfl))) rfl rfl ?_
  refine OL.q (Q1.fieldAddr fl30_8 rfl) rfl rfl ?_
  refine OL.q (Q1.load1 ti3 rfl (fun _ e => e ▸ (f1.cell 8 _ rfl))) rfl rfl ?_
  refine OL.q (Q1.fieldAddr fl30_9 rfl) rfl rfl ?_
  refine OL.q (Q1.load1 ti3 rfl (fun _ e => e ▸ (f1.cell 9 _ rfl))) rfl rfl ?_
  refine OL.q (Q1.fieldAddr fl30_10 rfl) rfl rfl ?_
  refine OL.q (Q1.load1 ti3 rfl (fun _ e => e ▸ (f1.cell 10 _ rfl))) rfl rfl ?_
  refine OL.q (Q1.fieldAddr fl30_11 rfl) rfl rfl ?_
  refine OL.q (Q1.load1 ti3 rfl (fun _ e => e ▸ (f1.cell 11 _ rfl))) rfl rfl ?_
  refine OL.act rfl rfl (AW.buildSlice [(.int .i64 c.workers : Value), (.int .i64 c.copies : Value), (.int .i64 c.slots : Value), (.int .i64 c.batch : Value), (.int .i64 c.lease : Value), (.int .i64 c.hedge : Value), (.int .i64 c.first : Value), (.int .i64 c.cap : Value), (.int .i64 c.jitter : Value), (.int .i64 c.net : Value)] Tryd.underlying82 ti3 rfl rfl rfl (by decide) ?_)
  intro w2 b2 hm2 hb2 hz2 hk2
  have hS3 := hS2.ext hm2
  have hl1 := Sl.of_blk (enc := Ik.encI) hk2 ([c.workers, c.copies, c.slots, c.batch, c.lease, c.hedge, c.first, c.cap, c.jitter, c.net] : List Int) 10 rfl rfl (by unfold maxLen; omega)
  have hS4 : St (fun _ => False) (fun _ => False) w0 w2 [bkR b1 [v_c_words, v_c_cuts, .int .i64 c.workers, .int .i64 c.copies, .int .i64 c.slots, .int .i64 c.batch, .int .i64 c.lease, .int .i64 c.hedge, .int .i64 c.first, .int .i64 c.cap, .int .i64 c.jitter, .int .i64 c.net] 30, slR Ik.encI [((.slice (some ⟨b2, 0, none⟩) 10 10), [c.workers, c.copies, c.slots, c.batch, c.lease, c.hedge, c.first, c.cap, c.jitter, c.net])]] := hS2.newSlB hm2 hb2 hz2 hl1
  refine OL.q (Q1.assign rfl) rfl rfl ?_
  refine OL.nil ?_
  refine r_ret1 Tryd.func39 rfl rfl ?_
  have f2 := hS4.slOut (i := 1) (k := 0) rfl rfl
  exact Ret.mk ⟨(Sl.cast f2 (by rfl)), hS4.mod⟩
set_option maxRecDepth 20000 in
set_option maxHeartbeats 4000000 in
theorem revent29_c {w0 : World}  {e : Evt} (he : EvI e) :
    Calls Tryd.prog 40 #[.agg #[.int .i64 e.kind, .int .i64 e.node, .int .i64 e.at_, .int .i64 e.x, strV e.q.text, .int .i64 e.q.k, .int .i64 e.q.n]] w0 (Ret fun rv w1 => ∃ u0 u1, rv = .tuple #[u0, u1] ∧ u0 = strV (reT e) ∧ (∃ rb : Bool, rb = (!badE e) ∧ u1 = .bool rb) ∧ Ext w0 w1) := by
  have het := he.text
  have hql := quote_len e.q.text
  have hrl1 := rn_len [e.q.k, e.q.n] (by (intro n hn; simp at hn; rcases hn with rfl | rfl; exact he.k; exact he.n))
  have hrl2 := rn_len [e.kind, e.node, e.at_, e.x] (by (intro n hn; simp at hn; rcases hn with rfl | rfl | rfl | rfl; exact he.kind; exact he.node; exact he.at_; exact he.x))
  simp only [List.length_cons, List.length_nil] at hrl1 hrl2
  have hS0 := St.start0 w0
  refine calls_enter Tryd.func40 rfl Tryd.ntmps40 rfl ?_
  refine r_seq ?_
  refine r_region ?_
  refine OL.act rfl rfl (AW.box [.int .i64 e.kind, .int .i64 e.node, .int .i64 e.at_, .int .i64 e.x, strV e.q.text, .int .i64 e.q.k, .int .i64 e.q.n] rfl rfl ?_)
  intro w1 b1 hm1 hb1 hz1 hk1
  have hS1 := hS0.ext hm1
  have hS2 : St (fun _ => False) (fun _ => False) w0 w1 [bkR b1 [.int .i64 e.kind, .int .i64 e.node, .int .i64 e.at_, .int .i64 e.x, strV e.q.text, .int .i64 e.q.k, .int .i64 e.q.n] 50] := hS0.newBk hm1 hb1 hk1
  refine OL.q (Q1.assign rfl) rfl rfl ?_
  refine OL.q (Q1.assign rfl) rfl rfl ?_
  refine OL.nil ?_
  refine r_seq ?_
  refine r_seq ?_
  refine r_region ?_
  refine OL.q (Q1.fieldAddr fl50_0 rfl) rfl rfl ?_
  have f1 := hS2.bk (i := 0) rfl
  refine OL.q (Q1.load1 ti3 rfl (fun _ e => e ▸ (f1.cell 0 _ rfl))) rfl rfl ?_
  refine OL.qb (Q1.eq rfl rfl) rfl rfl ?_
  intro b2 hb2
  refine OL.nil ?_
  cases b2 with
  | true =>
    replace hb2 := eq_of_beq hb2.symm
    refine r_cond_t rfl ?_
    refine r_seq ?_
    refine r_region ?_
    refine OL.q (Q1.fieldAddr fl50_4 rfl) rfl rfl ?_
    refine OL.q (Q1.fieldAddr fl48_1 rfl) rfl rfl ?_
    refine OL.q (Q1.load1 ti3 rfl (fun _ e => e ▸ (f1.cell 5 _ rfl))) rfl rfl ?_
    refine OL.q (Q1.fieldAddr fl50_4 rfl) rfl rfl ?_
    refine OL.q (Q1.fieldAddr fl48_2 rfl) rfl rfl ?_
    refine OL.q (Q1.load1 ti3 rfl (fun _ e => e ▸ (f1.cell 6 _ rfl))) rfl rfl ?_
    refine OL.act rfl rfl (AW.buildSlice [(.int .i64 e.q.k : Value), (.int .i64 e.q.n : Value)] Tryd.underlying82 ti3 rfl rfl rfl (by decide) ?_)
    intro w2 b3 hm2 hb3 hz2 hk2
    have hS3 := hS2.ext hm2
    have hl1 := Sl.of_blk (enc := Ik.encI) hk2 ([e.q.k, e.q.n] : List Int) 2 rfl rfl (by unfold maxLen; omega)
    have hS4 : St (fun _ => False) (fun _ => False) w0 w2 [bkR b1 [.int .i64 e.kind, .int .i64 e.node, .int .i64 e.at_, .int .i64 e.x, strV e.q.text, .int .i64 e.q.k, .int .i64 e.q.n] 50, slR Ik.encI [((.slice (some ⟨b3, 0, none⟩) 2 2), [e.q.k, e.q.n])]] := hS2.newSlB hm2 hb3 hz2 hl1
    have f2 := hS4.sl (i := 1) (k := 0) rfl rfl
    refine OL.act rfl rfl (AW.callF cl38 rfl (rnums_c (w0 := w2) (ns := [e.q.k, e.q.n])  f2 (by first | (intro n hn; simp at hn; rcases hn with rfl | rfl; exact he.k; exact he.n) | (intro n hn; simp at hn; rcases hn with rfl | rfl | rfl | rfl; exact he.kind; exact he.node; exact he.at_; exact he.x)) (by exact Nat.le_of_ble_eq_true rfl)) ?_)
    rintro _ w3 ⟨_, _, rfl, rfl, ⟨b4, hb4, rfl⟩, hm3⟩
    have hS5 := hS4.ext hm3
    refine OL.q (Q1.move rfl) rfl rfl ?_
    refine OL.q (Q1.extract rfl rfl) rfl rfl ?_
    refine OL.q (Q1.extract rfl rfl) rfl rfl ?_
    refine OL.q (Q1.assign rfl) rfl rfl ?_
    refine OL.q (Q1.assign rfl) rfl rfl ?_
    refine OL.nil ?_
    refine r_seq ?_
    refine r_draw1 (fun i => Nat.beq i 3) 25 (fun w' => Mod (Mg 0) w3 w') mixed (by kernel_rfl) ?_
    intro w4 hm4
    have hS6 := hS5.ext hm4
    have hCw4 : Mod (Mg 0) w3 w4 := Mod.ofExt hm4
    refine ⟨hCw4, ?_⟩
    rw [show List.range' 0 (Array.size _) = [0, 1, 2, 3, 4, 5, 6, 7, 8, 9, 10, 11, 12, 13, 14, 15, 16, 17, 18, 19, 20, 21, 22, 23, 24] from rfl]
    refine OD.q rfl rfl (Q1.fieldAddr fl50_4 rfl) rfl rfl ?_
    refine OD.q rfl rfl (Q1.fieldAddr fl48_0 rfl) rfl rfl ?_
    have f3 := hS5.bk (i := 0) rfl
    refine OD.q rfl rfl (Q1.load1 ti9 rfl (fun _ hc => (f3.cell 4 _ rfl).keepG hc (Nat.succ_ne_zero _))) rfl rfl ?_
    refine OD.act rfl rfl rfl rfl (AW.callF cl12 rfl (r29quote_c (w0 := w4)  e.q.text (by omega)) ?_)
    rintro _ w5 ⟨rfl, hm5⟩
    have hS7 := hS6.ext hm5
    have hCw5 := hCw4.ext hm5
    refine ⟨.inr hCw5, ?_⟩
    have := quote_len e.q.text
    refine OD.q rfl rfl (Q1.catS rfl rfl (by first | omega | (simp only [List.length_append]; omega) | (simp only [List.length_append, List.length_cons, List.length_nil]; omega))) rfl rfl ?_
    refine OD.q rfl rfl (Q1.move rfl) rfl rfl ?_
    refine OD.q rfl rfl (Q1.catS rfl rfl (by first | omega | (simp only [List.length_append]; omega) | (simp only [List.length_append, List.length_cons, List.length_nil]; omega))) rfl rfl ?_
    refine OD.q rfl rfl (Q1.move rfl) rfl rfl ?_
    refine OD.q rfl rfl (Q1.move rfl) rfl rfl ?_
    cases b4 with
    | true =>
      replace hb4 := hb4.symm
      refine OD.q rfl rfl (Q1.fieldAddr fl50_1 rfl) rfl rfl ?_
      have f4 := hS5.bk (i := 0) rfl
      refine OD.q rfl rfl (Q1.load1 ti3 rfl (fun _ hc => (f4.cell 1 _ rfl).keepG hc (Nat.succ_ne_zero _))) rfl rfl ?_
      refine OD.qb rfl rfl (Q1.eq rfl rfl) rfl rfl ?_
      intro b5 hb5
      refine OD.q rfl rfl (Q1.pick_t rfl rfl) rfl rfl ?_
      refine OD.q rfl rfl (Q1.move rfl) rfl rfl ?_
      cases b5 with
      | true =>
        replace hb5 := eq_of_beq hb5.symm
        refine OD.q rfl rfl (Q1.fieldAddr fl50_2 rfl) rfl rfl ?_
        refine OD.q rfl rfl (Q1.load1 ti3 rfl (fun _ hc => (f4.cell 2 _ rfl).keepG hc (Nat.succ_ne_zero _))) rfl rfl ?_
        refine OD.qb rfl rfl (Q1.eq rfl rfl) rfl rfl ?_
        intro b6 hb6
        refine OD.q rfl rfl (Q1.pick_t rfl rfl) rfl rfl ?_
        refine OD.q rfl rfl (Q1.move rfl) rfl rfl ?_
        cases b6 with
        | true =>
          replace hb6 := eq_of_beq hb6.symm
          refine OD.q rfl rfl (Q1.fieldAddr fl50_3 rfl) rfl rfl ?_
          refine OD.q rfl rfl (Q1.load1 ti3 rfl (fun _ hc => (f4.cell 3 _ rfl).keepG hc (Nat.succ_ne_zero _))) rfl rfl ?_
          refine OD.qb rfl rfl (Q1.eq rfl rfl) rfl rfl ?_
          intro b7 hb7
          refine OD.q rfl rfl (Q1.pick_t rfl rfl) rfl rfl ?_
          refine OD.q rfl rfl (Q1.assign rfl) rfl rfl ?_
          refine OD.q rfl rfl (Q1.assign rfl) rfl rfl ?_
          refine OD.nil ?_
          refine r_ret2 Tryd.func40 rfl rfl rfl ?_
          exact Ret.mk ⟨_, _, rfl, (congrArg strV (by first | exact reT_one (by assumption) | exact reT_two (by assumption) | exact re_a (by assumption) (by assumption) | exact re_b (by assumption) (by assumption) | exact re_c (by assumption) (by assumption) | exact re_d (by assumption) (by assumption) (by assumption) (by assumption) (by assumption) | exact re_e (by assumption) (by assumption) | exact re_f (by assumption) (by assumption) (by assumption) | (exfalso; omega))), ⟨_, (by first | exact reT_one (by assumption) | exact reT_two (by assumption) | exact re_a (by assumption) (by assumption) | exact re_b (by assumption) (by assumption) | exact re_c (by assumption) (by assumption) | exact re_d (by assumption) (by assumption) (by assumption) (by assumption) (by assumption) | exact re_e (by assumption) (by assumption) | exact re_f (by assumption) (by assumption) (by assumption) | (exfalso; omega)), rfl⟩, hS7.mod⟩
        | false =>
          replace hb6 := ne_of_beq_false hb6.symm
          refine OD.sk rfl rfl rfl ?_
          refine OD.sk rfl rfl rfl ?_
          refine OD.sk rfl rfl rfl ?_
          refine OD.q rfl rfl (Q1.pick_f rfl rfl) rfl rfl ?_
          refine OD.q rfl rfl (Q1.assign rfl) rfl rfl ?_
          refine OD.q rfl rfl (Q1.assign rfl) rfl rfl ?_
          refine OD.nil ?_
          refine r_ret2 Tryd.func40 rfl rfl rfl ?_
          exact Ret.mk ⟨_, _, rfl, (congrArg strV (by first | exact reT_one (by assumption) | exact reT_two (by assumption) | exact re_a (by assumption) (by assumption) | exact re_b (by assumption) (by assumption) | exact re_c (by assumption) (by assumption) | exact re_d (by assumption) (by assumption) (by assumption) (by assumption) (by assumption) | exact re_e (by assumption) (by assumption) | exact re_f (by assumption) (by assumption) (by assumption) | (exfalso; omega))), ⟨_, (by first | exact reT_one (by assumption) | exact reT_two (by assumption) | exact re_a (by assumption) (by assumption) | exact re_b (by assumption) (by assumption) | exact re_c (by assumption) (by assumption) | exact re_d (by assumption) (by assumption) (by assumption) (by assumption) (by assumption) | exact re_e (by assumption) (by assumption) | exact re_f (by assumption) (by assumption) (by assumption) | (exfalso; omega)), rfl⟩, hS7.mod⟩
      | false =>
        replace hb5 := ne_of_beq_false hb5.symm
        refine OD.sk rfl rfl rfl ?_
        refine OD.sk rfl rfl rfl ?_
        refine OD.sk rfl rfl rfl ?_
        refine OD.q rfl rfl (Q1.pick_f rfl rfl) rfl rfl ?_
        refine OD.q rfl rfl (Q1.move rfl) rfl rfl ?_
        refine OD.sk rfl rfl rfl ?_
        refine OD.sk rfl rfl rfl ?_
        refine OD.sk rfl rfl rfl ?_
        refine OD.q rfl rfl (Q1.pick_f rfl rfl) rfl rfl ?_
        refine OD.q rfl rfl (Q1.assign rfl) rfl rfl ?_
        refine OD.q rfl rfl (Q1.assign rfl) rfl rfl ?_
        refine OD.nil ?_
        refine r_ret2 Tryd.func40 rfl rfl rfl ?_
        exact Ret.mk ⟨_, _, rfl, (congrArg strV (by first | exact reT_one (by assumption) | exact reT_two (by assumption) | exact re_a (by assumption) (by assumption) | exact re_b (by assumption) (by assumption) | exact re_c (by assumption) (by assumption) | exact re_d (by assumption) (by assumption) (by assumption) (by assumption) (by assumption) | exact re_e (by assumption) (by assumption) | exact re_f (by assumption) (by assumption) (by assumption) | (exfalso; omega))), ⟨_, (by first | exact reT_one (by assumption) | exact reT_two (by assumption) | exact re_a (by assumption) (by assumption) | exact re_b (by assumption) (by assumption) | exact re_c (by assumption) (by assumption) | exact re_d (by assumption) (by assumption) (by assumption) (by assumption) (by assumption) | exact re_e (by assumption) (by assumption) | exact re_f (by assumption) (by assumption) (by assumption) | (exfalso; omega)), rfl⟩, hS7.mod⟩
    | false =>
      replace hb4 := hb4.symm
      refine OD.sk rfl rfl rfl ?_
      refine OD.sk rfl rfl rfl ?_
      refine OD.sk rfl rfl rfl ?_
      refine OD.q rfl rfl (Q1.pick_f rfl rfl) rfl rfl ?_
      refine OD.q rfl rfl (Q1.move rfl) rfl rfl ?_
      refine OD.sk rfl rfl rfl ?_
      refine OD.sk rfl rfl rfl ?_
      refine OD.sk rfl rfl rfl ?_
      refine OD.q rfl rfl (Q1.pick_f rfl rfl) rfl rfl ?_
      refine OD.q rfl rfl (Q1.move rfl) rfl rfl ?_
      refine OD.sk rfl rfl rfl ?_
      refine OD.sk rfl rfl rfl ?_
      refine OD.sk rfl rfl rfl ?_
      refine OD.q rfl rfl (Q1.pick_f rfl rfl) rfl rfl ?_
      refine OD.q rfl rfl (Q1.assign rfl) rfl rfl ?_
      refine OD.q rfl rfl (Q1.assign rfl) rfl rfl ?_
      refine OD.nil ?_
      refine r_ret2 Tryd.func40 rfl rfl rfl ?_
      exact Ret.mk ⟨_, _, rfl, (congrArg strV (by first | exact reT_one (by assumption) | exact reT_two (by assumption) | exact re_a (by assumption) (by assumption) | exact re_b (by assumption) (by assumption) | exact re_c (by assumption) (by assumption) | exact re_d (by assumption) (by assumption) (by assumption) (by assumption) (by assumption) | exact re_e (by assumption) (by assumption) | exact re_f (by assumption) (by assumption) (by assumption) | (exfalso; omega))), ⟨_, (by first | exact reT_one (by assumption) | exact reT_two (by assumption) | exact re_a (by assumption) (by assumption) | exact re_b (by assumption) (by assumption) | exact re_c (by assumption) (by assumption) | exact re_d (by assumption) (by assumption) (by assumption) (by assumption) (by assumption) | exact re_e (by assumption) (by assumption) | exact re_f (by assumption) (by assumption) (by assumption) | (exfalso; omega)), rfl⟩, hS7.mod⟩
  | false =>
    replace hb2 := ne_of_beq_false hb2.symm
    refine r_cond_f rfl ?_
    refine r_skip ?_
    refine r_seq ?_
    refine r_region ?_
    refine OL.q (Q1.fieldAddr fl50_0 rfl) rfl rfl ?_
    refine OL.q (Q1.load1 ti3 rfl (fun _ e => e ▸ (f1.cell 0 _ rfl))) rfl rfl ?_
    refine OL.q (Q1.fieldAddr fl50_1 rfl) rfl rfl ?_
    refine OL.q (Q1.load1 ti3 rfl (fun _ e => e ▸ (f1.cell 1 _ rfl))) rfl rfl ?_
    refine OL.q (Q1.fieldAddr fl50_2 rfl) rfl rfl ?_
    refine OL.q (Q1.load1 ti3 rfl (fun _ e => e ▸ (f1.cell 2 _ rfl))) rfl rfl ?_
    refine OL.q (Q1.fieldAddr fl50_3 rfl) rfl rfl ?_
    refine OL.q (Q1.load1 ti3 rfl (fun _ e => e ▸ (f1.cell 3 _ rfl))) rfl rfl ?_
    refine OL.act rfl rfl (AW.buildSlice [(.int .i64 e.kind : Value), (.int .i64 e.node : Value), (.int .i64 e.at_ : Value), (.int .i64 e.x : Value)] Tryd.underlying82 ti3 rfl rfl rfl (by decide) ?_)
    intro w2 b3 hm2 hb3 hz2 hk2
    have hS3 := hS2.ext hm2
    have hl1 := Sl.of_blk (enc := Ik.encI) hk2 ([e.kind, e.node, e.at_, e.x] : List Int) 4 rfl rfl (by unfold maxLen; omega)
    have hS4 : St (fun _ => False) (fun _ => False) w0 w2 [bkR b1 [.int .i64 e.kind, .int .i64 e.node, .int .i64 e.at_, .int .i64 e.x, strV e.q.text, .int .i64 e.q.k, .int .i64 e.q.n] 50, slR Ik.encI [((.slice (some ⟨b3, 0, none⟩) 4 4), [e.kind, e.node, e.at_, e.x])]] := hS2.newSlB hm2 hb3 hz2 hl1
    have f2 := hS4.sl (i := 1) (k := 0) rfl rfl
    refine OL.act rfl rfl (AW.callF cl38 rfl (rnums_c (w0 := w2) (ns := [e.kind, e.node, e.at_, e.x])  f2 (by first | (intro n hn; simp at hn; rcases hn with rfl | rfl; exact he.k; exact he.n) | (intro n hn; simp at hn; rcases hn with rfl | rfl | rfl | rfl; exact he.kind; exact he.node; exact he.at_; exact he.x)) (by exact Nat.le_of_ble_eq_true rfl)) ?_)
    rintro _ w3 ⟨_, _, rfl, rfl, ⟨b4, hb4, rfl⟩, hm3⟩
    have hS5 := hS4.ext hm3
    refine OL.q (Q1.move rfl) rfl rfl ?_
    refine OL.q (Q1.extract rfl rfl) rfl rfl ?_
    refine OL.q (Q1.extract rfl rfl) rfl rfl ?_
    refine OL.q (Q1.assign rfl) rfl rfl ?_
    refine OL.q (Q1.assign rfl) rfl rfl ?_
    refine OL.nil ?_
    refine r_seq ?_
    refine r_draw1 (fun i => false) 11 (fun w' => Mod (Mg 0) w3 w') mixed (by kernel_rfl) ?_
    intro w4 hm4
    have hS6 := hS5.ext hm4
    have hCw4 : Mod (Mg 0) w3 w4 := Mod.ofExt hm4
    refine ⟨hCw4, ?_⟩
    rw [show List.range' 0 (Array.size _) = [0, 1, 2, 3, 4, 5, 6, 7, 8, 9, 10] from rfl]
    refine OD.q rfl rfl (Q1.move rfl) rfl rfl ?_
    refine OD.q rfl rfl (Q1.catS rfl rfl (by first | omega | (simp only [List.length_append]; omega) | (simp only [List.length_append, List.length_cons, List.length_nil]; omega))) rfl rfl ?_
    refine OD.q rfl rfl (Q1.move rfl) rfl rfl ?_
    refine OD.q rfl rfl (Q1.move rfl) rfl rfl ?_
    cases b4 with
    | true =>
      replace hb4 := hb4.symm
      refine OD.q rfl rfl (Q1.fieldAddr fl50_4 rfl) rfl rfl ?_
      have f3 := hS5.bk (i := 0) rfl
      refine OD.q rfl rfl (Q1.loadN ti48 rfl (fun _ hc => (f3.part 4 3 (Nat.le_of_ble_eq_true rfl)).keepG hc (Nat.succ_ne_zero _)) rfl) rfl rfl ?_
      refine OD.q rfl rfl (Q1.build (vs := #[]) (v := .agg #[strV [], .int .i64 0, .int .i64 0]) rfl (fun _ => by kernel_rfl)) rfl rfl ?_
      refine OD.qb rfl rfl (Q1.eqStruct (by kernel_rfl) (eqS48 ((Qry.mk e.q.text e.q.k e.q.n)) ((Qry.mk [] 0 0))) rfl rfl) rfl rfl ?_
      intro b5 hb5
      refine OD.q rfl rfl (Q1.pick_t rfl rfl) rfl rfl ?_
      refine OD.q rfl rfl (Q1.assign rfl) rfl rfl ?_
      refine OD.q rfl rfl (Q1.assign rfl) rfl rfl ?_
      refine OD.nil ?_
      refine r_ret2 Tryd.func40 rfl rfl rfl ?_
      exact Ret.mk ⟨_, _, rfl, (congrArg strV (by first | exact reT_one (by assumption) | exact reT_two (by assumption) | exact re_a (by assumption) (by assumption) | exact re_b (by assumption) (by assumption) | exact re_c (by assumption) (by assumption) | exact re_d (by assumption) (by assumption) (by assumption) (by assumption) (by assumption) | exact re_e (by assumption) (by assumption) | exact re_f (by assumption) (by assumption) (by assumption) | (exfalso; omega))), ⟨_, (by first | exact reT_one (by assumption) | exact reT_two (by assumption) | exact re_a (by assumption) (by assumption) | exact re_b (by assumption) (by assumption) | exact re_c (by assumption) (by assumption) | exact re_d (by assumption) (by assumption) (by assumption) (by assumption) (by assumption) | exact re_e (by assumption) (by assumption) | exact re_f (by assumption) (by assumption) (by assumption) | (exfalso; omega)), rfl⟩, hS6.mod⟩
    | false =>
      replace hb4 := hb4.symm
      refine OD.sk rfl rfl rfl ?_
      refine OD.sk rfl rfl rfl ?_
      refine OD.sk rfl rfl rfl ?_
      refine OD.sk rfl rfl rfl ?_
      refine OD.q rfl rfl (Q1.pick_f rfl rfl) rfl rfl ?_
      refine OD.q rfl rfl (Q1.assign rfl) rfl rfl ?_
      refine OD.q rfl rfl (Q1.assign rfl) rfl rfl ?_
      refine OD.nil ?_
      refine r_ret2 Tryd.func40 rfl rfl rfl ?_
      exact Ret.mk ⟨_, _, rfl, (congrArg strV (by first | exact reT_one (by assumption) | exact reT_two (by assumption) | exact re_a (by assumption) (by assumption) | exact re_b (by assumption) (by assumption) | exact re_c (by assumption) (by assumption) | exact re_d (by assumption) (by assumption) (by assumption) (by assumption) (by assumption) | exact re_e (by assumption) (by assumption) | exact re_f (by assumption) (by assumption) (by assumption) | (exfalso; omega))), ⟨_, (by first | exact reT_one (by assumption) | exact reT_two (by assumption) | exact re_a (by assumption) (by assumption) | exact re_b (by assumption) (by assumption) | exact re_c (by assumption) (by assumption) | exact re_d (by assumption) (by assumption) (by assumption) (by assumption) (by assumption) | exact re_e (by assumption) (by assumption) | exact re_f (by assumption) (by assumption) (by assumption) | (exfalso; omega)), rfl⟩, hS6.mod⟩
set_option maxRecDepth 20000 in
set_option maxHeartbeats 4000000 in
theorem rprint29_c {w0 : World}  {c : Cfg} {v_c_words : Value} {v_c_cuts : Value} {v_es : Value} {es : List Evt} (h_c_words : Sl encS w0 (Iv 0 w0.heap.size) v_c_words c.words) (h_c_cuts : Sl encKey w0 (Iv 0 w0.heap.size) v_c_cuts c.cuts) (h_es : Sl encEvt w0 (Iv 0 w0.heap.size) v_es es) (hpr : PrOk c es) :
    Calls Tryd.prog 18 #[.agg #[v_c_words, v_c_cuts, .int .i64 c.workers, .int .i64 c.copies, .int .i64 c.slots, .int .i64 c.batch, .int .i64 c.lease, .int .i64 c.hedge, .int .i64 c.first, .int .i64 c.cap, .int .i64 c.jitter, .int .i64 c.net], v_es] w0 (Ret fun rv w1 => ∃ u0 u1, rv = .tuple #[u0, u1] ∧ u0 = strV ((printM c es).1) ∧ u1 = .int .i64 ((printM c es).2) ∧ Ext w0 w1) := by
  have hle_c_words := h_c_words.le
  have hle_c_cuts := h_c_cuts.le
  have hle_es := h_es.le
  have hwl := hpr.wl
  have hcl := hpr.cl
  have hel := hpr.el
  have hS0 := St.start0 w0
  refine calls_enter Tryd.func18 rfl Tryd.ntmps18 rfl ?_
  refine r_seq ?_
  refine r_region ?_
  refine OL.act rfl rfl (AW.box [v_c_words, v_c_cuts, .int .i64 c.workers, .int .i64 c.copies, .int .i64 c.slots, .int .i64 c.batch, .int .i64 c.lease, .int .i64 c.hedge, .int .i64 c.first, .int .i64 c.cap, .int .i64 c.jitter, .int .i64 c.net] rfl rfl ?_)
  intro w1 b1 hm1 hb1 hz1 hk1
  have hS1 := hS0.ext hm1
  have hS2 : St (fun _ => False) (fun _ => False) w0 w1 [bkR b1 [v_c_words, v_c_cuts, .int .i64 c.workers, .int .i64 c.copies, .int .i64 c.slots, .int .i64 c.batch, .int .i64 c.lease, .int .i64 c.hedge, .int .i64 c.first, .int .i64 c.cap, .int .i64 c.jitter, .int .i64 c.net] 30] := hS0.newBk hm1 hb1 hk1
  refine OL.q (Q1.assign rfl) rfl rfl ?_
  refine OL.q (Q1.assign rfl) rfl rfl ?_
  refine OL.nil ?_
  refine r_seq ?_
  refine r_region ?_
  refine OL.q (Q1.assign rfl) rfl rfl ?_
  refine OL.nil ?_
  refine r_seq ?_
  refine r_seq ?_
  refine r_region ?_
  refine OL.q (Q1.assign rfl) rfl rfl ?_
  refine OL.nil ?_
  refine r_block ?_
  have hS4 : St (fun _ => False) (fun _ => False) w0 w1 [bkR b1 [v_c_words, v_c_cuts, .int .i64 c.workers, .int .i64 c.copies, .int .i64 c.slots, .int .i64 c.batch, .int .i64 c.lease, .int .i64 c.hedge, .int .i64 c.first, .int .i64 c.cap, .int .i64 c.jitter, .int .i64 c.net] 30, accR encB 5 1 (.slice none 0 0) []] := hS2.newAcc (Mod.refl _ _) Acc.nil (.inl rfl)
  refine r_loop (I := fun m E W => ∃ (v_b : Value) (b : List UInt8) (i : Nat), E = [(1, v_es), (2, ptr b1 0), (6, v_b), (7, .int .i64 (((i : Nat) : Int)))] ∧ m = c.words.length - i ∧ St (fun _ => False) (fun _ => False) w0 W [bkR b1 [v_c_words, v_c_cuts, .int .i64 c.workers, .int .i64 c.copies, .int .i64 c.slots, .int .i64 c.batch, .int .i64 c.lease, .int .i64 c.hedge, .int .i64 c.first, .int .i64 c.cap, .int .i64 c.jitter, .int .i64 c.net] 30, accR encB 5 1 v_b b] ∧ (i ≤ c.words.length) ∧ (b = wT (c.words.take i)) ∧ (b.length ≤ i * 300011)) ?_ ?_
  · refine ⟨_, _, ⟨(.slice none 0 0 : Value), ([] : List UInt8), (0 : Nat), rfl, rfl, hS4, (by omega), (by rfl), (by exact Nat.zero_le _)⟩, ⟨rfl, rfl, rfl, rfl, trivial⟩⟩
  · rintro _ _ w2 ⟨v_b, b, i, rfl, rfl, hS3, hil, hb, hbl⟩ ih1
    refine r_seq ?_
    refine r_seq ?_
    refine r_region ?_
    refine OL.q (Q1.move rfl) rfl rfl ?_
    refine OL.q (Q1.fieldAddr fl30_0 rfl) rfl rfl ?_
    have f1 := hS3.bk (i := 0) rfl
    refine OL.q (Q1.load1 ti27 rfl (fun _ e => e ▸ (f1.cell 0 _ rfl))) rfl rfl ?_
    have f2 := hS3.out h_c_words (fun _ _ h => h)
    refine OL.q (Q1.lenSl Tryd.underlying27 (f2) rfl) rfl rfl ?_
    refine OL.qb (Q1.lt rfl rfl) rfl rfl ?_
    intro b2 hb2
    refine OL.nil ?_
    cases b2 with
    | true =>
      replace hb2 := of_decide_eq_true hb2.symm
      refine r_cond_t rfl ?_
      refine r_skip ?_
      refine r_seq ?_
      refine r_block ?_
      refine r_region ?_
      refine OL.q (Q1.move rfl) rfl rfl ?_
      refine OL.q (Q1.fieldAddr fl30_0 rfl) rfl rfl ?_
      refine OL.q (Q1.load1 ti27 rfl (fun _ e => e ▸ (f1.cell 0 _ rfl))) rfl rfl ?_
      refine OL.q (Q1.move rfl) rfl rfl ?_
      obtain ⟨x1, b3, o1, hx1, hr1, hl1, hw1⟩ := Sl.atF (P := Tryd.prog) f2 Tryd.underlying27 ti9 encS_len (k := .i64) (n := ((i : Nat) : Int)) (i) (by omega) (by first | assumption | omega)
      refine OL.q (Q1.indexAddr rfl rfl hr1) rfl rfl ?_
      refine OL.q (Q1.load1 ti9 rfl (fun _ e => e ▸ hw1)) rfl rfl ?_
      have hxl := hpr.ws _ (List.mem_of_getElem? hx1)
      have hql := quote_len x1
      refine OL.act rfl rfl (AW.callF cl12 rfl (r29quote_c (w0 := w2)  x1 (by omega)) ?_)
      rintro _ w3 ⟨rfl, hm2⟩
      have hS5 := hS3.ext hm2
      have := quote_len x1
      refine OL.q (Q1.catS rfl rfl (by first | omega | (simp only [List.length_append]; omega) | (simp only [List.length_append, List.length_cons, List.length_nil]; omega))) rfl rfl ?_
      refine OL.q (Q1.catS rfl rfl (by first | omega | (simp only [List.length_append]; omega) | (simp only [List.length_append, List.length_cons, List.length_nil]; omega))) rfl rfl ?_
      obtain ⟨g2, f3, hl2, k1⟩ := hS5.accK (i := 1) rfl
      refine OL.act rfl rfl (AW.appendStr f3 Tryd.underlying52 Tryd.underlying9 ti5 rfl rfl rfl (by first | omega | (simp only [List.length_append, List.length_cons, List.length_nil]; omega) | (simp; omega)) (by unfold maxLen; first | omega | (simp only [List.length_append, List.length_cons, List.length_nil]; omega) | (simp; omega)) ?_)
      intro v1 g1 w4 ha1 hm3 hg1 hz2
      have hS6 : St (fun _ => False) (fun _ => False) w0 w4 [bkR b1 [v_c_words, v_c_cuts, .int .i64 c.workers, .int .i64 c.copies, .int .i64 c.slots, .int .i64 c.batch, .int .i64 c.lease, .int .i64 c.hedge, .int .i64 c.first, .int .i64 c.cap, .int .i64 c.jitter, .int .i64 c.net] 30, accR encB 5 1 v1 ((b ++ ((([119, 111, 114, 100, 32] : Str) ++ (quoteM x1)) ++ ([10] : Str))))] := k1 _ _ _ _ hm3 ha1 hg1
      clear hg1
      refine OL.q (Q1.assign rfl) rfl rfl ?_
      refine OL.nil ?_
      refine r_inBlock ?_
      refine r_region ?_
      refine OL.q (Q1.move rfl) rfl rfl ?_
      refine OL.q (Q1.addI (((i + 1 : Nat) : Int)) rfl rfl (by omega)) rfl rfl ?_
      refine OL.q (Q1.assign rfl) rfl rfl ?_
      refine OL.nil ?_
      exact (ih1 _ _ _ ⟨(v1 : Value), ((b ++ ((([119, 111, 114, 100, 32] : Str) ++ (quoteM x1)) ++ ([10] : Str))) : List UInt8), (i + 1 : Nat), rfl, rfl, hS6, (by first | omega | (exfalso; omega)), (by first | rw [hb, wT_step hx1]; simp [wordB, wWord] | (exfalso; omega)), (by first | (simp only [List.length_append, List.length_cons, List.length_nil]; omega) | (exfalso; omega))⟩ (by omega)).sub ⟨rfl, rfl, rfl, rfl, trivial⟩
    | false =>
      replace hb2 := of_decide_eq_false hb2.symm
      refine r_cond_f rfl ?_
      refine r_exit rfl ?_
      refine r_seq ?_
      refine r_seq ?_
      refine r_region ?_
      refine OL.q (Q1.assign rfl) rfl rfl ?_
      refine OL.nil ?_
      refine r_block ?_
      refine r_loop (I := fun m E W => ∃ (v_b2 : Value) (b2 : List UInt8) (j : Nat), E = [(1, v_es), (2, ptr b1 0), (6, v_b2), (8, .int .i64 (((j : Nat) : Int)))] ∧ m = c.cuts.length - j ∧ St (fun _ => False) (fun _ => False) w0 W [bkR b1 [v_c_words, v_c_cuts, .int .i64 c.workers, .int .i64 c.copies, .int .i64 c.slots, .int .i64 c.batch, .int .i64 c.lease, .int .i64 c.hedge, .int .i64 c.first, .int .i64 c.cap, .int .i64 c.jitter, .int .i64 c.net] 30, accR encB 5 1 v_b2 b2] ∧ (j ≤ c.cuts.length) ∧ (b2 = wT c.words ++ cT (c.cuts.take j)) ∧ ((c.cuts.take j).any (fun k => badN k.len) = false) ∧ (b2.length ≤ 40000000000 + j * 300041)) ?_ ?_
      · refine ⟨_, _, ⟨(v_b : Value), (b : List UInt8), (0 : Nat), rfl, rfl, hS3, (by omega), (by rw [hb, List.take_of_length_le (by omega)]; simp [cT]), (by rfl), (by omega)⟩, ⟨rfl, rfl, rfl, rfl, trivial⟩⟩
      · rintro _ _ w3 ⟨v_b2, b2, j, rfl, rfl, hS5, hjl, hb2, hcb, hbl2⟩ ih2
        refine r_seq ?_
        refine r_seq ?_
        refine r_region ?_
        refine OL.q (Q1.move rfl) rfl rfl ?_
        refine OL.q (Q1.fieldAddr fl30_1 rfl) rfl rfl ?_
        have f3 := hS5.bk (i := 0) rfl
        refine OL.q (Q1.load1 ti28 rfl (fun _ e => e ▸ (f3.cell 1 _ rfl))) rfl rfl ?_
        have f4 := hS5.out h_c_cuts (fun _ _ h => h)
        refine OL.q (Q1.lenSl Tryd.underlying28 (f4) rfl) rfl rfl ?_
        refine OL.qb (Q1.lt rfl rfl) rfl rfl ?_
        intro b3 hb3
        refine OL.nil ?_
        cases b3 with
        | true =>
          replace hb3 := of_decide_eq_true hb3.symm
          refine r_cond_t rfl ?_
          refine r_skip ?_
          refine r_seq ?_
          refine r_block ?_
          refine r_seq ?_
          refine r_region ?_
          refine OL.q (Q1.fieldAddr fl30_1 rfl) rfl rfl ?_
          refine OL.q (Q1.load1 ti28 rfl (fun _ e => e ▸ (f3.cell 1 _ rfl))) rfl rfl ?_
          refine OL.q (Q1.move rfl) rfl rfl ?_
          obtain ⟨x1, b4, o1, hx1, hr1, hl1, hw1⟩ := Sl.atF (P := Tryd.prog) f4 Tryd.underlying28 ti72 encKey_len (k := .i64) (n := ((j : Nat) : Int)) (j) (by omega) (by first | assumption | omega)
          refine OL.q (Q1.indexAddr rfl rfl hr1) rfl rfl ?_
          refine OL.q (Q1.fieldAddr fl72_0 rfl) rfl rfl ?_
          have hr2 := hw1.sub 0 1 (Nat.le_of_ble_eq_true rfl)
          refine OL.q (Q1.load1 ti3 rfl (fun _ e => e ▸ hr2)) rfl rfl ?_
          have hxl := (hpr.cs _ (List.mem_of_getElem? hx1)).2
          have hql := quote_len x1.text
          refine OL.act rfl rfl (AW.buildSlice [(.int .i64 x1.len : Value)] Tryd.underlying82 ti3 rfl rfl rfl (by decide) ?_)
          intro w4 b5 hm2 hb4 hz2 hk2
          have hS6 := hS5.ext hm2
          have hl2 := Sl.of_blk (enc := Ik.encI) hk2 ([x1.len] : List Int) 1 rfl rfl (by unfold maxLen; omega)
          have hS7 : St (fun _ => False) (fun _ => False) w0 w4 [bkR b1 [v_c_words, v_c_cuts, .int .i64 c.workers, .int .i64 c.copies, .int .i64 c.slots, .int .i64 c.batch, .int .i64 c.lease, .int .i64 c.hedge, .int .i64 c.first, .int .i64 c.cap, .int .i64 c.jitter, .int .i64 c.net] 30, accR encB 5 1 v_b2 b2, slR Ik.encI [((.slice (some ⟨b5, 0, none⟩) 1 1), [x1.len])]] := hS5.newSlB hm2 hb4 hz2 hl2
          have f5 := hS7.sl (i := 2) (k := 0) rfl rfl
          refine OL.act rfl rfl (AW.callF cl38 rfl (rnums_c (w0 := w4) (ns := [x1.len])  f5 (by first | exact hpr.ns | (intro n hn; simp at hn; subst hn; exact (hpr.cs _ (List.mem_of_getElem? hx1)).1)) (by exact Nat.le_of_ble_eq_true rfl)) ?_)
          rintro _ w5 ⟨_, _, rfl, rfl, ⟨b6, hb5, rfl⟩, hm3⟩
          have hS8 := hS7.ext hm3
          refine OL.q (Q1.move rfl) rfl rfl ?_
          refine OL.q (Q1.extract rfl rfl) rfl rfl ?_
          refine OL.q (Q1.extract rfl rfl) rfl rfl ?_
          refine OL.q (Q1.assign rfl) rfl rfl ?_
          refine OL.q (Q1.assign rfl) rfl rfl ?_
          refine OL.nil ?_
          refine r_seq ?_
          refine r_seq ?_
          refine r_region ?_
          refine OL.q (Q1.move rfl) rfl rfl ?_
          cases b6 with
          | true =>
            replace hb5 := hb5.symm
            refine OL.q (Q1.not rfl) rfl rfl ?_
            refine OL.nil ?_
            refine r_cond_f rfl ?_
            refine r_skip ?_
            refine r_region ?_
            refine OL.q (Q1.move rfl) rfl rfl ?_
            obtain ⟨hr1, hr2⟩ := rn_ok (ns := [x1.len]) (by assumption)
            have hrl := rn_len [x1.len] (by (intro n hn; simp at hn; subst hn; exact (hpr.cs _ (List.mem_of_getElem? hx1)).1))
            simp only [List.length_cons, List.length_nil] at hrl
            refine OL.q (Q1.move rfl) rfl rfl ?_
            refine OL.q (Q1.catS rfl rfl (by first | omega | (simp only [List.length_append]; omega) | (simp only [List.length_append, List.length_cons, List.length_nil]; omega))) rfl rfl ?_
            refine OL.q (Q1.catS rfl rfl (by first | omega | (simp only [List.length_append]; omega) | (simp only [List.length_append, List.length_cons, List.length_nil]; omega))) rfl rfl ?_
            refine OL.q (Q1.fieldAddr fl30_1 rfl) rfl rfl ?_
            have f6 := hS8.bk (i := 0) rfl
            refine OL.q (Q1.load1 ti28 rfl (fun _ e => e ▸ (f6.cell 1 _ rfl))) rfl rfl ?_
            refine OL.q (Q1.move rfl) rfl rfl ?_
            have f7 := hS8.out h_c_cuts (fun _ _ h => h)
            obtain ⟨x2, b7, o2, hx2, hr3, hl3, hw2⟩ := Sl.atF (P := Tryd.prog) f7 Tryd.underlying28 ti72 encKey_len (k := .i64) (n := ((j : Nat) : Int)) (j) (by omega) (by first | assumption | omega)
            obtain rfl : x1 = x2 := Option.some.inj (hx1.symm.trans hx2)
            refine OL.q (Q1.indexAddr rfl rfl hr3) rfl rfl ?_
            refine OL.q (Q1.fieldAddr fl72_1 rfl) rfl rfl ?_
            have hr4 := hw2.sub 1 1 (Nat.le_of_ble_eq_true rfl)
            refine OL.q (Q1.load1 ti9 rfl (fun _ e => e ▸ hr4)) rfl rfl ?_
            refine OL.act rfl rfl (AW.callF cl12 rfl (r29quote_c (w0 := w5)  x1.text (by omega)) ?_)
            rintro _ w6 ⟨rfl, hm4⟩
            have hS9 := hS8.ext hm4
            have := quote_len x1.text
            refine OL.q (Q1.catS rfl rfl (by first | omega | (simp only [List.length_append]; omega) | (simp only [List.length_append, List.length_cons, List.length_nil]; omega))) rfl rfl ?_
            refine OL.q (Q1.catS rfl rfl (by first | omega | (simp only [List.length_append]; omega) | (simp only [List.length_append, List.length_cons, List.length_nil]; omega))) rfl rfl ?_
            obtain ⟨g2, f8, hl4, k1⟩ := hS9.accK (i := 1) rfl
            refine OL.act rfl rfl (AW.appendStr f8 Tryd.underlying52 Tryd.underlying9 ti5 rfl rfl rfl (by first | omega | (simp only [List.length_append, List.length_cons, List.length_nil]; omega) | (simp; omega)) (by unfold maxLen; first | omega | (simp only [List.length_append, List.length_cons, List.length_nil]; omega) | (simp; omega)) ?_)
            intro v1 g1 w7 ha1 hm5 hg1 hz3
            have hS10 : St (fun _ => False) (fun _ => False) w0 w7 [bkR b1 [v_c_words, v_c_cuts, .int .i64 c.workers, .int .i64 c.copies, .int .i64 c.slots, .int .i64 c.batch, .int .i64 c.lease, .int .i64 c.hedge, .int .i64 c.first, .int .i64 c.cap, .int .i64 c.jitter, .int .i64 c.net] 30, accR encB 5 1 v1 ((b2 ++ ((((([99, 117, 116] : Str) ++ ((rnumsM [x1.len]).1)) ++ ([32] : Str)) ++ (quoteM x1.text)) ++ ([10] : Str)))), slR Ik.encI [((.slice (some ⟨b5, 0, none⟩) 1 1), [x1.len])]] := k1 _ _ _ _ hm5 ha1 hg1
            clear hg1
            refine OL.q (Q1.assign rfl) rfl rfl ?_
            refine OL.nil ?_
            refine r_inBlock ?_
            refine r_region ?_
            refine OL.q (Q1.move rfl) rfl rfl ?_
            refine OL.q (Q1.addI (((j + 1 : Nat) : Int)) rfl rfl (by omega)) rfl rfl ?_
            refine OL.q (Q1.assign rfl) rfl rfl ?_
            refine OL.nil ?_
            have hS11 : St (fun _ => False) (fun _ => False) w0 w7 [bkR b1 [v_c_words, v_c_cuts, .int .i64 c.workers, .int .i64 c.copies, .int .i64 c.slots, .int .i64 c.batch, .int .i64 c.lease, .int .i64 c.hedge, .int .i64 c.first, .int .i64 c.cap, .int .i64 c.jitter, .int .i64 c.net] 30, accR encB 5 1 v1 ((b2 ++ ((((([99, 117, 116] : Str) ++ ((rnumsM [x1.len]).1)) ++ ([32] : Str)) ++ (quoteM x1.text)) ++ ([10] : Str))))] := hS10.sel [0, 1] (by rfl) (by decide)
            exact (ih2 _ _ _ ⟨(v1 : Value), ((b2 ++ ((((([99, 117, 116] : Str) ++ ((rnumsM [x1.len]).1)) ++ ([32] : Str)) ++ (quoteM x1.text)) ++ ([10] : Str))) : List UInt8), (j + 1 : Nat), rfl, rfl, hS11, (by first | omega | (exfalso; omega)), (by first | rw [hb2, cT_step hx1, hr1]; simp [cutB, wCut] | (exfalso; omega)), (by first | exact cb_no hcb hx1 hr2 | (exfalso; omega)), (by first | (simp only [List.length_append, List.length_cons, List.length_nil]; omega) | (exfalso; omega))⟩ (by omega)).sub ⟨rfl, rfl, rfl, rfl, trivial⟩
          | false =>
            replace hb5 := hb5.symm
            refine OL.q (Q1.not rfl) rfl rfl ?_
            refine OL.nil ?_
            refine r_cond_t rfl ?_
            refine r_seq ?_
            refine r_region ?_
            refine OL.q (Q1.assign rfl) rfl rfl ?_
            refine OL.q (Q1.assign rfl) rfl rfl ?_
            refine OL.nil ?_
            refine r_ret2 Tryd.func18 rfl rfl rfl ?_
            exact Ret.mk ⟨_, _, rfl, (congrArg strV (by first | (rw [pr_cut hx1 (by assumption)]; done) | (rw [pr_set (by assumption)]; done) | (rw [pr_ev hx1 (by assumption)]; done) | (rw [pr_full hpb (hpt ▸ (by omega))]; done) | (rw [pr_ok hpb (hpt ▸ (by omega)), hpt]; done) | (exfalso; omega))), (congrArg (Value.int .i64) (by first | (rw [pr_cut hx1 (by assumption)]; done) | (rw [pr_set (by assumption)]; done) | (rw [pr_ev hx1 (by assumption)]; done) | (rw [pr_full hpb (hpt ▸ (by omega))]; done) | (rw [pr_ok hpb (hpt ▸ (by omega)), hpt]; done) | (exfalso; omega))), hS8.mod⟩
        | false =>
          replace hb3 := of_decide_eq_false hb3.symm
          refine r_cond_f rfl ?_
          refine r_exit rfl ?_
          refine r_seq ?_
          refine r_region ?_
          refine OL.q (Q1.loadN ti30 rfl (fun _ e => e ▸ f3.row) rfl) rfl rfl ?_
          have f5 := hS5.out h_c_words (fun _ _ h => h)
          refine OL.act rfl rfl (AW.callF cl39 rfl (rset29_c (w0 := w3) (c := c)  (f5.iv (Nat.zero_le _) hS5.mod.size) (f4.iv (Nat.zero_le _) hS5.mod.size)) ?_)
          rintro v1 w4 ⟨h1, hm2⟩
          have hS6 := hS5.ext hm2
          have hS7 : St (fun _ => False) (fun _ => False) w0 w4 [bkR b1 [v_c_words, v_c_cuts, .int .i64 c.workers, .int .i64 c.copies, .int .i64 c.slots, .int .i64 c.batch, .int .i64 c.lease, .int .i64 c.hedge, .int .i64 c.first, .int .i64 c.cap, .int .i64 c.jitter, .int .i64 c.net] 30, accR encB 5 1 v_b2 b2, slR Ik.encI [(v1, (setNums c))]] := hS5.newSl hm2 h1
          have hle_1 := h1.le
          have f6 := hS7.sl (i := 2) (k := 0) rfl rfl
          refine OL.act rfl rfl (AW.callF cl38 rfl (rnums_c (w0 := w4) (ns := (setNums c))  f6 (by first | exact hpr.ns | (intro n hn; simp at hn; subst hn; exact (hpr.cs _ (List.mem_of_getElem? hx1)).1)) (by exact Nat.le_of_ble_eq_true rfl)) ?_)
          rintro _ w5 ⟨_, _, rfl, rfl, ⟨b4, hb4, rfl⟩, hm3⟩
          have hS8 := hS7.ext hm3
          refine OL.q (Q1.move rfl) rfl rfl ?_
          refine OL.q (Q1.extract rfl rfl) rfl rfl ?_
          refine OL.q (Q1.extract rfl rfl) rfl rfl ?_
          refine OL.q (Q1.assign rfl) rfl rfl ?_
          refine OL.q (Q1.assign rfl) rfl rfl ?_
          refine OL.nil ?_
          refine r_seq ?_
          refine r_seq ?_
          refine r_region ?_
          refine OL.q (Q1.move rfl) rfl rfl ?_
          cases b4 with
          | true =>
            replace hb4 := hb4.symm
            refine OL.q (Q1.not rfl) rfl rfl ?_
            refine OL.nil ?_
            refine r_cond_f rfl ?_
            refine r_skip ?_
            refine r_seq ?_
            refine r_region ?_
            refine OL.q (Q1.move rfl) rfl rfl ?_
            obtain ⟨hs1, hs2⟩ := rn_ok (ns := setNums c) (by assumption)
            have hsl := rn_len (setNums c) hpr.ns
            have hsl2 : (setNums c).length = 10 := rfl
            refine OL.q (Q1.move rfl) rfl rfl ?_
            refine OL.q (Q1.catS rfl rfl (by first | omega | (simp only [List.length_append]; omega) | (simp only [List.length_append, List.length_cons, List.length_nil]; omega))) rfl rfl ?_
            refine OL.q (Q1.catS rfl rfl (by first | omega | (simp only [List.length_append]; omega) | (simp only [List.length_append, List.length_cons, List.length_nil]; omega))) rfl rfl ?_
            obtain ⟨g2, f7, hl1, k1⟩ := hS8.accK (i := 1) rfl
            refine OL.act rfl rfl (AW.appendStr f7 Tryd.underlying52 Tryd.underlying9 ti5 rfl rfl rfl (by first | omega | (simp only [List.length_append, List.length_cons, List.length_nil]; omega) | (simp; omega)) (by unfold maxLen; first | omega | (simp only [List.length_append, List.length_cons, List.length_nil]; omega) | (simp; omega)) ?_)
            intro v2 g1 w6 ha1 hm4 hg1 hz2
            have hS9 : St (fun _ => False) (fun _ => False) w0 w6 [bkR b1 [v_c_words, v_c_cuts, .int .i64 c.workers, .int .i64 c.copies, .int .i64 c.slots, .int .i64 c.batch, .int .i64 c.lease, .int .i64 c.hedge, .int .i64 c.first, .int .i64 c.cap, .int .i64 c.jitter, .int .i64 c.net] 30, accR encB 5 1 v2 ((b2 ++ ((([115, 101, 116] : Str) ++ ((rnumsM ((setNums c))).1)) ++ ([10] : Str)))), slR Ik.encI [(v1, (setNums c))]] := k1 _ _ _ _ hm4 ha1 hg1
            clear hg1
            refine OL.q (Q1.assign rfl) rfl rfl ?_
            refine OL.nil ?_
            refine r_seq ?_
            refine r_seq ?_
            refine r_region ?_
            refine OL.q (Q1.assign rfl) rfl rfl ?_
            refine OL.nil ?_
            refine r_block ?_
            have hS11 : St (fun _ => False) (fun _ => False) w0 w6 [accR encB 5 1 v2 ((b2 ++ ((([115, 101, 116] : Str) ++ ((rnumsM ((setNums c))).1)) ++ ([10] : Str))))] := hS9.sel [1] (by rfl) (by decide)
            refine r_loop (I := fun m E W => ∃ (v_b3 : Value) (b3 : List UInt8) (k : Nat), E = [(1, v_es), (6, v_b3), (13, .int .i64 (((k : Nat) : Int)))] ∧ m = es.length - k ∧ St (fun _ => False) (fun _ => False) w0 W [accR encB 5 1 v_b3 b3] ∧ (k ≤ es.length) ∧ (b3 = wT c.words ++ cT c.cuts ++ (setB c ++ [10]) ++ eT (es.take k)) ∧ ((es.take k).any badE = false) ∧ (b3.length ≤ 80000000000 + k * 300101)) ?_ ?_
            · refine ⟨_, _, ⟨(v2 : Value), ((b2 ++ ((([115, 101, 116] : Str) ++ ((rnumsM ((setNums c))).1)) ++ ([10] : Str))) : List UInt8), (0 : Nat), rfl, rfl, hS11, (by omega), (by rw [hb2, List.take_of_length_le (by omega), hs1]; simp [eT, setB, wSet]), (by rfl), (by (simp only [List.length_append, List.length_cons, List.length_nil]; omega))⟩, ⟨rfl, rfl, rfl, trivial⟩⟩
            · rintro _ _ w7 ⟨v_b3, b3, k, rfl, rfl, hS10, hkl, hb3, hbe, hbl3⟩ ih3
              have hcb2 : (c.cuts.any fun k => badN k.len) = false := by rw [← hcb, List.take_of_length_le (by omega)]
              refine r_seq ?_
              refine r_seq ?_
              refine r_region ?_
              refine OL.q (Q1.move rfl) rfl rfl ?_
              refine OL.q (Q1.move rfl) rfl rfl ?_
              have f8 := hS10.out h_es (fun _ _ h => h)
              refine OL.q (Q1.lenSl Tryd.underlying31 (f8) rfl) rfl rfl ?_
              refine OL.qb (Q1.lt rfl rfl) rfl rfl ?_
              intro b5 hb5
              refine OL.nil ?_
              cases b5 with
              | true =>
                replace hb5 := of_decide_eq_true hb5.symm
                refine r_cond_t rfl ?_
                refine r_skip ?_
                refine r_seq ?_
                refine r_block ?_
                refine r_seq ?_
                refine r_region ?_
                refine OL.q (Q1.move rfl) rfl rfl ?_
                refine OL.q (Q1.move rfl) rfl rfl ?_
                obtain ⟨x1, b6, o1, hx1, hr1, hl2, hw1⟩ := Sl.atF (P := Tryd.prog) f8 Tryd.underlying31 ti50 encEvt_len (k := .i64) (n := ((k : Nat) : Int)) (k) (by omega) (by first | assumption | omega)
                refine OL.q (Q1.indexAddr rfl rfl hr1) rfl rfl ?_
                refine OL.q (Q1.loadN ti50 rfl (fun _ e => e ▸ hw1) rfl) rfl rfl ?_
                have hev := hpr.evs _ (List.mem_of_getElem? hx1)
                have hrt := reT_len hev
                refine OL.act rfl rfl (AW.callF cl40 rfl (revent29_c (w0 := w7) (e := x1)  (by assumption)) ?_)
                rintro _ w8 ⟨_, _, rfl, rfl, ⟨b7, hb6, rfl⟩, hm5⟩
                have hS12 := hS10.ext hm5
                refine OL.q (Q1.move rfl) rfl rfl ?_
                refine OL.q (Q1.extract rfl rfl) rfl rfl ?_
                refine OL.q (Q1.extract rfl rfl) rfl rfl ?_
                refine OL.q (Q1.assign rfl) rfl rfl ?_
                refine OL.q (Q1.assign rfl) rfl rfl ?_
                refine OL.nil ?_
                refine r_seq ?_
                refine r_seq ?_
                refine r_region ?_
                refine OL.q (Q1.move rfl) rfl rfl ?_
                cases b7 with
                | true =>
                  replace hb6 := hb6.symm
                  refine OL.q (Q1.not rfl) rfl rfl ?_
                  refine OL.nil ?_
                  refine r_cond_f rfl ?_
                  refine r_skip ?_
                  refine r_region ?_
                  refine OL.q (Q1.move rfl) rfl rfl ?_
                  have hok := reT_ok (e := x1) (by simpa using (by assumption : (!badE x1) = true))
                  refine OL.q (Q1.move rfl) rfl rfl ?_
                  refine OL.q (Q1.catS rfl rfl (by first | omega | (simp only [List.length_append]; omega) | (simp only [List.length_append, List.length_cons, List.length_nil]; omega))) rfl rfl ?_
                  obtain ⟨g4, f9, hl3, k2⟩ := hS12.accK (i := 0) rfl
                  refine OL.act rfl rfl (AW.appendStr f9 Tryd.underlying52 Tryd.underlying9 ti5 rfl rfl rfl (by first | omega | (simp only [List.length_append, List.length_cons, List.length_nil]; omega) | (simp; omega)) (by unfold maxLen; first | omega | (simp only [List.length_append, List.length_cons, List.length_nil]; omega) | (simp; omega)) ?_)
                  intro v3 g3 w9 ha2 hm6 hg2 hz3
                  have hS13 : St (fun _ => False) (fun _ => False) w0 w9 [accR encB 5 1 v3 ((b3 ++ ((reT x1) ++ ([10] : Str))))] := k2 _ _ _ _ hm6 ha2 hg2
                  clear hg2
                  refine OL.q (Q1.assign rfl) rfl rfl ?_
                  refine OL.nil ?_
                  refine r_inBlock ?_
                  refine r_region ?_
                  refine OL.q (Q1.move rfl) rfl rfl ?_
                  refine OL.q (Q1.addI (((k + 1 : Nat) : Int)) rfl rfl (by omega)) rfl rfl ?_
                  refine OL.q (Q1.assign rfl) rfl rfl ?_
                  refine OL.nil ?_
                  exact (ih3 _ _ _ ⟨(v3 : Value), ((b3 ++ ((reT x1) ++ ([10] : Str))) : List UInt8), (k + 1 : Nat), rfl, rfl, hS13, (by first | omega | (exfalso; omega)), (by first | rw [hb3, eT_step hx1, hok]; simp | (exfalso; omega)), (by first | exact eb_no hbe hx1 (by assumption) | (exfalso; omega)), (by first | (simp only [List.length_append, List.length_cons, List.length_nil]; omega) | (exfalso; omega))⟩ (by omega)).sub ⟨rfl, rfl, rfl, trivial⟩
                | false =>
                  replace hb6 := hb6.symm
                  refine OL.q (Q1.not rfl) rfl rfl ?_
                  refine OL.nil ?_
                  refine r_cond_t rfl ?_
                  refine r_seq ?_
                  refine r_region ?_
                  refine OL.q (Q1.assign rfl) rfl rfl ?_
                  refine OL.q (Q1.assign rfl) rfl rfl ?_
                  refine OL.nil ?_
                  refine r_ret2 Tryd.func18 rfl rfl rfl ?_
                  exact Ret.mk ⟨_, _, rfl, (congrArg strV (by first | (rw [pr_cut hx1 (by assumption)]; done) | (rw [pr_set (by assumption)]; done) | (rw [pr_ev hx1 (by assumption)]; done) | (rw [pr_full hpb (hpt ▸ (by omega))]; done) | (rw [pr_ok hpb (hpt ▸ (by omega)), hpt]; done) | (exfalso; omega))), (congrArg (Value.int .i64) (by first | (rw [pr_cut hx1 (by assumption)]; done) | (rw [pr_set (by assumption)]; done) | (rw [pr_ev hx1 (by assumption)]; done) | (rw [pr_full hpb (hpt ▸ (by omega))]; done) | (rw [pr_ok hpb (hpt ▸ (by omega)), hpt]; done) | (exfalso; omega))), hS12.mod⟩
              | false =>
                replace hb5 := of_decide_eq_false hb5.symm
                refine r_cond_f rfl ?_
                refine r_exit rfl ?_
                refine r_seq ?_
                refine r_seq ?_
                refine r_region ?_
                refine OL.q (Q1.move rfl) rfl rfl ?_
                rw [List.take_of_length_le (by omega)] at hbe
                have hpb : badPr c es = false := by rw [badPr_eq, hcb2, hs2, hbe, Bool.or_self, Bool.or_self]
                have hpt : printT c es = b3 := by rw [hb3, List.take_of_length_le (by omega)]; exact printT_eq c es
                obtain ⟨g3, f9, hl2, k2⟩ := hS10.accK (i := 0) rfl
                refine OL.q (Q1.lenSl Tryd.underlying52 (f9.sl) rfl) rfl rfl ?_
                refine OL.qb (Q1.gt rfl rfl) rfl rfl ?_
                intro b6 hb6
                refine OL.nil ?_
                cases b6 with
                | true =>
                  replace hb6 := of_decide_eq_true hb6.symm
                  refine r_cond_t rfl ?_
                  refine r_seq ?_
                  refine r_region ?_
                  refine OL.q (Q1.assign rfl) rfl rfl ?_
                  refine OL.q (Q1.assign rfl) rfl rfl ?_
                  refine OL.nil ?_
                  refine r_ret2 Tryd.func18 rfl rfl rfl ?_
                  exact Ret.mk ⟨_, _, rfl, (congrArg strV (by first | (rw [pr_cut hx1 (by assumption)]; done) | (rw [pr_set (by assumption)]; done) | (rw [pr_ev hx1 (by assumption)]; done) | (rw [pr_full hpb (hpt ▸ (by omega))]; done) | (rw [pr_ok hpb (hpt ▸ (by omega)), hpt]; done) | (exfalso; omega))), (congrArg (Value.int .i64) (by first | (rw [pr_cut hx1 (by assumption)]; done) | (rw [pr_set (by assumption)]; done) | (rw [pr_ev hx1 (by assumption)]; done) | (rw [pr_full hpb (hpt ▸ (by omega))]; done) | (rw [pr_ok hpb (hpt ▸ (by omega)), hpt]; done) | (exfalso; omega))), hS10.mod⟩
                | false =>
                  replace hb6 := of_decide_eq_false hb6.symm
                  refine r_cond_f rfl ?_
                  refine r_skip ?_
                  refine r_seq ?_
                  refine r_region ?_
                  refine OL.q (Q1.move rfl) rfl rfl ?_
                  refine OL.act rfl rfl (AW.bytesStr Tryd.underlying52 Tryd.underlying5 Tryd.underlying9 rfl (f9.sl) ?_)
                  refine OL.q (Q1.assign rfl) rfl rfl ?_
                  refine OL.q (Q1.assign rfl) rfl rfl ?_
                  refine OL.nil ?_
                  refine r_ret2 Tryd.func18 rfl rfl rfl ?_
                  exact Ret.mk ⟨_, _, rfl, (congrArg strV (by first | (rw [pr_cut hx1 (by assumption)]; done) | (rw [pr_set (by assumption)]; done) | (rw [pr_ev hx1 (by assumption)]; done) | (rw [pr_full hpb (hpt ▸ (by omega))]; done) | (rw [pr_ok hpb (hpt ▸ (by omega)), hpt]; done) | (exfalso; omega))), (congrArg (Value.int .i64) (by first | (rw [pr_cut hx1 (by assumption)]; done) | (rw [pr_set (by assumption)]; done) | (rw [pr_ev hx1 (by assumption)]; done) | (rw [pr_full hpb (hpt ▸ (by omega))]; done) | (rw [pr_ok hpb (hpt ▸ (by omega)), hpt]; done) | (exfalso; omega))), hS10.mod⟩
          | false =>
            replace hb4 := hb4.symm
            refine OL.q (Q1.not rfl) rfl rfl ?_
            refine OL.nil ?_
            refine r_cond_t rfl ?_
            refine r_seq ?_
            refine r_region ?_
            refine OL.q (Q1.assign rfl) rfl rfl ?_
            refine OL.q (Q1.assign rfl) rfl rfl ?_
            refine OL.nil ?_
            refine r_ret2 Tryd.func18 rfl rfl rfl ?_
            exact Ret.mk ⟨_, _, rfl, (congrArg strV (by first | (rw [pr_cut hx1 (by assumption)]; done) | (rw [pr_set (by assumption)]; done) | (rw [pr_ev hx1 (by assumption)]; done) | (rw [pr_full hpb (hpt ▸ (by omega))]; done) | (rw [pr_ok hpb (hpt ▸ (by omega)), hpt]; done) | (exfalso; omega))), (congrArg (Value.int .i64) (by first | (rw [pr_cut hx1 (by assumption)]; done) | (rw [pr_set (by assumption)]; done) | (rw [pr_ev hx1 (by assumption)]; done) | (rw [pr_full hpb (hpt ▸ (by omega))]; done) | (rw [pr_ok hpb (hpt ▸ (by omega)), hpt]; done) | (exfalso; omega))), hS8.mod⟩
set_option maxRecDepth 20000 in
set_option maxHeartbeats 4000000 in
theorem ScriptPrints_c {w0 : World}  {c : Cfg} {v_c_words : Value} {v_c_cuts : Value} {v_es : Value} {es : List Evt} (h_c_words : Sl encS w0 (Iv 0 w0.heap.size) v_c_words c.words) (h_c_cuts : Sl encKey w0 (Iv 0 w0.heap.size) v_c_cuts c.cuts) (h_es : Sl encEvt w0 (Iv 0 w0.heap.size) v_es es) (hG : GS w0) (h_c : Cfg.Ok c) (h_e : ∀ e ∈ es, Evt.Ok e) :
    Calls Tryd.prog 5 #[.agg #[v_c_words, v_c_cuts, .int .i64 c.workers, .int .i64 c.copies, .int .i64 c.slots, .int .i64 c.batch, .int .i64 c.lease, .int .i64 c.hedge, .int .i64 c.first, .int .i64 c.cap, .int .i64 c.jitter, .int .i64 c.net], v_es] w0 (Ret fun rv w1 => (∃ rb : Bool, rb = true ∧ rv = .bool rb) ∧ Ext w0 w1) := by
  have hle_c_words := h_c_words.le
  have hle_c_cuts := h_c_cuts.le
  have hle_es := h_es.le
  have hFg : ∀ b, b = gB ∨ b = gS ∨ b = gR → ¬ (fun _ : Nat => False) b := fun _ _ h => h
  have hS0 := St.start0 w0
  refine calls_enter Tryd.func5 rfl Tryd.ntmps5 rfl ?_
  refine r_seq ?_
  refine r_region ?_
  refine OL.act rfl rfl (AW.box [v_c_words, v_c_cuts, .int .i64 c.workers, .int .i64 c.copies, .int .i64 c.slots, .int .i64 c.batch, .int .i64 c.lease, .int .i64 c.hedge, .int .i64 c.first, .int .i64 c.cap, .int .i64 c.jitter, .int .i64 c.net] rfl rfl ?_)
  intro w1 b1 hm1 hb1 hz1 hk1
  have hS1 := hS0.ext hm1
  have hS2 : St (fun _ => False) (fun _ => False) w0 w1 [bkR b1 [v_c_words, v_c_cuts, .int .i64 c.workers, .int .i64 c.copies, .int .i64 c.slots, .int .i64 c.batch, .int .i64 c.lease, .int .i64 c.hedge, .int .i64 c.first, .int .i64 c.cap, .int .i64 c.jitter, .int .i64 c.net] 30] := hS0.newBk hm1 hb1 hk1
  refine OL.q (Q1.assign rfl) rfl rfl ?_
  refine OL.nil ?_
  refine r_seq ?_
  refine r_seq ?_
  refine r_region ?_
  have f1 := hS2.bk (i := 0) rfl
  refine OL.q (Q1.loadN ti30 rfl (fun _ e => e ▸ f1.row) rfl) rfl rfl ?_
  have f2 := hS2.out h_c_words (fun _ _ h => h)
  have f3 := hS2.out h_c_cuts (fun _ _ h => h)
  refine OL.act rfl rfl (AW.callF cl15 rfl (greatC_c (w0 := w1) (c := c)  (f2.iv (Nat.zero_le _) hS2.mod.size) (f3.iv (Nat.zero_le _) hS2.mod.size)) ?_)
  rintro _ w2 ⟨⟨b2, hb2, rfl⟩, hm2⟩
  have hS3 := hS2.ext hm2
  refine OL.q (Q1.move rfl) rfl rfl ?_
  cases b2 with
  | true =>
    replace hb2 := hb2.symm
    refine OL.sk rfl rfl ?_
    refine OL.sk rfl rfl ?_
    refine OL.q (Q1.pick_t rfl rfl) rfl rfl ?_
    refine OL.nil ?_
    refine r_cond_t rfl ?_
    refine r_seq ?_
    refine r_region ?_
    refine OL.act rfl rfl (AW.callF cl8 rfl (awake29_c (w0 := w2)   (by exact hG.keep hgp (hS3.mod) hFg)) ?_)
    rintro _ w3 ⟨⟨_, rfl, rfl⟩, hm3⟩
    have hS4 := hS3.ext hm3
    refine OL.q (Q1.assign rfl) rfl rfl ?_
    refine OL.nil ?_
    refine r_ret1 Tryd.func5 rfl rfl ?_
    exact Ret.mk ⟨⟨_, (by rfl), rfl⟩, hS4.mod⟩
  | false =>
    replace hb2 := hb2.symm
    refine OL.q (Q1.move rfl) rfl rfl ?_
    have f4 := hS3.out h_es (fun _ _ h => h)
    refine OL.act rfl rfl (AW.callF cl16 rfl (greatE_c (w0 := w2) (es := es) (300) (f4.iv (Nat.zero_le _) hS3.mod.size) (by first | omega | assumption)) ?_)
    rintro _ w3 ⟨⟨b3, hb3, rfl⟩, hm3⟩
    have hS4 := hS3.ext hm3
    refine OL.q (Q1.pick_f rfl rfl) rfl rfl ?_
    refine OL.nil ?_
    cases b3 with
    | true =>
      replace hb3 := hb3.symm
      refine r_cond_t rfl ?_
      refine r_seq ?_
      refine r_region ?_
      refine OL.act rfl rfl (AW.callF cl8 rfl (awake29_c (w0 := w3)   (by exact hG.keep hgp (hS4.mod) hFg)) ?_)
      rintro _ w4 ⟨⟨_, rfl, rfl⟩, hm4⟩
      have hS5 := hS4.ext hm4
      refine OL.q (Q1.assign rfl) rfl rfl ?_
      refine OL.nil ?_
      refine r_ret1 Tryd.func5 rfl rfl ?_
      exact Ret.mk ⟨⟨_, (by rfl), rfl⟩, hS5.mod⟩
    | false =>
      replace hb3 := hb3.symm
      refine r_cond_f rfl ?_
      refine r_skip ?_
      refine r_seq ?_
      refine r_region ?_
      have f5 := hS4.bk (i := 0) rfl
      refine OL.q (Q1.loadN ti30 rfl (fun _ e => e ▸ f5.row) rfl) rfl rfl ?_
      have hpr : PrOk c es := prok h_c h_e (by assumption) (by assumption)
      refine OL.q (Q1.move rfl) rfl rfl ?_
      have f6 := hS4.out h_c_words (fun _ _ h => h)
      have f7 := hS4.out h_c_cuts (fun _ _ h => h)
      have f8 := hS4.out h_es (fun _ _ h => h)
      refine OL.act rfl rfl (AW.callF cl17 rfl (print_c (w0 := w3) (c := c) (es := es)  (f6.iv (Nat.zero_le _) hS4.mod.size) (f7.iv (Nat.zero_le _) hS4.mod.size) (f8.iv (Nat.zero_le _) hS4.mod.size) (by exact hG.keep hgp (hS4.mod) hFg) (by assumption)) ?_)
      rintro _ w4 ⟨_, _, rfl, rfl, rfl, hm4⟩
      have hS5 := hS4.ext hm4
      refine OL.q (Q1.move rfl) rfl rfl ?_
      refine OL.q (Q1.extract rfl rfl) rfl rfl ?_
      refine OL.q (Q1.extract rfl rfl) rfl rfl ?_
      refine OL.q (Q1.assign rfl) rfl rfl ?_
      refine OL.q (Q1.assign rfl) rfl rfl ?_
      refine OL.nil ?_
      refine r_seq ?_
      refine r_region ?_
      have f9 := hS5.bk (i := 0) rfl
      refine OL.q (Q1.loadN ti30 rfl (fun _ e => e ▸ f9.row) rfl) rfl rfl ?_
      refine OL.q (Q1.move rfl) rfl rfl ?_
      have f10 := hS5.out h_c_words (fun _ _ h => h)
      have f11 := hS5.out h_c_cuts (fun _ _ h => h)
      have f12 := hS5.out h_es (fun _ _ h => h)
      refine OL.act rfl rfl (AW.callF cl18 rfl (rprint29_c (w0 := w4) (c := c) (es := es)  (f10.iv (Nat.zero_le _) hS5.mod.size) (f11.iv (Nat.zero_le _) hS5.mod.size) (f12.iv (Nat.zero_le _) hS5.mod.size) (by assumption)) ?_)
      rintro _ w5 ⟨_, _, rfl, rfl, rfl, hm5⟩
      have hS6 := hS5.ext hm5
      refine OL.q (Q1.move rfl) rfl rfl ?_
      refine OL.q (Q1.extract rfl rfl) rfl rfl ?_
      refine OL.q (Q1.extract rfl rfl) rfl rfl ?_
      refine OL.q (Q1.assign rfl) rfl rfl ?_
      refine OL.q (Q1.assign rfl) rfl rfl ?_
      refine OL.nil ?_
      refine r_seq ?_
      refine r_region ?_
      refine OL.q (Q1.move rfl) rfl rfl ?_
      refine OL.q (Q1.move rfl) rfl rfl ?_
      refine OL.qb (Q1.eqS rfl rfl) rfl rfl ?_
      intro b4 hb4
      obtain rfl : b4 = true := hb4.trans (by exact beq_self_eq_true _)
      refine OL.q (Q1.move rfl) rfl rfl ?_
      refine OL.q (Q1.move rfl) rfl rfl ?_
      refine OL.act rfl rfl (AW.callF cl19 rfl (num_c (w0 := w5)  (((printM c es).2)) ) ?_)
      rintro _ w6 ⟨rfl, hm6⟩
      have hS7 := hS6.ext hm6
      refine OL.q (Q1.move rfl) rfl rfl ?_
      refine OL.qb (Q1.eq rfl rfl) rfl rfl ?_
      intro b5 hb5
      obtain rfl : b5 = true := hb5.trans (by exact beq_self_eq_true _)
      refine OL.q (Q1.pick_t rfl rfl) rfl rfl ?_
      refine OL.q (Q1.move rfl) rfl rfl ?_
      refine OL.act rfl rfl (AW.callF cl8 rfl (awake29_c (w0 := w6)   (by exact hG.keep hgp (hS7.mod) hFg)) ?_)
      rintro _ w7 ⟨⟨_, rfl, rfl⟩, hm7⟩
      have hS8 := hS7.ext hm7
      refine OL.q (Q1.pick_t rfl rfl) rfl rfl ?_
      refine OL.q (Q1.assign rfl) rfl rfl ?_
      refine OL.nil ?_
      refine r_ret1 Tryd.func5 rfl rfl ?_
      exact Ret.mk ⟨⟨_, (by rfl), rfl⟩, hS8.mod⟩
end Go.Proofs
