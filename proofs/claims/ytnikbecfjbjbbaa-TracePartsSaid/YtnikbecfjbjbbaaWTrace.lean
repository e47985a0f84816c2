/-
  Walks through package trace.
-/
import Derived.Test.YtnikbecfjbjbbaaFacts
import Derived.Test.YtnikbecfjbjbbaaWKeys
set_option linter.unusedVariables false
set_option linter.unusedSimpArgs false
namespace Go.Proofs
open Go.Ik Go.Ml
set_option maxRecDepth 20000 in
set_option maxHeartbeats 4000000 in
theorem trof_c {w0 : World}  {v_recs : Value} {recs : List RRec} (h_recs : Sl encRec w0 (Iv 0 w0.heap.size) v_recs recs) (hd : ∀ r ∈ recs, RecD w0 (Iv 0 w0.heap.size) r) (hlr : recs.length ≤ 1000000) (hsn : sentN recs ≤ 1000000) (hln : lostN recs ≤ 1000000) :
    Calls Try.prog 6 #[v_recs] w0 (Ret fun rv w1 => rv = .agg #[.int .i64 ((sumM recs).sent), .int .i64 ((sumM recs).got), .int .i64 ((sumM recs).lost), .int .i64 ((sumM recs).accepted), .int .i64 ((sumM recs).busy), .int .i64 ((sumM recs).invalid)] ∧ Ext w0 w1) := by
  have hle_recs := h_recs.le
  have hS0 := St.start0 w0
  refine calls_enter Try.func6 rfl Try.ntmps6 rfl ?_
  refine r_seq ?_
  refine r_region ?_
  refine OL.act rfl rfl (AW.alloc ti26 ?_)
  intro w1 b1 hm1 hb1 hz1 hk1
  have hS1 := hS0.ext hm1
  have hS2 : St (fun _ => False) (fun _ => False) w0 w1 [bkR b1 [.int .i64 0, .int .i64 0, .int .i64 0, .int .i64 0, .int .i64 0, .int .i64 0] 26] := hS0.newBk hm1 hb1 hk1
  refine OL.nil ?_
  refine r_seq ?_
  refine r_region ?_
  refine OL.act rfl rfl (AW.alloc ti26 ?_)
  intro w2 b2 hm2 hb2 hz2 hk2
  have hS3 := hS2.ext hm2
  have hS4 : St (fun _ => False) (fun _ => False) w0 w2 [bkR b1 [.int .i64 0, .int .i64 0, .int .i64 0, .int .i64 0, .int .i64 0, .int .i64 0] 26, bkR b2 [.int .i64 0, .int .i64 0, .int .i64 0, .int .i64 0, .int .i64 0, .int .i64 0] 26] := hS2.newBk hm2 hb2 hk2
  refine OL.nil ?_
  refine r_seq ?_
  refine r_seq ?_
  refine r_region ?_
  refine OL.q (Q1.move rfl) rfl rfl ?_
  have f1 := hS4.out h_recs (fun _ _ h => h)
  refine OL.q (Q1.lenSl Try.underlying22 (f1) rfl) rfl rfl ?_
  refine OL.q (Q1.move rfl) rfl rfl ?_
  refine OL.nil ?_
  refine r_block ?_
  refine r_loop (I := fun m E W => ∃ (c0 : Int) (c1 : Int) (c2 : Int) (c3 : Int) (c4 : Int) (c5 : Int) (i : Nat), E = [(2, ptr b1 0), (3, ptr b2 0), (6, v_recs), (7, .int .i64 (((recs.length : Nat) : Int))), (8, .int .i64 (((i : Nat) : Int)))] ∧ m = recs.length - i ∧ St (fun _ => False) (fun _ => False) w0 W [bkR b1 [.int .i64 0, .int .i64 0, .int .i64 0, .int .i64 0, .int .i64 0, .int .i64 0] 26, bkR b2 [.int .i64 c0, .int .i64 c1, .int .i64 c2, .int .i64 c3, .int .i64 c4, .int .i64 c5] 26] ∧ (c0 = ((sentN (recs.take i) : Nat) : Int)) ∧ (c1 = ((gotN (recs.take i) : Nat) : Int)) ∧ (c2 = ((lostN (recs.take i) : Nat) : Int)) ∧ (c3 = ((verN 3 (recs.take i) : Nat) : Int)) ∧ (c4 = ((verN 2 (recs.take i) : Nat) : Int)) ∧ (c5 = ((verN 1 (recs.take i) : Nat) : Int))) ?_ ?_
  · refine ⟨_, _, ⟨(0 : Int), (0 : Int), (0 : Int), (0 : Int), (0 : Int), (0 : Int), (0 : Nat), rfl, rfl, hS4, (by rfl), (by rfl), (by rfl), (by rfl), (by rfl), (by rfl)⟩, ⟨rfl, rfl, rfl, rfl, rfl, trivial⟩⟩
  · rintro _ _ w3 ⟨c0, c1, c2, c3, c4, c5, i, rfl, rfl, hS5, h0, h1, h2, h3, h4, h5⟩ ih1
    refine r_seq ?_
    refine r_region ?_
    refine OL.qb (Q1.lt rfl rfl) rfl rfl ?_
    intro b3 hb3
    refine OL.nil ?_
    refine r_seq ?_
    cases b3 with
    | true =>
      replace hb3 := of_decide_eq_true hb3.symm
      refine r_cond_t rfl ?_
      refine r_skip ?_
      refine r_seq ?_
      refine r_block ?_
      refine r_seq ?_
      refine r_region ?_
      have f2 := hS5.out h_recs (fun _ _ h => h)
      obtain ⟨x1, b4, o1, hx1, hr1, hl1, hw1⟩ := Sl.atF (P := Try.prog) f2 Try.underlying22 ti38 encRec_len (k := .i64) (n := ((i : Nat) : Int)) (i) (by omega) (by first | assumption | omega)
      refine OL.q (Q1.indexAddr rfl rfl hr1) rfl rfl ?_
      refine OL.q (Q1.loadN ti38 rfl (fun _ e => e ▸ hw1) rfl) rfl rfl ?_
      have hdp1 := hd x1 (List.mem_of_getElem? hx1)
      have hdf1 := hdp1.sent
      have hle_1 := hdf1.le
      have hdf2 := hdp1.lost
      have hle_2 := hdf2.le
      have hsl := sum_le hx1
      refine OL.act rfl rfl (AW.alloc ti38 ?_)
      intro w4 b5 hm3 hb4 hz3 hk3
      have hS6 := hS5.ext hm3
      have hS7 : St (fun _ => False) (fun _ => False) w0 w4 [bkR b1 [.int .i64 0, .int .i64 0, .int .i64 0, .int .i64 0, .int .i64 0, .int .i64 0] 26, bkR b2 [.int .i64 c0, .int .i64 c1, .int .i64 c2, .int .i64 c3, .int .i64 c4, .int .i64 c5] 26, bkR b5 [.int .i64 0, .int .i64 0, .int .i64 0, .int .i64 0, strV [], .int .i64 0, .int .i64 0, .int .i64 0, .int .i64 0, .slice none 0 0, .int .i64 0, .slice none 0 0] 38] := hS5.newBk hm3 hb4 hk3
      have f3 := hS7.bk (i := 2) rfl
      refine OL.act rfl rfl (AW.store ti38 rfl rfl rfl rfl rfl f3 (Nat.le_of_ble_eq_true rfl) ?_)
      intro w5 hm4 hz4 hk4
      have hS8 : St (fun _ => False) (fun _ => False) w0 w5 [bkR b1 [.int .i64 0, .int .i64 0, .int .i64 0, .int .i64 0, .int .i64 0, .int .i64 0] 26, bkR b2 [.int .i64 c0, .int .i64 c1, .int .i64 c2, .int .i64 c3, .int .i64 c4, .int .i64 c5] 26, bkR b5 [.int .i64 x1.kind, .int .i64 x1.node, .int .i64 x1.at_, .int .i64 x1.x, strV x1.qt, .int .i64 x1.qk, .int .i64 x1.qn, .int .i64 x1.verdict, .int .i64 x1.id, x1.sh.val, .int .i64 x1.got, x1.lh.val] 38] := hS7.bkK (i := 2) rfl hm4 hk4
      refine OL.nil ?_
      refine r_seq ?_
      refine r_region ?_
      refine OL.q (Q1.fieldAddr fl26_0 rfl) rfl rfl ?_
      have f4 := hS8.bk (i := 1) rfl
      refine OL.q (Q1.load1 ti3 rfl (fun _ e => e ▸ (f4.cell 0 _ rfl))) rfl rfl ?_
      refine OL.q (Q1.fieldAddr fl38_3 rfl) rfl rfl ?_
      have f5 := hS8.bk (i := 2) rfl
      refine OL.q (Q1.load1 ti36 rfl (fun _ e => e ▸ (f5.cell 9 _ rfl))) rfl rfl ?_
      have f6 := hS8.out hdf1 (fun _ _ h => h)
      refine OL.q (Q1.lenSl Try.underlying36 (f6) rfl) rfl rfl ?_
      refine OL.q (Q1.addI ((c0 + (((x1.sent.length : Nat) : Int)))) rfl rfl (by omega)) rfl rfl ?_
      refine OL.q (Q1.fieldAddr fl26_0 rfl) rfl rfl ?_
      refine OL.act rfl rfl (AW.store ti3 rfl rfl rfl rfl rfl f4 (Nat.le_of_ble_eq_true rfl) ?_)
      intro w6 hm5 hz5 hk5
      have hS9 : St (fun _ => False) (fun _ => False) w0 w6 [bkR b1 [.int .i64 0, .int .i64 0, .int .i64 0, .int .i64 0, .int .i64 0, .int .i64 0] 26, bkR b2 [.int .i64 ((c0 + (((x1.sent.length : Nat) : Int)))), .int .i64 c1, .int .i64 c2, .int .i64 c3, .int .i64 c4, .int .i64 c5] 26, bkR b5 [.int .i64 x1.kind, .int .i64 x1.node, .int .i64 x1.at_, .int .i64 x1.x, strV x1.qt, .int .i64 x1.qk, .int .i64 x1.qn, .int .i64 x1.verdict, .int .i64 x1.id, x1.sh.val, .int .i64 x1.got, x1.lh.val] 38] := hS8.bkK (i := 1) rfl hm5 hk5
      refine OL.nil ?_
      refine r_seq ?_
      refine r_region ?_
      refine OL.q (Q1.fieldAddr fl26_2 rfl) rfl rfl ?_
      have f7 := hS9.bk (i := 1) rfl
      refine OL.q (Q1.load1 ti3 rfl (fun _ e => e ▸ (f7.cell 2 _ rfl))) rfl rfl ?_
      refine OL.q (Q1.fieldAddr fl38_5 rfl) rfl rfl ?_
      have f8 := hS9.bk (i := 2) rfl
      refine OL.q (Q1.load1 ti28 rfl (fun _ e => e ▸ (f8.cell 11 _ rfl))) rfl rfl ?_
      have f9 := hS9.out hdf2 (fun _ _ h => h)
      refine OL.q (Q1.lenSl Try.underlying28 (f9) rfl) rfl rfl ?_
      refine OL.q (Q1.addI ((c2 + (((x1.lost.length : Nat) : Int)))) rfl rfl (by omega)) rfl rfl ?_
      refine OL.q (Q1.fieldAddr fl26_2 rfl) rfl rfl ?_
      refine OL.act rfl rfl (AW.store ti3 rfl rfl rfl rfl rfl f7 (Nat.le_of_ble_eq_true rfl) ?_)
      intro w7 hm6 hz6 hk6
      have hS10 : St (fun _ => False) (fun _ => False) w0 w7 [bkR b1 [.int .i64 0, .int .i64 0, .int .i64 0, .int .i64 0, .int .i64 0, .int .i64 0] 26, bkR b2 [.int .i64 ((c0 + (((x1.sent.length : Nat) : Int)))), .int .i64 c1, .int .i64 ((c2 + (((x1.lost.length : Nat) : Int)))), .int .i64 c3, .int .i64 c4, .int .i64 c5] 26, bkR b5 [.int .i64 x1.kind, .int .i64 x1.node, .int .i64 x1.at_, .int .i64 x1.x, strV x1.qt, .int .i64 x1.qk, .int .i64 x1.qn, .int .i64 x1.verdict, .int .i64 x1.id, x1.sh.val, .int .i64 x1.got, x1.lh.val] 38] := hS9.bkK (i := 1) rfl hm6 hk6
      refine OL.nil ?_
      refine r_seq ?_
      refine r_seq ?_
      refine r_region ?_
      refine OL.q (Q1.fieldAddr fl38_4 rfl) rfl rfl ?_
      have f10 := hS10.bk (i := 2) rfl
      refine OL.q (Q1.load1 ti3 rfl (fun _ e => e ▸ (f10.cell 10 _ rfl))) rfl rfl ?_
      refine OL.qb (Q1.ge rfl rfl) rfl rfl ?_
      intro b6 hb5
      refine OL.nil ?_
      cases b6 with
      | true =>
        replace hb5 := of_decide_eq_true hb5.symm
        refine r_cond_t rfl ?_
        refine r_region ?_
        refine OL.q (Q1.fieldAddr fl26_1 rfl) rfl rfl ?_
        have f11 := hS10.bk (i := 1) rfl
        refine OL.q (Q1.load1 ti3 rfl (fun _ e => e ▸ (f11.cell 1 _ rfl))) rfl rfl ?_
        refine OL.q (Q1.addI ((c1 + 1)) rfl rfl (by omega)) rfl rfl ?_
        refine OL.q (Q1.fieldAddr fl26_1 rfl) rfl rfl ?_
        refine OL.act rfl rfl (AW.store ti3 rfl rfl rfl rfl rfl f11 (Nat.le_of_ble_eq_true rfl) ?_)
        intro w8 hm7 hz7 hk7
        have hS11 : St (fun _ => False) (fun _ => False) w0 w8 [bkR b1 [.int .i64 0, .int .i64 0, .int .i64 0, .int .i64 0, .int .i64 0, .int .i64 0] 26, bkR b2 [.int .i64 ((c0 + (((x1.sent.length : Nat) : Int)))), .int .i64 ((c1 + 1)), .int .i64 ((c2 + (((x1.lost.length : Nat) : Int)))), .int .i64 c3, .int .i64 c4, .int .i64 c5] 26, bkR b5 [.int .i64 x1.kind, .int .i64 x1.node, .int .i64 x1.at_, .int .i64 x1.x, strV x1.qt, .int .i64 x1.qk, .int .i64 x1.qn, .int .i64 x1.verdict, .int .i64 x1.id, x1.sh.val, .int .i64 x1.got, x1.lh.val] 38] := hS10.bkK (i := 1) rfl hm7 hk7
        refine OL.nil ?_
        refine r_seq ?_
        refine r_region ?_
        refine OL.q (Q1.fieldAddr fl38_1 rfl) rfl rfl ?_
        have f12 := hS11.bk (i := 2) rfl
        refine OL.q (Q1.load1 ti3 rfl (fun _ e => e ▸ (f12.cell 7 _ rfl))) rfl rfl ?_
        refine OL.nil ?_
        refine r_block ?_
        refine r_seq ?_
        refine r_region ?_
        refine OL.qb (Q1.eq rfl rfl) rfl rfl ?_
        intro b7 hb6
        refine OL.q (Q1.assign rfl) rfl rfl ?_
        refine OL.nil ?_
        cases b7 with
        | true =>
          replace hb6 := eq_of_beq hb6.symm
          refine r_cond_t rfl ?_
          refine r_region ?_
          refine OL.q (Q1.fieldAddr fl26_3 rfl) rfl rfl ?_
          have f13 := hS11.bk (i := 1) rfl
          refine OL.q (Q1.load1 ti3 rfl (fun _ e => e ▸ (f13.cell 3 _ rfl))) rfl rfl ?_
          refine OL.q (Q1.addI ((c3 + 1)) rfl rfl (by omega)) rfl rfl ?_
          refine OL.q (Q1.fieldAddr fl26_3 rfl) rfl rfl ?_
          refine OL.act rfl rfl (AW.store ti3 rfl rfl rfl rfl rfl f13 (Nat.le_of_ble_eq_true rfl) ?_)
          intro w9 hm8 hz8 hk8
          have hS12 : St (fun _ => False) (fun _ => False) w0 w9 [bkR b1 [.int .i64 0, .int .i64 0, .int .i64 0, .int .i64 0, .int .i64 0, .int .i64 0] 26, bkR b2 [.int .i64 ((c0 + (((x1.sent.length : Nat) : Int)))), .int .i64 ((c1 + 1)), .int .i64 ((c2 + (((x1.lost.length : Nat) : Int)))), .int .i64 ((c3 + 1)), .int .i64 c4, .int .i64 c5] 26, bkR b5 [.int .i64 x1.kind, .int .i64 x1.node, .int .i64 x1.at_, .int .i64 x1.x, strV x1.qt, .int .i64 x1.qk, .int .i64 x1.qn, .int .i64 x1.verdict, .int .i64 x1.id, x1.sh.val, .int .i64 x1.got, x1.lh.val] 38] := hS11.bkK (i := 1) rfl hm8 hk8
          refine OL.nil ?_
          refine r_inBlock ?_
          refine r_inBlock ?_
          refine r_region ?_
          refine OL.q (Q1.addI (((i + 1 : Nat) : Int)) rfl rfl (by omega)) rfl rfl ?_
          refine OL.q (Q1.move rfl) rfl rfl ?_
          refine OL.nil ?_
          have hS13 : St (fun _ => False) (fun _ => False) w0 w9 [bkR b1 [.int .i64 0, .int .i64 0, .int .i64 0, .int .i64 0, .int .i64 0, .int .i64 0] 26, bkR b2 [.int .i64 ((c0 + (((x1.sent.length : Nat) : Int)))), .int .i64 ((c1 + 1)), .int .i64 ((c2 + (((x1.lost.length : Nat) : Int)))), .int .i64 ((c3 + 1)), .int .i64 c4, .int .i64 c5] 26] := hS12.sel [0, 1] (by rfl) (by decide)
          exact (ih1 _ _ _ ⟨((c0 + (((x1.sent.length : Nat) : Int))) : Int), ((c1 + 1) : Int), ((c2 + (((x1.lost.length : Nat) : Int))) : Int), ((c3 + 1) : Int), (c4 : Int), (c5 : Int), (i + 1 : Nat), rfl, rfl, hS13, (by first | exact sent_step h0 hx1 | (exfalso; omega)), (by first | exact got_y h1 hx1 (by assumption) | exact got_n h1 hx1 (by assumption) | (exfalso; omega)), (by first | exact lost_step h2 hx1 | (exfalso; omega)), (by first | exact ver_y h3 hx1 (by omega) | exact ver_n h3 hx1 (by omega) | (exfalso; omega)), (by first | exact ver_y h4 hx1 (by omega) | exact ver_n h4 hx1 (by omega) | (exfalso; omega)), (by first | exact ver_y h5 hx1 (by omega) | exact ver_n h5 hx1 (by omega) | (exfalso; omega))⟩ (by omega)).sub ⟨rfl, rfl, rfl, rfl, rfl, trivial⟩
        | false =>
          replace hb6 := ne_of_beq_false hb6.symm
          refine r_cond_f rfl ?_
          refine r_seq ?_
          refine r_region ?_
          refine OL.qb (Q1.eq rfl rfl) rfl rfl ?_
          intro b8 hb7
          refine OL.q (Q1.assign rfl) rfl rfl ?_
          refine OL.nil ?_
          cases b8 with
          | true =>
            replace hb7 := eq_of_beq hb7.symm
            refine r_cond_t rfl ?_
            refine r_region ?_
            refine OL.q (Q1.fieldAddr fl26_4 rfl) rfl rfl ?_
            have f13 := hS11.bk (i := 1) rfl
            refine OL.q (Q1.load1 ti3 rfl (fun _ e => e ▸ (f13.cell 4 _ rfl))) rfl rfl ?_
            refine OL.q (Q1.addI ((c4 + 1)) rfl rfl (by omega)) rfl rfl ?_
            refine OL.q (Q1.fieldAddr fl26_4 rfl) rfl rfl ?_
            refine OL.act rfl rfl (AW.store ti3 rfl rfl rfl rfl rfl f13 (Nat.le_of_ble_eq_true rfl) ?_)
            intro w9 hm8 hz8 hk8
            have hS12 : St (fun _ => False) (fun _ => False) w0 w9 [bkR b1 [.int .i64 0, .int .i64 0, .int .i64 0, .int .i64 0, .int .i64 0, .int .i64 0] 26, bkR b2 [.int .i64 ((c0 + (((x1.sent.length : Nat) : Int)))), .int .i64 ((c1 + 1)), .int .i64 ((c2 + (((x1.lost.length : Nat) : Int)))), .int .i64 c3, .int .i64 ((c4 + 1)), .int .i64 c5] 26, bkR b5 [.int .i64 x1.kind, .int .i64 x1.node, .int .i64 x1.at_, .int .i64 x1.x, strV x1.qt, .int .i64 x1.qk, .int .i64 x1.qn, .int .i64 x1.verdict, .int .i64 x1.id, x1.sh.val, .int .i64 x1.got, x1.lh.val] 38] := hS11.bkK (i := 1) rfl hm8 hk8
            refine OL.nil ?_
            refine r_inBlock ?_
            refine r_inBlock ?_
            refine r_region ?_
            refine OL.q (Q1.addI (((i + 1 : Nat) : Int)) rfl rfl (by omega)) rfl rfl ?_
            refine OL.q (Q1.move rfl) rfl rfl ?_
            refine OL.nil ?_
            have hS13 : St (fun _ => False) (fun _ => False) w0 w9 [bkR b1 [.int .i64 0, .int .i64 0, .int .i64 0, .int .i64 0, .int .i64 0, .int .i64 0] 26, bkR b2 [.int .i64 ((c0 + (((x1.sent.length : Nat) : Int)))), .int .i64 ((c1 + 1)), .int .i64 ((c2 + (((x1.lost.length : Nat) : Int)))), .int .i64 c3, .int .i64 ((c4 + 1)), .int .i64 c5] 26] := hS12.sel [0, 1] (by rfl) (by decide)
            exact (ih1 _ _ _ ⟨((c0 + (((x1.sent.length : Nat) : Int))) : Int), ((c1 + 1) : Int), ((c2 + (((x1.lost.length : Nat) : Int))) : Int), (c3 : Int), ((c4 + 1) : Int), (c5 : Int), (i + 1 : Nat), rfl, rfl, hS13, (by first | exact sent_step h0 hx1 | (exfalso; omega)), (by first | exact got_y h1 hx1 (by assumption) | exact got_n h1 hx1 (by assumption) | (exfalso; omega)), (by first | exact lost_step h2 hx1 | (exfalso; omega)), (by first | exact ver_y h3 hx1 (by omega) | exact ver_n h3 hx1 (by omega) | (exfalso; omega)), (by first | exact ver_y h4 hx1 (by omega) | exact ver_n h4 hx1 (by omega) | (exfalso; omega)), (by first | exact ver_y h5 hx1 (by omega) | exact ver_n h5 hx1 (by omega) | (exfalso; omega))⟩ (by omega)).sub ⟨rfl, rfl, rfl, rfl, rfl, trivial⟩
          | false =>
            replace hb7 := ne_of_beq_false hb7.symm
            refine r_cond_f rfl ?_
            refine r_seq ?_
            refine r_region ?_
            refine OL.qb (Q1.eq rfl rfl) rfl rfl ?_
            intro b9 hb8
            refine OL.q (Q1.assign rfl) rfl rfl ?_
            refine OL.nil ?_
            cases b9 with
            | true =>
              replace hb8 := eq_of_beq hb8.symm
              refine r_cond_t rfl ?_
              refine r_region ?_
              refine OL.q (Q1.fieldAddr fl26_5 rfl) rfl rfl ?_
              have f13 := hS11.bk (i := 1) rfl
              refine OL.q (Q1.load1 ti3 rfl (fun _ e => e ▸ (f13.cell 5 _ rfl))) rfl rfl ?_
              refine OL.q (Q1.addI ((c5 + 1)) rfl rfl (by omega)) rfl rfl ?_
              refine OL.q (Q1.fieldAddr fl26_5 rfl) rfl rfl ?_
              refine OL.act rfl rfl (AW.store ti3 rfl rfl rfl rfl rfl f13 (Nat.le_of_ble_eq_true rfl) ?_)
              intro w9 hm8 hz8 hk8
              have hS12 : St (fun _ => False) (fun _ => False) w0 w9 [bkR b1 [.int .i64 0, .int .i64 0, .int .i64 0, .int .i64 0, .int .i64 0, .int .i64 0] 26, bkR b2 [.int .i64 ((c0 + (((x1.sent.length : Nat) : Int)))), .int .i64 ((c1 + 1)), .int .i64 ((c2 + (((x1.lost.length : Nat) : Int)))), .int .i64 c3, .int .i64 c4, .int .i64 ((c5 + 1))] 26, bkR b5 [.int .i64 x1.kind, .int .i64 x1.node, .int .i64 x1.at_, .int .i64 x1.x, strV x1.qt, .int .i64 x1.qk, .int .i64 x1.qn, .int .i64 x1.verdict, .int .i64 x1.id, x1.sh.val, .int .i64 x1.got, x1.lh.val] 38] := hS11.bkK (i := 1) rfl hm8 hk8
              refine OL.nil ?_
              refine r_inBlock ?_
              refine r_inBlock ?_
              refine r_region ?_
              refine OL.q (Q1.addI (((i + 1 : Nat) : Int)) rfl rfl (by omega)) rfl rfl ?_
              refine OL.q (Q1.move rfl) rfl rfl ?_
              refine OL.nil ?_
              have hS13 : St (fun _ => False) (fun _ => False) w0 w9 [bkR b1 [.int .i64 0, .int .i64 0, .int .i64 0, .int .i64 0, .int .i64 0, .int .i64 0] 26, bkR b2 [.int .i64 ((c0 + (((x1.sent.length : Nat) : Int)))), .int .i64 ((c1 + 1)), .int .i64 ((c2 + (((x1.lost.length : Nat) : Int)))), .int .i64 c3, .int .i64 c4, .int .i64 ((c5 + 1))] 26] := hS12.sel [0, 1] (by rfl) (by decide)
              exact (ih1 _ _ _ ⟨((c0 + (((x1.sent.length : Nat) : Int))) : Int), ((c1 + 1) : Int), ((c2 + (((x1.lost.length : Nat) : Int))) : Int), (c3 : Int), (c4 : Int), ((c5 + 1) : Int), (i + 1 : Nat), rfl, rfl, hS13, (by first | exact sent_step h0 hx1 | (exfalso; omega)), (by first | exact got_y h1 hx1 (by assumption) | exact got_n h1 hx1 (by assumption) | (exfalso; omega)), (by first | exact lost_step h2 hx1 | (exfalso; omega)), (by first | exact ver_y h3 hx1 (by omega) | exact ver_n h3 hx1 (by omega) | (exfalso; omega)), (by first | exact ver_y h4 hx1 (by omega) | exact ver_n h4 hx1 (by omega) | (exfalso; omega)), (by first | exact ver_y h5 hx1 (by omega) | exact ver_n h5 hx1 (by omega) | (exfalso; omega))⟩ (by omega)).sub ⟨rfl, rfl, rfl, rfl, rfl, trivial⟩
            | false =>
              replace hb8 := ne_of_beq_false hb8.symm
              refine r_cond_f rfl ?_
              refine r_skip ?_
              refine r_inBlock ?_
              refine r_inBlock ?_
              refine r_region ?_
              refine OL.q (Q1.addI (((i + 1 : Nat) : Int)) rfl rfl (by omega)) rfl rfl ?_
              refine OL.q (Q1.move rfl) rfl rfl ?_
              refine OL.nil ?_
              have hS12 : St (fun _ => False) (fun _ => False) w0 w8 [bkR b1 [.int .i64 0, .int .i64 0, .int .i64 0, .int .i64 0, .int .i64 0, .int .i64 0] 26, bkR b2 [.int .i64 ((c0 + (((x1.sent.length : Nat) : Int)))), .int .i64 ((c1 + 1)), .int .i64 ((c2 + (((x1.lost.length : Nat) : Int)))), .int .i64 c3, .int .i64 c4, .int .i64 c5] 26] := hS11.sel [0, 1] (by rfl) (by decide)
              exact (ih1 _ _ _ ⟨((c0 + (((x1.sent.length : Nat) : Int))) : Int), ((c1 + 1) : Int), ((c2 + (((x1.lost.length : Nat) : Int))) : Int), (c3 : Int), (c4 : Int), (c5 : Int), (i + 1 : Nat), rfl, rfl, hS12, (by first | exact sent_step h0 hx1 | (exfalso; omega)), (by first | exact got_y h1 hx1 (by assumption) | exact got_n h1 hx1 (by assumption) | (exfalso; omega)), (by first | exact lost_step h2 hx1 | (exfalso; omega)), (by first | exact ver_y h3 hx1 (by omega) | exact ver_n h3 hx1 (by omega) | (exfalso; omega)), (by first | exact ver_y h4 hx1 (by omega) | exact ver_n h4 hx1 (by omega) | (exfalso; omega)), (by first | exact ver_y h5 hx1 (by omega) | exact ver_n h5 hx1 (by omega) | (exfalso; omega))⟩ (by omega)).sub ⟨rfl, rfl, rfl, rfl, rfl, trivial⟩
      | false =>
        replace hb5 := of_decide_eq_false hb5.symm
        refine r_cond_f rfl ?_
        refine r_skip ?_
        refine r_seq ?_
        refine r_region ?_
        refine OL.q (Q1.fieldAddr fl38_1 rfl) rfl rfl ?_
        refine OL.q (Q1.load1 ti3 rfl (fun _ e => e ▸ (f10.cell 7 _ rfl))) rfl rfl ?_
        refine OL.nil ?_
        refine r_block ?_
        refine r_seq ?_
        refine r_region ?_
        refine OL.qb (Q1.eq rfl rfl) rfl rfl ?_
        intro b7 hb6
        refine OL.q (Q1.assign rfl) rfl rfl ?_
        refine OL.nil ?_
        cases b7 with
        | true =>
          replace hb6 := eq_of_beq hb6.symm
          refine r_cond_t rfl ?_
          refine r_region ?_
          refine OL.q (Q1.fieldAddr fl26_3 rfl) rfl rfl ?_
          have f11 := hS10.bk (i := 1) rfl
          refine OL.q (Q1.load1 ti3 rfl (fun _ e => e ▸ (f11.cell 3 _ rfl))) rfl rfl ?_
          refine OL.q (Q1.addI ((c3 + 1)) rfl rfl (by omega)) rfl rfl ?_
          refine OL.q (Q1.fieldAddr fl26_3 rfl) rfl rfl ?_
          refine OL.act rfl rfl (AW.store ti3 rfl rfl rfl rfl rfl f11 (Nat.le_of_ble_eq_true rfl) ?_)
          intro w8 hm7 hz7 hk7
          have hS11 : St (fun _ => False) (fun _ => False) w0 w8 [bkR b1 [.int .i64 0, .int .i64 0, .int .i64 0, .int .i64 0, .int .i64 0, .int .i64 0] 26, bkR b2 [.int .i64 ((c0 + (((x1.sent.length : Nat) : Int)))), .int .i64 c1, .int .i64 ((c2 + (((x1.lost.length : Nat) : Int)))), .int .i64 ((c3 + 1)), .int .i64 c4, .int .i64 c5] 26, bkR b5 [.int .i64 x1.kind, .int .i64 x1.node, .int .i64 x1.at_, .int .i64 x1.x, strV x1.qt, .int .i64 x1.qk, .int .i64 x1.qn, .int .i64 x1.verdict, .int .i64 x1.id, x1.sh.val, .int .i64 x1.got, x1.lh.val] 38] := hS10.bkK (i := 1) rfl hm7 hk7
          refine OL.nil ?_
          refine r_inBlock ?_
          refine r_inBlock ?_
          refine r_region ?_
          refine OL.q (Q1.addI (((i + 1 : Nat) : Int)) rfl rfl (by omega)) rfl rfl ?_
          refine OL.q (Q1.move rfl) rfl rfl ?_
          refine OL.nil ?_
          have hS12 : St (fun _ => False) (fun _ => False) w0 w8 [bkR b1 [.int .i64 0, .int .i64 0, .int .i64 0, .int .i64 0, .int .i64 0, .int .i64 0] 26, bkR b2 [.int .i64 ((c0 + (((x1.sent.length : Nat) : Int)))), .int .i64 c1, .int .i64 ((c2 + (((x1.lost.length : Nat) : Int)))), .int .i64 ((c3 + 1)), .int .i64 c4, .int .i64 c5] 26] := hS11.sel [0, 1] (by rfl) (by decide)
          exact (ih1 _ _ _ ⟨((c0 + (((x1.sent.length : Nat) : Int))) : Int), (c1 : Int), ((c2 + (((x1.lost.length : Nat) : Int))) : Int), ((c3 + 1) : Int), (c4 : Int), (c5 : Int), (i + 1 : Nat), rfl, rfl, hS12, (by first | exact sent_step h0 hx1 | (exfalso; omega)), (by first | exact got_y h1 hx1 (by assumption) | exact got_n h1 hx1 (by assumption) | (exfalso; omega)), (by first | exact lost_step h2 hx1 | (exfalso; omega)), (by first | exact ver_y h3 hx1 (by omega) | exact ver_n h3 hx1 (by omega) | (exfalso; omega)), (by first | exact ver_y h4 hx1 (by omega) | exact ver_n h4 hx1 (by omega) | (exfalso; omega)), (by first | exact ver_y h5 hx1 (by omega) | exact ver_n h5 hx1 (by omega) | (exfalso; omega))⟩ (by omega)).sub ⟨rfl, rfl, rfl, rfl, rfl, trivial⟩
        | false =>
          replace hb6 := ne_of_beq_false hb6.symm
          refine r_cond_f rfl ?_
          refine r_seq ?_
          refine r_region ?_
          refine OL.qb (Q1.eq rfl rfl) rfl rfl ?_
          intro b8 hb7
          refine OL.q (Q1.assign rfl) rfl rfl ?_
          refine OL.nil ?_
          cases b8 with
          | true =>
            replace hb7 := eq_of_beq hb7.symm
            refine r_cond_t rfl ?_
            refine r_region ?_
            refine OL.q (Q1.fieldAddr fl26_4 rfl) rfl rfl ?_
            have f11 := hS10.bk (i := 1) rfl
            refine OL.q (Q1.load1 ti3 rfl (fun _ e => e ▸ (f11.cell 4 _ rfl))) rfl rfl ?_
            refine OL.q (Q1.addI ((c4 + 1)) rfl rfl (by omega)) rfl rfl ?_
            refine OL.q (Q1.fieldAddr fl26_4 rfl) rfl rfl ?_
            refine OL.act rfl rfl (AW.store ti3 rfl rfl rfl rfl rfl f11 (Nat.le_of_ble_eq_true rfl) ?_)
            intro w8 hm7 hz7 hk7
            have hS11 : St (fun _ => False) (fun _ => False) w0 w8 [bkR b1 [.int .i64 0, .int .i64 0, .int .i64 0, .int .i64 0, .int .i64 0, .int .i64 0] 26, bkR b2 [.int .i64 ((c0 + (((x1.sent.length : Nat) : Int)))), .int .i64 c1, .int .i64 ((c2 + (((x1.lost.length : Nat) : Int)))), .int .i64 c3, .int .i64 ((c4 + 1)), .int .i64 c5] 26, bkR b5 [.int .i64 x1.kind, .int .i64 x1.node, .int .i64 x1.at_, .int .i64 x1.x, strV x1.qt, .int .i64 x1.qk, .int .i64 x1.qn, .int .i64 x1.verdict, .int .i64 x1.id, x1.sh.val, .int .i64 x1.got, x1.lh.val] 38] := hS10.bkK (i := 1) rfl hm7 hk7
            refine OL.nil ?_
            refine r_inBlock ?_
            refine r_inBlock ?_
            refine r_region ?_
            refine OL.q (Q1.addI (((i + 1 : Nat) : Int)) rfl rfl (by omega)) rfl rfl ?_
            refine OL.q (Q1.move rfl) rfl rfl ?_
            refine OL.nil ?_
            have hS12 : St (fun _ => False) (fun _ => False) w0 w8 [bkR b1 [.int .i64 0, .int .i64 0, .int .i64 0, .int .i64 0, .int .i64 0, .int .i64 0] 26, bkR b2 [.int .i64 ((c0 + (((x1.sent.length : Nat) : Int)))), .int .i64 c1, .int .i64 ((c2 + (((x1.lost.length : Nat) : Int)))), .int .i64 c3, .int .i64 ((c4 + 1)), .int .i64 c5] 26] := hS11.sel [0, 1] (by rfl) (by decide)
            exact (ih1 _ _ _ ⟨((c0 + (((x1.sent.length : Nat) : Int))) : Int), (c1 : Int), ((c2 + (((x1.lost.length : Nat) : Int))) : Int), (c3 : Int), ((c4 + 1) : Int), (c5 : Int), (i + 1 : Nat), rfl, rfl, hS12, (by first | exact sent_step h0 hx1 | (exfalso; omega)), (by first | exact got_y h1 hx1 (by assumption) | exact got_n h1 hx1 (by assumption) | (exfalso; omega)), (by first | exact lost_step h2 hx1 | (exfalso; omega)), (by first | exact ver_y h3 hx1 (by omega) | exact ver_n h3 hx1 (by omega) | (exfalso; omega)), (by first | exact ver_y h4 hx1 (by omega) | exact ver_n h4 hx1 (by omega) | (exfalso; omega)), (by first | exact ver_y h5 hx1 (by omega) | exact ver_n h5 hx1 (by omega) | (exfalso; omega))⟩ (by omega)).sub ⟨rfl, rfl, rfl, rfl, rfl, trivial⟩
          | false =>
            replace hb7 := ne_of_beq_false hb7.symm
            refine r_cond_f rfl ?_
            refine r_seq ?_
            refine r_region ?_
            refine OL.qb (Q1.eq rfl rfl) rfl rfl ?_
            intro b9 hb8
            refine OL.q (Q1.assign rfl) rfl rfl ?_
            refine OL.nil ?_
            cases b9 with
            | true =>
              replace hb8 := eq_of_beq hb8.symm
              refine r_cond_t rfl ?_
              refine r_region ?_
              refine OL.q (Q1.fieldAddr fl26_5 rfl) rfl rfl ?_
              have f11 := hS10.bk (i := 1) rfl
              refine OL.q (Q1.load1 ti3 rfl (fun _ e => e ▸ (f11.cell 5 _ rfl))) rfl rfl ?_
              refine OL.q (Q1.addI ((c5 + 1)) rfl rfl (by omega)) rfl rfl ?_
              refine OL.q (Q1.fieldAddr fl26_5 rfl) rfl rfl ?_
              refine OL.act rfl rfl (AW.store ti3 rfl rfl rfl rfl rfl f11 (Nat.le_of_ble_eq_true rfl) ?_)
              intro w8 hm7 hz7 hk7
              have hS11 : St (fun _ => False) (fun _ => False) w0 w8 [bkR b1 [.int .i64 0, .int .i64 0, .int .i64 0, .int .i64 0, .int .i64 0, .int .i64 0] 26, bkR b2 [.int .i64 ((c0 + (((x1.sent.length : Nat) : Int)))), .int .i64 c1, .int .i64 ((c2 + (((x1.lost.length : Nat) : Int)))), .int .i64 c3, .int .i64 c4, .int .i64 ((c5 + 1))] 26, bkR b5 [.int .i64 x1.kind, .int .i64 x1.node, .int .i64 x1.at_, .int .i64 x1.x, strV x1.qt, .int .i64 x1.qk, .int .i64 x1.qn, .int .i64 x1.verdict, .int .i64 x1.id, x1.sh.val, .int .i64 x1.got, x1.lh.val] 38] := hS10.bkK (i := 1) rfl hm7 hk7
              refine OL.nil ?_
              refine r_inBlock ?_
              refine r_inBlock ?_
              refine r_region ?_
              refine OL.q (Q1.addI (((i + 1 : Nat) : Int)) rfl rfl (by omega)) rfl rfl ?_
              refine OL.q (Q1.move rfl) rfl rfl ?_
              refine OL.nil ?_
              have hS12 : St (fun _ => False) (fun _ => False) w0 w8 [bkR b1 [.int .i64 0, .int .i64 0, .int .i64 0, .int .i64 0, .int .i64 0, .int .i64 0] 26, bkR b2 [.int .i64 ((c0 + (((x1.sent.length : Nat) : Int)))), .int .i64 c1, .int .i64 ((c2 + (((x1.lost.length : Nat) : Int)))), .int .i64 c3, .int .i64 c4, .int .i64 ((c5 + 1))] 26] := hS11.sel [0, 1] (by rfl) (by decide)
              exact (ih1 _ _ _ ⟨((c0 + (((x1.sent.length : Nat) : Int))) : Int), (c1 : Int), ((c2 + (((x1.lost.length : Nat) : Int))) : Int), (c3 : Int), (c4 : Int), ((c5 + 1) : Int), (i + 1 : Nat), rfl, rfl, hS12, (by first | exact sent_step h0 hx1 | (exfalso; omega)), (by first | exact got_y h1 hx1 (by assumption) | exact got_n h1 hx1 (by assumption) | (exfalso; omega)), (by first | exact lost_step h2 hx1 | (exfalso; omega)), (by first | exact ver_y h3 hx1 (by omega) | exact ver_n h3 hx1 (by omega) | (exfalso; omega)), (by first | exact ver_y h4 hx1 (by omega) | exact ver_n h4 hx1 (by omega) | (exfalso; omega)), (by first | exact ver_y h5 hx1 (by omega) | exact ver_n h5 hx1 (by omega) | (exfalso; omega))⟩ (by omega)).sub ⟨rfl, rfl, rfl, rfl, rfl, trivial⟩
            | false =>
              replace hb8 := ne_of_beq_false hb8.symm
              refine r_cond_f rfl ?_
              refine r_skip ?_
              refine r_inBlock ?_
              refine r_inBlock ?_
              refine r_region ?_
              refine OL.q (Q1.addI (((i + 1 : Nat) : Int)) rfl rfl (by omega)) rfl rfl ?_
              refine OL.q (Q1.move rfl) rfl rfl ?_
              refine OL.nil ?_
              have hS11 : St (fun _ => False) (fun _ => False) w0 w7 [bkR b1 [.int .i64 0, .int .i64 0, .int .i64 0, .int .i64 0, .int .i64 0, .int .i64 0] 26, bkR b2 [.int .i64 ((c0 + (((x1.sent.length : Nat) : Int)))), .int .i64 c1, .int .i64 ((c2 + (((x1.lost.length : Nat) : Int)))), .int .i64 c3, .int .i64 c4, .int .i64 c5] 26] := hS10.sel [0, 1] (by rfl) (by decide)
              exact (ih1 _ _ _ ⟨((c0 + (((x1.sent.length : Nat) : Int))) : Int), (c1 : Int), ((c2 + (((x1.lost.length : Nat) : Int))) : Int), (c3 : Int), (c4 : Int), (c5 : Int), (i + 1 : Nat), rfl, rfl, hS11, (by first | exact sent_step h0 hx1 | (exfalso; omega)), (by first | exact got_y h1 hx1 (by assumption) | exact got_n h1 hx1 (by assumption) | (exfalso; omega)), (by first | exact lost_step h2 hx1 | (exfalso; omega)), (by first | exact ver_y h3 hx1 (by omega) | exact ver_n h3 hx1 (by omega) | (exfalso; omega)), (by first | exact ver_y h4 hx1 (by omega) | exact ver_n h4 hx1 (by omega) | (exfalso; omega)), (by first | exact ver_y h5 hx1 (by omega) | exact ver_n h5 hx1 (by omega) | (exfalso; omega))⟩ (by omega)).sub ⟨rfl, rfl, rfl, rfl, rfl, trivial⟩
    | false =>
      replace hb3 := of_decide_eq_false hb3.symm
      refine r_cond_f rfl ?_
      refine r_exit rfl ?_
      refine r_seq ?_
      refine r_region ?_
      have f2 := hS5.bk (i := 1) rfl
      refine OL.q (Q1.loadN ti26 rfl (fun _ e => e ▸ f2.row) rfl) rfl rfl ?_
      have f3 := hS5.bk (i := 0) rfl
      refine OL.act rfl rfl (AW.store ti26 rfl rfl rfl rfl rfl f3 (Nat.le_of_ble_eq_true rfl) ?_)
      intro w4 hm3 hz3 hk3
      have hS6 : St (fun _ => False) (fun _ => False) w0 w4 [bkR b1 [.int .i64 c0, .int .i64 c1, .int .i64 c2, .int .i64 c3, .int .i64 c4, .int .i64 c5] 26, bkR b2 [.int .i64 c0, .int .i64 c1, .int .i64 c2, .int .i64 c3, .int .i64 c4, .int .i64 c5] 26] := hS5.bkK (i := 0) rfl hm3 hk3
      refine OL.nil ?_
      have f4 := hS6.bk (i := 0) rfl
      refine r_retC1 Try.func6 rfl rfl ti26 f4.row rfl ?_
      exact Ret.mk ⟨(congrArg (fun z_ : RSum => Value.agg #[.int .i64 z_.sent, .int .i64 z_.got, .int .i64 z_.lost, .int .i64 z_.accepted, .int .i64 z_.busy, .int .i64 z_.invalid]) (a₁ := (RSum.mk c0 c1 c2 c3 c4 c5)) (by first | exact sum_end h0 h1 h2 h3 h4 h5 (by omega) | (exfalso; omega))), hS6.mod⟩
set_option maxRecDepth 20000 in
set_option maxHeartbeats 4000000 in
theorem trasked_c {w0 : World}  {v_recs : Value} {recs : List RRec} (h_recs : Sl encRec w0 (Iv 0 w0.heap.size) v_recs recs) (hd : ∀ r ∈ recs, RecD w0 (Iv 0 w0.heap.size) r) (hlr : recs.length ≤ 1000000) :
    Calls Try.prog 9 #[v_recs] w0 (Ret fun rv w1 => (∃ gr, Acc Ik.encI 3 1 w1 gr rv (askedM recs) ∧ (gr = 0 ∨ w0.heap.size < gr)) ∧ Ext w0 w1) := by
  have hle_recs := h_recs.le
  have hS0 := St.start0 w0
  refine calls_enter Try.func9 rfl Try.ntmps9 rfl ?_
  refine r_seq ?_
  refine r_region ?_
  refine OL.q (Q1.assign rfl) rfl rfl ?_
  refine OL.nil ?_
  refine r_seq ?_
  refine r_region ?_
  refine OL.q (Q1.assign rfl) rfl rfl ?_
  refine OL.nil ?_
  refine r_seq ?_
  refine r_seq ?_
  refine r_region ?_
  refine OL.q (Q1.move rfl) rfl rfl ?_
  refine OL.q (Q1.lenSl Try.underlying22 (h_recs) rfl) rfl rfl ?_
  refine OL.q (Q1.move rfl) rfl rfl ?_
  refine OL.nil ?_
  refine r_block ?_
  have hS2 : St (fun _ => False) (fun _ => False) w0 w0 [accR Ik.encI 3 1 (.slice none 0 0) []] := hS0.newAcc (Mod.refl _ _) Acc.nil (.inl rfl)
  refine r_loop (I := fun m E W => ∃ (v_l : Value) (l : List Int) (i : Nat), E = [(3, v_l), (6, v_recs), (7, .int .i64 (((recs.length : Nat) : Int))), (8, .int .i64 (((i : Nat) : Int)))] ∧ m = recs.length - i ∧ St (fun _ => False) (fun _ => False) w0 W [accR Ik.encI 3 1 v_l l] ∧ (l = askedM (recs.take i)) ∧ (l.length ≤ i)) ?_ ?_
  · refine ⟨_, _, ⟨(.slice none 0 0 : Value), ([] : List Int), (0 : Nat), rfl, rfl, hS2, (by rfl), (by exact Nat.zero_le _)⟩, ⟨rfl, rfl, rfl, rfl, trivial⟩⟩
  · rintro _ _ w1 ⟨v_l, l, i, rfl, rfl, hS1, hi, hli⟩ ih1
    refine r_seq ?_
    refine r_region ?_
    refine OL.qb (Q1.lt rfl rfl) rfl rfl ?_
    intro b1 hb1
    refine OL.nil ?_
    refine r_seq ?_
    cases b1 with
    | true =>
      replace hb1 := of_decide_eq_true hb1.symm
      refine r_cond_t rfl ?_
      refine r_skip ?_
      refine r_seq ?_
      refine r_block ?_
      refine r_seq ?_
      refine r_region ?_
      have f1 := hS1.out h_recs (fun _ _ h => h)
      obtain ⟨x1, b2, o1, hx1, hr1, hl1, hw1⟩ := Sl.atF (P := Try.prog) f1 Try.underlying22 ti38 encRec_len (k := .i64) (n := ((i : Nat) : Int)) (i) (by omega) (by first | assumption | omega)
      refine OL.q (Q1.indexAddr rfl rfl hr1) rfl rfl ?_
      refine OL.q (Q1.loadN ti38 rfl (fun _ e => e ▸ hw1) rfl) rfl rfl ?_
      have hdp1 := hd x1 (List.mem_of_getElem? hx1)
      have hdf1 := hdp1.sent
      have hle_1 := hdf1.le
      have hdf2 := hdp1.lost
      have hle_2 := hdf2.le
      refine OL.act rfl rfl (AW.alloc ti38 ?_)
      intro w2 b3 hm1 hb2 hz1 hk1
      have hS3 := hS1.ext hm1
      have hS4 : St (fun _ => False) (fun _ => False) w0 w2 [accR Ik.encI 3 1 v_l l, bkR b3 [.int .i64 0, .int .i64 0, .int .i64 0, .int .i64 0, strV [], .int .i64 0, .int .i64 0, .int .i64 0, .int .i64 0, .slice none 0 0, .int .i64 0, .slice none 0 0] 38] := hS1.newBk hm1 hb2 hk1
      have f2 := hS4.bk (i := 1) rfl
      refine OL.act rfl rfl (AW.store ti38 rfl rfl rfl rfl rfl f2 (Nat.le_of_ble_eq_true rfl) ?_)
      intro w3 hm2 hz2 hk2
      have hS5 : St (fun _ => False) (fun _ => False) w0 w3 [accR Ik.encI 3 1 v_l l, bkR b3 [.int .i64 x1.kind, .int .i64 x1.node, .int .i64 x1.at_, .int .i64 x1.x, strV x1.qt, .int .i64 x1.qk, .int .i64 x1.qn, .int .i64 x1.verdict, .int .i64 x1.id, x1.sh.val, .int .i64 x1.got, x1.lh.val] 38] := hS4.bkK (i := 1) rfl hm2 hk2
      refine OL.nil ?_
      refine r_seq ?_
      refine r_region ?_
      refine OL.q (Q1.fieldAddr fl38_1 rfl) rfl rfl ?_
      have f3 := hS5.bk (i := 1) rfl
      refine OL.q (Q1.load1 ti3 rfl (fun _ e => e ▸ (f3.cell 7 _ rfl))) rfl rfl ?_
      refine OL.qb (Q1.eq rfl rfl) rfl rfl ?_
      intro b4 hb3
      refine OL.nil ?_
      cases b4 with
      | true =>
        replace hb3 := eq_of_beq hb3.symm
        refine r_cond_t rfl ?_
        refine r_region ?_
        refine OL.q (Q1.move rfl) rfl rfl ?_
        refine OL.q (Q1.fieldAddr fl38_2 rfl) rfl rfl ?_
        refine OL.q (Q1.load1 ti3 rfl (fun _ e => e ▸ (f3.cell 8 _ rfl))) rfl rfl ?_
        refine OL.act rfl rfl (AW.buildSlice [(.int .i64 x1.id : Value)] Try.underlying28 ti3 rfl rfl rfl (by decide) ?_)
        intro w4 b5 hm3 hb4 hz3 hk3
        have hS6 := hS5.ext hm3
        have hl2 := Sl.of_blk (enc := Ik.encI) hk3 ([x1.id] : List Int) 1 rfl rfl (by unfold maxLen; omega)
        have hS7 : St (fun _ => False) (fun _ => False) w0 w4 [accR Ik.encI 3 1 v_l l, bkR b3 [.int .i64 x1.kind, .int .i64 x1.node, .int .i64 x1.at_, .int .i64 x1.x, strV x1.qt, .int .i64 x1.qk, .int .i64 x1.qn, .int .i64 x1.verdict, .int .i64 x1.id, x1.sh.val, .int .i64 x1.got, x1.lh.val] 38, slR Ik.encI [((.slice (some ⟨b5, 0, none⟩) 1 1), [x1.id])]] := hS5.newSlB hm3 hb4 hz3 hl2
        obtain ⟨g2, f4, hl3, k1⟩ := hS7.accK (i := 0) rfl
        have f5 := hS7.sl (i := 2) (k := 0) rfl rfl
        refine OL.act rfl rfl (AW.append f4 Try.underlying28 ti3 rfl Ik.encI_len Ik.encI_one rfl rfl (f5) (by first | omega | (simp only [List.length_append, List.length_cons, List.length_nil]; omega) | (simp; omega)) (by unfold maxLen; first | omega | (simp only [List.length_append, List.length_cons, List.length_nil]; omega) | (simp; omega)) ?_)
        intro v1 g1 w5 ha1 hm4 hg1 hz4
        have hS8 : St (fun _ => False) (fun _ => False) w0 w5 [accR Ik.encI 3 1 v1 ((l ++ [x1.id])), bkR b3 [.int .i64 x1.kind, .int .i64 x1.node, .int .i64 x1.at_, .int .i64 x1.x, strV x1.qt, .int .i64 x1.qk, .int .i64 x1.qn, .int .i64 x1.verdict, .int .i64 x1.id, x1.sh.val, .int .i64 x1.got, x1.lh.val] 38, slR Ik.encI [((.slice (some ⟨b5, 0, none⟩) 1 1), [x1.id])]] := k1 _ _ _ _ hm4 ha1 hg1
        clear hg1
        refine OL.q (Q1.assign rfl) rfl rfl ?_
        refine OL.nil ?_
        refine r_inBlock ?_
        refine r_region ?_
        refine OL.q (Q1.addI (((i + 1 : Nat) : Int)) rfl rfl (by omega)) rfl rfl ?_
        refine OL.q (Q1.move rfl) rfl rfl ?_
        refine OL.nil ?_
        have hS9 : St (fun _ => False) (fun _ => False) w0 w5 [accR Ik.encI 3 1 v1 ((l ++ [x1.id]))] := hS8.sel [0] (by rfl) (by decide)
        exact (ih1 _ _ _ ⟨(v1 : Value), ((l ++ [x1.id]) : List Int), (i + 1 : Nat), rfl, rfl, hS9, (by first | exact asked_y hi hx1 (by assumption) | exact asked_n hi hx1 (by assumption) | (exfalso; omega)), (by first | omega | (simp only [List.length_append, List.length_cons, List.length_nil]; omega) | (exfalso; omega))⟩ (by omega)).sub ⟨rfl, rfl, rfl, rfl, trivial⟩
      | false =>
        replace hb3 := ne_of_beq_false hb3.symm
        refine r_cond_f rfl ?_
        refine r_skip ?_
        refine r_inBlock ?_
        refine r_region ?_
        refine OL.q (Q1.addI (((i + 1 : Nat) : Int)) rfl rfl (by omega)) rfl rfl ?_
        refine OL.q (Q1.move rfl) rfl rfl ?_
        refine OL.nil ?_
        have hS6 : St (fun _ => False) (fun _ => False) w0 w3 [accR Ik.encI 3 1 v_l l] := hS5.sel [0] (by rfl) (by decide)
        exact (ih1 _ _ _ ⟨(v_l : Value), (l : List Int), (i + 1 : Nat), rfl, rfl, hS6, (by first | exact asked_y hi hx1 (by assumption) | exact asked_n hi hx1 (by assumption) | (exfalso; omega)), (by first | omega | (simp only [List.length_append, List.length_cons, List.length_nil]; omega) | (exfalso; omega))⟩ (by omega)).sub ⟨rfl, rfl, rfl, rfl, trivial⟩
    | false =>
      replace hb1 := of_decide_eq_false hb1.symm
      refine r_cond_f rfl ?_
      refine r_exit rfl ?_
      refine r_seq ?_
      refine r_region ?_
      refine OL.q (Q1.move rfl) rfl rfl ?_
      refine OL.q (Q1.assign rfl) rfl rfl ?_
      refine OL.nil ?_
      refine r_ret1 Try.func9 rfl rfl ?_
      obtain ⟨g1, ha1, hg1⟩ := hS1.accOut (i := 0) rfl
      exact Ret.mk ⟨⟨_, Acc.cast ha1 (by first | rw [hi, List.take_of_length_le (by omega)] | (exfalso; omega)), hg1⟩, hS1.mod⟩
set_option maxRecDepth 20000 in
set_option maxHeartbeats 4000000 in
theorem trpend_c {w0 : World}  {v_recs : Value} {recs : List RRec} (h_recs : Sl encRec w0 (Iv 0 w0.heap.size) v_recs recs) (hd : ∀ r ∈ recs, RecD w0 (Iv 0 w0.heap.size) r) (hlr : recs.length ≤ 1000000) (hsn : sentN recs ≤ 1000000) (hid : ∀ r ∈ recs, RecN r) :
    Calls Try.prog 7 #[v_recs] w0 (Ret fun rv w1 => (∃ gr, Acc Ik.encI 3 1 w1 gr rv (pendM recs) ∧ (gr = 0 ∨ w0.heap.size < gr)) ∧ Ext w0 w1) := by
  have hle_recs := h_recs.le
  have hS0 := St.start0 w0
  refine calls_enter Try.func7 rfl Try.ntmps7 rfl ?_
  refine r_seq ?_
  refine r_region ?_
  refine OL.q (Q1.assign rfl) rfl rfl ?_
  refine OL.nil ?_
  refine r_seq ?_
  refine r_region ?_
  refine OL.act rfl rfl (AW.makeMapS (key := intV) (val := boolV) ?_)
  intro w1 b1 hm1 hb1 hz1 hk1
  have hS1 := hS0.ext hm1
  have hS2 : St (fun _ => False) (fun _ => False) w0 w1 [mpR intV boolV b1 []] := hS0.newMp hm1 hb1 hk1
  refine OL.q (Q1.assign rfl) rfl rfl ?_
  refine OL.nil ?_
  refine r_seq ?_
  refine r_seq ?_
  refine r_region ?_
  refine OL.q (Q1.move rfl) rfl rfl ?_
  have f1 := hS2.out h_recs (fun _ _ h => h)
  refine OL.q (Q1.lenSl Try.underlying22 (f1) rfl) rfl rfl ?_
  refine OL.q (Q1.move rfl) rfl rfl ?_
  refine OL.nil ?_
  refine r_block ?_
  refine r_loop (I := fun m E W => ∃ (mA : List (Int × Bool)) (i : Nat), E = [(0, v_recs), (3, .map (some b1)), (13, v_recs), (14, .int .i64 (((recs.length : Nat) : Int))), (15, .int .i64 (((i : Nat) : Int)))] ∧ m = recs.length - i ∧ St (fun _ => False) (fun _ => False) w0 W [mpR intV boolV b1 mA] ∧ (mA = putAll [] (sentIds (recs.take i)))) ?_ ?_
  · refine ⟨_, _, ⟨([] : List (Int × Bool)), (0 : Nat), rfl, rfl, hS2, (by rfl)⟩, ⟨rfl, rfl, rfl, rfl, rfl, trivial⟩⟩
  · rintro _ _ w2 ⟨mA, i, rfl, rfl, hS3, hmA⟩ ih1
    refine r_seq ?_
    refine r_region ?_
    refine OL.qb (Q1.lt rfl rfl) rfl rfl ?_
    intro b2 hb2
    refine OL.nil ?_
    refine r_seq ?_
    cases b2 with
    | true =>
      replace hb2 := of_decide_eq_true hb2.symm
      refine r_cond_t rfl ?_
      refine r_skip ?_
      refine r_seq ?_
      refine r_block ?_
      refine r_seq ?_
      refine r_region ?_
      have f2 := hS3.out h_recs (fun _ _ h => h)
      obtain ⟨x1, b3, o1, hx1, hr1, hl1, hw1⟩ := Sl.atF (P := Try.prog) f2 Try.underlying22 ti38 encRec_len (k := .i64) (n := ((i : Nat) : Int)) (i) (by omega) (by first | assumption | omega)
      refine OL.q (Q1.indexAddr rfl rfl hr1) rfl rfl ?_
      refine OL.q (Q1.loadN ti38 rfl (fun _ e => e ▸ hw1) rfl) rfl rfl ?_
      have hdp1 := hd x1 (List.mem_of_getElem? hx1)
      have hdf1 := hdp1.sent
      have hle_1 := hdf1.le
      have hdf2 := hdp1.lost
      have hle_2 := hdf2.le
      refine OL.act rfl rfl (AW.alloc ti38 ?_)
      intro w3 b4 hm2 hb3 hz2 hk2
      have hS4 := hS3.ext hm2
      have hS5 : St (fun _ => False) (fun _ => False) w0 w3 [mpR intV boolV b1 mA, bkR b4 [.int .i64 0, .int .i64 0, .int .i64 0, .int .i64 0, strV [], .int .i64 0, .int .i64 0, .int .i64 0, .int .i64 0, .slice none 0 0, .int .i64 0, .slice none 0 0] 38] := hS3.newBk hm2 hb3 hk2
      have f3 := hS5.bk (i := 1) rfl
      refine OL.act rfl rfl (AW.store ti38 rfl rfl rfl rfl rfl f3 (Nat.le_of_ble_eq_true rfl) ?_)
      intro w4 hm3 hz3 hk3
      have hS6 : St (fun _ => False) (fun _ => False) w0 w4 [mpR intV boolV b1 mA, bkR b4 [.int .i64 x1.kind, .int .i64 x1.node, .int .i64 x1.at_, .int .i64 x1.x, strV x1.qt, .int .i64 x1.qk, .int .i64 x1.qn, .int .i64 x1.verdict, .int .i64 x1.id, x1.sh.val, .int .i64 x1.got, x1.lh.val] 38] := hS5.bkK (i := 1) rfl hm3 hk3
      refine OL.nil ?_
      refine r_seq ?_
      refine r_region ?_
      refine OL.q (Q1.fieldAddr fl38_3 rfl) rfl rfl ?_
      have f4 := hS6.bk (i := 1) rfl
      refine OL.q (Q1.load1 ti36 rfl (fun _ e => e ▸ (f4.cell 9 _ rfl))) rfl rfl ?_
      have f5 := hS6.out hdf1 (fun _ _ h => h)
      refine OL.q (Q1.lenSl Try.underlying36 (f5) rfl) rfl rfl ?_
      refine OL.q (Q1.move rfl) rfl rfl ?_
      refine OL.nil ?_
      refine r_block ?_
      have hS8 : St (fun _ => False) (fun _ => False) w0 w4 [mpR intV boolV b1 mA] := hS6.sel [0] (by rfl) (by decide)
      refine r_loop (I := fun m E W => ∃ (mB : List (Int × Bool)) (j : Nat), E = [(0, v_recs), (3, .map (some b1)), (13, v_recs), (14, .int .i64 (((recs.length : Nat) : Int))), (15, .int .i64 (((i : Nat) : Int))), (20, x1.sh.val), (21, .int .i64 (((x1.sent.length : Nat) : Int))), (22, .int .i64 (((j : Nat) : Int)))] ∧ m = x1.sent.length - j ∧ St (fun _ => False) (fun _ => False) w0 W [mpR intV boolV b1 mB] ∧ (mB = putAll mA ((x1.sent.take j).map (·.id)))) ?_ ?_
      · refine ⟨_, _, ⟨(mA : List (Int × Bool)), (0 : Nat), rfl, rfl, hS8, (by rfl)⟩, ⟨rfl, rfl, rfl, rfl, rfl, rfl, rfl, rfl, trivial⟩⟩
      · rintro _ _ w5 ⟨mB, j, rfl, rfl, hS7, hmB⟩ ih2
        refine r_seq ?_
        refine r_region ?_
        refine OL.qb (Q1.lt rfl rfl) rfl rfl ?_
        intro b5 hb4
        refine OL.nil ?_
        refine r_seq ?_
        cases b5 with
        | true =>
          replace hb4 := of_decide_eq_true hb4.symm
          refine r_cond_t rfl ?_
          refine r_skip ?_
          refine r_seq ?_
          refine r_block ?_
          refine r_seq ?_
          refine r_region ?_
          have f6 := hS7.out hdf1 (fun _ _ h => h)
          obtain ⟨x2, b6, o2, hx2, hr2, hl2, hw2⟩ := Sl.atF (P := Try.prog) f6 Try.underlying36 ti40 encSent_len (k := .i64) (n := ((j : Nat) : Int)) (j) (by omega) (by first | assumption | omega)
          refine OL.q (Q1.indexAddr rfl rfl hr2) rfl rfl ?_
          refine OL.q (Q1.loadN ti40 rfl (fun _ e => e ▸ hw2) rfl) rfl rfl ?_
          refine OL.act rfl rfl (AW.alloc ti40 ?_)
          intro w6 b7 hm4 hb5 hz4 hk4
          have hS9 := hS7.ext hm4
          have hS10 : St (fun _ => False) (fun _ => False) w0 w6 [mpR intV boolV b1 mB, bkR b7 [.int .i64 0, .int .i64 0, .int .i64 0] 40] := hS7.newBk hm4 hb5 hk4
          have f7 := hS10.bk (i := 1) rfl
          refine OL.act rfl rfl (AW.store ti40 rfl rfl rfl rfl rfl f7 (Nat.le_of_ble_eq_true rfl) ?_)
          intro w7 hm5 hz5 hk5
          have hS11 : St (fun _ => False) (fun _ => False) w0 w7 [mpR intV boolV b1 mB, bkR b7 [.int .i64 x2.id, .int .i64 x2.frm, .int .i64 x2.to_] 40] := hS10.bkK (i := 1) rfl hm5 hk5
          refine OL.nil ?_
          refine r_region ?_
          refine OL.q (Q1.move rfl) rfl rfl ?_
          refine OL.q (Q1.fieldAddr fl40_0 rfl) rfl rfl ?_
          have f8 := hS11.bk (i := 1) rfl
          refine OL.q (Q1.load1 ti3 rfl (fun _ e => e ▸ (f8.cell 0 _ rfl))) rfl rfl ?_
          have f9 := hS11.mp (i := 0) rfl
          refine OL.act rfl rfl (AW.mapSet x2.id true (keyS_int Try.underlying3) Try.underlying41 rfl rfl rfl f9 ?_)
          intro w8 hm6 hz6 hk6
          have hS12 : St (fun _ => False) (fun _ => False) w0 w8 [mpR intV boolV b1 ((setM mB x2.id true)), bkR b7 [.int .i64 x2.id, .int .i64 x2.frm, .int .i64 x2.to_] 40] := hS11.mpK (i := 0) rfl hm6 hk6
          refine OL.nil ?_
          refine r_inBlock ?_
          refine r_region ?_
          refine OL.q (Q1.addI (((j + 1 : Nat) : Int)) rfl rfl (by omega)) rfl rfl ?_
          refine OL.q (Q1.move rfl) rfl rfl ?_
          refine OL.nil ?_
          have hS13 : St (fun _ => False) (fun _ => False) w0 w8 [mpR intV boolV b1 ((setM mB x2.id true))] := hS12.sel [0] (by rfl) (by decide)
          exact (ih2 _ _ _ ⟨((setM mB x2.id true) : List (Int × Bool)), (j + 1 : Nat), rfl, rfl, hS13, (by first | exact put_in hmB hx2 | (exfalso; omega))⟩ (by omega)).sub ⟨rfl, rfl, rfl, rfl, rfl, rfl, rfl, rfl, trivial⟩
        | false =>
          replace hb4 := of_decide_eq_false hb4.symm
          refine r_cond_f rfl ?_
          refine r_exit rfl ?_
          refine r_inBlock ?_
          refine r_region ?_
          refine OL.q (Q1.addI (((i + 1 : Nat) : Int)) rfl rfl (by omega)) rfl rfl ?_
          refine OL.q (Q1.move rfl) rfl rfl ?_
          refine OL.nil ?_
          exact (ih1 _ _ _ ⟨(mB : List (Int × Bool)), (i + 1 : Nat), rfl, rfl, hS7, (by first | exact put_out hmA hmB hx1 (by omega) | (exfalso; omega))⟩ (by omega)).sub ⟨rfl, rfl, rfl, rfl, rfl, trivial⟩
    | false =>
      replace hb2 := of_decide_eq_false hb2.symm
      refine r_cond_f rfl ?_
      refine r_exit rfl ?_
      refine r_seq ?_
      refine r_seq ?_
      refine r_region ?_
      refine OL.q (Q1.move rfl) rfl rfl ?_
      have f2 := hS3.out h_recs (fun _ _ h => h)
      refine OL.q (Q1.lenSl Try.underlying22 (f2) rfl) rfl rfl ?_
      refine OL.q (Q1.move rfl) rfl rfl ?_
      refine OL.nil ?_
      refine r_block ?_
      refine r_loop (I := fun m E W => ∃ (mC : List (Int × Bool)) (i2 : Nat), E = [(3, .map (some b1)), (31, v_recs), (32, .int .i64 (((recs.length : Nat) : Int))), (33, .int .i64 (((i2 : Nat) : Int)))] ∧ m = recs.length - i2 ∧ St (fun _ => False) (fun _ => False) w0 W [mpR intV boolV b1 mC] ∧ (mC = delAll (putAll [] (sentIds recs)) (goneIds (recs.take i2)))) ?_ ?_
      · refine ⟨_, _, ⟨(mA : List (Int × Bool)), (0 : Nat), rfl, rfl, hS3, (by exact put_all hmA (by omega))⟩, ⟨rfl, rfl, rfl, rfl, trivial⟩⟩
      · rintro _ _ w3 ⟨mC, i2, rfl, rfl, hS4, hmC⟩ ih2
        refine r_seq ?_
        refine r_region ?_
        refine OL.qb (Q1.lt rfl rfl) rfl rfl ?_
        intro b3 hb3
        refine OL.nil ?_
        refine r_seq ?_
        cases b3 with
        | true =>
          replace hb3 := of_decide_eq_true hb3.symm
          refine r_cond_t rfl ?_
          refine r_skip ?_
          refine r_seq ?_
          refine r_block ?_
          refine r_seq ?_
          refine r_region ?_
          have f3 := hS4.out h_recs (fun _ _ h => h)
          obtain ⟨x1, b4, o1, hx1, hr1, hl1, hw1⟩ := Sl.atF (P := Try.prog) f3 Try.underlying22 ti38 encRec_len (k := .i64) (n := ((i2 : Nat) : Int)) (i2) (by omega) (by first | assumption | omega)
          refine OL.q (Q1.indexAddr rfl rfl hr1) rfl rfl ?_
          refine OL.q (Q1.loadN ti38 rfl (fun _ e => e ▸ hw1) rfl) rfl rfl ?_
          have hdp1 := hd x1 (List.mem_of_getElem? hx1)
          have hdf1 := hdp1.sent
          have hle_1 := hdf1.le
          have hdf2 := hdp1.lost
          have hle_2 := hdf2.le
          refine OL.act rfl rfl (AW.alloc ti38 ?_)
          intro w4 b5 hm2 hb4 hz2 hk2
          have hS5 := hS4.ext hm2
          have hS6 : St (fun _ => False) (fun _ => False) w0 w4 [mpR intV boolV b1 mC, bkR b5 [.int .i64 0, .int .i64 0, .int .i64 0, .int .i64 0, strV [], .int .i64 0, .int .i64 0, .int .i64 0, .int .i64 0, .slice none 0 0, .int .i64 0, .slice none 0 0] 38] := hS4.newBk hm2 hb4 hk2
          have f4 := hS6.bk (i := 1) rfl
          refine OL.act rfl rfl (AW.store ti38 rfl rfl rfl rfl rfl f4 (Nat.le_of_ble_eq_true rfl) ?_)
          intro w5 hm3 hz3 hk3
          have hS7 : St (fun _ => False) (fun _ => False) w0 w5 [mpR intV boolV b1 mC, bkR b5 [.int .i64 x1.kind, .int .i64 x1.node, .int .i64 x1.at_, .int .i64 x1.x, strV x1.qt, .int .i64 x1.qk, .int .i64 x1.qn, .int .i64 x1.verdict, .int .i64 x1.id, x1.sh.val, .int .i64 x1.got, x1.lh.val] 38] := hS6.bkK (i := 1) rfl hm3 hk3
          refine OL.nil ?_
          refine r_seq ?_
          refine r_region ?_
          refine OL.q (Q1.move rfl) rfl rfl ?_
          refine OL.q (Q1.fieldAddr fl38_4 rfl) rfl rfl ?_
          have f5 := hS7.bk (i := 1) rfl
          refine OL.q (Q1.load1 ti3 rfl (fun _ e => e ▸ (f5.cell 10 _ rfl))) rfl rfl ?_
          have f6 := hS7.mp (i := 0) rfl
          refine OL.act rfl rfl (AW.mapDel x1.got (keyS_int Try.underlying3) Try.underlying41 rfl rfl rfl f6 ?_)
          intro w6 hm4 hz4 hk4
          have hS8 : St (fun _ => False) (fun _ => False) w0 w6 [mpR intV boolV b1 ((delM mC x1.got)), bkR b5 [.int .i64 x1.kind, .int .i64 x1.node, .int .i64 x1.at_, .int .i64 x1.x, strV x1.qt, .int .i64 x1.qk, .int .i64 x1.qn, .int .i64 x1.verdict, .int .i64 x1.id, x1.sh.val, .int .i64 x1.got, x1.lh.val] 38] := hS7.mpK (i := 0) rfl hm4 hk4
          refine OL.nil ?_
          refine r_seq ?_
          refine r_region ?_
          refine OL.q (Q1.fieldAddr fl38_5 rfl) rfl rfl ?_
          have f7 := hS8.bk (i := 1) rfl
          refine OL.q (Q1.load1 ti28 rfl (fun _ e => e ▸ (f7.cell 11 _ rfl))) rfl rfl ?_
          have f8 := hS8.out hdf2 (fun _ _ h => h)
          refine OL.q (Q1.lenSl Try.underlying28 (f8) rfl) rfl rfl ?_
          refine OL.q (Q1.move rfl) rfl rfl ?_
          refine OL.nil ?_
          refine r_block ?_
          have hS10 : St (fun _ => False) (fun _ => False) w0 w6 [mpR intV boolV b1 ((delM mC x1.got))] := hS8.sel [0] (by rfl) (by decide)
          refine r_loop (I := fun m E W => ∃ (mD : List (Int × Bool)) (j2 : Nat), E = [(3, .map (some b1)), (31, v_recs), (32, .int .i64 (((recs.length : Nat) : Int))), (33, .int .i64 (((i2 : Nat) : Int))), (41, x1.lh.val), (42, .int .i64 (((x1.lost.length : Nat) : Int))), (43, .int .i64 (((j2 : Nat) : Int)))] ∧ m = x1.lost.length - j2 ∧ St (fun _ => False) (fun _ => False) w0 W [mpR intV boolV b1 mD] ∧ (mD = delAll (delM mC x1.got) (x1.lost.take j2))) ?_ ?_
          · refine ⟨_, _, ⟨((delM mC x1.got) : List (Int × Bool)), (0 : Nat), rfl, rfl, hS10, (by rfl)⟩, ⟨rfl, rfl, rfl, rfl, rfl, rfl, rfl, trivial⟩⟩
          · rintro _ _ w7 ⟨mD, j2, rfl, rfl, hS9, hmD⟩ ih3
            refine r_seq ?_
            refine r_region ?_
            refine OL.qb (Q1.lt rfl rfl) rfl rfl ?_
            intro b6 hb5
            refine OL.nil ?_
            refine r_seq ?_
            cases b6 with
            | true =>
              replace hb5 := of_decide_eq_true hb5.symm
              refine r_cond_t rfl ?_
              refine r_skip ?_
              refine r_seq ?_
              refine r_block ?_
              refine r_seq ?_
              refine r_region ?_
              have f9 := hS9.out hdf2 (fun _ _ h => h)
              obtain ⟨x2, b7, o2, hx2, hr2, hl2, hw2⟩ := Sl.atF (P := Try.prog) f9 Try.underlying28 ti3 Ik.encI_len (k := .i64) (n := ((j2 : Nat) : Int)) (j2) (by omega) (by first | assumption | omega)
              refine OL.q (Q1.indexAddr rfl rfl hr2) rfl rfl ?_
              refine OL.q (Q1.load1 ti3 rfl (fun _ e => e ▸ hw2)) rfl rfl ?_
              refine OL.q (Q1.assign rfl) rfl rfl ?_
              refine OL.nil ?_
              refine r_region ?_
              refine OL.q (Q1.move rfl) rfl rfl ?_
              refine OL.q (Q1.move rfl) rfl rfl ?_
              have f10 := hS9.mp (i := 0) rfl
              refine OL.act rfl rfl (AW.mapDel x2 (keyS_int Try.underlying3) Try.underlying41 rfl rfl rfl f10 ?_)
              intro w8 hm5 hz5 hk5
              have hS11 : St (fun _ => False) (fun _ => False) w0 w8 [mpR intV boolV b1 ((delM mD x2))] := hS9.mpK (i := 0) rfl hm5 hk5
              refine OL.nil ?_
              refine r_inBlock ?_
              refine r_region ?_
              refine OL.q (Q1.addI (((j2 + 1 : Nat) : Int)) rfl rfl (by omega)) rfl rfl ?_
              refine OL.q (Q1.move rfl) rfl rfl ?_
              refine OL.nil ?_
              exact (ih3 _ _ _ ⟨((delM mD x2) : List (Int × Bool)), (j2 + 1 : Nat), rfl, rfl, hS11, (by first | exact del_in hmD hx2 | (exfalso; omega))⟩ (by omega)).sub ⟨rfl, rfl, rfl, rfl, rfl, rfl, rfl, trivial⟩
            | false =>
              replace hb5 := of_decide_eq_false hb5.symm
              refine r_cond_f rfl ?_
              refine r_exit rfl ?_
              refine r_inBlock ?_
              refine r_region ?_
              refine OL.q (Q1.addI (((i2 + 1 : Nat) : Int)) rfl rfl (by omega)) rfl rfl ?_
              refine OL.q (Q1.move rfl) rfl rfl ?_
              refine OL.nil ?_
              exact (ih2 _ _ _ ⟨(mD : List (Int × Bool)), (i2 + 1 : Nat), rfl, rfl, hS9, (by first | exact del_out hmC hmD hx1 (by omega) | (exfalso; omega))⟩ (by omega)).sub ⟨rfl, rfl, rfl, rfl, trivial⟩
        | false =>
          replace hb3 := of_decide_eq_false hb3.symm
          refine r_cond_f rfl ?_
          refine r_exit rfl ?_
          refine r_seq ?_
          refine r_region ?_
          refine OL.q (Q1.move rfl) rfl rfl ?_
          refine OL.act rfl rfl (AW.callF cl11 rfl keys_c ?_)
          rintro _ w4 ⟨b4, rfl, hm2, hb4, hk2⟩
          have hS5 := hS4.ext hm2
          have hS6 : St (fun _ => False) (fun _ => False) w0 w4 [mpR intV boolV b1 mC, bkR b4 [.map (some b1)] 41] := hS4.newBk hm2 hb4 hk2
          have f3 := hS6.bk (i := 1) rfl
          have f4 := hS6.mp (i := 0) rfl
          obtain ⟨hpI, hpL, hpE⟩ := pend_ok (del_all hmC (by omega)) hid hsn
          refine OL.act rfl rfl (AW.callF cl10 rfl (sorted_c f3 f4 hpI hpL) ?_)
          rintro v1 w5 ⟨gr1, h1, hg1, hm3⟩
          have hS7 := hS6.ext hm3
          have hS8 : St (fun _ => False) (fun _ => False) w0 w5 [mpR intV boolV b1 mC, bkR b4 [.map (some b1)] 41, accR Ik.encI 3 1 v1 ((sortI (mC.map (·.1))))] := hS6.newAcc hm3 h1 hg1
          clear hg1
          refine OL.q (Q1.assign rfl) rfl rfl ?_
          refine OL.nil ?_
          refine r_ret1 Try.func7 rfl rfl ?_
          obtain ⟨g1, ha1, hg2⟩ := hS8.accOut (i := 2) rfl
          exact Ret.mk ⟨⟨_, Acc.cast ha1 (by first | exact hpE | (exfalso; omega)), hg2⟩, hS8.mod⟩
end Go.Proofs
