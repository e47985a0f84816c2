/-
  The walk through the law TraceParts.
-/
import Derived.Test.YtnikbecfjbjbbaaWAwake
set_option linter.unusedVariables false
set_option linter.unusedSimpArgs false
namespace Go.Proofs
open Go.Ik Go.Ml
set_option maxRecDepth 20000 in
set_option maxHeartbeats 8000000 in
theorem TraceParts_c {w0 : World}  {v_a : Value} {a : List RRec} {v_b : Value} {b : List RRec} (h_a : Sl encRec w0 (Iv 0 w0.heap.size) v_a a) (h_b : Sl encRec w0 (Iv 0 w0.heap.size) v_b b) (hd_a : ∀ r ∈ a, RecD w0 (Iv 0 w0.heap.size) r) (hd_b : ∀ r ∈ b, RecD w0 (Iv 0 w0.heap.size) r) (hn_a : ∀ r ∈ a, RecN r) (hn_b : ∀ r ∈ b, RecN r) :
    Calls Try.prog 3 #[v_a, v_b] w0 (Ret fun rv w1 => (∃ rb : Bool, rb = true ∧ rv = .bool rb) ∧ Ext w0 w1) := by
  have hle_a := h_a.le
  have hle_b := h_b.le
  have hS0 := St.start0 w0
  refine calls_enter Try.func3 rfl Try.ntmps3 rfl ?_
  refine r_seq ?_
  refine r_region ?_
  refine OL.q (Q1.assign rfl) rfl rfl ?_
  refine OL.nil ?_
  refine r_seq ?_
  refine r_seq ?_
  refine r_region ?_
  refine OL.q (Q1.move rfl) rfl rfl ?_
  refine OL.act rfl rfl (AW.callF cl4 rfl (great26_c (w0 := w0) (recs := a)  h_a (by first | exact rec_all hd_a hS0.mod | exact rec_all hd_b hS0.mod | exact rec_both hd_a hd_b hS0.mod)) ?_)
  rintro _ w1 ⟨⟨b1, hb1, rfl⟩, hm1⟩
  have hS1 := hS0.ext hm1
  refine OL.q (Q1.move rfl) rfl rfl ?_
  cases b1 with
  | true =>
    replace hb1 := hb1.symm
    refine OL.sk rfl rfl ?_
    refine OL.sk rfl rfl ?_
    refine OL.q (Q1.pick_t rfl rfl) rfl rfl ?_
    refine OL.q (Q1.move rfl) rfl rfl ?_
    refine OL.sk rfl rfl ?_
    refine OL.sk rfl rfl ?_
    refine OL.sk rfl rfl ?_
    refine OL.q (Q1.pick_t rfl rfl) rfl rfl ?_
    refine OL.q (Q1.move rfl) rfl rfl ?_
    refine OL.sk rfl rfl ?_
    refine OL.sk rfl rfl ?_
    refine OL.sk rfl rfl ?_
    refine OL.q (Q1.pick_t rfl rfl) rfl rfl ?_
    refine OL.nil ?_
    refine r_cond_t rfl ?_
    refine r_seq ?_
    refine r_region ?_
    refine OL.act rfl rfl (AW.callF cl5 rfl (awake26_c (w0 := w1)   ) ?_)
    rintro _ w2 ⟨⟨_, rfl, rfl⟩, hm2⟩
    have hS2 := hS1.ext hm2
    refine OL.q (Q1.assign rfl) rfl rfl ?_
    refine OL.nil ?_
    refine r_ret1 Try.func3 rfl rfl ?_
    exact Ret.mk ⟨⟨_, (by rfl), rfl⟩, hS2.mod⟩
  | false =>
    replace hb1 := hb1.symm
    have := gr_bounds hb1
    refine OL.q (Q1.move rfl) rfl rfl ?_
    have f1 := hS1.out h_b (fun _ _ h => h)
    refine OL.act rfl rfl (AW.callF cl4 rfl (great26_c (w0 := w1) (recs := b)  (f1.iv (Nat.zero_le _) hS1.mod.size) (by first | exact rec_all hd_a hS1.mod | exact rec_all hd_b hS1.mod | exact rec_both hd_a hd_b hS1.mod)) ?_)
    rintro _ w2 ⟨⟨b2, hb2, rfl⟩, hm2⟩
    have hS2 := hS1.ext hm2
    refine OL.q (Q1.pick_f rfl rfl) rfl rfl ?_
    refine OL.q (Q1.move rfl) rfl rfl ?_
    cases b2 with
    | true =>
      replace hb2 := hb2.symm
      refine OL.sk rfl rfl ?_
      refine OL.sk rfl rfl ?_
      refine OL.sk rfl rfl ?_
      refine OL.q (Q1.pick_t rfl rfl) rfl rfl ?_
      refine OL.q (Q1.move rfl) rfl rfl ?_
      refine OL.sk rfl rfl ?_
      refine OL.sk rfl rfl ?_
      refine OL.sk rfl rfl ?_
      refine OL.q (Q1.pick_t rfl rfl) rfl rfl ?_
      refine OL.nil ?_
      refine r_cond_t rfl ?_
      refine r_seq ?_
      refine r_region ?_
      refine OL.act rfl rfl (AW.callF cl5 rfl (awake26_c (w0 := w2)   ) ?_)
      rintro _ w3 ⟨⟨_, rfl, rfl⟩, hm3⟩
      have hS3 := hS2.ext hm3
      refine OL.q (Q1.assign rfl) rfl rfl ?_
      refine OL.nil ?_
      refine r_ret1 Try.func3 rfl rfl ?_
      exact Ret.mk ⟨⟨_, (by rfl), rfl⟩, hS3.mod⟩
    | false =>
      replace hb2 := hb2.symm
      have := gr_bounds hb2
      refine OL.q (Q1.move rfl) rfl rfl ?_
      have f2 := hS2.out h_a (fun _ _ h => h)
      refine OL.q (Q1.lenSl Try.underlying22 (f2) rfl) rfl rfl ?_
      refine OL.qb (Q1.gt rfl rfl) rfl rfl ?_
      intro b3 hb3
      refine OL.q (Q1.pick_f rfl rfl) rfl rfl ?_
      refine OL.q (Q1.move rfl) rfl rfl ?_
      cases b3 with
      | true =>
        replace hb3 := of_decide_eq_true hb3.symm
        refine OL.sk rfl rfl ?_
        refine OL.sk rfl rfl ?_
        refine OL.sk rfl rfl ?_
        refine OL.q (Q1.pick_t rfl rfl) rfl rfl ?_
        refine OL.nil ?_
        refine r_cond_t rfl ?_
        refine r_seq ?_
        refine r_region ?_
        refine OL.act rfl rfl (AW.callF cl5 rfl (awake26_c (w0 := w2)   ) ?_)
        rintro _ w3 ⟨⟨_, rfl, rfl⟩, hm3⟩
        have hS3 := hS2.ext hm3
        refine OL.q (Q1.assign rfl) rfl rfl ?_
        refine OL.nil ?_
        refine r_ret1 Try.func3 rfl rfl ?_
        exact Ret.mk ⟨⟨_, (by rfl), rfl⟩, hS3.mod⟩
      | false =>
        replace hb3 := of_decide_eq_false hb3.symm
        refine OL.q (Q1.move rfl) rfl rfl ?_
        have f3 := hS2.out h_b (fun _ _ h => h)
        refine OL.q (Q1.lenSl Try.underlying22 (f3) rfl) rfl rfl ?_
        refine OL.qb (Q1.gt rfl rfl) rfl rfl ?_
        intro b4 hb4
        refine OL.q (Q1.pick_f rfl rfl) rfl rfl ?_
        refine OL.nil ?_
        cases b4 with
        | true =>
          replace hb4 := of_decide_eq_true hb4.symm
          refine r_cond_t rfl ?_
          refine r_seq ?_
          refine r_region ?_
          refine OL.act rfl rfl (AW.callF cl5 rfl (awake26_c (w0 := w2)   ) ?_)
          rintro _ w3 ⟨⟨_, rfl, rfl⟩, hm3⟩
          have hS3 := hS2.ext hm3
          refine OL.q (Q1.assign rfl) rfl rfl ?_
          refine OL.nil ?_
          refine r_ret1 Try.func3 rfl rfl ?_
          exact Ret.mk ⟨⟨_, (by rfl), rfl⟩, hS3.mod⟩
        | false =>
          replace hb4 := of_decide_eq_false hb4.symm
          refine r_cond_f rfl ?_
          refine r_skip ?_
          refine r_seq ?_
          refine r_region ?_
          refine OL.q (Q1.move rfl) rfl rfl ?_
          have hga : a.length ≤ 100 ∧ sentN a ≤ 2000 ∧ lostN a ≤ 2000 := gr_bounds (by assumption)
          have hgb : b.length ≤ 100 ∧ sentN b ≤ 2000 ∧ lostN b ≤ 2000 := gr_bounds (by assumption)
          refine OL.act rfl rfl (AW.append (Acc.nil (enc := encRec) (e := 38) (sz := 12) (w := w2)) Try.underlying22 ti38 rfl encRec_len encRec_one rfl rfl (f2) (by first | omega | (simp only [List.length_append, List.length_cons, List.length_nil]; omega) | (simp; omega)) (by unfold maxLen; first | omega | (simp only [List.length_append, List.length_cons, List.length_nil]; omega) | (simp; omega)) ?_)
          intro v1 g1 w3 ha1 hm3 hg1 hz1
          have hS3 := hS2.ext hm3.toExt
          have hS4 : St (fun _ => False) (fun _ => False) w0 w3 [accR encRec 38 12 v1 (([] ++ a))] := hS2.newAcc hm3.toExt ha1 hg1
          clear hg1
          refine OL.q (Q1.move rfl) rfl rfl ?_
          obtain ⟨g3, f4, hl1, k1⟩ := hS4.accK (i := 0) rfl
          have f5 := hS4.out h_b (fun _ _ h => h)
          refine OL.act rfl rfl (AW.append f4 Try.underlying22 ti38 rfl encRec_len encRec_one rfl rfl (f5) (by first | omega | (simp only [List.length_append, List.length_cons, List.length_nil]; omega) | (simp; omega)) (by unfold maxLen; first | omega | (simp only [List.length_append, List.length_cons, List.length_nil]; omega) | (simp; omega)) ?_)
          intro v2 g2 w4 ha2 hm4 hg2 hz2
          have hS5 : St (fun _ => False) (fun _ => False) w0 w4 [accR encRec 38 12 v2 ((([] ++ a) ++ b))] := k1 _ _ _ _ hm4 ha2 hg2
          clear hg2
          refine OL.q (Q1.assign rfl) rfl rfl ?_
          refine OL.nil ?_
          refine r_seq ?_
          refine r_region ?_
          refine OL.q (Q1.move rfl) rfl rfl ?_
          have f6 := hS5.out h_a (fun _ _ h => h)
          refine OL.act rfl rfl (AW.callF cl6 rfl (trof_c (w0 := w4) (recs := a)  (f6.iv (Nat.zero_le _) hS5.mod.size) (by first | exact rec_all hd_a hS5.mod | exact rec_all hd_b hS5.mod | exact rec_both hd_a hd_b hS5.mod) (by first | omega | (simp only [List.length_append, List.length_nil]; omega)) (by first | omega | exact sent_both hga.2.1 hgb.2.1 (by omega)) (by first | omega | exact lost_both hga.2.2 hgb.2.2 (by omega))) ?_)
          rintro _ w5 ⟨rfl, hm5⟩
          have hS6 := hS5.ext hm5
          have := sum_rng a
          refine OL.q (Q1.move rfl) rfl rfl ?_
          have f7 := hS6.out h_b (fun _ _ h => h)
          refine OL.act rfl rfl (AW.callF cl6 rfl (trof_c (w0 := w5) (recs := b)  (f7.iv (Nat.zero_le _) hS6.mod.size) (by first | exact rec_all hd_a hS6.mod | exact rec_all hd_b hS6.mod | exact rec_both hd_a hd_b hS6.mod) (by first | omega | (simp only [List.length_append, List.length_nil]; omega)) (by first | omega | exact sent_both hga.2.1 hgb.2.1 (by omega)) (by first | omega | exact lost_both hga.2.2 hgb.2.2 (by omega))) ?_)
          rintro _ w6 ⟨rfl, hm6⟩
          have hS7 := hS6.ext hm6
          have := sum_rng b
          refine OL.q (Q1.move rfl) rfl rfl ?_
          obtain ⟨g4, f8, hl2, k2⟩ := hS7.accK (i := 0) rfl
          refine OL.act rfl rfl (AW.callF cl6 rfl (trof_c (w0 := w6) (recs := (([] ++ a) ++ b))  (f8.sl.iv (Nat.zero_le _) f8.lt) (by first | exact rec_all hd_a hS7.mod | exact rec_all hd_b hS7.mod | exact rec_both hd_a hd_b hS7.mod) (by first | omega | (simp only [List.length_append, List.length_nil]; omega)) (by first | omega | exact sent_both hga.2.1 hgb.2.1 (by omega)) (by first | omega | exact lost_both hga.2.2 hgb.2.2 (by omega))) ?_)
          rintro _ w7 ⟨rfl, hm7⟩
          have hS8 := hS7.ext hm7
          have := sum_rng ((([] ++ a) ++ b))
          refine OL.act rfl rfl (AW.alloc ti26 ?_)
          intro w8 b5 hm8 hb5 hz3 hk1
          have hS9 := hS8.ext hm8
          have hS10 : St (fun _ => False) (fun _ => False) w0 w8 [accR encRec 38 12 v2 ((([] ++ a) ++ b)), bkR b5 [.int .i64 0, .int .i64 0, .int .i64 0, .int .i64 0, .int .i64 0, .int .i64 0] 26] := hS8.newBk hm8 hb5 hk1
          refine OL.act rfl rfl (AW.alloc ti26 ?_)
          intro w9 b6 hm9 hb6 hz4 hk2
          have hS11 := hS10.ext hm9
          have hS12 : St (fun _ => False) (fun _ => False) w0 w9 [accR encRec 38 12 v2 ((([] ++ a) ++ b)), bkR b5 [.int .i64 0, .int .i64 0, .int .i64 0, .int .i64 0, .int .i64 0, .int .i64 0] 26, bkR b6 [.int .i64 0, .int .i64 0, .int .i64 0, .int .i64 0, .int .i64 0, .int .i64 0] 26] := hS10.newBk hm9 hb6 hk2
          refine OL.act rfl rfl (AW.alloc ti26 ?_)
          intro w10 b7 hm10 hb7 hz5 hk3
          have hS13 := hS12.ext hm10
          have hS14 : St (fun _ => False) (fun _ => False) w0 w10 [accR encRec 38 12 v2 ((([] ++ a) ++ b)), bkR b5 [.int .i64 0, .int .i64 0, .int .i64 0, .int .i64 0, .int .i64 0, .int .i64 0] 26, bkR b6 [.int .i64 0, .int .i64 0, .int .i64 0, .int .i64 0, .int .i64 0, .int .i64 0] 26, bkR b7 [.int .i64 0, .int .i64 0, .int .i64 0, .int .i64 0, .int .i64 0, .int .i64 0] 26] := hS12.newBk hm10 hb7 hk3
          have f9 := hS14.bk (i := 1) rfl
          refine OL.act rfl rfl (AW.store ti26 rfl rfl rfl rfl rfl f9 (Nat.le_of_ble_eq_true rfl) ?_)
          intro w11 hm11 hz6 hk4
          have hS15 : St (fun _ => False) (fun _ => False) w0 w11 [accR encRec 38 12 v2 ((([] ++ a) ++ b)), bkR b5 [.int .i64 ((sumM a).sent), .int .i64 ((sumM a).got), .int .i64 ((sumM a).lost), .int .i64 ((sumM a).accepted), .int .i64 ((sumM a).busy), .int .i64 ((sumM a).invalid)] 26, bkR b6 [.int .i64 0, .int .i64 0, .int .i64 0, .int .i64 0, .int .i64 0, .int .i64 0] 26, bkR b7 [.int .i64 0, .int .i64 0, .int .i64 0, .int .i64 0, .int .i64 0, .int .i64 0] 26] := hS14.bkK (i := 1) rfl hm11 hk4
          have f10 := hS15.bk (i := 2) rfl
          refine OL.act rfl rfl (AW.store ti26 rfl rfl rfl rfl rfl f10 (Nat.le_of_ble_eq_true rfl) ?_)
          intro w12 hm12 hz7 hk5
          have hS16 : St (fun _ => False) (fun _ => False) w0 w12 [accR encRec 38 12 v2 ((([] ++ a) ++ b)), bkR b5 [.int .i64 ((sumM a).sent), .int .i64 ((sumM a).got), .int .i64 ((sumM a).lost), .int .i64 ((sumM a).accepted), .int .i64 ((sumM a).busy), .int .i64 ((sumM a).invalid)] 26, bkR b6 [.int .i64 ((sumM b).sent), .int .i64 ((sumM b).got), .int .i64 ((sumM b).lost), .int .i64 ((sumM b).accepted), .int .i64 ((sumM b).busy), .int .i64 ((sumM b).invalid)] 26, bkR b7 [.int .i64 0, .int .i64 0, .int .i64 0, .int .i64 0, .int .i64 0, .int .i64 0] 26] := hS15.bkK (i := 2) rfl hm12 hk5
          have f11 := hS16.bk (i := 3) rfl
          refine OL.act rfl rfl (AW.store ti26 rfl rfl rfl rfl rfl f11 (Nat.le_of_ble_eq_true rfl) ?_)
          intro w13 hm13 hz8 hk6
          have hS17 : St (fun _ => False) (fun _ => False) w0 w13 [accR encRec 38 12 v2 ((([] ++ a) ++ b)), bkR b5 [.int .i64 ((sumM a).sent), .int .i64 ((sumM a).got), .int .i64 ((sumM a).lost), .int .i64 ((sumM a).accepted), .int .i64 ((sumM a).busy), .int .i64 ((sumM a).invalid)] 26, bkR b6 [.int .i64 ((sumM b).sent), .int .i64 ((sumM b).got), .int .i64 ((sumM b).lost), .int .i64 ((sumM b).accepted), .int .i64 ((sumM b).busy), .int .i64 ((sumM b).invalid)] 26, bkR b7 [.int .i64 ((sumM ((([] ++ a) ++ b))).sent), .int .i64 ((sumM ((([] ++ a) ++ b))).got), .int .i64 ((sumM ((([] ++ a) ++ b))).lost), .int .i64 ((sumM ((([] ++ a) ++ b))).accepted), .int .i64 ((sumM ((([] ++ a) ++ b))).busy), .int .i64 ((sumM ((([] ++ a) ++ b))).invalid)] 26] := hS16.bkK (i := 3) rfl hm13 hk6
          have hra := sum_rng a
          have hrb := sum_rng b
          refine OL.nil ?_
          refine r_seq ?_
          refine r_seq ?_
          refine r_region ?_
          refine OL.q (Q1.fieldAddr fl26_0 rfl) rfl rfl ?_
          have f12 := hS17.bk (i := 3) rfl
          refine OL.q (Q1.load1 ti3 rfl (fun _ e => e ▸ (f12.cell 0 _ rfl))) rfl rfl ?_
          refine OL.q (Q1.fieldAddr fl26_0 rfl) rfl rfl ?_
          have f13 := hS17.bk (i := 1) rfl
          refine OL.q (Q1.load1 ti3 rfl (fun _ e => e ▸ (f13.cell 0 _ rfl))) rfl rfl ?_
          refine OL.q (Q1.fieldAddr fl26_0 rfl) rfl rfl ?_
          have f14 := hS17.bk (i := 2) rfl
          refine OL.q (Q1.load1 ti3 rfl (fun _ e => e ▸ (f14.cell 0 _ rfl))) rfl rfl ?_
          refine OL.q (Q1.addI (((sumM a).sent + ((sumM b).sent))) rfl rfl (by omega)) rfl rfl ?_
          refine OL.qb (Q1.ne rfl rfl) rfl rfl ?_
          intro b8 hb8
          obtain rfl : b8 = false := hb8.trans (by exact bne_eq_false_iff_eq.2 (by rw [List.nil_append, sum_app]))
          refine OL.q (Q1.move rfl) rfl rfl ?_
          refine OL.q (Q1.fieldAddr fl26_1 rfl) rfl rfl ?_
          refine OL.q (Q1.load1 ti3 rfl (fun _ e => e ▸ (f12.cell 1 _ rfl))) rfl rfl ?_
          refine OL.q (Q1.fieldAddr fl26_1 rfl) rfl rfl ?_
          refine OL.q (Q1.load1 ti3 rfl (fun _ e => e ▸ (f13.cell 1 _ rfl))) rfl rfl ?_
          refine OL.q (Q1.fieldAddr fl26_1 rfl) rfl rfl ?_
          refine OL.q (Q1.load1 ti3 rfl (fun _ e => e ▸ (f14.cell 1 _ rfl))) rfl rfl ?_
          refine OL.q (Q1.addI (((sumM a).got + ((sumM b).got))) rfl rfl (by omega)) rfl rfl ?_
          refine OL.qb (Q1.ne rfl rfl) rfl rfl ?_
          intro b9 hb9
          obtain rfl : b9 = false := hb9.trans (by exact bne_eq_false_iff_eq.2 (by rw [List.nil_append, sum_app]))
          refine OL.q (Q1.pick_f rfl rfl) rfl rfl ?_
          refine OL.q (Q1.move rfl) rfl rfl ?_
          refine OL.q (Q1.fieldAddr fl26_2 rfl) rfl rfl ?_
          refine OL.q (Q1.load1 ti3 rfl (fun _ e => e ▸ (f12.cell 2 _ rfl))) rfl rfl ?_
          refine OL.q (Q1.fieldAddr fl26_2 rfl) rfl rfl ?_
          refine OL.q (Q1.load1 ti3 rfl (fun _ e => e ▸ (f13.cell 2 _ rfl))) rfl rfl ?_
          refine OL.q (Q1.fieldAddr fl26_2 rfl) rfl rfl ?_
          refine OL.q (Q1.load1 ti3 rfl (fun _ e => e ▸ (f14.cell 2 _ rfl))) rfl rfl ?_
          refine OL.q (Q1.addI (((sumM a).lost + ((sumM b).lost))) rfl rfl (by omega)) rfl rfl ?_
          refine OL.qb (Q1.ne rfl rfl) rfl rfl ?_
          intro b10 hb10
          obtain rfl : b10 = false := hb10.trans (by exact bne_eq_false_iff_eq.2 (by rw [List.nil_append, sum_app]))
          refine OL.q (Q1.pick_f rfl rfl) rfl rfl ?_
          refine OL.q (Q1.move rfl) rfl rfl ?_
          refine OL.q (Q1.fieldAddr fl26_3 rfl) rfl rfl ?_
          refine OL.q (Q1.load1 ti3 rfl (fun _ e => e ▸ (f12.cell 3 _ rfl))) rfl rfl ?_
          refine OL.q (Q1.fieldAddr fl26_3 rfl) rfl rfl ?_
          refine OL.q (Q1.load1 ti3 rfl (fun _ e => e ▸ (f13.cell 3 _ rfl))) rfl rfl ?_
          refine OL.q (Q1.fieldAddr fl26_3 rfl) rfl rfl ?_
          refine OL.q (Q1.load1 ti3 rfl (fun _ e => e ▸ (f14.cell 3 _ rfl))) rfl rfl ?_
          refine OL.q (Q1.addI (((sumM a).accepted + ((sumM b).accepted))) rfl rfl (by omega)) rfl rfl ?_
          refine OL.qb (Q1.ne rfl rfl) rfl rfl ?_
          intro b11 hb11
          obtain rfl : b11 = false := hb11.trans (by exact bne_eq_false_iff_eq.2 (by rw [List.nil_append, sum_app]))
          refine OL.q (Q1.pick_f rfl rfl) rfl rfl ?_
          refine OL.q (Q1.move rfl) rfl rfl ?_
          refine OL.q (Q1.fieldAddr fl26_4 rfl) rfl rfl ?_
          refine OL.q (Q1.load1 ti3 rfl (fun _ e => e ▸ (f12.cell 4 _ rfl))) rfl rfl ?_
          refine OL.q (Q1.fieldAddr fl26_4 rfl) rfl rfl ?_
          refine OL.q (Q1.load1 ti3 rfl (fun _ e => e ▸ (f13.cell 4 _ rfl))) rfl rfl ?_
          refine OL.q (Q1.fieldAddr fl26_4 rfl) rfl rfl ?_
          refine OL.q (Q1.load1 ti3 rfl (fun _ e => e ▸ (f14.cell 4 _ rfl))) rfl rfl ?_
          refine OL.q (Q1.addI (((sumM a).busy + ((sumM b).busy))) rfl rfl (by omega)) rfl rfl ?_
          refine OL.qb (Q1.ne rfl rfl) rfl rfl ?_
          intro b12 hb12
          obtain rfl : b12 = false := hb12.trans (by exact bne_eq_false_iff_eq.2 (by rw [List.nil_append, sum_app]))
          refine OL.q (Q1.pick_f rfl rfl) rfl rfl ?_
          refine OL.q (Q1.move rfl) rfl rfl ?_
          refine OL.q (Q1.fieldAddr fl26_5 rfl) rfl rfl ?_
          refine OL.q (Q1.load1 ti3 rfl (fun _ e => e ▸ (f12.cell 5 _ rfl))) rfl rfl ?_
          refine OL.q (Q1.fieldAddr fl26_5 rfl) rfl rfl ?_
          refine OL.q (Q1.load1 ti3 rfl (fun _ e => e ▸ (f13.cell 5 _ rfl))) rfl rfl ?_
          refine OL.q (Q1.fieldAddr fl26_5 rfl) rfl rfl ?_
          refine OL.q (Q1.load1 ti3 rfl (fun _ e => e ▸ (f14.cell 5 _ rfl))) rfl rfl ?_
          refine OL.q (Q1.addI (((sumM a).invalid + ((sumM b).invalid))) rfl rfl (by omega)) rfl rfl ?_
          refine OL.qb (Q1.ne rfl rfl) rfl rfl ?_
          intro b13 hb13
          obtain rfl : b13 = false := hb13.trans (by exact bne_eq_false_iff_eq.2 (by rw [List.nil_append, sum_app]))
          refine OL.q (Q1.pick_f rfl rfl) rfl rfl ?_
          refine OL.nil ?_
          refine r_cond_f rfl ?_
          refine r_skip ?_
          refine r_seq ?_
          refine r_region ?_
          refine OL.q (Q1.move rfl) rfl rfl ?_
          have f15 := hS17.out h_a (fun _ _ h => h)
          refine OL.act rfl rfl (AW.callF cl7 rfl (trpend_c (w0 := w13) (recs := a)  (f15.iv (Nat.zero_le _) hS17.mod.size) (by first | exact rec_all hd_a hS17.mod | exact rec_all hd_b hS17.mod | exact rec_both hd_a hd_b hS17.mod) (by first | omega | (simp only [List.length_append, List.length_nil]; omega)) (by first | omega | exact sent_both hga.2.1 hgb.2.1 (by omega)) (by first | assumption | exact recN_both hn_a hn_b)) ?_)
          rintro v3 w14 ⟨⟨gr1, h1, hg3⟩, hm14⟩
          have hS18 := hS17.ext hm14
          have hS19 : St (fun _ => False) (fun _ => False) w0 w14 [accR encRec 38 12 v2 ((([] ++ a) ++ b)), bkR b5 [.int .i64 ((sumM a).sent), .int .i64 ((sumM a).got), .int .i64 ((sumM a).lost), .int .i64 ((sumM a).accepted), .int .i64 ((sumM a).busy), .int .i64 ((sumM a).invalid)] 26, bkR b6 [.int .i64 ((sumM b).sent), .int .i64 ((sumM b).got), .int .i64 ((sumM b).lost), .int .i64 ((sumM b).accepted), .int .i64 ((sumM b).busy), .int .i64 ((sumM b).invalid)] 26, bkR b7 [.int .i64 ((sumM ((([] ++ a) ++ b))).sent), .int .i64 ((sumM ((([] ++ a) ++ b))).got), .int .i64 ((sumM ((([] ++ a) ++ b))).lost), .int .i64 ((sumM ((([] ++ a) ++ b))).accepted), .int .i64 ((sumM ((([] ++ a) ++ b))).busy), .int .i64 ((sumM ((([] ++ a) ++ b))).invalid)] 26, accR Ik.encI 3 1 v3 ((pendM a))] := hS17.newAcc hm14 h1 hg3
          clear hg3
          have hle_1 := h1.le
          have := pendM_len a
          rw [sentIds_len] at this
          refine OL.q (Q1.move rfl) rfl rfl ?_
          have f16 := hS19.out h_b (fun _ _ h => h)
          refine OL.act rfl rfl (AW.callF cl7 rfl (trpend_c (w0 := w14) (recs := b)  (f16.iv (Nat.zero_le _) hS19.mod.size) (by first | exact rec_all hd_a hS19.mod | exact rec_all hd_b hS19.mod | exact rec_both hd_a hd_b hS19.mod) (by first | omega | (simp only [List.length_append, List.length_nil]; omega)) (by first | omega | exact sent_both hga.2.1 hgb.2.1 (by omega)) (by first | assumption | exact recN_both hn_a hn_b)) ?_)
          rintro v4 w15 ⟨⟨gr2, h2, hg4⟩, hm15⟩
          have hS20 := hS19.ext hm15
          have hS21 : St (fun _ => False) (fun _ => False) w0 w15 [accR encRec 38 12 v2 ((([] ++ a) ++ b)), bkR b5 [.int .i64 ((sumM a).sent), .int .i64 ((sumM a).got), .int .i64 ((sumM a).lost), .int .i64 ((sumM a).accepted), .int .i64 ((sumM a).busy), .int .i64 ((sumM a).invalid)] 26, bkR b6 [.int .i64 ((sumM b).sent), .int .i64 ((sumM b).got), .int .i64 ((sumM b).lost), .int .i64 ((sumM b).accepted), .int .i64 ((sumM b).busy), .int .i64 ((sumM b).invalid)] 26, bkR b7 [.int .i64 ((sumM ((([] ++ a) ++ b))).sent), .int .i64 ((sumM ((([] ++ a) ++ b))).got), .int .i64 ((sumM ((([] ++ a) ++ b))).lost), .int .i64 ((sumM ((([] ++ a) ++ b))).accepted), .int .i64 ((sumM ((([] ++ a) ++ b))).busy), .int .i64 ((sumM ((([] ++ a) ++ b))).invalid)] 26, accR Ik.encI 3 1 v3 ((pendM a)), accR Ik.encI 3 1 v4 ((pendM b))] := hS19.newAcc hm15 h2 hg4
          clear hg4
          have hle_2 := h2.le
          have := pendM_len b
          rw [sentIds_len] at this
          refine OL.q (Q1.move rfl) rfl rfl ?_
          obtain ⟨g5, f17, hl3, k3⟩ := hS21.accK (i := 0) rfl
          refine OL.act rfl rfl (AW.callF cl7 rfl (trpend_c (w0 := w15) (recs := (([] ++ a) ++ b))  (f17.sl.iv (Nat.zero_le _) f17.lt) (by first | exact rec_all hd_a hS21.mod | exact rec_all hd_b hS21.mod | exact rec_both hd_a hd_b hS21.mod) (by first | omega | (simp only [List.length_append, List.length_nil]; omega)) (by first | omega | exact sent_both hga.2.1 hgb.2.1 (by omega)) (by first | assumption | exact recN_both hn_a hn_b)) ?_)
          rintro v5 w16 ⟨⟨gr3, h3, hg5⟩, hm16⟩
          have hS22 := hS21.ext hm16
          have hS23 : St (fun _ => False) (fun _ => False) w0 w16 [accR encRec 38 12 v2 ((([] ++ a) ++ b)), bkR b5 [.int .i64 ((sumM a).sent), .int .i64 ((sumM a).got), .int .i64 ((sumM a).lost), .int .i64 ((sumM a).accepted), .int .i64 ((sumM a).busy), .int .i64 ((sumM a).invalid)] 26, bkR b6 [.int .i64 ((sumM b).sent), .int .i64 ((sumM b).got), .int .i64 ((sumM b).lost), .int .i64 ((sumM b).accepted), .int .i64 ((sumM b).busy), .int .i64 ((sumM b).invalid)] 26, bkR b7 [.int .i64 ((sumM ((([] ++ a) ++ b))).sent), .int .i64 ((sumM ((([] ++ a) ++ b))).got), .int .i64 ((sumM ((([] ++ a) ++ b))).lost), .int .i64 ((sumM ((([] ++ a) ++ b))).accepted), .int .i64 ((sumM ((([] ++ a) ++ b))).busy), .int .i64 ((sumM ((([] ++ a) ++ b))).invalid)] 26, accR Ik.encI 3 1 v3 ((pendM a)), accR Ik.encI 3 1 v4 ((pendM b)), accR Ik.encI 3 1 v5 ((pendM ((([] ++ a) ++ b))))] := hS21.newAcc hm16 h3 hg5
          clear hg5
          have hle_3 := h3.le
          have := pendM_len ((([] ++ a) ++ b))
          rw [sentIds_len] at this
          refine OL.q (Q1.assign rfl) rfl rfl ?_
          refine OL.q (Q1.assign rfl) rfl rfl ?_
          refine OL.q (Q1.assign rfl) rfl rfl ?_
          refine OL.nil ?_
          refine r_seq ?_
          refine r_seq ?_
          refine r_region ?_
          refine OL.q (Q1.assign rfl) rfl rfl ?_
          refine OL.nil ?_
          refine r_block ?_
          have hS25 : St (fun _ => False) (fun _ => False) w0 w16 [accR encRec 38 12 v2 ((([] ++ a) ++ b)), accR Ik.encI 3 1 v3 ((pendM a)), accR Ik.encI 3 1 v4 ((pendM b)), accR Ik.encI 3 1 v5 ((pendM ((([] ++ a) ++ b))))] := hS23.sel [0, 4, 5, 6] (by rfl) (by decide)
          refine r_loop (I := fun m E W => ∃ (i : Nat), E = [(0, v_a), (1, v_b), (5, v2), (9, v3), (10, v4), (11, v5), (12, .int .i64 (((i : Nat) : Int)))] ∧ m = (pendM (([] ++ a) ++ b)).length - i ∧ St (fun _ => False) (fun _ => False) w0 W [accR encRec 38 12 v2 ((([] ++ a) ++ b)), accR Ik.encI 3 1 v3 ((pendM a)), accR Ik.encI 3 1 v4 ((pendM b)), accR Ik.encI 3 1 v5 ((pendM ((([] ++ a) ++ b))))] ∧ (i ≤ (pendM (([] ++ a) ++ b)).length)) ?_ ?_
          · refine ⟨_, _, ⟨(0 : Nat), rfl, rfl, hS25, (by omega)⟩, ⟨rfl, rfl, rfl, rfl, rfl, rfl, rfl, trivial⟩⟩
          · rintro _ _ w17 ⟨i, rfl, rfl, hS24, hil⟩ ih1
            refine r_seq ?_
            refine r_seq ?_
            refine r_region ?_
            refine OL.q (Q1.move rfl) rfl rfl ?_
            refine OL.q (Q1.move rfl) rfl rfl ?_
            obtain ⟨g6, f18, hl4, k4⟩ := hS24.accK (i := 3) rfl
            refine OL.q (Q1.lenSl Try.underlying28 (f18.sl) rfl) rfl rfl ?_
            refine OL.qb (Q1.lt rfl rfl) rfl rfl ?_
            intro b14 hb14
            refine OL.nil ?_
            cases b14 with
            | true =>
              replace hb14 := of_decide_eq_true hb14.symm
              refine r_cond_t rfl ?_
              refine r_skip ?_
              refine r_seq ?_
              refine r_block ?_
              refine r_seq ?_
              refine r_region ?_
              refine OL.q (Q1.assign rfl) rfl rfl ?_
              obtain ⟨x0, hx0⟩ : ∃ x, (pendM (([] ++ a) ++ b))[i]? = some x := ⟨_, List.getElem?_eq_getElem (by omega)⟩
              refine OL.nil ?_
              refine r_seq ?_
              refine r_seq ?_
              refine r_region ?_
              refine OL.q (Q1.assign rfl) rfl rfl ?_
              refine OL.nil ?_
              refine r_block ?_
              refine r_loop (I := fun m E W => ∃ (q : Bool) (k : Nat), E = [(0, v_a), (1, v_b), (5, v2), (9, v3), (10, v4), (11, v5), (12, .int .i64 (((i : Nat) : Int))), (13, .bool q), (14, .int .i64 (((k : Nat) : Int)))] ∧ m = (pendM a).length - k ∧ St (fun _ => False) (fun _ => False) w0 W [accR encRec 38 12 v2 ((([] ++ a) ++ b)), accR Ik.encI 3 1 v3 ((pendM a)), accR Ik.encI 3 1 v4 ((pendM b)), accR Ik.encI 3 1 v5 ((pendM ((([] ++ a) ++ b))))] ∧ (q = decide (x0 ∈ (pendM a).take k))) ?_ ?_
              · refine ⟨_, _, ⟨(false : Bool), (0 : Nat), rfl, rfl, hS24, (by simp)⟩, ⟨rfl, rfl, rfl, rfl, rfl, rfl, rfl, rfl, rfl, trivial⟩⟩
              · rintro _ _ w18 ⟨q, k, rfl, rfl, hS26, hq⟩ ih2
                refine r_seq ?_
                refine r_seq ?_
                refine r_region ?_
                refine OL.q (Q1.move rfl) rfl rfl ?_
                refine OL.q (Q1.move rfl) rfl rfl ?_
                obtain ⟨g7, f19, hl5, k5⟩ := hS26.accK (i := 1) rfl
                refine OL.q (Q1.lenSl Try.underlying28 (f19.sl) rfl) rfl rfl ?_
                refine OL.qb (Q1.lt rfl rfl) rfl rfl ?_
                intro b15 hb15
                refine OL.nil ?_
                cases b15 with
                | true =>
                  replace hb15 := of_decide_eq_true hb15.symm
                  refine r_cond_t rfl ?_
                  refine r_skip ?_
                  refine r_seq ?_
                  refine r_block ?_
                  refine r_draw1 (fun i => false) 13 (fun w' => Mod (Mg 0) w18 w') mixed (by kernel_rfl) ?_
                  intro w19 hm17
                  have hS27 := hS26.ext hm17
                  have hCw19 : Mod (Mg 0) w18 w19 := Mod.ofExt hm17
                  refine ⟨hCw19, ?_⟩
                  rw [show List.range' 0 (Array.size _) = [0, 1, 2, 3, 4, 5, 6, 7, 8, 9, 10, 11, 12] from rfl]
                  refine OD.q rfl rfl (Q1.move rfl) rfl rfl ?_
                  refine OD.q rfl rfl (Q1.move rfl) rfl rfl ?_
                  cases q with
                  | true =>
                    refine OD.sk rfl rfl rfl ?_
                    refine OD.sk rfl rfl rfl ?_
                    refine OD.sk rfl rfl rfl ?_
                    refine OD.sk rfl rfl rfl ?_
                    refine OD.sk rfl rfl rfl ?_
                    refine OD.sk rfl rfl rfl ?_
                    refine OD.sk rfl rfl rfl ?_
                    refine OD.sk rfl rfl rfl ?_
                    refine OD.sk rfl rfl rfl ?_
                    refine OD.q rfl rfl (Q1.pick_t rfl rfl) rfl rfl ?_
                    refine OD.q rfl rfl (Q1.assign rfl) rfl rfl ?_
                    refine OD.nil ?_
                    refine r_inBlock ?_
                    refine r_region ?_
                    refine OL.q (Q1.move rfl) rfl rfl ?_
                    refine OL.q (Q1.addI (((k + 1 : Nat) : Int)) rfl rfl (by omega)) rfl rfl ?_
                    refine OL.q (Q1.assign rfl) rfl rfl ?_
                    refine OL.nil ?_
                    exact (ih2 _ _ _ ⟨(true : Bool), (k + 1 : Nat), rfl, rfl, hS27, (by first | exact in_true hq | exact in_more hq hx1 (by show _ = (_ == x0); assumption) | (exfalso; omega))⟩ (by omega)).sub ⟨rfl, rfl, rfl, rfl, rfl, rfl, rfl, rfl, rfl, trivial⟩
                  | false =>
                    refine OD.q rfl rfl (Q1.move rfl) rfl rfl ?_
                    refine OD.q rfl rfl (Q1.move rfl) rfl rfl ?_
                    obtain ⟨x1, b16, o1, hx1, hr1, hl6, hw1⟩ := Sl.atF (P := Try.prog) f19.sl Try.underlying28 ti3 Ik.encI_len (k := .i64) (n := ((k : Nat) : Int)) (k) (by omega) (by first | assumption | omega)
                    refine OD.q rfl rfl (Q1.indexAddr rfl rfl hr1) rfl rfl ?_
                    refine OD.q rfl rfl (Q1.load1 ti3 rfl (fun _ hc => hw1.keepG hc (Nat.succ_ne_zero _))) rfl rfl ?_
                    refine OD.q rfl rfl (Q1.move rfl) rfl rfl ?_
                    refine OD.q rfl rfl (Q1.move rfl) rfl rfl ?_
                    obtain ⟨g8, f20, hl7, k6⟩ := hS26.accK (i := 3) rfl
                    obtain ⟨x2, b17, o2, hx2, hr2, hl8, hw2⟩ := Sl.atF (P := Try.prog) f20.sl Try.underlying28 ti3 Ik.encI_len (k := .i64) (n := ((i : Nat) : Int)) (i) (by omega) (by first | assumption | omega)
                    obtain rfl : x0 = x2 := Option.some.inj (hx0.symm.trans hx2)
                    refine OD.q rfl rfl (Q1.indexAddr rfl rfl hr2) rfl rfl ?_
                    refine OD.q rfl rfl (Q1.load1 ti3 rfl (fun _ hc => hw2.keepG hc (Nat.succ_ne_zero _))) rfl rfl ?_
                    refine OD.qb rfl rfl (Q1.eq rfl rfl) rfl rfl ?_
                    intro b18 hb16
                    refine OD.q rfl rfl (Q1.pick_f rfl rfl) rfl rfl ?_
                    refine OD.q rfl rfl (Q1.assign rfl) rfl rfl ?_
                    refine OD.nil ?_
                    refine r_inBlock ?_
                    refine r_region ?_
                    refine OL.q (Q1.move rfl) rfl rfl ?_
                    refine OL.q (Q1.addI (((k + 1 : Nat) : Int)) rfl rfl (by omega)) rfl rfl ?_
                    refine OL.q (Q1.assign rfl) rfl rfl ?_
                    refine OL.nil ?_
                    exact (ih2 _ _ _ ⟨(b18 : Bool), (k + 1 : Nat), rfl, rfl, hS27, (by first | exact in_true hq | exact in_more hq hx1 (by show _ = (_ == x0); assumption) | (exfalso; omega))⟩ (by omega)).sub ⟨rfl, rfl, rfl, rfl, rfl, rfl, rfl, rfl, rfl, trivial⟩
                | false =>
                  replace hb15 := of_decide_eq_false hb15.symm
                  refine r_cond_f rfl ?_
                  refine r_exit rfl ?_
                  refine r_seq ?_
                  refine r_seq ?_
                  refine r_region ?_
                  refine OL.q (Q1.assign rfl) rfl rfl ?_
                  refine OL.nil ?_
                  refine r_block ?_
                  refine r_loop (I := fun m E W => ∃ (q2 : Bool) (k2 : Nat), E = [(0, v_a), (1, v_b), (5, v2), (9, v3), (10, v4), (11, v5), (12, .int .i64 (((i : Nat) : Int))), (13, .bool q2), (15, .int .i64 (((k2 : Nat) : Int)))] ∧ m = (pendM b).length - k2 ∧ St (fun _ => False) (fun _ => False) w0 W [accR encRec 38 12 v2 ((([] ++ a) ++ b)), accR Ik.encI 3 1 v3 ((pendM a)), accR Ik.encI 3 1 v4 ((pendM b)), accR Ik.encI 3 1 v5 ((pendM ((([] ++ a) ++ b))))] ∧ (q2 = decide (x0 ∈ pendM a ∨ x0 ∈ (pendM b).take k2))) ?_ ?_
                  · refine ⟨_, _, ⟨(q : Bool), (0 : Nat), rfl, rfl, hS26, (by (rw [hq, List.take_of_length_le (by omega)]; simp))⟩, ⟨rfl, rfl, rfl, rfl, rfl, rfl, rfl, rfl, rfl, trivial⟩⟩
                  · rintro _ _ w19 ⟨q2, k2, rfl, rfl, hS27, hq2⟩ ih3
                    refine r_seq ?_
                    refine r_seq ?_
                    refine r_region ?_
                    refine OL.q (Q1.move rfl) rfl rfl ?_
                    refine OL.q (Q1.move rfl) rfl rfl ?_
                    obtain ⟨g8, f20, hl6, k6⟩ := hS27.accK (i := 2) rfl
                    refine OL.q (Q1.lenSl Try.underlying28 (f20.sl) rfl) rfl rfl ?_
                    refine OL.qb (Q1.lt rfl rfl) rfl rfl ?_
                    intro b16 hb16
                    refine OL.nil ?_
                    cases b16 with
                    | true =>
                      replace hb16 := of_decide_eq_true hb16.symm
                      refine r_cond_t rfl ?_
                      refine r_skip ?_
                      refine r_seq ?_
                      refine r_block ?_
                      refine r_draw1 (fun i => false) 13 (fun w' => Mod (Mg 0) w19 w') mixed (by kernel_rfl) ?_
                      intro w20 hm17
                      have hS28 := hS27.ext hm17
                      have hCw20 : Mod (Mg 0) w19 w20 := Mod.ofExt hm17
                      refine ⟨hCw20, ?_⟩
                      rw [show List.range' 0 (Array.size _) = [0, 1, 2, 3, 4, 5, 6, 7, 8, 9, 10, 11, 12] from rfl]
                      refine OD.q rfl rfl (Q1.move rfl) rfl rfl ?_
                      refine OD.q rfl rfl (Q1.move rfl) rfl rfl ?_
                      cases q2 with
                      | true =>
                        refine OD.sk rfl rfl rfl ?_
                        refine OD.sk rfl rfl rfl ?_
                        refine OD.sk rfl rfl rfl ?_
                        refine OD.sk rfl rfl rfl ?_
                        refine OD.sk rfl rfl rfl ?_
                        refine OD.sk rfl rfl rfl ?_
                        refine OD.sk rfl rfl rfl ?_
                        refine OD.sk rfl rfl rfl ?_
                        refine OD.sk rfl rfl rfl ?_
                        refine OD.q rfl rfl (Q1.pick_t rfl rfl) rfl rfl ?_
                        refine OD.q rfl rfl (Q1.assign rfl) rfl rfl ?_
                        refine OD.nil ?_
                        refine r_inBlock ?_
                        refine r_region ?_
                        refine OL.q (Q1.move rfl) rfl rfl ?_
                        refine OL.q (Q1.addI (((k2 + 1 : Nat) : Int)) rfl rfl (by omega)) rfl rfl ?_
                        refine OL.q (Q1.assign rfl) rfl rfl ?_
                        refine OL.nil ?_
                        exact (ih3 _ _ _ ⟨(true : Bool), (k2 + 1 : Nat), rfl, rfl, hS28, (by first | exact in_true2 hq2 | exact in_more2 hq2 hx1 (by show _ = (_ == x0); assumption) | (exfalso; omega))⟩ (by omega)).sub ⟨rfl, rfl, rfl, rfl, rfl, rfl, rfl, rfl, rfl, trivial⟩
                      | false =>
                        refine OD.q rfl rfl (Q1.move rfl) rfl rfl ?_
                        refine OD.q rfl rfl (Q1.move rfl) rfl rfl ?_
                        obtain ⟨x1, b17, o1, hx1, hr1, hl7, hw1⟩ := Sl.atF (P := Try.prog) f20.sl Try.underlying28 ti3 Ik.encI_len (k := .i64) (n := ((k2 : Nat) : Int)) (k2) (by omega) (by first | assumption | omega)
                        refine OD.q rfl rfl (Q1.indexAddr rfl rfl hr1) rfl rfl ?_
                        refine OD.q rfl rfl (Q1.load1 ti3 rfl (fun _ hc => hw1.keepG hc (Nat.succ_ne_zero _))) rfl rfl ?_
                        refine OD.q rfl rfl (Q1.move rfl) rfl rfl ?_
                        refine OD.q rfl rfl (Q1.move rfl) rfl rfl ?_
                        obtain ⟨g9, f21, hl8, k7⟩ := hS27.accK (i := 3) rfl
                        obtain ⟨x2, b18, o2, hx2, hr2, hl9, hw2⟩ := Sl.atF (P := Try.prog) f21.sl Try.underlying28 ti3 Ik.encI_len (k := .i64) (n := ((i : Nat) : Int)) (i) (by omega) (by first | assumption | omega)
                        obtain rfl : x0 = x2 := Option.some.inj (hx0.symm.trans hx2)
                        refine OD.q rfl rfl (Q1.indexAddr rfl rfl hr2) rfl rfl ?_
                        refine OD.q rfl rfl (Q1.load1 ti3 rfl (fun _ hc => hw2.keepG hc (Nat.succ_ne_zero _))) rfl rfl ?_
                        refine OD.qb rfl rfl (Q1.eq rfl rfl) rfl rfl ?_
                        intro b19 hb17
                        refine OD.q rfl rfl (Q1.pick_f rfl rfl) rfl rfl ?_
                        refine OD.q rfl rfl (Q1.assign rfl) rfl rfl ?_
                        refine OD.nil ?_
                        refine r_inBlock ?_
                        refine r_region ?_
                        refine OL.q (Q1.move rfl) rfl rfl ?_
                        refine OL.q (Q1.addI (((k2 + 1 : Nat) : Int)) rfl rfl (by omega)) rfl rfl ?_
                        refine OL.q (Q1.assign rfl) rfl rfl ?_
                        refine OL.nil ?_
                        exact (ih3 _ _ _ ⟨(b19 : Bool), (k2 + 1 : Nat), rfl, rfl, hS28, (by first | exact in_true2 hq2 | exact in_more2 hq2 hx1 (by show _ = (_ == x0); assumption) | (exfalso; omega))⟩ (by omega)).sub ⟨rfl, rfl, rfl, rfl, rfl, rfl, rfl, rfl, rfl, trivial⟩
                    | false =>
                      replace hb16 := of_decide_eq_false hb16.symm
                      refine r_cond_f rfl ?_
                      refine r_exit rfl ?_
                      refine r_seq ?_
                      refine r_draw1 (fun i => false) 18 (fun w' => Mod (Mg 0) w19 w') mixed (by kernel_rfl) ?_
                      intro w20 hm17
                      have hS28 := hS27.ext hm17
                      have hCw20 : Mod (Mg 0) w19 w20 := Mod.ofExt hm17
                      refine ⟨hCw20, ?_⟩
                      rw [show List.range' 0 (Array.size _) = [0, 1, 2, 3, 4, 5, 6, 7, 8, 9, 10, 11, 12, 13, 14, 15, 16, 17] from rfl]
                      refine OD.q rfl rfl (Q1.move rfl) rfl rfl ?_
                      obtain rfl : q2 = true := (by rw [hq2, List.take_of_length_le (by omega)]; exact decide_eq_true (pend_both hx0))
                      refine OD.q rfl rfl (Q1.not rfl) rfl rfl ?_
                      refine OD.q rfl rfl (Q1.move rfl) rfl rfl ?_
                      refine OD.q rfl rfl (Q1.move rfl) rfl rfl ?_
                      refine OD.qb rfl rfl (Q1.gt rfl rfl) rfl rfl ?_
                      intro b17 hb17
                      refine OD.q rfl rfl (Q1.move rfl) rfl rfl ?_
                      cases b17 with
                      | true =>
                        replace hb17 := of_decide_eq_true hb17.symm
                        refine OD.q rfl rfl (Q1.move rfl) rfl rfl ?_
                        refine OD.q rfl rfl (Q1.move rfl) rfl rfl ?_
                        refine OD.q rfl rfl (Q1.subI ((((i : Nat) : Int) - 1)) rfl rfl (by omega)) rfl rfl ?_
                        obtain ⟨g9, f21, hl7, k7⟩ := hS27.accK (i := 3) rfl
                        obtain ⟨x1, b18, o1, hx1, hr1, hl8, hw1⟩ := Sl.atF (P := Try.prog) f21.sl Try.underlying28 ti3 Ik.encI_len (k := .i64) (n := (((i : Nat) : Int) - 1)) ((i - 1)) (by omega) (by first | assumption | omega)
                        refine OD.q rfl rfl (Q1.indexAddr rfl rfl hr1) rfl rfl ?_
                        refine OD.q rfl rfl (Q1.load1 ti3 rfl (fun _ hc => hw1.keepG hc (Nat.succ_ne_zero _))) rfl rfl ?_
                        refine OD.q rfl rfl (Q1.move rfl) rfl rfl ?_
                        refine OD.q rfl rfl (Q1.move rfl) rfl rfl ?_
                        obtain ⟨x2, b19, o2, hx2, hr2, hl9, hw2⟩ := Sl.atF (P := Try.prog) f21.sl Try.underlying28 ti3 Ik.encI_len (k := .i64) (n := ((i : Nat) : Int)) (i) (by omega) (by first | assumption | omega)
                        obtain rfl : x0 = x2 := Option.some.inj (hx0.symm.trans hx2)
                        refine OD.q rfl rfl (Q1.indexAddr rfl rfl hr2) rfl rfl ?_
                        refine OD.q rfl rfl (Q1.load1 ti3 rfl (fun _ hc => hw2.keepG hc (Nat.succ_ne_zero _))) rfl rfl ?_
                        refine OD.qb rfl rfl (Q1.ge rfl rfl) rfl rfl ?_
                        intro b20 hb18
                        obtain rfl : b20 = false := hb18.trans (by have hnx := pend_next (by rw [List.nil_append] at hx1; exact hx1) (by rw [List.nil_append] at hx0; exact hx0) (by omega); exact decide_eq_false (by omega))
                        refine OD.q rfl rfl (Q1.pick_t rfl rfl) rfl rfl ?_
                        refine OD.q rfl rfl (Q1.pick_f rfl rfl) rfl rfl ?_
                        refine OD.nil ?_
                        refine r_cond_f rfl ?_
                        refine r_skip ?_
                        refine r_inBlock ?_
                        refine r_region ?_
                        refine OL.q (Q1.move rfl) rfl rfl ?_
                        refine OL.q (Q1.addI (((i + 1 : Nat) : Int)) rfl rfl (by omega)) rfl rfl ?_
                        refine OL.q (Q1.assign rfl) rfl rfl ?_
                        refine OL.nil ?_
                        exact (ih1 _ _ _ ⟨(i + 1 : Nat), rfl, rfl, hS28, (by first | omega | (exfalso; omega))⟩ (by omega)).sub ⟨rfl, rfl, rfl, rfl, rfl, rfl, rfl, trivial⟩
                      | false =>
                        replace hb17 := of_decide_eq_false hb17.symm
                        refine OD.sk rfl rfl rfl ?_
                        refine OD.sk rfl rfl rfl ?_
                        refine OD.sk rfl rfl rfl ?_
                        refine OD.sk rfl rfl rfl ?_
                        refine OD.sk rfl rfl rfl ?_
                        refine OD.sk rfl rfl rfl ?_
                        refine OD.sk rfl rfl rfl ?_
                        refine OD.sk rfl rfl rfl ?_
                        refine OD.sk rfl rfl rfl ?_
                        refine OD.sk rfl rfl rfl ?_
                        refine OD.q rfl rfl (Q1.pick_f rfl rfl) rfl rfl ?_
                        refine OD.q rfl rfl (Q1.pick_f rfl rfl) rfl rfl ?_
                        refine OD.nil ?_
                        refine r_cond_f rfl ?_
                        refine r_skip ?_
                        refine r_inBlock ?_
                        refine r_region ?_
                        refine OL.q (Q1.move rfl) rfl rfl ?_
                        refine OL.q (Q1.addI (((i + 1 : Nat) : Int)) rfl rfl (by omega)) rfl rfl ?_
                        refine OL.q (Q1.assign rfl) rfl rfl ?_
                        refine OL.nil ?_
                        exact (ih1 _ _ _ ⟨(i + 1 : Nat), rfl, rfl, hS28, (by first | omega | (exfalso; omega))⟩ (by omega)).sub ⟨rfl, rfl, rfl, rfl, rfl, rfl, rfl, trivial⟩
            | false =>
              replace hb14 := of_decide_eq_false hb14.symm
              refine r_cond_f rfl ?_
              refine r_exit rfl ?_
              refine r_seq ?_
              refine r_region ?_
              refine OL.q (Q1.move rfl) rfl rfl ?_
              obtain ⟨g7, f19, hl5, k5⟩ := hS24.accK (i := 0) rfl
              refine OL.act rfl rfl (AW.callF cl9 rfl (trasked_c (w0 := w17) (recs := (([] ++ a) ++ b))  (f19.sl.iv (Nat.zero_le _) f19.lt) (by first | exact rec_all hd_a hS24.mod | exact rec_all hd_b hS24.mod | exact rec_both hd_a hd_b hS24.mod) (by first | omega | (simp only [List.length_append, List.length_nil]; omega))) ?_)
              rintro v6 w18 ⟨⟨gr4, h4, hg6⟩, hm17⟩
              have hS26 := hS24.ext hm17
              have hS27 : St (fun _ => False) (fun _ => False) w0 w18 [accR encRec 38 12 v2 ((([] ++ a) ++ b)), accR Ik.encI 3 1 v3 ((pendM a)), accR Ik.encI 3 1 v4 ((pendM b)), accR Ik.encI 3 1 v5 ((pendM ((([] ++ a) ++ b)))), accR Ik.encI 3 1 v6 ((askedM ((([] ++ a) ++ b))))] := hS24.newAcc hm17 h4 hg6
              clear hg6
              have hle_4 := h4.le
              have := asked_len ((([] ++ a) ++ b))
              refine OL.q (Q1.move rfl) rfl rfl ?_
              have f20 := hS27.out h_a (fun _ _ h => h)
              refine OL.act rfl rfl (AW.callF cl9 rfl (trasked_c (w0 := w18) (recs := a)  (f20.iv (Nat.zero_le _) hS27.mod.size) (by first | exact rec_all hd_a hS27.mod | exact rec_all hd_b hS27.mod | exact rec_both hd_a hd_b hS27.mod) (by first | omega | (simp only [List.length_append, List.length_nil]; omega))) ?_)
              rintro v7 w19 ⟨⟨gr5, h5, hg7⟩, hm18⟩
              have hS28 := hS27.ext hm18
              have hS29 : St (fun _ => False) (fun _ => False) w0 w19 [accR encRec 38 12 v2 ((([] ++ a) ++ b)), accR Ik.encI 3 1 v3 ((pendM a)), accR Ik.encI 3 1 v4 ((pendM b)), accR Ik.encI 3 1 v5 ((pendM ((([] ++ a) ++ b)))), accR Ik.encI 3 1 v6 ((askedM ((([] ++ a) ++ b)))), accR Ik.encI 3 1 v7 ((askedM a))] := hS27.newAcc hm18 h5 hg7
              clear hg7
              have hle_5 := h5.le
              have := asked_len a
              refine OL.q (Q1.move rfl) rfl rfl ?_
              have f21 := hS29.out h_b (fun _ _ h => h)
              refine OL.act rfl rfl (AW.callF cl9 rfl (trasked_c (w0 := w19) (recs := b)  (f21.iv (Nat.zero_le _) hS29.mod.size) (by first | exact rec_all hd_a hS29.mod | exact rec_all hd_b hS29.mod | exact rec_both hd_a hd_b hS29.mod) (by first | omega | (simp only [List.length_append, List.length_nil]; omega))) ?_)
              rintro v8 w20 ⟨⟨gr6, h6, hg8⟩, hm19⟩
              have hS30 := hS29.ext hm19
              have hS31 : St (fun _ => False) (fun _ => False) w0 w20 [accR encRec 38 12 v2 ((([] ++ a) ++ b)), accR Ik.encI 3 1 v3 ((pendM a)), accR Ik.encI 3 1 v4 ((pendM b)), accR Ik.encI 3 1 v5 ((pendM ((([] ++ a) ++ b)))), accR Ik.encI 3 1 v6 ((askedM ((([] ++ a) ++ b)))), accR Ik.encI 3 1 v7 ((askedM a)), accR Ik.encI 3 1 v8 ((askedM b))] := hS29.newAcc hm19 h6 hg8
              clear hg8
              have hle_6 := h6.le
              have := asked_len b
              obtain ⟨g9, f22, hl6, k6⟩ := hS31.accK (i := 5) rfl
              obtain ⟨g10, f23, hl7, k7⟩ := hS31.accK (i := 6) rfl
              refine OL.act rfl rfl (AW.append f22 Try.underlying28 ti3 rfl Ik.encI_len Ik.encI_one rfl rfl (f23.sl) (by first | omega | (simp only [List.length_append, List.length_cons, List.length_nil]; omega) | (simp; omega)) (by unfold maxLen; first | omega | (simp only [List.length_append, List.length_cons, List.length_nil]; omega) | (simp; omega)) ?_)
              intro v9 g8 w21 ha3 hm20 hg9 hz9
              have hS32 : St (fun _ => False) (fun _ => False) w0 w21 [accR encRec 38 12 v2 ((([] ++ a) ++ b)), accR Ik.encI 3 1 v3 ((pendM a)), accR Ik.encI 3 1 v4 ((pendM b)), accR Ik.encI 3 1 v5 ((pendM ((([] ++ a) ++ b)))), accR Ik.encI 3 1 v6 ((askedM ((([] ++ a) ++ b)))), accR Ik.encI 3 1 v9 (((askedM a) ++ (askedM b))), accR Ik.encI 3 1 v8 ((askedM b))] := k6 _ _ _ _ hm20 ha3 hg9
              clear hg9
              obtain ⟨g11, f24, hl8, k8⟩ := hS32.accK (i := 4) rfl
              obtain ⟨g12, f25, hl9, k9⟩ := hS32.accK (i := 5) rfl
              refine OL.act rfl rfl (AW.callF cl8 rfl (sameI_c (w0 := w21) (a := (askedM ((([] ++ a) ++ b)))) (b := ((askedM a) ++ (askedM b)))  (f24.sl.iv (Nat.zero_le _) f24.lt) (f25.sl.iv (Nat.zero_le _) f25.lt)) ?_)
              rintro _ w22 ⟨⟨b15, hb15, rfl⟩, hm21⟩
              have hS33 := hS32.ext hm21
              obtain rfl : b15 = true := hb15.trans (by exact decide_eq_true (by rw [List.nil_append, asked_app]))
              refine OL.q (Q1.move rfl) rfl rfl ?_
              refine OL.act rfl rfl (AW.callF cl5 rfl (awake26_c (w0 := w22)   ) ?_)
              rintro _ w23 ⟨⟨_, rfl, rfl⟩, hm22⟩
              have hS34 := hS33.ext hm22
              refine OL.q (Q1.pick_t rfl rfl) rfl rfl ?_
              refine OL.q (Q1.assign rfl) rfl rfl ?_
              refine OL.nil ?_
              refine r_ret1 Try.func3 rfl rfl ?_
              exact Ret.mk ⟨⟨_, (by rfl), rfl⟩, hS34.mod⟩
end Go.Proofs
