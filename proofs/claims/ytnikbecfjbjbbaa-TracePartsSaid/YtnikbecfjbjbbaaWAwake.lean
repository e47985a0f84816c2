/-
  The walk through awake.
-/
import Derived.Test.YtnikbecfjbjbbaaWTrace
import Derived.Test.YtnikbecfjbjbbaaWShared
set_option linter.unusedVariables false
set_option linter.unusedSimpArgs false
namespace Go.Proofs
open Go.Ik Go.Ml
set_option maxRecDepth 20000 in
set_option maxHeartbeats 4000000 in
theorem awake26_c {w0 : World}    :
    Calls Try.prog 5 #[] w0 (Ret fun rv w1 => (∃ rb : Bool, rb = true ∧ rv = .bool rb) ∧ Ext w0 w1) := by
  have hS0 := St.start0 w0
  refine calls_enter Try.func5 rfl Try.ntmps5 rfl ?_
  refine r_seq ?_
  refine r_region ?_
  refine OL.q (Q1.assign rfl) rfl rfl ?_
  refine OL.nil ?_
  refine r_seq ?_
  refine r_region ?_
  refine OL.q (Q1.build (vs := #[(0, (.int .i64 0 : Value)), (2, (.int .i64 1 : Value))]) (v := .agg #[.int .i64 0, .int .i64 0, .int .i64 1]) rfl (fun _ => by kernel_rfl)) rfl rfl ?_
  refine OL.q (Q1.build (vs := #[(0, (.int .i64 1 : Value)), (2, (.int .i64 1 : Value))]) (v := .agg #[.int .i64 1, .int .i64 0, .int .i64 1]) rfl (fun _ => by kernel_rfl)) rfl rfl ?_
  refine OL.act rfl rfl (AW.buildSlice [(.agg #[.int .i64 0, .int .i64 0, .int .i64 1] : Value), (.agg #[.int .i64 1, .int .i64 0, .int .i64 1] : Value)] Try.underlying36 ti40 rfl rfl rfl (by decide) ?_)
  intro w1 b1 hm1 hb1 hz1 hk1
  have hS1 := hS0.ext hm1
  have hl1 := Sl.of_blk (enc := encSent) hk1 ([(RSent.mk 0 0 1), (RSent.mk 1 0 1)] : List RSent) 2 rfl rfl (by unfold maxLen; omega)
  have hS2 : St (fun _ => False) (fun _ => False) w0 w1 [slR encSent [((.slice (some ⟨b1, 0, none⟩) 2 2), [(RSent.mk 0 0 1), (RSent.mk 1 0 1)])]] := hS0.newSlB hm1 hb1 hz1 hl1
  refine OL.q (Q1.build (vs := #[(4, (.int .i64 ((-1)) : Value)), (3, (.slice (some ⟨b1, 0, none⟩) 2 2))]) (v := .agg #[.int .i64 0, .int .i64 0, .int .i64 0, .int .i64 0, strV [], .int .i64 0, .int .i64 0, .int .i64 0, .int .i64 0, (.slice (some ⟨b1, 0, none⟩) 2 2), .int .i64 ((-1)), .slice none 0 0]) rfl (fun _ => by kernel_rfl)) rfl rfl ?_
  refine OL.q (Q1.build (vs := #[(4, (.int .i64 0 : Value)), (1, (.int .i64 3 : Value)), (2, (.int .i64 1 : Value))]) (v := .agg #[.int .i64 0, .int .i64 0, .int .i64 0, .int .i64 0, strV [], .int .i64 0, .int .i64 0, .int .i64 3, .int .i64 1, .slice none 0 0, .int .i64 0, .slice none 0 0]) rfl (fun _ => by kernel_rfl)) rfl rfl ?_
  refine OL.act rfl rfl (AW.buildSlice [(.agg #[.int .i64 0, .int .i64 0, .int .i64 0, .int .i64 0, strV [], .int .i64 0, .int .i64 0, .int .i64 0, .int .i64 0, (.slice (some ⟨b1, 0, none⟩) 2 2), .int .i64 ((-1)), .slice none 0 0] : Value), (.agg #[.int .i64 0, .int .i64 0, .int .i64 0, .int .i64 0, strV [], .int .i64 0, .int .i64 0, .int .i64 3, .int .i64 1, .slice none 0 0, .int .i64 0, .slice none 0 0] : Value)] Try.underlying22 ti38 rfl rfl rfl (by decide) ?_)
  intro w2 b2 hm2 hb2 hz2 hk2
  have hS3 := hS2.ext hm2
  have hl2 := Sl.of_blk (enc := encRec) hk2 ([(RRec.mk 0 0 0 0 [] 0 0 0 0 (SH.mk (some ⟨b1, 0, none⟩) 2 2) ((-1)) (SH.mk none 0 0) ([(RSent.mk 0 0 1), (RSent.mk 1 0 1)]) []), (RRec.mk 0 0 0 0 [] 0 0 3 1 (SH.mk none 0 0) 0 (SH.mk none 0 0) [] [])] : List RRec) 2 rfl rfl (by unfold maxLen; omega)
  have hS4 : St (fun _ => False) (fun _ => False) w0 w2 [slR encSent [((.slice (some ⟨b1, 0, none⟩) 2 2), [(RSent.mk 0 0 1), (RSent.mk 1 0 1)])], slR encRec [((.slice (some ⟨b2, 0, none⟩) 2 2), [(RRec.mk 0 0 0 0 [] 0 0 0 0 (SH.mk (some ⟨b1, 0, none⟩) 2 2) ((-1)) (SH.mk none 0 0) ([(RSent.mk 0 0 1), (RSent.mk 1 0 1)]) []), (RRec.mk 0 0 0 0 [] 0 0 3 1 (SH.mk none 0 0) 0 (SH.mk none 0 0) [] [])])]] := hS2.newSlB hm2 hb2 hz2 hl2
  refine OL.q (Q1.assign rfl) rfl rfl ?_
  have hid : ∀ r ∈ [(RRec.mk 0 0 0 0 [] 0 0 0 0 (SH.mk (some ⟨b1, 0, none⟩) 2 2) ((-1)) (SH.mk none 0 0) ([(RSent.mk 0 0 1), (RSent.mk 1 0 1)]) []), (RRec.mk 0 0 0 0 [] 0 0 3 1 (SH.mk none 0 0) 0 (SH.mk none 0 0) [] [])], RecN r := lit_recN _ _ _ _
  have hsn : sentN [(RRec.mk 0 0 0 0 [] 0 0 0 0 (SH.mk (some ⟨b1, 0, none⟩) 2 2) ((-1)) (SH.mk none 0 0) ([(RSent.mk 0 0 1), (RSent.mk 1 0 1)]) []), (RRec.mk 0 0 0 0 [] 0 0 3 1 (SH.mk none 0 0) 0 (SH.mk none 0 0) [] [])] ≤ 1000000 := by rw [lit_sent]; omega
  have hln : lostN [(RRec.mk 0 0 0 0 [] 0 0 0 0 (SH.mk (some ⟨b1, 0, none⟩) 2 2) ((-1)) (SH.mk none 0 0) ([(RSent.mk 0 0 1), (RSent.mk 1 0 1)]) []), (RRec.mk 0 0 0 0 [] 0 0 3 1 (SH.mk none 0 0) 0 (SH.mk none 0 0) [] [])] ≤ 1000000 := by rw [lit_lost]; omega
  refine OL.nil ?_
  refine r_seq ?_
  refine r_region ?_
  refine OL.q (Q1.move rfl) rfl rfl ?_
  have f1 := hS4.sl (i := 0) (k := 0) rfl rfl
  have hdl1 : ∀ r ∈ [(RRec.mk 0 0 0 0 [] 0 0 0 0 (SH.mk (some ⟨b1, 0, none⟩) 2 2) ((-1)) (SH.mk none 0 0) ([(RSent.mk 0 0 1), (RSent.mk 1 0 1)]) []), (RRec.mk 0 0 0 0 [] 0 0 3 1 (SH.mk none 0 0) 0 (SH.mk none 0 0) [] [])], RecD w2 (Iv 0 w2.heap.size) r := lit_rec f1 Sl.nil Sl.nil Sl.nil
  have f2 := hS4.sl (i := 1) (k := 0) rfl rfl
  refine OL.act rfl rfl (AW.callF cl7 rfl (trpend_c (w0 := w2) (recs := [(RRec.mk 0 0 0 0 [] 0 0 0 0 (SH.mk (some ⟨b1, 0, none⟩) 2 2) ((-1)) (SH.mk none 0 0) ([(RSent.mk 0 0 1), (RSent.mk 1 0 1)]) []), (RRec.mk 0 0 0 0 [] 0 0 3 1 (SH.mk none 0 0) 0 (SH.mk none 0 0) [] [])])  f2 (by assumption) (by first | assumption | omega | (simp; done)) (by first | assumption | omega) (by first | assumption)) ?_)
  rintro v1 w3 ⟨⟨gr1, h1, hg1⟩, hm3⟩
  have hS5 := hS4.ext hm3
  have hS6 : St (fun _ => False) (fun _ => False) w0 w3 [slR encSent [((.slice (some ⟨b1, 0, none⟩) 2 2), [(RSent.mk 0 0 1), (RSent.mk 1 0 1)])], slR encRec [((.slice (some ⟨b2, 0, none⟩) 2 2), [(RRec.mk 0 0 0 0 [] 0 0 0 0 (SH.mk (some ⟨b1, 0, none⟩) 2 2) ((-1)) (SH.mk none 0 0) ([(RSent.mk 0 0 1), (RSent.mk 1 0 1)]) []), (RRec.mk 0 0 0 0 [] 0 0 3 1 (SH.mk none 0 0) 0 (SH.mk none 0 0) [] [])])], accR Ik.encI 3 1 v1 ((pendM ([(RRec.mk 0 0 0 0 [] 0 0 0 0 (SH.mk (some ⟨b1, 0, none⟩) 2 2) ((-1)) (SH.mk none 0 0) ([(RSent.mk 0 0 1), (RSent.mk 1 0 1)]) []), (RRec.mk 0 0 0 0 [] 0 0 3 1 (SH.mk none 0 0) 0 (SH.mk none 0 0) [] [])])))] := hS4.newAcc hm3 h1 hg1
  clear hg1
  have hle_1 := h1.le
  have := pendM_len ([(RRec.mk 0 0 0 0 [] 0 0 0 0 (SH.mk (some ⟨b1, 0, none⟩) 2 2) ((-1)) (SH.mk none 0 0) ([(RSent.mk 0 0 1), (RSent.mk 1 0 1)]) []), (RRec.mk 0 0 0 0 [] 0 0 3 1 (SH.mk none 0 0) 0 (SH.mk none 0 0) [] [])])
  rw [sentIds_len] at this
  refine OL.act rfl rfl (AW.buildSlice [(.int .i64 1 : Value)] Try.underlying28 ti3 rfl rfl rfl (by decide) ?_)
  intro w4 b3 hm4 hb3 hz3 hk3
  have hS7 := hS6.ext hm4
  have hl3 := Sl.of_blk (enc := Ik.encI) hk3 ([1] : List Int) 1 rfl rfl (by unfold maxLen; omega)
  have hS8 : St (fun _ => False) (fun _ => False) w0 w4 [slR encSent [((.slice (some ⟨b1, 0, none⟩) 2 2), [(RSent.mk 0 0 1), (RSent.mk 1 0 1)])], slR encRec [((.slice (some ⟨b2, 0, none⟩) 2 2), [(RRec.mk 0 0 0 0 [] 0 0 0 0 (SH.mk (some ⟨b1, 0, none⟩) 2 2) ((-1)) (SH.mk none 0 0) ([(RSent.mk 0 0 1), (RSent.mk 1 0 1)]) []), (RRec.mk 0 0 0 0 [] 0 0 3 1 (SH.mk none 0 0) 0 (SH.mk none 0 0) [] [])])], accR Ik.encI 3 1 v1 ((pendM ([(RRec.mk 0 0 0 0 [] 0 0 0 0 (SH.mk (some ⟨b1, 0, none⟩) 2 2) ((-1)) (SH.mk none 0 0) ([(RSent.mk 0 0 1), (RSent.mk 1 0 1)]) []), (RRec.mk 0 0 0 0 [] 0 0 3 1 (SH.mk none 0 0) 0 (SH.mk none 0 0) [] [])]))), slR Ik.encI [((.slice (some ⟨b3, 0, none⟩) 1 1), [1])]] := hS6.newSlB hm4 hb3 hz3 hl3
  obtain ⟨g1, f3, hl4, k1⟩ := hS8.accK (i := 2) rfl
  have f4 := hS8.sl (i := 3) (k := 0) rfl rfl
  refine OL.act rfl rfl (AW.callF cl8 rfl (sameI_c (w0 := w4) (a := (pendM ([(RRec.mk 0 0 0 0 [] 0 0 0 0 (SH.mk (some ⟨b1, 0, none⟩) 2 2) ((-1)) (SH.mk none 0 0) ([(RSent.mk 0 0 1), (RSent.mk 1 0 1)]) []), (RRec.mk 0 0 0 0 [] 0 0 3 1 (SH.mk none 0 0) 0 (SH.mk none 0 0) [] [])]))) (b := [1])  (f3.sl.iv (Nat.zero_le _) f3.lt) f4) ?_)
  rintro _ w5 ⟨⟨b4, hb4, rfl⟩, hm5⟩
  have hS9 := hS8.ext hm5
  obtain rfl : b4 = true := hb4.trans (by exact decide_eq_true (lit_pend _ _ _ _))
  refine OL.q (Q1.move rfl) rfl rfl ?_
  refine OL.q (Q1.move rfl) rfl rfl ?_
  have f5 := hS9.sl (i := 0) (k := 0) rfl rfl
  have hdl2 : ∀ r ∈ [(RRec.mk 0 0 0 0 [] 0 0 0 0 (SH.mk (some ⟨b1, 0, none⟩) 2 2) ((-1)) (SH.mk none 0 0) ([(RSent.mk 0 0 1), (RSent.mk 1 0 1)]) []), (RRec.mk 0 0 0 0 [] 0 0 3 1 (SH.mk none 0 0) 0 (SH.mk none 0 0) [] [])], RecD w5 (Iv 0 w5.heap.size) r := lit_rec f5 Sl.nil Sl.nil Sl.nil
  have f6 := hS9.sl (i := 1) (k := 0) rfl rfl
  refine OL.act rfl rfl (AW.callF cl6 rfl (trof_c (w0 := w5) (recs := [(RRec.mk 0 0 0 0 [] 0 0 0 0 (SH.mk (some ⟨b1, 0, none⟩) 2 2) ((-1)) (SH.mk none 0 0) ([(RSent.mk 0 0 1), (RSent.mk 1 0 1)]) []), (RRec.mk 0 0 0 0 [] 0 0 3 1 (SH.mk none 0 0) 0 (SH.mk none 0 0) [] [])])  f6 (by assumption) (by first | assumption | omega | (simp; done)) (by first | assumption | omega) (by first | assumption | omega)) ?_)
  rintro _ w6 ⟨rfl, hm6⟩
  have hS10 := hS9.ext hm6
  have := sum_rng ([(RRec.mk 0 0 0 0 [] 0 0 0 0 (SH.mk (some ⟨b1, 0, none⟩) 2 2) ((-1)) (SH.mk none 0 0) ([(RSent.mk 0 0 1), (RSent.mk 1 0 1)]) []), (RRec.mk 0 0 0 0 [] 0 0 3 1 (SH.mk none 0 0) 0 (SH.mk none 0 0) [] [])])
  refine OL.q (Q1.build (vs := #[(0, (.int .i64 2 : Value)), (1, (.int .i64 1 : Value)), (3, (.int .i64 1 : Value))]) (v := .agg #[.int .i64 2, .int .i64 1, .int .i64 0, .int .i64 1, .int .i64 0, .int .i64 0]) rfl (fun _ => by kernel_rfl)) rfl rfl ?_
  refine OL.qb (Q1.eqStruct (by kernel_rfl) (eqS26 ((sumM ([(RRec.mk 0 0 0 0 [] 0 0 0 0 (SH.mk (some ⟨b1, 0, none⟩) 2 2) ((-1)) (SH.mk none 0 0) ([(RSent.mk 0 0 1), (RSent.mk 1 0 1)]) []), (RRec.mk 0 0 0 0 [] 0 0 3 1 (SH.mk none 0 0) 0 (SH.mk none 0 0) [] [])]))) ((RSum.mk 2 1 0 1 0 0))) rfl rfl) rfl rfl ?_
  intro b5 hb5
  obtain rfl : b5 = true := hb5.trans (by exact decide_eq_true (lit_sum _ _ _ _))
  refine OL.q (Q1.pick_t rfl rfl) rfl rfl ?_
  refine OL.q (Q1.move rfl) rfl rfl ?_
  refine OL.q (Q1.move rfl) rfl rfl ?_
  have f7 := hS10.sl (i := 0) (k := 0) rfl rfl
  have hdl3 : ∀ r ∈ [(RRec.mk 0 0 0 0 [] 0 0 0 0 (SH.mk (some ⟨b1, 0, none⟩) 2 2) ((-1)) (SH.mk none 0 0) ([(RSent.mk 0 0 1), (RSent.mk 1 0 1)]) []), (RRec.mk 0 0 0 0 [] 0 0 3 1 (SH.mk none 0 0) 0 (SH.mk none 0 0) [] [])], RecD w6 (Iv 0 w6.heap.size) r := lit_rec f7 Sl.nil Sl.nil Sl.nil
  have f8 := hS10.sl (i := 1) (k := 0) rfl rfl
  refine OL.act rfl rfl (AW.callF cl9 rfl (trasked_c (w0 := w6) (recs := [(RRec.mk 0 0 0 0 [] 0 0 0 0 (SH.mk (some ⟨b1, 0, none⟩) 2 2) ((-1)) (SH.mk none 0 0) ([(RSent.mk 0 0 1), (RSent.mk 1 0 1)]) []), (RRec.mk 0 0 0 0 [] 0 0 3 1 (SH.mk none 0 0) 0 (SH.mk none 0 0) [] [])])  f8 (by assumption) (by first | assumption | omega | (simp; done))) ?_)
  rintro v2 w7 ⟨⟨gr2, h2, hg2⟩, hm7⟩
  have hS11 := hS10.ext hm7
  have hS12 : St (fun _ => False) (fun _ => False) w0 w7 [slR encSent [((.slice (some ⟨b1, 0, none⟩) 2 2), [(RSent.mk 0 0 1), (RSent.mk 1 0 1)])], slR encRec [((.slice (some ⟨b2, 0, none⟩) 2 2), [(RRec.mk 0 0 0 0 [] 0 0 0 0 (SH.mk (some ⟨b1, 0, none⟩) 2 2) ((-1)) (SH.mk none 0 0) ([(RSent.mk 0 0 1), (RSent.mk 1 0 1)]) []), (RRec.mk 0 0 0 0 [] 0 0 3 1 (SH.mk none 0 0) 0 (SH.mk none 0 0) [] [])])], accR Ik.encI 3 1 v1 ((pendM ([(RRec.mk 0 0 0 0 [] 0 0 0 0 (SH.mk (some ⟨b1, 0, none⟩) 2 2) ((-1)) (SH.mk none 0 0) ([(RSent.mk 0 0 1), (RSent.mk 1 0 1)]) []), (RRec.mk 0 0 0 0 [] 0 0 3 1 (SH.mk none 0 0) 0 (SH.mk none 0 0) [] [])]))), slR Ik.encI [((.slice (some ⟨b3, 0, none⟩) 1 1), [1])], accR Ik.encI 3 1 v2 ((askedM ([(RRec.mk 0 0 0 0 [] 0 0 0 0 (SH.mk (some ⟨b1, 0, none⟩) 2 2) ((-1)) (SH.mk none 0 0) ([(RSent.mk 0 0 1), (RSent.mk 1 0 1)]) []), (RRec.mk 0 0 0 0 [] 0 0 3 1 (SH.mk none 0 0) 0 (SH.mk none 0 0) [] [])])))] := hS10.newAcc hm7 h2 hg2
  clear hg2
  have hle_2 := h2.le
  have := asked_len ([(RRec.mk 0 0 0 0 [] 0 0 0 0 (SH.mk (some ⟨b1, 0, none⟩) 2 2) ((-1)) (SH.mk none 0 0) ([(RSent.mk 0 0 1), (RSent.mk 1 0 1)]) []), (RRec.mk 0 0 0 0 [] 0 0 3 1 (SH.mk none 0 0) 0 (SH.mk none 0 0) [] [])])
  refine OL.act rfl rfl (AW.buildSlice [(.int .i64 1 : Value)] Try.underlying28 ti3 rfl rfl rfl (by decide) ?_)
  intro w8 b6 hm8 hb6 hz4 hk4
  have hS13 := hS12.ext hm8
  have hl5 := Sl.of_blk (enc := Ik.encI) hk4 ([1] : List Int) 1 rfl rfl (by unfold maxLen; omega)
  have hS14 : St (fun _ => False) (fun _ => False) w0 w8 [slR encSent [((.slice (some ⟨b1, 0, none⟩) 2 2), [(RSent.mk 0 0 1), (RSent.mk 1 0 1)])], slR encRec [((.slice (some ⟨b2, 0, none⟩) 2 2), [(RRec.mk 0 0 0 0 [] 0 0 0 0 (SH.mk (some ⟨b1, 0, none⟩) 2 2) ((-1)) (SH.mk none 0 0) ([(RSent.mk 0 0 1), (RSent.mk 1 0 1)]) []), (RRec.mk 0 0 0 0 [] 0 0 3 1 (SH.mk none 0 0) 0 (SH.mk none 0 0) [] [])])], accR Ik.encI 3 1 v1 ((pendM ([(RRec.mk 0 0 0 0 [] 0 0 0 0 (SH.mk (some ⟨b1, 0, none⟩) 2 2) ((-1)) (SH.mk none 0 0) ([(RSent.mk 0 0 1), (RSent.mk 1 0 1)]) []), (RRec.mk 0 0 0 0 [] 0 0 3 1 (SH.mk none 0 0) 0 (SH.mk none 0 0) [] [])]))), slR Ik.encI [((.slice (some ⟨b3, 0, none⟩) 1 1), [1])], accR Ik.encI 3 1 v2 ((askedM ([(RRec.mk 0 0 0 0 [] 0 0 0 0 (SH.mk (some ⟨b1, 0, none⟩) 2 2) ((-1)) (SH.mk none 0 0) ([(RSent.mk 0 0 1), (RSent.mk 1 0 1)]) []), (RRec.mk 0 0 0 0 [] 0 0 3 1 (SH.mk none 0 0) 0 (SH.mk none 0 0) [] [])]))), slR Ik.encI [((.slice (some ⟨b6, 0, none⟩) 1 1), [1])]] := hS12.newSlB hm8 hb6 hz4 hl5
  obtain ⟨g2, f9, hl6, k2⟩ := hS14.accK (i := 4) rfl
  have f10 := hS14.sl (i := 5) (k := 0) rfl rfl
  refine OL.act rfl rfl (AW.callF cl8 rfl (sameI_c (w0 := w8) (a := (askedM ([(RRec.mk 0 0 0 0 [] 0 0 0 0 (SH.mk (some ⟨b1, 0, none⟩) 2 2) ((-1)) (SH.mk none 0 0) ([(RSent.mk 0 0 1), (RSent.mk 1 0 1)]) []), (RRec.mk 0 0 0 0 [] 0 0 3 1 (SH.mk none 0 0) 0 (SH.mk none 0 0) [] [])]))) (b := [1])  (f9.sl.iv (Nat.zero_le _) f9.lt) f10) ?_)
  rintro _ w9 ⟨⟨b7, hb7, rfl⟩, hm9⟩
  have hS15 := hS14.ext hm9
  obtain rfl : b7 = true := hb7.trans (by exact decide_eq_true (lit_asked _ _ _ _))
  refine OL.q (Q1.pick_t rfl rfl) rfl rfl ?_
  refine OL.q (Q1.assign rfl) rfl rfl ?_
  refine OL.nil ?_
  refine r_ret1 Try.func5 rfl rfl ?_
  exact Ret.mk ⟨⟨_, (by rfl), rfl⟩, hS15.mod⟩
end Go.Proofs
