/-
  What the law PackReads needs, part 5 of 8: theory, and walks through the code.
-/
import Derived.Test.YtajedfbogchkcaaSPackReadsD
set_option linter.unusedVariables false
set_option linter.unusedSimpArgs false
namespace Go.Proofs
open Go.Ik Go.Ml
set_option maxRecDepth 20000 in
set_option maxHeartbeats 4000000 in
theorem rdnum_c {w0 : World} {F G : Nat → Prop} {br : Nat} {v_b : Value} {b : List UInt8} (a : Int) (q : Bool) (size : Nat) (hA : (bkR (R := fun _ => False) br [v_b, .int .i64 a, .bool q] 101).p F w0) (hF : ∀ b, F b → b < w0.heap.size) (hb : Sl encB w0 G v_b b) (hG : ∀ b, G b → ¬ F b) (hGl : ∀ b, G b → b < w0.heap.size) (ha : 0 ≤ a ∧ a ≤ b.length) (hbl : b.length ≤ 4000000) (hsz : 1 ≤ size ∧ size ≤ 4) :
    Calls Try.prog 67 #[ptr br 0, .int .i64 (size : Int)] w0 (Ret fun rv w1 => rv = .int .i64 (numR b size (a, q)).1 ∧ Mod F w0 w1 ∧ ∃ F2, (bkR (R := fun _ => False) br [v_b, .int .i64 ((numR b size (a, q)).2.1), .bool (numR b size (a, q)).2.2] 101).p F2 w1 ∧ ∀ b, F2 b → b < w1.heap.size ∧ (F b ∨ w0.heap.size ≤ b)) := by
  have hS00 := St.start1 (R := fun _ => False) hA (fun b hb => ⟨hF b hb, id⟩) (fun _ h => h.elim)
  have hS1 : St (fun _ => False) F w0 w0 [bkR br [v_b, .int .i64 a, .bool q] 101] := hS00
  have hble := hb.le
  refine calls_enter Try.func67 rfl Try.ntmps67 rfl ?_
  refine r_seq ?_
  refine r_region ?_
  refine OL.q (Q1.assign rfl) rfl rfl ?_
  refine OL.nil ?_
  refine r_seq ?_
  refine r_draw1 (fun i => Nat.beq i 9) 15 (fun w' => Mod (Mg 0) w0 w') mixed (by kernel_rfl) ?_
  intro w1 hm1
  have hS2 := hS1.ext hm1
  have hCw1 : Mod (Mg 0) w0 w1 := Mod.ofExt hm1
  refine ⟨hCw1, ?_⟩
  rw [show List.range' 0 (Array.size _) = [0, 1, 2, 3, 4, 5, 6, 7, 8, 9, 10, 11, 12, 13, 14] from rfl]
  refine OD.q rfl rfl (Q1.move rfl) rfl rfl ?_
  refine OD.q rfl rfl (Q1.nilCheckP rfl) rfl rfl ?_
  refine OD.q rfl rfl (Q1.fieldAddr fl101_0 rfl) rfl rfl ?_
  have f1 := hS1.bk (i := 0) rfl
  refine OD.q rfl rfl (Q1.load1 ti25 rfl (fun _ hc => (f1.cell 0 _ rfl).keepG hc (Nat.succ_ne_zero _))) rfl rfl ?_
  refine OD.q rfl rfl (Q1.move rfl) rfl rfl ?_
  refine OD.q rfl rfl (Q1.nilCheckP rfl) rfl rfl ?_
  refine OD.q rfl rfl (Q1.fieldAddr fl101_1 rfl) rfl rfl ?_
  refine OD.q rfl rfl (Q1.load1 ti3 rfl (fun _ hc => (f1.cell 1 _ rfl).keepG hc (Nat.succ_ne_zero _))) rfl rfl ?_
  refine OD.q rfl rfl (Q1.move rfl) rfl rfl ?_
  have f2 := hS2.out hb hG
  refine OD.act rfl rfl rfl rfl (AW.callF cl66 rfl (num4_c (w0 := w1) (b := b) (a) (size) (f2.mono (fun b hb => ⟨Nat.zero_le _, Nat.lt_of_lt_of_le (hGl b hb) hS2.mod.size⟩)) (by first | omega | assumption) (by first | assumption | omega | (simp only [List.length_append, putN_len, List.length_cons, List.length_nil]; omega)) (by first | omega | decide)) ?_)
  rintro _ w2 ⟨_, _, rfl, rfl, ⟨b1, hb1, rfl⟩, hm2⟩
  have hS3 := hS2.ext hm2
  have hCw2 := hCw1.ext hm2
  refine ⟨.inr hCw2, ?_⟩
  have := numV_rng b a size
  refine OD.q rfl rfl (Q1.move rfl) rfl rfl ?_
  refine OD.q rfl rfl (Q1.extract rfl rfl) rfl rfl ?_
  refine OD.q rfl rfl (Q1.extract rfl rfl) rfl rfl ?_
  refine OD.q rfl rfl (Q1.assign rfl) rfl rfl ?_
  refine OD.q rfl rfl (Q1.assign rfl) rfl rfl ?_
  refine OD.nil ?_
  refine r_seq ?_
  refine r_seq ?_
  refine r_region ?_
  refine OL.q (Q1.move rfl) rfl rfl ?_
  cases b1 with
  | true =>
    replace hb1 := hb1.symm
    refine OL.q (Q1.not rfl) rfl rfl ?_
    refine OL.nil ?_
    refine r_cond_f rfl ?_
    refine r_skip ?_
    refine r_seq ?_
    refine r_region ?_
    refine OL.q (Q1.move rfl) rfl rfl ?_
    refine OL.q (Q1.nilCheckP rfl) rfl rfl ?_
    refine OL.q (Q1.fieldAddr fl101_1 rfl) rfl rfl ?_
    have f3 := hS3.bk (i := 0) rfl
    refine OL.q (Q1.load1 ti3 rfl (fun _ e => e ▸ (f3.cell 1 _ rfl))) rfl rfl ?_
    refine OL.q (Q1.move rfl) rfl rfl ?_
    refine OL.q (Q1.addI ((a + (((size : Nat) : Int)))) rfl rfl (by omega)) rfl rfl ?_
    refine OL.q (Q1.nilCheckP rfl) rfl rfl ?_
    refine OL.q (Q1.fieldAddr fl101_1 rfl) rfl rfl ?_
    refine OL.act rfl rfl (AW.store ti3 rfl rfl rfl rfl rfl f3 (Nat.le_of_ble_eq_true rfl) ?_)
    intro w3 hm3 hz1 hk1
    have hS4 : St (fun _ => False) F w0 w3 [bkR br [v_b, .int .i64 ((a + (((size : Nat) : Int)))), .bool q] 101] := hS3.bkK (i := 0) rfl hm3 hk1
    refine OL.nil ?_
    refine r_seq ?_
    refine r_region ?_
    refine OL.q (Q1.move rfl) rfl rfl ?_
    refine OL.q (Q1.assign rfl) rfl rfl ?_
    refine OL.nil ?_
    refine r_ret1 Try.func67 rfl rfl ?_
    obtain ⟨hmF, F2r, hAr, hFr⟩ := hS4.fin
    have hnr : numR b size (a, q) = ((numV b a size), ((a + (((size : Nat) : Int))), q)) := by first | exact numR_yes (by assumption) | exact numR_no (by assumption)
    exact Ret.mk ⟨by first | (rw [hnr]; done) | (rw [hnr]; rfl), hmF, F2r, by rw [hnr]; exact hAr, hFr⟩
  | false =>
    replace hb1 := hb1.symm
    refine OL.q (Q1.not rfl) rfl rfl ?_
    refine OL.nil ?_
    refine r_cond_t rfl ?_
    refine r_seq ?_
    refine r_region ?_
    refine OL.q (Q1.move rfl) rfl rfl ?_
    refine OL.q (Q1.nilCheckP rfl) rfl rfl ?_
    refine OL.q (Q1.fieldAddr fl101_2 rfl) rfl rfl ?_
    have f3 := hS3.bk (i := 0) rfl
    refine OL.act rfl rfl (AW.store ti4 rfl rfl rfl rfl rfl f3 (Nat.le_of_ble_eq_true rfl) ?_)
    intro w3 hm3 hz1 hk1
    have hS4 : St (fun _ => False) F w0 w3 [bkR br [v_b, .int .i64 a, .bool true] 101] := hS3.bkK (i := 0) rfl hm3 hk1
    refine OL.nil ?_
    refine r_seq ?_
    refine r_region ?_
    refine OL.q (Q1.assign rfl) rfl rfl ?_
    refine OL.nil ?_
    refine r_ret1 Try.func67 rfl rfl ?_
    obtain ⟨hmF, F2r, hAr, hFr⟩ := hS4.fin
    have hnr : numR b size (a, q) = (0, (a, true)) := by first | exact numR_yes (by assumption) | exact numR_no (by assumption)
    exact Ret.mk ⟨by first | (rw [hnr]; done) | (rw [hnr]; rfl), hmF, F2r, by rw [hnr]; exact hAr, hFr⟩
set_option maxRecDepth 20000 in
set_option maxHeartbeats 4000000 in
theorem rdnode_c {w0 : World} {F G : Nat → Prop} {br : Nat} {v_b : Value} {b : List UInt8} (a : Int) (q : Bool) (hA : (bkR (R := fun _ => False) br [v_b, .int .i64 a, .bool q] 101).p F w0) (hF : ∀ b, F b → b < w0.heap.size) (hb : Sl encB w0 G v_b b) (hG : ∀ b, G b → ¬ F b) (hGl : ∀ b, G b → b < w0.heap.size) (ha : 0 ≤ a ∧ a ≤ b.length) (hbl : b.length ≤ 4000000) :
    Calls Try.prog 68 #[ptr br 0] w0 (Ret fun rv w1 => ∃ ad cp, rv = .agg #[.bool (nodeR b (a, q)).1.1, .slice ad (nodeR b (a, q)).1.2.length cp] ∧ Mod F w0 w1 ∧ ∃ F2, (boxR (R := fun _ => False) [bkR br [v_b, .int .i64 ((nodeR b (a, q)).2.1), .bool (nodeR b (a, q)).2.2] 101, accR encE 94 2 (.slice ad (nodeR b (a, q)).1.2.length cp) (nodeR b (a, q)).1.2]).p F2 w1 ∧ ∀ b, F2 b → b < w1.heap.size ∧ (F b ∨ w0.heap.size ≤ b)) := by
  have hS00 := St.start1 (R := fun _ => False) hA (fun b hb => ⟨hF b hb, id⟩) (fun _ h => h.elim)
  have hS1 : St (fun _ => False) F w0 w0 [bkR br [v_b, .int .i64 a, .bool q] 101] := hS00
  have hble := hb.le
  refine calls_enter Try.func68 rfl Try.ntmps68 rfl ?_
  refine r_seq ?_
  refine r_region ?_
  refine OL.act rfl rfl (AW.alloc ti105 ?_)
  intro w1 b1 hm1 hb1 hz1 hk1
  have hS2 := hS1.ext hm1
  have hS3 : St (fun _ => False) F w0 w1 [bkR br [v_b, .int .i64 a, .bool q] 101, bkR b1 [.bool false, .slice none 0 0] 105] := hS1.newBk hm1 hb1 hk1
  refine OL.nil ?_
  refine r_seq ?_
  refine r_region ?_
  refine OL.q (Q1.move rfl) rfl rfl ?_
  have f1 := hS3.out hb hG
  obtain ⟨Fy1, hAy1, hFy1, hky1⟩ := hS3.act (i := 0) rfl
  refine OL.act rfl rfl (AW.callF cl67 rfl (rdnum_c (w0 := w1) (G := G) a q 1 hAy1 (fun b hb => (hFy1 b hb).2) f1 (fun b hb hx => by have := (hFy1 b hx).1.1; rcases this with h | h; exact hG b hb h; have := hGl b hb; omega) (fun b hb => Nat.lt_of_lt_of_le (hGl b hb) hS3.mod.size) (by omega) hbl (by omega)) ?_)
  rintro _ w2 ⟨rfl, hm2, F1, hB1, hF1⟩
  obtain ⟨⟨nv1, na1, nq1⟩, hnx1⟩ : ∃ x, x = numR b 1 (a, q) := ⟨_, rfl⟩
  rw [← hnx1] at hB1
  rw [← hnx1]
  dsimp only at hB1 ⊢
  have hnr1 := numR_rng (by omega) (by omega) hnx1.symm
  have hS4 : St (fun _ => False) F w0 w2 [bkR br [v_b, .int .i64 na1, .bool nq1] 101, bkR b1 [.bool false, .slice none 0 0] 105] := hky1 _ _ _ hm2 hB1 hF1
  clear hAy1 hFy1 hky1 hB1 hF1
  have hnb1 := numR_byte hnx1.symm (by omega)
  refine OL.q (Q1.assign rfl) rfl rfl ?_
  refine OL.nil ?_
  refine r_seq ?_
  refine r_region ?_
  refine OL.q (Q1.move rfl) rfl rfl ?_
  refine OL.qb (Q1.eq rfl rfl) rfl rfl ?_
  intro b2 hb2
  refine OL.q (Q1.build (vs := #[(0, (.bool b2 : Value))]) (v := .agg #[.bool b2, .slice none 0 0]) rfl (fun _ => by kernel_rfl)) rfl rfl ?_
  refine OL.act rfl rfl (AW.alloc ti105 ?_)
  intro w3 b3 hm3 hb3 hz2 hk2
  have hS5 := hS4.ext hm3
  have hS6 : St (fun _ => False) F w0 w3 [bkR br [v_b, .int .i64 na1, .bool nq1] 101, bkR b1 [.bool false, .slice none 0 0] 105, bkR b3 [.bool false, .slice none 0 0] 105] := hS4.newBk hm3 hb3 hk2
  have f2 := hS6.bk (i := 2) rfl
  refine OL.act rfl rfl (AW.store ti105 rfl rfl rfl rfl rfl f2 (Nat.le_of_ble_eq_true rfl) ?_)
  intro w4 hm4 hz3 hk3
  have hS7 : St (fun _ => False) F w0 w4 [bkR br [v_b, .int .i64 na1, .bool nq1] 101, bkR b1 [.bool false, .slice none 0 0] 105, bkR b3 [.bool b2, .slice none 0 0] 105] := hS6.bkK (i := 2) rfl hm4 hk3
  refine OL.nil ?_
  refine r_seq ?_
  refine r_region ?_
  refine OL.q (Q1.move rfl) rfl rfl ?_
  refine OL.q (Q1.move rfl) rfl rfl ?_
  refine OL.q (Q1.nilCheckP rfl) rfl rfl ?_
  refine OL.q (Q1.fieldAddr fl101_2 rfl) rfl rfl ?_
  have f3 := hS7.bk (i := 0) rfl
  refine OL.q (Q1.load1 ti4 rfl (fun _ e => e ▸ (f3.cell 2 _ rfl))) rfl rfl ?_
  refine OL.q (Q1.move rfl) rfl rfl ?_
  cases nq1 with
  | true =>
    refine OL.sk rfl rfl ?_
    refine OL.sk rfl rfl ?_
    refine OL.q (Q1.pick_t rfl rfl) rfl rfl ?_
    refine OL.q (Q1.nilCheckP rfl) rfl rfl ?_
    refine OL.q (Q1.fieldAddr fl101_2 rfl) rfl rfl ?_
    refine OL.act rfl rfl (AW.store ti4 rfl rfl rfl rfl rfl f3 (Nat.le_of_ble_eq_true rfl) ?_)
    intro w5 hm5 hz4 hk4
    have hS8 : St (fun _ => False) F w0 w5 [bkR br [v_b, .int .i64 na1, .bool true] 101, bkR b1 [.bool false, .slice none 0 0] 105, bkR b3 [.bool b2, .slice none 0 0] 105] := hS7.bkK (i := 0) rfl hm5 hk4
    refine OL.nil ?_
    refine r_seq ?_
    refine r_seq ?_
    refine r_region ?_
    refine OL.q (Q1.move rfl) rfl rfl ?_
    have f4 := hS8.out hb hG
    obtain ⟨Fy2, hAy2, hFy2, hky2⟩ := hS8.act (i := 0) rfl
    refine OL.act rfl rfl (AW.callF cl67 rfl (rdnum_c (w0 := w5) (G := G) na1 true 2 hAy2 (fun b hb => (hFy2 b hb).2) f4 (fun b hb hx => by have := (hFy2 b hx).1.1; rcases this with h | h; exact hG b hb h; have := hGl b hb; omega) (fun b hb => Nat.lt_of_lt_of_le (hGl b hb) hS8.mod.size) (by omega) hbl (by omega)) ?_)
    rintro _ w6 ⟨rfl, hm6, F2, hB2, hF2⟩
    obtain ⟨⟨nv2, na2, nq2⟩, hnx2⟩ : ∃ x, x = numR b 2 (na1, true) := ⟨_, rfl⟩
    rw [← hnx2] at hB2
    rw [← hnx2]
    dsimp only at hB2 ⊢
    have hnr2 := numR_rng (by omega) (by omega) hnx2.symm
    have hS9 : St (fun _ => False) F w0 w6 [bkR br [v_b, .int .i64 na2, .bool nq2] 101, bkR b1 [.bool false, .slice none 0 0] 105, bkR b3 [.bool b2, .slice none 0 0] 105] := hky2 _ _ _ hm6 hB2 hF2
    clear hAy2 hFy2 hky2 hB2 hF2
    have hnb2 := numR_byte hnx2.symm (by omega)
    have hS10 : St (fun _ => False) F w0 w6 [bkR br [v_b, .int .i64 na2, .bool nq2] 101, bkR b1 [.bool false, .slice none 0 0] 105, bkR b3 [.bool b2, .slice none 0 0] 105, accR encE 94 2 (.slice none 0 0) []] := hS9.newAcc (Mod.refl _ _) Acc.nil (.inl rfl)
    have hS11 : St (fun _ => False) F w0 w6 [bkR br [v_b, .int .i64 na2, .bool nq2] 101, bkR b1 [.bool false, .slice none 0 0] 105, boxR [bkR b3 [.bool b2, .slice none 0 0] 105, accR encE 94 2 (.slice none 0 0) []]] := St.close (L1 := [bkR br [v_b, .int .i64 na2, .bool nq2] 101, bkR b1 [.bool false, .slice none 0 0] 105]) hS10
    have hS12 : St (fun _ => False) F w0 w6 [bkR br [v_b, .int .i64 na2, .bool nq2] 101, bkR b1 [.bool false, .slice none 0 0] 105, nbR 105 94 b3 b2 []] := hS11.exi (.slice none 0 0) (i := 2) rfl
    refine OL.q (Q1.move rfl) rfl rfl ?_
    refine OL.nil ?_
    refine r_block ?_
    refine r_loop (I := fun m E W => ∃ (ak : Int) (qk : Bool) (k : Nat) (es : List Ed), E = [(0, ptr br 0), (2, ptr b1 0), (4, ptr b3 0), (23, .int .i64 nv2), (24, .int .i64 (((k : Nat) : Int)))] ∧ m = nv2.toNat - k ∧ St (fun _ => False) F w0 W [bkR br [v_b, .int .i64 ak, .bool qk] 101, bkR b1 [.bool false, .slice none 0 0] 105, nbR 105 94 b3 b2 es] ∧ (EdsR b nv2.toNat (na2, nq2) k es (ak, qk)) ∧ (0 ≤ ak ∧ ak ≤ b.length) ∧ ((k : Int) ≤ nv2) ∧ (es.length ≤ k)) ?_ ?_
    · refine ⟨_, _, ⟨(na2 : Int), (nq2 : Bool), (0 : Nat), ([] : List Ed), rfl, rfl, hS12, (by exact EdsR.start _ _ _), (by omega), (by omega), (by simp)⟩, ⟨rfl, rfl, rfl, rfl, rfl, trivial⟩⟩
    · rintro _ _ w7 ⟨ak, qk, k, es, rfl, rfl, hS13, hE, hak, hkl, hesl⟩ ih1
      refine r_seq ?_
      refine r_region ?_
      refine OL.qb (Q1.lt rfl rfl) rfl rfl ?_
      intro b4 hb4
      refine OL.nil ?_
      refine r_seq ?_
      cases b4 with
      | true =>
        replace hb4 := of_decide_eq_true hb4.symm
        refine r_cond_t rfl ?_
        refine r_skip ?_
        refine r_seq ?_
        refine r_block ?_
        refine r_seq ?_
        refine r_seq ?_
        refine r_region ?_
        refine OL.q (Q1.move rfl) rfl rfl ?_
        refine OL.q (Q1.nilCheckP rfl) rfl rfl ?_
        refine OL.q (Q1.fieldAddr fl101_2 rfl) rfl rfl ?_
        have f5 := hS13.bk (i := 0) rfl
        refine OL.q (Q1.load1 ti4 rfl (fun _ e => e ▸ (f5.cell 2 _ rfl))) rfl rfl ?_
        refine OL.nil ?_
        cases qk with
        | true =>
          refine r_cond_t rfl ?_
          refine r_exit rfl ?_
          refine r_seq ?_
          refine r_region ?_
          obtain ⟨vb1, hS14⟩ := hS13.exo (i := 2) rfl
          change St (fun _ => False) F w0 w7 [bkR br [v_b, .int .i64 ak, .bool true] 101, bkR b1 [.bool false, .slice none 0 0] 105, boxR [bkR b3 [.bool b2, vb1] 105, accR encE 94 2 vb1 es]] at hS14
          have hS15 : St (fun _ => False) F w0 w7 [bkR br [v_b, .int .i64 ak, .bool true] 101, bkR b1 [.bool false, .slice none 0 0] 105, bkR b3 [.bool b2, vb1] 105, accR encE 94 2 vb1 es] := St.open (L1 := [bkR br [v_b, .int .i64 ak, .bool true] 101, bkR b1 [.bool false, .slice none 0 0] 105]) hS14
          obtain ⟨g1, f6, hl1, k1⟩ := hS15.accK (i := 3) rfl
          obtain ⟨ad1, cp1, hv1⟩ := f6.shape
          subst hv1
          have f7 := hS15.bk (i := 2) rfl
          refine OL.q (Q1.loadN ti105 rfl (fun _ e => e ▸ f7.row) rfl) rfl rfl ?_
          have f8 := hS15.bk (i := 1) rfl
          refine OL.act rfl rfl (AW.store ti105 rfl rfl rfl rfl rfl f8 (Nat.le_of_ble_eq_true rfl) ?_)
          intro w8 hm7 hz5 hk5
          have hS16 : St (fun _ => False) F w0 w8 [bkR br [v_b, .int .i64 ak, .bool true] 101, bkR b1 [.bool b2, (.slice ad1 es.length cp1)] 105, bkR b3 [.bool b2, (.slice ad1 es.length cp1)] 105, accR encE 94 2 ((.slice ad1 es.length cp1)) es] := hS15.bkK (i := 1) rfl hm7 hk5
          refine OL.nil ?_
          have f9 := hS16.bk (i := 1) rfl
          refine r_retC1 Try.func68 rfl rfl ti105 f9.row rfl ?_
          have hS17 : St (fun _ => False) F w0 w8 [bkR b1 [.bool b2, (.slice ad1 es.length cp1)] 105, bkR b3 [.bool b2, (.slice ad1 es.length cp1)] 105, bkR br [v_b, .int .i64 ak, .bool true] 101, accR encE 94 2 ((.slice ad1 es.length cp1)) es] := hS16.sel [1, 2, 0, 3] (by rfl) (by decide)
          have hS18 : St (fun _ => False) F w0 w8 [bkR b1 [.bool b2, (.slice ad1 es.length cp1)] 105, bkR b3 [.bool b2, (.slice ad1 es.length cp1)] 105, boxR [bkR br [v_b, .int .i64 ak, .bool true] 101, accR encE 94 2 ((.slice ad1 es.length cp1)) es]] := St.close (L1 := [bkR b1 [.bool b2, (.slice ad1 es.length cp1)] 105, bkR b3 [.bool b2, (.slice ad1 es.length cp1)] 105]) hS17
          have hS19 : St (fun _ => False) F w0 w8 [boxR [bkR br [v_b, .int .i64 ak, .bool true] 101, accR encE 94 2 ((.slice ad1 es.length cp1)) es]] := hS18.sel [2] (by rfl) (by decide)
          obtain ⟨hmF, F2r, hAr, hFr⟩ := hS19.fin
          have hed : edgesR b nv2.toNat (na2, nq2) = (es, (ak, true)) := by first | exact hE.bad | exact hE.fin (by omega)
          have hnd : nodeR b (a, q) = ((b2, es), (ak, true)) := by first | exact node_eq hnx1 (by first | rfl | (simp; done) | (rw [Bool.false_or]; assumption) | (rw [Bool.true_or])) hnx2 hed (by assumption)
          exact Ret.mk ⟨_, _, by rw [hnd], hmF, F2r, by rw [hnd]; exact hAr, hFr⟩
        | false =>
          refine r_cond_f rfl ?_
          refine r_skip ?_
          refine r_seq ?_
          refine r_region ?_
          refine OL.q (Q1.move rfl) rfl rfl ?_
          have f6 := hS13.out hb hG
          obtain ⟨Fy3, hAy3, hFy3, hky3⟩ := hS13.act (i := 0) rfl
          refine OL.act rfl rfl (AW.callF cl67 rfl (rdnum_c (w0 := w7) (G := G) ak false 4 hAy3 (fun b hb => (hFy3 b hb).2) f6 (fun b hb hx => by have := (hFy3 b hx).1.1; rcases this with h | h; exact hG b hb h; have := hGl b hb; omega) (fun b hb => Nat.lt_of_lt_of_le (hGl b hb) hS13.mod.size) (by omega) hbl (by omega)) ?_)
          rintro _ w8 ⟨rfl, hm7, F3, hB3, hF3⟩
          obtain ⟨⟨nv3, na3, nq3⟩, hnx3⟩ : ∃ x, x = numR b 4 (ak, false) := ⟨_, rfl⟩
          rw [← hnx3] at hB3
          rw [← hnx3]
          dsimp only at hB3 ⊢
          have hnr3 := numR_rng (by omega) (by omega) hnx3.symm
          have hS14 : St (fun _ => False) F w0 w8 [bkR br [v_b, .int .i64 na3, .bool nq3] 101, bkR b1 [.bool false, .slice none 0 0] 105, nbR 105 94 b3 b2 es] := hky3 _ _ _ hm7 hB3 hF3
          clear hAy3 hFy3 hky3 hB3 hF3
          refine OL.q (Q1.assign rfl) rfl rfl ?_
          refine OL.nil ?_
          refine r_seq ?_
          refine r_region ?_
          refine OL.q (Q1.move rfl) rfl rfl ?_
          refine OL.q (Q1.move rfl) rfl rfl ?_
          refine OL.q (Q1.nilCheckP rfl) rfl rfl ?_
          refine OL.q (Q1.fieldAddr fl101_2 rfl) rfl rfl ?_
          have f7 := hS14.bk (i := 0) rfl
          refine OL.q (Q1.load1 ti4 rfl (fun _ e => e ▸ (f7.cell 2 _ rfl))) rfl rfl ?_
          refine OL.q (Q1.move rfl) rfl rfl ?_
          cases nq3 with
          | true =>
            refine OL.sk rfl rfl ?_
            refine OL.sk rfl rfl ?_
            refine OL.q (Q1.pick_t rfl rfl) rfl rfl ?_
            refine OL.q (Q1.nilCheckP rfl) rfl rfl ?_
            refine OL.q (Q1.fieldAddr fl101_2 rfl) rfl rfl ?_
            refine OL.act rfl rfl (AW.store ti4 rfl rfl rfl rfl rfl f7 (Nat.le_of_ble_eq_true rfl) ?_)
            intro w9 hm8 hz5 hk5
            have hS15 : St (fun _ => False) F w0 w9 [bkR br [v_b, .int .i64 na3, .bool true] 101, bkR b1 [.bool false, .slice none 0 0] 105, nbR 105 94 b3 b2 es] := hS14.bkK (i := 0) rfl hm8 hk5
            refine OL.nil ?_
            obtain ⟨vb1, hS16⟩ := hS15.exo (i := 2) rfl
            change St (fun _ => False) F w0 w9 [bkR br [v_b, .int .i64 na3, .bool true] 101, bkR b1 [.bool false, .slice none 0 0] 105, boxR [bkR b3 [.bool b2, vb1] 105, accR encE 94 2 vb1 es]] at hS16
            have hS17 : St (fun _ => False) F w0 w9 [bkR br [v_b, .int .i64 na3, .bool true] 101, bkR b1 [.bool false, .slice none 0 0] 105, bkR b3 [.bool b2, vb1] 105, accR encE 94 2 vb1 es] := St.open (L1 := [bkR br [v_b, .int .i64 na3, .bool true] 101, bkR b1 [.bool false, .slice none 0 0] 105]) hS16
            refine r_draw1 (fun i => Nat.beq i 5 || Nat.beq i 7 || Nat.beq i 8 || Nat.beq i 10) 10 (fun w' => Row w' b3 1 [vb1]) mixed (by kernel_rfl) ?_
            intro w10 hm9
            have hS18 := hS17.ext hm9
            have f8 := hS18.bk (i := 2) rfl
            refine ⟨(f8.cell 1 _ rfl), ?_⟩
            rw [show List.range' 0 (Array.size _) = [0, 1, 2, 3, 4, 5, 6, 7, 8, 9, 10] from rfl]
            refine OD.q rfl rfl (Q1.fieldAddr fl105_1 rfl) rfl rfl ?_
            have f9 := hS17.bk (i := 2) rfl
            refine OD.q rfl rfl (Q1.load1 ti49 rfl (fun _ hc => hc)) rfl rfl ?_
            refine OD.q rfl rfl (Q1.move rfl) rfl rfl ?_
            refine OD.q rfl rfl (Q1.convI (by kernel_rfl) Try.underlying21 rfl) rfl rfl ?_
            refine OD.q rfl rfl (Q1.move rfl) rfl rfl ?_
            have f10 := hS18.out hb hG
            obtain ⟨Fy4, hAy4, hFy4, hky4⟩ := hS18.act (i := 0) rfl
            refine OD.act rfl rfl rfl rfl (AW.callF cl67 rfl (rdnum_c (w0 := w10) (G := G) na3 true 2 hAy4 (fun b hb => (hFy4 b hb).2) f10 (fun b hb hx => by have := (hFy4 b hx).1.1; rcases this with h | h; exact hG b hb h; have := hGl b hb; omega) (fun b hb => Nat.lt_of_lt_of_le (hGl b hb) hS18.mod.size) (by omega) hbl (by omega)) ?_)
            rintro _ w11 ⟨rfl, hm10, F4, hB4, hF4⟩
            obtain ⟨⟨nv4, na4, nq4⟩, hnx4⟩ : ∃ x, x = numR b 2 (na3, true) := ⟨_, rfl⟩
            rw [← hnx4] at hB4
            rw [← hnx4]
            dsimp only at hB4 ⊢
            have hnr4 := numR_rng (by omega) (by omega) hnx4.symm
            have hS19 : St (fun _ => False) F w0 w11 [bkR br [v_b, .int .i64 na4, .bool nq4] 101, bkR b1 [.bool false, .slice none 0 0] 105, bkR b3 [.bool b2, vb1] 105, accR encE 94 2 vb1 es] := hky4 _ _ _ hm10 hB4 hF4
            clear hAy4 hFy4 hky4 hB4 hF4
            have hnb3 := numR_byte hnx4.symm (by omega)
            have f11 := hS19.bk (i := 2) rfl
            refine ⟨.inr (f11.cell 1 _ rfl), ?_⟩
            refine OD.q rfl rfl (Q1.build (vs := #[(0, (.int .i32 ((IntKind.i32.wrap nv3)) : Value)), (1, (.int .i64 nv4 : Value))]) (v := .agg #[.int .i32 ((IntKind.i32.wrap nv3)), .int .i64 nv4]) rfl (fun _ => by kernel_rfl)) rfl rfl ?_
            refine OD.act rfl rfl rfl rfl (AW.buildSlice [(.agg #[.int .i32 ((IntKind.i32.wrap nv3)), .int .i64 nv4] : Value)] Try.underlying49 ti94 rfl rfl rfl (by decide) ?_)
            intro w12 b5 hm11 hb5 hz6 hk6
            have hS20 := hS19.ext hm11
            have hl1 := Sl.of_blk (enc := encE) hk6 ([(Ed.mk ((IntKind.i32.wrap nv3)) nv4)] : List Ed) 1 rfl rfl (by unfold maxLen; omega)
            have hS21 : St (fun _ => False) F w0 w12 [bkR br [v_b, .int .i64 na4, .bool nq4] 101, bkR b1 [.bool false, .slice none 0 0] 105, bkR b3 [.bool b2, vb1] 105, accR encE 94 2 vb1 es, slR encE [((.slice (some ⟨b5, 0, none⟩) 1 1), [(Ed.mk ((IntKind.i32.wrap nv3)) nv4)])]] := hS19.newSlB hm11 hb5 hz6 hl1
            have f12 := hS21.bk (i := 2) rfl
            refine ⟨.inr (f12.cell 1 _ rfl), ?_⟩
            obtain ⟨g2, f13, hl2, k1⟩ := hS21.accK (i := 3) rfl
            have f14 := hS21.sl (i := 4) (k := 0) rfl rfl
            refine OD.act rfl rfl rfl rfl (AW.append f13 Try.underlying49 ti94 rfl encE_len encE_one rfl rfl (f14) (by first | omega | (simp only [List.length_append, List.length_cons, List.length_nil]; omega) | (simp; omega)) (by unfold maxLen; first | omega | (simp only [List.length_append, List.length_cons, List.length_nil]; omega) | (simp; omega)) ?_)
            intro v1 g1 w13 ha1 hm12 hg1 hz7
            have hS22 : St (fun _ => False) F w0 w13 [bkR br [v_b, .int .i64 na4, .bool nq4] 101, bkR b1 [.bool false, .slice none 0 0] 105, bkR b3 [.bool b2, vb1] 105, accR encE 94 2 v1 ((es ++ [(Ed.mk ((IntKind.i32.wrap nv3)) nv4)])), slR encE [((.slice (some ⟨b5, 0, none⟩) 1 1), [(Ed.mk ((IntKind.i32.wrap nv3)) nv4)])]] := k1 _ _ _ _ hm12 ha1 hg1
            have f15 := hS22.bk (i := 2) rfl
            refine ⟨.inr (f15.cell 1 _ rfl), ?_⟩
            clear hg1
            refine OD.q rfl rfl (Q1.fieldAddr fl105_1 rfl) rfl rfl ?_
            obtain ⟨g3, f16, hl3, k2⟩ := hS22.accK (i := 3) rfl
            obtain ⟨ad1, cp1, hv1⟩ := f16.shape
            subst hv1
            refine OD.act rfl rfl rfl rfl (AW.store ti49 rfl rfl rfl rfl rfl f15 (Nat.le_of_ble_eq_true rfl) ?_)
            intro w14 hm13 hz8 hk7
            have hS23 : St (fun _ => False) F w0 w14 [bkR br [v_b, .int .i64 na4, .bool nq4] 101, bkR b1 [.bool false, .slice none 0 0] 105, bkR b3 [.bool b2, (.slice ad1 ((es ++ [(Ed.mk ((IntKind.i32.wrap nv3)) nv4)])).length cp1)] 105, accR encE 94 2 ((.slice ad1 ((es ++ [(Ed.mk ((IntKind.i32.wrap nv3)) nv4)])).length cp1)) ((es ++ [(Ed.mk ((IntKind.i32.wrap nv3)) nv4)])), slR encE [((.slice (some ⟨b5, 0, none⟩) 1 1), [(Ed.mk ((IntKind.i32.wrap nv3)) nv4)])]] := hS22.bkK (i := 2) rfl hm13 hk7
            refine ⟨.inl rfl, ?_⟩
            refine OD.nil ?_
            refine r_inBlock ?_
            refine r_region ?_
            have hS24 : St (fun _ => False) F w0 w14 [bkR br [v_b, .int .i64 na4, .bool nq4] 101, bkR b1 [.bool false, .slice none 0 0] 105, slR encE [((.slice (some ⟨b5, 0, none⟩) 1 1), [(Ed.mk ((IntKind.i32.wrap nv3)) nv4)])], bkR b3 [.bool b2, (.slice ad1 ((es ++ [(Ed.mk ((IntKind.i32.wrap nv3)) nv4)])).length cp1)] 105, accR encE 94 2 ((.slice ad1 ((es ++ [(Ed.mk ((IntKind.i32.wrap nv3)) nv4)])).length cp1)) ((es ++ [(Ed.mk ((IntKind.i32.wrap nv3)) nv4)]))] := hS23.sel [0, 1, 4, 2, 3] (by rfl) (by decide)
            have hS25 : St (fun _ => False) F w0 w14 [bkR br [v_b, .int .i64 na4, .bool nq4] 101, bkR b1 [.bool false, .slice none 0 0] 105, slR encE [((.slice (some ⟨b5, 0, none⟩) 1 1), [(Ed.mk ((IntKind.i32.wrap nv3)) nv4)])], boxR [bkR b3 [.bool b2, (.slice ad1 ((es ++ [(Ed.mk ((IntKind.i32.wrap nv3)) nv4)])).length cp1)] 105, accR encE 94 2 ((.slice ad1 ((es ++ [(Ed.mk ((IntKind.i32.wrap nv3)) nv4)])).length cp1)) ((es ++ [(Ed.mk ((IntKind.i32.wrap nv3)) nv4)]))]] := St.close (L1 := [bkR br [v_b, .int .i64 na4, .bool nq4] 101, bkR b1 [.bool false, .slice none 0 0] 105, slR encE [((.slice (some ⟨b5, 0, none⟩) 1 1), [(Ed.mk ((IntKind.i32.wrap nv3)) nv4)])]]) hS24
            have hS26 : St (fun _ => False) F w0 w14 [bkR br [v_b, .int .i64 na4, .bool nq4] 101, bkR b1 [.bool false, .slice none 0 0] 105, slR encE [((.slice (some ⟨b5, 0, none⟩) 1 1), [(Ed.mk ((IntKind.i32.wrap nv3)) nv4)])], nbR 105 94 b3 b2 ((es ++ [(Ed.mk ((IntKind.i32.wrap nv3)) nv4)]))] := hS25.exi (.slice ad1 ((es ++ [(Ed.mk ((IntKind.i32.wrap nv3)) nv4)])).length cp1) (i := 3) rfl
            refine OL.q (Q1.addI (((k + 1 : Nat) : Int)) rfl rfl (by omega)) rfl rfl ?_
            refine OL.q (Q1.move rfl) rfl rfl ?_
            refine OL.nil ?_
            have hS27 : St (fun _ => False) F w0 w14 [bkR br [v_b, .int .i64 na4, .bool nq4] 101, bkR b1 [.bool false, .slice none 0 0] 105, nbR 105 94 b3 b2 ((es ++ [(Ed.mk ((IntKind.i32.wrap nv3)) nv4)]))] := hS26.sel [0, 1, 3] (by rfl) (by decide)
            exact (ih1 _ _ _ ⟨(na4 : Int), (nq4 : Bool), (k + 1 : Nat), ((es ++ [(Ed.mk ((IntKind.i32.wrap nv3)) nv4)]) : List Ed), rfl, rfl, hS27, (by first | exact hE.step (by omega) (edge_eq hnx3 (by first | rfl | (simp; done) | (rw [Bool.false_or]; assumption) | (rw [Bool.true_or])) hnx4) | (exfalso; omega)), (by first | omega | (exfalso; omega)), (by first | omega | (exfalso; omega)), (by first | (simp only [List.length_append, List.length_cons, List.length_nil]; omega) | (exfalso; omega))⟩ (by omega)).sub ⟨rfl, rfl, rfl, rfl, rfl, trivial⟩
          | false =>
            refine OL.q (Q1.move rfl) rfl rfl ?_
            refine OL.qb (Q1.gt rfl rfl) rfl rfl ?_
            intro b5 hb5
            refine OL.q (Q1.pick_f rfl rfl) rfl rfl ?_
            refine OL.q (Q1.nilCheckP rfl) rfl rfl ?_
            refine OL.q (Q1.fieldAddr fl101_2 rfl) rfl rfl ?_
            refine OL.act rfl rfl (AW.store ti4 rfl rfl rfl rfl rfl f7 (Nat.le_of_ble_eq_true rfl) ?_)
            intro w9 hm8 hz5 hk5
            have hS15 : St (fun _ => False) F w0 w9 [bkR br [v_b, .int .i64 na3, .bool b5] 101, bkR b1 [.bool false, .slice none 0 0] 105, nbR 105 94 b3 b2 es] := hS14.bkK (i := 0) rfl hm8 hk5
            refine OL.nil ?_
            obtain ⟨vb1, hS16⟩ := hS15.exo (i := 2) rfl
            change St (fun _ => False) F w0 w9 [bkR br [v_b, .int .i64 na3, .bool b5] 101, bkR b1 [.bool false, .slice none 0 0] 105, boxR [bkR b3 [.bool b2, vb1] 105, accR encE 94 2 vb1 es]] at hS16
            have hS17 : St (fun _ => False) F w0 w9 [bkR br [v_b, .int .i64 na3, .bool b5] 101, bkR b1 [.bool false, .slice none 0 0] 105, bkR b3 [.bool b2, vb1] 105, accR encE 94 2 vb1 es] := St.open (L1 := [bkR br [v_b, .int .i64 na3, .bool b5] 101, bkR b1 [.bool false, .slice none 0 0] 105]) hS16
            refine r_draw1 (fun i => Nat.beq i 5 || Nat.beq i 7 || Nat.beq i 8 || Nat.beq i 10) 10 (fun w' => Row w' b3 1 [vb1]) mixed (by kernel_rfl) ?_
            intro w10 hm9
            have hS18 := hS17.ext hm9
            have f8 := hS18.bk (i := 2) rfl
            refine ⟨(f8.cell 1 _ rfl), ?_⟩
            rw [show List.range' 0 (Array.size _) = [0, 1, 2, 3, 4, 5, 6, 7, 8, 9, 10] from rfl]
            refine OD.q rfl rfl (Q1.fieldAddr fl105_1 rfl) rfl rfl ?_
            have f9 := hS17.bk (i := 2) rfl
            refine OD.q rfl rfl (Q1.load1 ti49 rfl (fun _ hc => hc)) rfl rfl ?_
            refine OD.q rfl rfl (Q1.move rfl) rfl rfl ?_
            refine OD.q rfl rfl (Q1.convI (by kernel_rfl) Try.underlying21 rfl) rfl rfl ?_
            refine OD.q rfl rfl (Q1.move rfl) rfl rfl ?_
            have f10 := hS18.out hb hG
            obtain ⟨Fy4, hAy4, hFy4, hky4⟩ := hS18.act (i := 0) rfl
            refine OD.act rfl rfl rfl rfl (AW.callF cl67 rfl (rdnum_c (w0 := w10) (G := G) na3 b5 2 hAy4 (fun b hb => (hFy4 b hb).2) f10 (fun b hb hx => by have := (hFy4 b hx).1.1; rcases this with h | h; exact hG b hb h; have := hGl b hb; omega) (fun b hb => Nat.lt_of_lt_of_le (hGl b hb) hS18.mod.size) (by omega) hbl (by omega)) ?_)
            rintro _ w11 ⟨rfl, hm10, F4, hB4, hF4⟩
            obtain ⟨⟨nv4, na4, nq4⟩, hnx4⟩ : ∃ x, x = numR b 2 (na3, b5) := ⟨_, rfl⟩
            rw [← hnx4] at hB4
            rw [← hnx4]
            dsimp only at hB4 ⊢
            have hnr4 := numR_rng (by omega) (by omega) hnx4.symm
            have hS19 : St (fun _ => False) F w0 w11 [bkR br [v_b, .int .i64 na4, .bool nq4] 101, bkR b1 [.bool false, .slice none 0 0] 105, bkR b3 [.bool b2, vb1] 105, accR encE 94 2 vb1 es] := hky4 _ _ _ hm10 hB4 hF4
            clear hAy4 hFy4 hky4 hB4 hF4
            have hnb3 := numR_byte hnx4.symm (by omega)
            have f11 := hS19.bk (i := 2) rfl
            refine ⟨.inr (f11.cell 1 _ rfl), ?_⟩
            refine OD.q rfl rfl (Q1.build (vs := #[(0, (.int .i32 ((IntKind.i32.wrap nv3)) : Value)), (1, (.int .i64 nv4 : Value))]) (v := .agg #[.int .i32 ((IntKind.i32.wrap nv3)), .int .i64 nv4]) rfl (fun _ => by kernel_rfl)) rfl rfl ?_
            refine OD.act rfl rfl rfl rfl (AW.buildSlice [(.agg #[.int .i32 ((IntKind.i32.wrap nv3)), .int .i64 nv4] : Value)] Try.underlying49 ti94 rfl rfl rfl (by decide) ?_)
            intro w12 b6 hm11 hb6 hz6 hk6
            have hS20 := hS19.ext hm11
            have hl1 := Sl.of_blk (enc := encE) hk6 ([(Ed.mk ((IntKind.i32.wrap nv3)) nv4)] : List Ed) 1 rfl rfl (by unfold maxLen; omega)
            have hS21 : St (fun _ => False) F w0 w12 [bkR br [v_b, .int .i64 na4, .bool nq4] 101, bkR b1 [.bool false, .slice none 0 0] 105, bkR b3 [.bool b2, vb1] 105, accR encE 94 2 vb1 es, slR encE [((.slice (some ⟨b6, 0, none⟩) 1 1), [(Ed.mk ((IntKind.i32.wrap nv3)) nv4)])]] := hS19.newSlB hm11 hb6 hz6 hl1
            have f12 := hS21.bk (i := 2) rfl
            refine ⟨.inr (f12.cell 1 _ rfl), ?_⟩
            obtain ⟨g2, f13, hl2, k1⟩ := hS21.accK (i := 3) rfl
            have f14 := hS21.sl (i := 4) (k := 0) rfl rfl
            refine OD.act rfl rfl rfl rfl (AW.append f13 Try.underlying49 ti94 rfl encE_len encE_one rfl rfl (f14) (by first | omega | (simp only [List.length_append, List.length_cons, List.length_nil]; omega) | (simp; omega)) (by unfold maxLen; first | omega | (simp only [List.length_append, List.length_cons, List.length_nil]; omega) | (simp; omega)) ?_)
            intro v1 g1 w13 ha1 hm12 hg1 hz7
            have hS22 : St (fun _ => False) F w0 w13 [bkR br [v_b, .int .i64 na4, .bool nq4] 101, bkR b1 [.bool false, .slice none 0 0] 105, bkR b3 [.bool b2, vb1] 105, accR encE 94 2 v1 ((es ++ [(Ed.mk ((IntKind.i32.wrap nv3)) nv4)])), slR encE [((.slice (some ⟨b6, 0, none⟩) 1 1), [(Ed.mk ((IntKind.i32.wrap nv3)) nv4)])]] := k1 _ _ _ _ hm12 ha1 hg1
            have f15 := hS22.bk (i := 2) rfl
            refine ⟨.inr (f15.cell 1 _ rfl), ?_⟩
            clear hg1
            refine OD.q rfl rfl (Q1.fieldAddr fl105_1 rfl) rfl rfl ?_
            obtain ⟨g3, f16, hl3, k2⟩ := hS22.accK (i := 3) rfl
            obtain ⟨ad1, cp1, hv1⟩ := f16.shape
            subst hv1
            refine OD.act rfl rfl rfl rfl (AW.store ti49 rfl rfl rfl rfl rfl f15 (Nat.le_of_ble_eq_true rfl) ?_)
            intro w14 hm13 hz8 hk7
            have hS23 : St (fun _ => False) F w0 w14 [bkR br [v_b, .int .i64 na4, .bool nq4] 101, bkR b1 [.bool false, .slice none 0 0] 105, bkR b3 [.bool b2, (.slice ad1 ((es ++ [(Ed.mk ((IntKind.i32.wrap nv3)) nv4)])).length cp1)] 105, accR encE 94 2 ((.slice ad1 ((es ++ [(Ed.mk ((IntKind.i32.wrap nv3)) nv4)])).length cp1)) ((es ++ [(Ed.mk ((IntKind.i32.wrap nv3)) nv4)])), slR encE [((.slice (some ⟨b6, 0, none⟩) 1 1), [(Ed.mk ((IntKind.i32.wrap nv3)) nv4)])]] := hS22.bkK (i := 2) rfl hm13 hk7
            refine ⟨.inl rfl, ?_⟩
            refine OD.nil ?_
            refine r_inBlock ?_
            refine r_region ?_
            have hS24 : St (fun _ => False) F w0 w14 [bkR br [v_b, .int .i64 na4, .bool nq4] 101, bkR b1 [.bool false, .slice none 0 0] 105, slR encE [((.slice (some ⟨b6, 0, none⟩) 1 1), [(Ed.mk ((IntKind.i32.wrap nv3)) nv4)])], bkR b3 [.bool b2, (.slice ad1 ((es ++ [(Ed.mk ((IntKind.i32.wrap nv3)) nv4)])).length cp1)] 105, accR encE 94 2 ((.slice ad1 ((es ++ [(Ed.mk ((IntKind.i32.wrap nv3)) nv4)])).length cp1)) ((es ++ [(Ed.mk ((IntKind.i32.wrap nv3)) nv4)]))] := hS23.sel [0, 1, 4, 2, 3] (by rfl) (by decide)
            have hS25 : St (fun _ => False) F w0 w14 [bkR br [v_b, .int .i64 na4, .bool nq4] 101, bkR b1 [.bool false, .slice none 0 0] 105, slR encE [((.slice (some ⟨b6, 0, none⟩) 1 1), [(Ed.mk ((IntKind.i32.wrap nv3)) nv4)])], boxR [bkR b3 [.bool b2, (.slice ad1 ((es ++ [(Ed.mk ((IntKind.i32.wrap nv3)) nv4)])).length cp1)] 105, accR encE 94 2 ((.slice ad1 ((es ++ [(Ed.mk ((IntKind.i32.wrap nv3)) nv4)])).length cp1)) ((es ++ [(Ed.mk ((IntKind.i32.wrap nv3)) nv4)]))]] := St.close (L1 := [bkR br [v_b, .int .i64 na4, .bool nq4] 101, bkR b1 [.bool false, .slice none 0 0] 105, slR encE [((.slice (some ⟨b6, 0, none⟩) 1 1), [(Ed.mk ((IntKind.i32.wrap nv3)) nv4)])]]) hS24
            have hS26 : St (fun _ => False) F w0 w14 [bkR br [v_b, .int .i64 na4, .bool nq4] 101, bkR b1 [.bool false, .slice none 0 0] 105, slR encE [((.slice (some ⟨b6, 0, none⟩) 1 1), [(Ed.mk ((IntKind.i32.wrap nv3)) nv4)])], nbR 105 94 b3 b2 ((es ++ [(Ed.mk ((IntKind.i32.wrap nv3)) nv4)]))] := hS25.exi (.slice ad1 ((es ++ [(Ed.mk ((IntKind.i32.wrap nv3)) nv4)])).length cp1) (i := 3) rfl
            refine OL.q (Q1.addI (((k + 1 : Nat) : Int)) rfl rfl (by omega)) rfl rfl ?_
            refine OL.q (Q1.move rfl) rfl rfl ?_
            refine OL.nil ?_
            have hS27 : St (fun _ => False) F w0 w14 [bkR br [v_b, .int .i64 na4, .bool nq4] 101, bkR b1 [.bool false, .slice none 0 0] 105, nbR 105 94 b3 b2 ((es ++ [(Ed.mk ((IntKind.i32.wrap nv3)) nv4)]))] := hS26.sel [0, 1, 3] (by rfl) (by decide)
            exact (ih1 _ _ _ ⟨(na4 : Int), (nq4 : Bool), (k + 1 : Nat), ((es ++ [(Ed.mk ((IntKind.i32.wrap nv3)) nv4)]) : List Ed), rfl, rfl, hS27, (by first | exact hE.step (by omega) (edge_eq hnx3 (by first | rfl | (simp; done) | (rw [Bool.false_or]; assumption) | (rw [Bool.true_or])) hnx4) | (exfalso; omega)), (by first | omega | (exfalso; omega)), (by first | omega | (exfalso; omega)), (by first | (simp only [List.length_append, List.length_cons, List.length_nil]; omega) | (exfalso; omega))⟩ (by omega)).sub ⟨rfl, rfl, rfl, rfl, rfl, trivial⟩
      | false =>
        replace hb4 := of_decide_eq_false hb4.symm
        refine r_cond_f rfl ?_
        refine r_exit rfl ?_
        refine r_seq ?_
        refine r_region ?_
        obtain ⟨vb1, hS14⟩ := hS13.exo (i := 2) rfl
        change St (fun _ => False) F w0 w7 [bkR br [v_b, .int .i64 ak, .bool qk] 101, bkR b1 [.bool false, .slice none 0 0] 105, boxR [bkR b3 [.bool b2, vb1] 105, accR encE 94 2 vb1 es]] at hS14
        have hS15 : St (fun _ => False) F w0 w7 [bkR br [v_b, .int .i64 ak, .bool qk] 101, bkR b1 [.bool false, .slice none 0 0] 105, bkR b3 [.bool b2, vb1] 105, accR encE 94 2 vb1 es] := St.open (L1 := [bkR br [v_b, .int .i64 ak, .bool qk] 101, bkR b1 [.bool false, .slice none 0 0] 105]) hS14
        obtain ⟨g1, f5, hl1, k1⟩ := hS15.accK (i := 3) rfl
        obtain ⟨ad1, cp1, hv1⟩ := f5.shape
        subst hv1
        have f6 := hS15.bk (i := 2) rfl
        refine OL.q (Q1.loadN ti105 rfl (fun _ e => e ▸ f6.row) rfl) rfl rfl ?_
        have f7 := hS15.bk (i := 1) rfl
        refine OL.act rfl rfl (AW.store ti105 rfl rfl rfl rfl rfl f7 (Nat.le_of_ble_eq_true rfl) ?_)
        intro w8 hm7 hz5 hk5
        have hS16 : St (fun _ => False) F w0 w8 [bkR br [v_b, .int .i64 ak, .bool qk] 101, bkR b1 [.bool b2, (.slice ad1 es.length cp1)] 105, bkR b3 [.bool b2, (.slice ad1 es.length cp1)] 105, accR encE 94 2 ((.slice ad1 es.length cp1)) es] := hS15.bkK (i := 1) rfl hm7 hk5
        refine OL.nil ?_
        have f8 := hS16.bk (i := 1) rfl
        refine r_retC1 Try.func68 rfl rfl ti105 f8.row rfl ?_
        have hS17 : St (fun _ => False) F w0 w8 [bkR b1 [.bool b2, (.slice ad1 es.length cp1)] 105, bkR b3 [.bool b2, (.slice ad1 es.length cp1)] 105, bkR br [v_b, .int .i64 ak, .bool qk] 101, accR encE 94 2 ((.slice ad1 es.length cp1)) es] := hS16.sel [1, 2, 0, 3] (by rfl) (by decide)
        have hS18 : St (fun _ => False) F w0 w8 [bkR b1 [.bool b2, (.slice ad1 es.length cp1)] 105, bkR b3 [.bool b2, (.slice ad1 es.length cp1)] 105, boxR [bkR br [v_b, .int .i64 ak, .bool qk] 101, accR encE 94 2 ((.slice ad1 es.length cp1)) es]] := St.close (L1 := [bkR b1 [.bool b2, (.slice ad1 es.length cp1)] 105, bkR b3 [.bool b2, (.slice ad1 es.length cp1)] 105]) hS17
        have hS19 : St (fun _ => False) F w0 w8 [boxR [bkR br [v_b, .int .i64 ak, .bool qk] 101, accR encE 94 2 ((.slice ad1 es.length cp1)) es]] := hS18.sel [2] (by rfl) (by decide)
        obtain ⟨hmF, F2r, hAr, hFr⟩ := hS19.fin
        have hed : edgesR b nv2.toNat (na2, nq2) = (es, (ak, qk)) := by first | exact hE.bad | exact hE.fin (by omega)
        have hnd : nodeR b (a, q) = ((b2, es), (ak, qk)) := by first | exact node_eq hnx1 (by first | rfl | (simp; done) | (rw [Bool.false_or]; assumption) | (rw [Bool.true_or])) hnx2 hed (by assumption)
        exact Ret.mk ⟨_, _, by rw [hnd], hmF, F2r, by rw [hnd]; exact hAr, hFr⟩
  | false =>
    refine OL.q (Q1.move rfl) rfl rfl ?_
    refine OL.qb (Q1.gt rfl rfl) rfl rfl ?_
    intro b4 hb4
    refine OL.q (Q1.pick_f rfl rfl) rfl rfl ?_
    refine OL.q (Q1.nilCheckP rfl) rfl rfl ?_
    refine OL.q (Q1.fieldAddr fl101_2 rfl) rfl rfl ?_
    refine OL.act rfl rfl (AW.store ti4 rfl rfl rfl rfl rfl f3 (Nat.le_of_ble_eq_true rfl) ?_)
    intro w5 hm5 hz4 hk4
    have hS8 : St (fun _ => False) F w0 w5 [bkR br [v_b, .int .i64 na1, .bool b4] 101, bkR b1 [.bool false, .slice none 0 0] 105, bkR b3 [.bool b2, .slice none 0 0] 105] := hS7.bkK (i := 0) rfl hm5 hk4
    refine OL.nil ?_
    refine r_seq ?_
    refine r_seq ?_
    refine r_region ?_
    refine OL.q (Q1.move rfl) rfl rfl ?_
    have f4 := hS8.out hb hG
    obtain ⟨Fy2, hAy2, hFy2, hky2⟩ := hS8.act (i := 0) rfl
    refine OL.act rfl rfl (AW.callF cl67 rfl (rdnum_c (w0 := w5) (G := G) na1 b4 2 hAy2 (fun b hb => (hFy2 b hb).2) f4 (fun b hb hx => by have := (hFy2 b hx).1.1; rcases this with h | h; exact hG b hb h; have := hGl b hb; omega) (fun b hb => Nat.lt_of_lt_of_le (hGl b hb) hS8.mod.size) (by omega) hbl (by omega)) ?_)
    rintro _ w6 ⟨rfl, hm6, F2, hB2, hF2⟩
    obtain ⟨⟨nv2, na2, nq2⟩, hnx2⟩ : ∃ x, x = numR b 2 (na1, b4) := ⟨_, rfl⟩
    rw [← hnx2] at hB2
    rw [← hnx2]
    dsimp only at hB2 ⊢
    have hnr2 := numR_rng (by omega) (by omega) hnx2.symm
    have hS9 : St (fun _ => False) F w0 w6 [bkR br [v_b, .int .i64 na2, .bool nq2] 101, bkR b1 [.bool false, .slice none 0 0] 105, bkR b3 [.bool b2, .slice none 0 0] 105] := hky2 _ _ _ hm6 hB2 hF2
    clear hAy2 hFy2 hky2 hB2 hF2
    have hnb2 := numR_byte hnx2.symm (by omega)
    have hS10 : St (fun _ => False) F w0 w6 [bkR br [v_b, .int .i64 na2, .bool nq2] 101, bkR b1 [.bool false, .slice none 0 0] 105, bkR b3 [.bool b2, .slice none 0 0] 105, accR encE 94 2 (.slice none 0 0) []] := hS9.newAcc (Mod.refl _ _) Acc.nil (.inl rfl)
    have hS11 : St (fun _ => False) F w0 w6 [bkR br [v_b, .int .i64 na2, .bool nq2] 101, bkR b1 [.bool false, .slice none 0 0] 105, boxR [bkR b3 [.bool b2, .slice none 0 0] 105, accR encE 94 2 (.slice none 0 0) []]] := St.close (L1 := [bkR br [v_b, .int .i64 na2, .bool nq2] 101, bkR b1 [.bool false, .slice none 0 0] 105]) hS10
    have hS12 : St (fun _ => False) F w0 w6 [bkR br [v_b, .int .i64 na2, .bool nq2] 101, bkR b1 [.bool false, .slice none 0 0] 105, nbR 105 94 b3 b2 []] := hS11.exi (.slice none 0 0) (i := 2) rfl
    refine OL.q (Q1.move rfl) rfl rfl ?_
    refine OL.nil ?_
    refine r_block ?_
    refine r_loop (I := fun m E W => ∃ (ak : Int) (qk : Bool) (k : Nat) (es : List Ed), E = [(0, ptr br 0), (2, ptr b1 0), (4, ptr b3 0), (23, .int .i64 nv2), (24, .int .i64 (((k : Nat) : Int)))] ∧ m = nv2.toNat - k ∧ St (fun _ => False) F w0 W [bkR br [v_b, .int .i64 ak, .bool qk] 101, bkR b1 [.bool false, .slice none 0 0] 105, nbR 105 94 b3 b2 es] ∧ (EdsR b nv2.toNat (na2, nq2) k es (ak, qk)) ∧ (0 ≤ ak ∧ ak ≤ b.length) ∧ ((k : Int) ≤ nv2) ∧ (es.length ≤ k)) ?_ ?_
    · refine ⟨_, _, ⟨(na2 : Int), (nq2 : Bool), (0 : Nat), ([] : List Ed), rfl, rfl, hS12, (by exact EdsR.start _ _ _), (by omega), (by omega), (by simp)⟩, ⟨rfl, rfl, rfl, rfl, rfl, trivial⟩⟩
    · rintro _ _ w7 ⟨ak, qk, k, es, rfl, rfl, hS13, hE, hak, hkl, hesl⟩ ih1
      refine r_seq ?_
      refine r_region ?_
      refine OL.qb (Q1.lt rfl rfl) rfl rfl ?_
      intro b5 hb5
      refine OL.nil ?_
      refine r_seq ?_
      cases b5 with
      | true =>
        replace hb5 := of_decide_eq_true hb5.symm
        refine r_cond_t rfl ?_
        refine r_skip ?_
        refine r_seq ?_
        refine r_block ?_
        refine r_seq ?_
        refine r_seq ?_
        refine r_region ?_
        refine OL.q (Q1.move rfl) rfl rfl ?_
        refine OL.q (Q1.nilCheckP rfl) rfl rfl ?_
        refine OL.q (Q1.fieldAddr fl101_2 rfl) rfl rfl ?_
        have f5 := hS13.bk (i := 0) rfl
        refine OL.q (Q1.load1 ti4 rfl (fun _ e => e ▸ (f5.cell 2 _ rfl))) rfl rfl ?_
        refine OL.nil ?_
        cases qk with
        | true =>
          refine r_cond_t rfl ?_
          refine r_exit rfl ?_
          refine r_seq ?_
          refine r_region ?_
          obtain ⟨vb1, hS14⟩ := hS13.exo (i := 2) rfl
          change St (fun _ => False) F w0 w7 [bkR br [v_b, .int .i64 ak, .bool true] 101, bkR b1 [.bool false, .slice none 0 0] 105, boxR [bkR b3 [.bool b2, vb1] 105, accR encE 94 2 vb1 es]] at hS14
          have hS15 : St (fun _ => False) F w0 w7 [bkR br [v_b, .int .i64 ak, .bool true] 101, bkR b1 [.bool false, .slice none 0 0] 105, bkR b3 [.bool b2, vb1] 105, accR encE 94 2 vb1 es] := St.open (L1 := [bkR br [v_b, .int .i64 ak, .bool true] 101, bkR b1 [.bool false, .slice none 0 0] 105]) hS14
          obtain ⟨g1, f6, hl1, k1⟩ := hS15.accK (i := 3) rfl
          obtain ⟨ad1, cp1, hv1⟩ := f6.shape
          subst hv1
          have f7 := hS15.bk (i := 2) rfl
          refine OL.q (Q1.loadN ti105 rfl (fun _ e => e ▸ f7.row) rfl) rfl rfl ?_
          have f8 := hS15.bk (i := 1) rfl
          refine OL.act rfl rfl (AW.store ti105 rfl rfl rfl rfl rfl f8 (Nat.le_of_ble_eq_true rfl) ?_)
          intro w8 hm7 hz5 hk5
          have hS16 : St (fun _ => False) F w0 w8 [bkR br [v_b, .int .i64 ak, .bool true] 101, bkR b1 [.bool b2, (.slice ad1 es.length cp1)] 105, bkR b3 [.bool b2, (.slice ad1 es.length cp1)] 105, accR encE 94 2 ((.slice ad1 es.length cp1)) es] := hS15.bkK (i := 1) rfl hm7 hk5
          refine OL.nil ?_
          have f9 := hS16.bk (i := 1) rfl
          refine r_retC1 Try.func68 rfl rfl ti105 f9.row rfl ?_
          have hS17 : St (fun _ => False) F w0 w8 [bkR b1 [.bool b2, (.slice ad1 es.length cp1)] 105, bkR b3 [.bool b2, (.slice ad1 es.length cp1)] 105, bkR br [v_b, .int .i64 ak, .bool true] 101, accR encE 94 2 ((.slice ad1 es.length cp1)) es] := hS16.sel [1, 2, 0, 3] (by rfl) (by decide)
          have hS18 : St (fun _ => False) F w0 w8 [bkR b1 [.bool b2, (.slice ad1 es.length cp1)] 105, bkR b3 [.bool b2, (.slice ad1 es.length cp1)] 105, boxR [bkR br [v_b, .int .i64 ak, .bool true] 101, accR encE 94 2 ((.slice ad1 es.length cp1)) es]] := St.close (L1 := [bkR b1 [.bool b2, (.slice ad1 es.length cp1)] 105, bkR b3 [.bool b2, (.slice ad1 es.length cp1)] 105]) hS17
          have hS19 : St (fun _ => False) F w0 w8 [boxR [bkR br [v_b, .int .i64 ak, .bool true] 101, accR encE 94 2 ((.slice ad1 es.length cp1)) es]] := hS18.sel [2] (by rfl) (by decide)
          obtain ⟨hmF, F2r, hAr, hFr⟩ := hS19.fin
          have hed : edgesR b nv2.toNat (na2, nq2) = (es, (ak, true)) := by first | exact hE.bad | exact hE.fin (by omega)
          have hnd : nodeR b (a, q) = ((b2, es), (ak, true)) := by first | exact node_eq hnx1 (by first | rfl | (simp; done) | (rw [Bool.false_or]; assumption) | (rw [Bool.true_or])) hnx2 hed (by assumption)
          exact Ret.mk ⟨_, _, by rw [hnd], hmF, F2r, by rw [hnd]; exact hAr, hFr⟩
        | false =>
          refine r_cond_f rfl ?_
          refine r_skip ?_
          refine r_seq ?_
          refine r_region ?_
          refine OL.q (Q1.move rfl) rfl rfl ?_
          have f6 := hS13.out hb hG
          obtain ⟨Fy3, hAy3, hFy3, hky3⟩ := hS13.act (i := 0) rfl
          refine OL.act rfl rfl (AW.callF cl67 rfl (rdnum_c (w0 := w7) (G := G) ak false 4 hAy3 (fun b hb => (hFy3 b hb).2) f6 (fun b hb hx => by have := (hFy3 b hx).1.1; rcases this with h | h; exact hG b hb h; have := hGl b hb; omega) (fun b hb => Nat.lt_of_lt_of_le (hGl b hb) hS13.mod.size) (by omega) hbl (by omega)) ?_)
          rintro _ w8 ⟨rfl, hm7, F3, hB3, hF3⟩
          obtain ⟨⟨nv3, na3, nq3⟩, hnx3⟩ : ∃ x, x = numR b 4 (ak, false) := ⟨_, rfl⟩
          rw [← hnx3] at hB3
          rw [← hnx3]
          dsimp only at hB3 ⊢
          have hnr3 := numR_rng (by omega) (by omega) hnx3.symm
          have hS14 : St (fun _ => False) F w0 w8 [bkR br [v_b, .int .i64 na3, .bool nq3] 101, bkR b1 [.bool false, .slice none 0 0] 105, nbR 105 94 b3 b2 es] := hky3 _ _ _ hm7 hB3 hF3
          clear hAy3 hFy3 hky3 hB3 hF3
          refine OL.q (Q1.assign rfl) rfl rfl ?_
          refine OL.nil ?_
          refine r_seq ?_
          refine r_region ?_
          refine OL.q (Q1.move rfl) rfl rfl ?_
          refine OL.q (Q1.move rfl) rfl rfl ?_
          refine OL.q (Q1.nilCheckP rfl) rfl rfl ?_
          refine OL.q (Q1.fieldAddr fl101_2 rfl) rfl rfl ?_
          have f7 := hS14.bk (i := 0) rfl
          refine OL.q (Q1.load1 ti4 rfl (fun _ e => e ▸ (f7.cell 2 _ rfl))) rfl rfl ?_
          refine OL.q (Q1.move rfl) rfl rfl ?_
          cases nq3 with
          | true =>
            refine OL.sk rfl rfl ?_
            refine OL.sk rfl rfl ?_
            refine OL.q (Q1.pick_t rfl rfl) rfl rfl ?_
            refine OL.q (Q1.nilCheckP rfl) rfl rfl ?_
            refine OL.q (Q1.fieldAddr fl101_2 rfl) rfl rfl ?_
            refine OL.act rfl rfl (AW.store ti4 rfl rfl rfl rfl rfl f7 (Nat.le_of_ble_eq_true rfl) ?_)
            intro w9 hm8 hz5 hk5
            have hS15 : St (fun _ => False) F w0 w9 [bkR br [v_b, .int .i64 na3, .bool true] 101, bkR b1 [.bool false, .slice none 0 0] 105, nbR 105 94 b3 b2 es] := hS14.bkK (i := 0) rfl hm8 hk5
            refine OL.nil ?_
            obtain ⟨vb1, hS16⟩ := hS15.exo (i := 2) rfl
            change St (fun _ => False) F w0 w9 [bkR br [v_b, .int .i64 na3, .bool true] 101, bkR b1 [.bool false, .slice none 0 0] 105, boxR [bkR b3 [.bool b2, vb1] 105, accR encE 94 2 vb1 es]] at hS16
            have hS17 : St (fun _ => False) F w0 w9 [bkR br [v_b, .int .i64 na3, .bool true] 101, bkR b1 [.bool false, .slice none 0 0] 105, bkR b3 [.bool b2, vb1] 105, accR encE 94 2 vb1 es] := St.open (L1 := [bkR br [v_b, .int .i64 na3, .bool true] 101, bkR b1 [.bool false, .slice none 0 0] 105]) hS16
            refine r_draw1 (fun i => Nat.beq i 5 || Nat.beq i 7 || Nat.beq i 8 || Nat.beq i 10) 10 (fun w' => Row w' b3 1 [vb1]) mixed (by kernel_rfl) ?_
            intro w10 hm9
            have hS18 := hS17.ext hm9
            have f8 := hS18.bk (i := 2) rfl
            refine ⟨(f8.cell 1 _ rfl), ?_⟩
            rw [show List.range' 0 (Array.size _) = [0, 1, 2, 3, 4, 5, 6, 7, 8, 9, 10] from rfl]
            refine OD.q rfl rfl (Q1.fieldAddr fl105_1 rfl) rfl rfl ?_
            have f9 := hS17.bk (i := 2) rfl
            refine OD.q rfl rfl (Q1.load1 ti49 rfl (fun _ hc => hc)) rfl rfl ?_
            refine OD.q rfl rfl (Q1.move rfl) rfl rfl ?_
            refine OD.q rfl rfl (Q1.convI (by kernel_rfl) Try.underlying21 rfl) rfl rfl ?_
            refine OD.q rfl rfl (Q1.move rfl) rfl rfl ?_
            have f10 := hS18.out hb hG
            obtain ⟨Fy4, hAy4, hFy4, hky4⟩ := hS18.act (i := 0) rfl
            refine OD.act rfl rfl rfl rfl (AW.callF cl67 rfl (rdnum_c (w0 := w10) (G := G) na3 true 2 hAy4 (fun b hb => (hFy4 b hb).2) f10 (fun b hb hx => by have := (hFy4 b hx).1.1; rcases this with h | h; exact hG b hb h; have := hGl b hb; omega) (fun b hb => Nat.lt_of_lt_of_le (hGl b hb) hS18.mod.size) (by omega) hbl (by omega)) ?_)
            rintro _ w11 ⟨rfl, hm10, F4, hB4, hF4⟩
            obtain ⟨⟨nv4, na4, nq4⟩, hnx4⟩ : ∃ x, x = numR b 2 (na3, true) := ⟨_, rfl⟩
            rw [← hnx4] at hB4
            rw [← hnx4]
            dsimp only at hB4 ⊢
            have hnr4 := numR_rng (by omega) (by omega) hnx4.symm
            have hS19 : St (fun _ => False) F w0 w11 [bkR br [v_b, .int .i64 na4, .bool nq4] 101, bkR b1 [.bool false, .slice none 0 0] 105, bkR b3 [.bool b2, vb1] 105, accR encE 94 2 vb1 es] := hky4 _ _ _ hm10 hB4 hF4
            clear hAy4 hFy4 hky4 hB4 hF4
            have hnb3 := numR_byte hnx4.symm (by omega)
            have f11 := hS19.bk (i := 2) rfl
            refine ⟨.inr (f11.cell 1 _ rfl), ?_⟩
            refine OD.q rfl rfl (Q1.build (vs := #[(0, (.int .i32 ((IntKind.i32.wrap nv3)) : Value)), (1, (.int .i64 nv4 : Value))]) (v := .agg #[.int .i32 ((IntKind.i32.wrap nv3)), .int .i64 nv4]) rfl (fun _ => by kernel_rfl)) rfl rfl ?_
            refine OD.act rfl rfl rfl rfl (AW.buildSlice [(.agg #[.int .i32 ((IntKind.i32.wrap nv3)), .int .i64 nv4] : Value)] Try.underlying49 ti94 rfl rfl rfl (by decide) ?_)
            intro w12 b6 hm11 hb6 hz6 hk6
            have hS20 := hS19.ext hm11
            have hl1 := Sl.of_blk (enc := encE) hk6 ([(Ed.mk ((IntKind.i32.wrap nv3)) nv4)] : List Ed) 1 rfl rfl (by unfold maxLen; omega)
            have hS21 : St (fun _ => False) F w0 w12 [bkR br [v_b, .int .i64 na4, .bool nq4] 101, bkR b1 [.bool false, .slice none 0 0] 105, bkR b3 [.bool b2, vb1] 105, accR encE 94 2 vb1 es, slR encE [((.slice (some ⟨b6, 0, none⟩) 1 1), [(Ed.mk ((IntKind.i32.wrap nv3)) nv4)])]] := hS19.newSlB hm11 hb6 hz6 hl1
            have f12 := hS21.bk (i := 2) rfl
            refine ⟨.inr (f12.cell 1 _ rfl), ?_⟩
            obtain ⟨g2, f13, hl2, k1⟩ := hS21.accK (i := 3) rfl
            have f14 := hS21.sl (i := 4) (k := 0) rfl rfl
            refine OD.act rfl rfl rfl rfl (AW.append f13 Try.underlying49 ti94 rfl encE_len encE_one rfl rfl (f14) (by first | omega | (simp only [List.length_append, List.length_cons, List.length_nil]; omega) | (simp; omega)) (by unfold maxLen; first | omega | (simp only [List.length_append, List.length_cons, List.length_nil]; omega) | (simp; omega)) ?_)
            intro v1 g1 w13 ha1 hm12 hg1 hz7
            have hS22 : St (fun _ => False) F w0 w13 [bkR br [v_b, .int .i64 na4, .bool nq4] 101, bkR b1 [.bool false, .slice none 0 0] 105, bkR b3 [.bool b2, vb1] 105, accR encE 94 2 v1 ((es ++ [(Ed.mk ((IntKind.i32.wrap nv3)) nv4)])), slR encE [((.slice (some ⟨b6, 0, none⟩) 1 1), [(Ed.mk ((IntKind.i32.wrap nv3)) nv4)])]] := k1 _ _ _ _ hm12 ha1 hg1
            have f15 := hS22.bk (i := 2) rfl
            refine ⟨.inr (f15.cell 1 _ rfl), ?_⟩
            clear hg1
            refine OD.q rfl rfl (Q1.fieldAddr fl105_1 rfl) rfl rfl ?_
            obtain ⟨g3, f16, hl3, k2⟩ := hS22.accK (i := 3) rfl
            obtain ⟨ad1, cp1, hv1⟩ := f16.shape
            subst hv1
            refine OD.act rfl rfl rfl rfl (AW.store ti49 rfl rfl rfl rfl rfl f15 (Nat.le_of_ble_eq_true rfl) ?_)
            intro w14 hm13 hz8 hk7
            have hS23 : St (fun _ => False) F w0 w14 [bkR br [v_b, .int .i64 na4, .bool nq4] 101, bkR b1 [.bool false, .slice none 0 0] 105, bkR b3 [.bool b2, (.slice ad1 ((es ++ [(Ed.mk ((IntKind.i32.wrap nv3)) nv4)])).length cp1)] 105, accR encE 94 2 ((.slice ad1 ((es ++ [(Ed.mk ((IntKind.i32.wrap nv3)) nv4)])).length cp1)) ((es ++ [(Ed.mk ((IntKind.i32.wrap nv3)) nv4)])), slR encE [((.slice (some ⟨b6, 0, none⟩) 1 1), [(Ed.mk ((IntKind.i32.wrap nv3)) nv4)])]] := hS22.bkK (i := 2) rfl hm13 hk7
            refine ⟨.inl rfl, ?_⟩
            refine OD.nil ?_
            refine r_inBlock ?_
            refine r_region ?_
            have hS24 : St (fun _ => False) F w0 w14 [bkR br [v_b, .int .i64 na4, .bool nq4] 101, bkR b1 [.bool false, .slice none 0 0] 105, slR encE [((.slice (some ⟨b6, 0, none⟩) 1 1), [(Ed.mk ((IntKind.i32.wrap nv3)) nv4)])], bkR b3 [.bool b2, (.slice ad1 ((es ++ [(Ed.mk ((IntKind.i32.wrap nv3)) nv4)])).length cp1)] 105, accR encE 94 2 ((.slice ad1 ((es ++ [(Ed.mk ((IntKind.i32.wrap nv3)) nv4)])).length cp1)) ((es ++ [(Ed.mk ((IntKind.i32.wrap nv3)) nv4)]))] := hS23.sel [0, 1, 4, 2, 3] (by rfl) (by decide)
            have hS25 : St (fun _ => False) F w0 w14 [bkR br [v_b, .int .i64 na4, .bool nq4] 101, bkR b1 [.bool false, .slice none 0 0] 105, slR encE [((.slice (some ⟨b6, 0, none⟩) 1 1), [(Ed.mk ((IntKind.i32.wrap nv3)) nv4)])], boxR [bkR b3 [.bool b2, (.slice ad1 ((es ++ [(Ed.mk ((IntKind.i32.wrap nv3)) nv4)])).length cp1)] 105, accR encE 94 2 ((.slice ad1 ((es ++ [(Ed.mk ((IntKind.i32.wrap nv3)) nv4)])).length cp1)) ((es ++ [(Ed.mk ((IntKind.i32.wrap nv3)) nv4)]))]] := St.close (L1 := [bkR br [v_b, .int .i64 na4, .bool nq4] 101, bkR b1 [.bool false, .slice none 0 0] 105, slR encE [((.slice (some ⟨b6, 0, none⟩) 1 1), [(Ed.mk ((IntKind.i32.wrap nv3)) nv4)])]]) hS24
            have hS26 : St (fun _ => False) F w0 w14 [bkR br [v_b, .int .i64 na4, .bool nq4] 101, bkR b1 [.bool false, .slice none 0 0] 105, slR encE [((.slice (some ⟨b6, 0, none⟩) 1 1), [(Ed.mk ((IntKind.i32.wrap nv3)) nv4)])], nbR 105 94 b3 b2 ((es ++ [(Ed.mk ((IntKind.i32.wrap nv3)) nv4)]))] := hS25.exi (.slice ad1 ((es ++ [(Ed.mk ((IntKind.i32.wrap nv3)) nv4)])).length cp1) (i := 3) rfl
            refine OL.q (Q1.addI (((k + 1 : Nat) : Int)) rfl rfl (by omega)) rfl rfl ?_
            refine OL.q (Q1.move rfl) rfl rfl ?_
            refine OL.nil ?_
            have hS27 : St (fun _ => False) F w0 w14 [bkR br [v_b, .int .i64 na4, .bool nq4] 101, bkR b1 [.bool false, .slice none 0 0] 105, nbR 105 94 b3 b2 ((es ++ [(Ed.mk ((IntKind.i32.wrap nv3)) nv4)]))] := hS26.sel [0, 1, 3] (by rfl) (by decide)
            exact (ih1 _ _ _ ⟨(na4 : Int), (nq4 : Bool), (k + 1 : Nat), ((es ++ [(Ed.mk ((IntKind.i32.wrap nv3)) nv4)]) : List Ed), rfl, rfl, hS27, (by first | exact hE.step (by omega) (edge_eq hnx3 (by first | rfl | (simp; done) | (rw [Bool.false_or]; assumption) | (rw [Bool.true_or])) hnx4) | (exfalso; omega)), (by first | omega | (exfalso; omega)), (by first | omega | (exfalso; omega)), (by first | (simp only [List.length_append, List.length_cons, List.length_nil]; omega) | (exfalso; omega))⟩ (by omega)).sub ⟨rfl, rfl, rfl, rfl, rfl, trivial⟩
          | false =>
            refine OL.q (Q1.move rfl) rfl rfl ?_
            refine OL.qb (Q1.gt rfl rfl) rfl rfl ?_
            intro b6 hb6
            refine OL.q (Q1.pick_f rfl rfl) rfl rfl ?_
            refine OL.q (Q1.nilCheckP rfl) rfl rfl ?_
            refine OL.q (Q1.fieldAddr fl101_2 rfl) rfl rfl ?_
            refine OL.act rfl rfl (AW.store ti4 rfl rfl rfl rfl rfl f7 (Nat.le_of_ble_eq_true rfl) ?_)
            intro w9 hm8 hz5 hk5
            have hS15 : St (fun _ => False) F w0 w9 [bkR br [v_b, .int .i64 na3, .bool b6] 101, bkR b1 [.bool false, .slice none 0 0] 105, nbR 105 94 b3 b2 es] := hS14.bkK (i := 0) rfl hm8 hk5
            refine OL.nil ?_
            obtain ⟨vb1, hS16⟩ := hS15.exo (i := 2) rfl
            change St (fun _ => False) F w0 w9 [bkR br [v_b, .int .i64 na3, .bool b6] 101, bkR b1 [.bool false, .slice none 0 0] 105, boxR [bkR b3 [.bool b2, vb1] 105, accR encE 94 2 vb1 es]] at hS16
            have hS17 : St (fun _ => False) F w0 w9 [bkR br [v_b, .int .i64 na3, .bool b6] 101, bkR b1 [.bool false, .slice none 0 0] 105, bkR b3 [.bool b2, vb1] 105, accR encE 94 2 vb1 es] := St.open (L1 := [bkR br [v_b, .int .i64 na3, .bool b6] 101, bkR b1 [.bool false, .slice none 0 0] 105]) hS16
            refine r_draw1 (fun i => Nat.beq i 5 || Nat.beq i 7 || Nat.beq i 8 || Nat.beq i 10) 10 (fun w' => Row w' b3 1 [vb1]) mixed (by kernel_rfl) ?_
            intro w10 hm9
            have hS18 := hS17.ext hm9
            have f8 := hS18.bk (i := 2) rfl
            refine ⟨(f8.cell 1 _ rfl), ?_⟩
            rw [show List.range' 0 (Array.size _) = [0, 1, 2, 3, 4, 5, 6, 7, 8, 9, 10] from rfl]
            refine OD.q rfl rfl (Q1.fieldAddr fl105_1 rfl) rfl rfl ?_
            have f9 := hS17.bk (i := 2) rfl
            refine OD.q rfl rfl (Q1.load1 ti49 rfl (fun _ hc => hc)) rfl rfl ?_
            refine OD.q rfl rfl (Q1.move rfl) rfl rfl ?_
            refine OD.q rfl rfl (Q1.convI (by kernel_rfl) Try.underlying21 rfl) rfl rfl ?_
            refine OD.q rfl rfl (Q1.move rfl) rfl rfl ?_
            have f10 := hS18.out hb hG
            obtain ⟨Fy4, hAy4, hFy4, hky4⟩ := hS18.act (i := 0) rfl
            refine OD.act rfl rfl rfl rfl (AW.callF cl67 rfl (rdnum_c (w0 := w10) (G := G) na3 b6 2 hAy4 (fun b hb => (hFy4 b hb).2) f10 (fun b hb hx => by have := (hFy4 b hx).1.1; rcases this with h | h; exact hG b hb h; have := hGl b hb; omega) (fun b hb => Nat.lt_of_lt_of_le (hGl b hb) hS18.mod.size) (by omega) hbl (by omega)) ?_)
            rintro _ w11 ⟨rfl, hm10, F4, hB4, hF4⟩
            obtain ⟨⟨nv4, na4, nq4⟩, hnx4⟩ : ∃ x, x = numR b 2 (na3, b6) := ⟨_, rfl⟩
            rw [← hnx4] at hB4
            rw [← hnx4]
            dsimp only at hB4 ⊢
            have hnr4 := numR_rng (by omega) (by omega) hnx4.symm
            have hS19 : St (fun _ => False) F w0 w11 [bkR br [v_b, .int .i64 na4, .bool nq4] 101, bkR b1 [.bool false, .slice none 0 0] 105, bkR b3 [.bool b2, vb1] 105, accR encE 94 2 vb1 es] := hky4 _ _ _ hm10 hB4 hF4
            clear hAy4 hFy4 hky4 hB4 hF4
            have hnb3 := numR_byte hnx4.symm (by omega)
            have f11 := hS19.bk (i := 2) rfl
            refine ⟨.inr (f11.cell 1 _ rfl), ?_⟩
            refine OD.q rfl rfl (Q1.build (vs := #[(0, (.int .i32 ((IntKind.i32.wrap nv3)) : Value)), (1, (.int .i64 nv4 : Value))]) (v := .agg #[.int .i32 ((IntKind.i32.wrap nv3)), .int .i64 nv4]) rfl (fun _ => by kernel_rfl)) rfl rfl ?_
            refine OD.act rfl rfl rfl rfl (AW.buildSlice [(.agg #[.int .i32 ((IntKind.i32.wrap nv3)), .int .i64 nv4] : Value)] Try.underlying49 ti94 rfl rfl rfl (by decide) ?_)
            intro w12 b7 hm11 hb7 hz6 hk6
            have hS20 := hS19.ext hm11
            have hl1 := Sl.of_blk (enc := encE) hk6 ([(Ed.mk ((IntKind.i32.wrap nv3)) nv4)] : List Ed) 1 rfl rfl (by unfold maxLen; omega)
            have hS21 : St (fun _ => False) F w0 w12 [bkR br [v_b, .int .i64 na4, .bool nq4] 101, bkR b1 [.bool false, .slice none 0 0] 105, bkR b3 [.bool b2, vb1] 105, accR encE 94 2 vb1 es, slR encE [((.slice (some ⟨b7, 0, none⟩) 1 1), [(Ed.mk ((IntKind.i32.wrap nv3)) nv4)])]] := hS19.newSlB hm11 hb7 hz6 hl1
            have f12 := hS21.bk (i := 2) rfl
            refine ⟨.inr (f12.cell 1 _ rfl), ?_⟩
            obtain ⟨g2, f13, hl2, k1⟩ := hS21.accK (i := 3) rfl
            have f14 := hS21.sl (i := 4) (k := 0) rfl rfl
            refine OD.act rfl rfl rfl rfl (AW.append f13 Try.underlying49 ti94 rfl encE_len encE_one rfl rfl (f14) (by first | omega | (simp only [List.length_append, List.length_cons, List.length_nil]; omega) | (simp; omega)) (by unfold maxLen; first | omega | (simp only [List.length_append, List.length_cons, List.length_nil]; omega) | (simp; omega)) ?_)
            intro v1 g1 w13 ha1 hm12 hg1 hz7
            have hS22 : St (fun _ => False) F w0 w13 [bkR br [v_b, .int .i64 na4, .bool nq4] 101, bkR b1 [.bool false, .slice none 0 0] 105, bkR b3 [.bool b2, vb1] 105, accR encE 94 2 v1 ((es ++ [(Ed.mk ((IntKind.i32.wrap nv3)) nv4)])), slR encE [((.slice (some ⟨b7, 0, none⟩) 1 1), [(Ed.mk ((IntKind.i32.wrap nv3)) nv4)])]] := k1 _ _ _ _ hm12 ha1 hg1
            have f15 := hS22.bk (i := 2) rfl
            refine ⟨.inr (f15.cell 1 _ rfl), ?_⟩
            clear hg1
            refine OD.q rfl rfl (Q1.fieldAddr fl105_1 rfl) rfl rfl ?_
            obtain ⟨g3, f16, hl3, k2⟩ := hS22.accK (i := 3) rfl
            obtain ⟨ad1, cp1, hv1⟩ := f16.shape
            subst hv1
            refine OD.act rfl rfl rfl rfl (AW.store ti49 rfl rfl rfl rfl rfl f15 (Nat.le_of_ble_eq_true rfl) ?_)
            intro w14 hm13 hz8 hk7
            have hS23 : St (fun _ => False) F w0 w14 [bkR br [v_b, .int .i64 na4, .bool nq4] 101, bkR b1 [.bool false, .slice none 0 0] 105, bkR b3 [.bool b2, (.slice ad1 ((es ++ [(Ed.mk ((IntKind.i32.wrap nv3)) nv4)])).length cp1)] 105, accR encE 94 2 ((.slice ad1 ((es ++ [(Ed.mk ((IntKind.i32.wrap nv3)) nv4)])).length cp1)) ((es ++ [(Ed.mk ((IntKind.i32.wrap nv3)) nv4)])), slR encE [((.slice (some ⟨b7, 0, none⟩) 1 1), [(Ed.mk ((IntKind.i32.wrap nv3)) nv4)])]] := hS22.bkK (i := 2) rfl hm13 hk7
            refine ⟨.inl rfl, ?_⟩
            refine OD.nil ?_
            refine r_inBlock ?_
            refine r_region ?_
            have hS24 : St (fun _ => False) F w0 w14 [bkR br [v_b, .int .i64 na4, .bool nq4] 101, bkR b1 [.bool false, .slice none 0 0] 105, slR encE [((.slice (some ⟨b7, 0, none⟩) 1 1), [(Ed.mk ((IntKind.i32.wrap nv3)) nv4)])], bkR b3 [.bool b2, (.slice ad1 ((es ++ [(Ed.mk ((IntKind.i32.wrap nv3)) nv4)])).length cp1)] 105, accR encE 94 2 ((.slice ad1 ((es ++ [(Ed.mk ((IntKind.i32.wrap nv3)) nv4)])).length cp1)) ((es ++ [(Ed.mk ((IntKind.i32.wrap nv3)) nv4)]))] := hS23.sel [0, 1, 4, 2, 3] (by rfl) (by decide)
            have hS25 : St (fun _ => False) F w0 w14 [bkR br [v_b, .int .i64 na4, .bool nq4] 101, bkR b1 [.bool false, .slice none 0 0] 105, slR encE [((.slice (some ⟨b7, 0, none⟩) 1 1), [(Ed.mk ((IntKind.i32.wrap nv3)) nv4)])], boxR [bkR b3 [.bool b2, (.slice ad1 ((es ++ [(Ed.mk ((IntKind.i32.wrap nv3)) nv4)])).length cp1)] 105, accR encE 94 2 ((.slice ad1 ((es ++ [(Ed.mk ((IntKind.i32.wrap nv3)) nv4)])).length cp1)) ((es ++ [(Ed.mk ((IntKind.i32.wrap nv3)) nv4)]))]] := St.close (L1 := [bkR br [v_b, .int .i64 na4, .bool nq4] 101, bkR b1 [.bool false, .slice none 0 0] 105, slR encE [((.slice (some ⟨b7, 0, none⟩) 1 1), [(Ed.mk ((IntKind.i32.wrap nv3)) nv4)])]]) hS24
            have hS26 : St (fun _ => False) F w0 w14 [bkR br [v_b, .int .i64 na4, .bool nq4] 101, bkR b1 [.bool false, .slice none 0 0] 105, slR encE [((.slice (some ⟨b7, 0, none⟩) 1 1), [(Ed.mk ((IntKind.i32.wrap nv3)) nv4)])], nbR 105 94 b3 b2 ((es ++ [(Ed.mk ((IntKind.i32.wrap nv3)) nv4)]))] := hS25.exi (.slice ad1 ((es ++ [(Ed.mk ((IntKind.i32.wrap nv3)) nv4)])).length cp1) (i := 3) rfl
            refine OL.q (Q1.addI (((k + 1 : Nat) : Int)) rfl rfl (by omega)) rfl rfl ?_
            refine OL.q (Q1.move rfl) rfl rfl ?_
            refine OL.nil ?_
            have hS27 : St (fun _ => False) F w0 w14 [bkR br [v_b, .int .i64 na4, .bool nq4] 101, bkR b1 [.bool false, .slice none 0 0] 105, nbR 105 94 b3 b2 ((es ++ [(Ed.mk ((IntKind.i32.wrap nv3)) nv4)]))] := hS26.sel [0, 1, 3] (by rfl) (by decide)
            exact (ih1 _ _ _ ⟨(na4 : Int), (nq4 : Bool), (k + 1 : Nat), ((es ++ [(Ed.mk ((IntKind.i32.wrap nv3)) nv4)]) : List Ed), rfl, rfl, hS27, (by first | exact hE.step (by omega) (edge_eq hnx3 (by first | rfl | (simp; done) | (rw [Bool.false_or]; assumption) | (rw [Bool.true_or])) hnx4) | (exfalso; omega)), (by first | omega | (exfalso; omega)), (by first | omega | (exfalso; omega)), (by first | (simp only [List.length_append, List.length_cons, List.length_nil]; omega) | (exfalso; omega))⟩ (by omega)).sub ⟨rfl, rfl, rfl, rfl, rfl, trivial⟩
      | false =>
        replace hb5 := of_decide_eq_false hb5.symm
        refine r_cond_f rfl ?_
        refine r_exit rfl ?_
        refine r_seq ?_
        refine r_region ?_
        obtain ⟨vb1, hS14⟩ := hS13.exo (i := 2) rfl
        change St (fun _ => False) F w0 w7 [bkR br [v_b, .int .i64 ak, .bool qk] 101, bkR b1 [.bool false, .slice none 0 0] 105, boxR [bkR b3 [.bool b2, vb1] 105, accR encE 94 2 vb1 es]] at hS14
        have hS15 : St (fun _ => False) F w0 w7 [bkR br [v_b, .int .i64 ak, .bool qk] 101, bkR b1 [.bool false, .slice none 0 0] 105, bkR b3 [.bool b2, vb1] 105, accR encE 94 2 vb1 es] := St.open (L1 := [bkR br [v_b, .int .i64 ak, .bool qk] 101, bkR b1 [.bool false, .slice none 0 0] 105]) hS14
        obtain ⟨g1, f5, hl1, k1⟩ := hS15.accK (i := 3) rfl
        obtain ⟨ad1, cp1, hv1⟩ := f5.shape
        subst hv1
        have f6 := hS15.bk (i := 2) rfl
        refine OL.q (Q1.loadN ti105 rfl (fun _ e => e ▸ f6.row) rfl) rfl rfl ?_
        have f7 := hS15.bk (i := 1) rfl
        refine OL.act rfl rfl (AW.store ti105 rfl rfl rfl rfl rfl f7 (Nat.le_of_ble_eq_true rfl) ?_)
        intro w8 hm7 hz5 hk5
        have hS16 : St (fun _ => False) F w0 w8 [bkR br [v_b, .int .i64 ak, .bool qk] 101, bkR b1 [.bool b2, (.slice ad1 es.length cp1)] 105, bkR b3 [.bool b2, (.slice ad1 es.length cp1)] 105, accR encE 94 2 ((.slice ad1 es.length cp1)) es] := hS15.bkK (i := 1) rfl hm7 hk5
        refine OL.nil ?_
        have f8 := hS16.bk (i := 1) rfl
        refine r_retC1 Try.func68 rfl rfl ti105 f8.row rfl ?_
        have hS17 : St (fun _ => False) F w0 w8 [bkR b1 [.bool b2, (.slice ad1 es.length cp1)] 105, bkR b3 [.bool b2, (.slice ad1 es.length cp1)] 105, bkR br [v_b, .int .i64 ak, .bool qk] 101, accR encE 94 2 ((.slice ad1 es.length cp1)) es] := hS16.sel [1, 2, 0, 3] (by rfl) (by decide)
        have hS18 : St (fun _ => False) F w0 w8 [bkR b1 [.bool b2, (.slice ad1 es.length cp1)] 105, bkR b3 [.bool b2, (.slice ad1 es.length cp1)] 105, boxR [bkR br [v_b, .int .i64 ak, .bool qk] 101, accR encE 94 2 ((.slice ad1 es.length cp1)) es]] := St.close (L1 := [bkR b1 [.bool b2, (.slice ad1 es.length cp1)] 105, bkR b3 [.bool b2, (.slice ad1 es.length cp1)] 105]) hS17
        have hS19 : St (fun _ => False) F w0 w8 [boxR [bkR br [v_b, .int .i64 ak, .bool qk] 101, accR encE 94 2 ((.slice ad1 es.length cp1)) es]] := hS18.sel [2] (by rfl) (by decide)
        obtain ⟨hmF, F2r, hAr, hFr⟩ := hS19.fin
        have hed : edgesR b nv2.toNat (na2, nq2) = (es, (ak, qk)) := by first | exact hE.bad | exact hE.fin (by omega)
        have hnd : nodeR b (a, q) = ((b2, es), (ak, qk)) := by first | exact node_eq hnx1 (by first | rfl | (simp; done) | (rw [Bool.false_or]; assumption) | (rw [Bool.true_or])) hnx2 hed (by assumption)
        exact Ret.mk ⟨_, _, by rw [hnd], hmF, F2r, by rw [hnd]; exact hAr, hFr⟩
set_option maxRecDepth 20000 in
set_option maxHeartbeats 4000000 in
theorem decode_c {w0 : World}  {v_b : Value} {b : List UInt8} (h_b : Sl encB w0 (Iv 0 w0.heap.size) v_b b) (hbl : b.length ≤ 4000000) :
    Calls Try.prog 22 #[v_b] w0 (Ret fun rv w1 => ∃ u0 u1, rv = .tuple #[u0, u1] ∧ (∃ lo hi, Gr 0 w1 lo hi u0 ((decG b).1) ∧ w0.heap.size ≤ lo ∧ hi ≤ w1.heap.size) ∧ u1 = .int .i64 ((decG b).2) ∧ Ext w0 w1) := by
  have hle_b := h_b.le
  have hS0 := St.start0 w0
  refine calls_enter Try.func22 rfl Try.ntmps22 rfl ?_
  refine r_seq ?_
  refine r_region ?_
  refine OL.q (Q1.assign rfl) rfl rfl ?_
  refine OL.q (Q1.assign rfl) rfl rfl ?_
  refine OL.nil ?_
  refine r_seq ?_
  refine r_region ?_
  refine OL.q (Q1.move rfl) rfl rfl ?_
  refine OL.q (Q1.lenSl Try.underlying25 (h_b) rfl) rfl rfl ?_
  refine OL.q (Q1.subI ((((b.length : Nat) : Int) - 4)) rfl rfl (by omega)) rfl rfl ?_
  refine OL.q (Q1.assign rfl) rfl rfl ?_
  refine OL.nil ?_
  refine r_seq ?_
  refine r_seq ?_
  refine r_region ?_
  refine OL.q (Q1.move rfl) rfl rfl ?_
  refine OL.qb (Q1.lt rfl rfl) rfl rfl ?_
  intro b1 hb1
  refine OL.nil ?_
  cases b1 with
  | true =>
    replace hb1 := of_decide_eq_true hb1.symm
    refine r_cond_t rfl ?_
    refine r_seq ?_
    refine r_region ?_
    refine OL.q (Q1.assign rfl) rfl rfl ?_
    refine OL.q (Q1.assign rfl) rfl rfl ?_
    refine OL.nil ?_
    refine r_ret2 Try.func22 rfl rfl rfl ?_
    have hw : decG b = ([], 9) := by first | exact decG_short (by omega) | exact decG_sum (by omega) (by first | assumption | omega)
    exact Ret.mk ⟨_, _, rfl, ⟨w0.heap.size, w0.heap.size, .inl ⟨rfl, by rw [hw]⟩, Nat.le_refl _, hS0.mod.size⟩, by rw [hw], hS0.mod⟩
  | false =>
    replace hb1 := of_decide_eq_false hb1.symm
    refine r_cond_f rfl ?_
    refine r_skip ?_
    refine r_seq ?_
    refine r_seq ?_
    refine r_region ?_
    refine OL.q (Q1.move rfl) rfl rfl ?_
    refine OL.q (Q1.move rfl) rfl rfl ?_
    refine OL.act rfl rfl (AW.callF cl66 rfl (num4_c (w0 := w0) (b := b) ((((b.length : Nat) : Int) - 4)) (4) h_b (by first | omega | assumption) (by first | assumption | omega | (simp only [List.length_append, putN_len, List.length_cons, List.length_nil]; omega)) (by first | omega | decide)) ?_)
    rintro _ w1 ⟨_, _, rfl, rfl, ⟨b2, hb2, rfl⟩, hm1⟩
    have hS1 := hS0.ext hm1
    have := numV_rng b ((((b.length : Nat) : Int) - 4)) 4
    refine OL.q (Q1.move rfl) rfl rfl ?_
    refine OL.q (Q1.extract rfl rfl) rfl rfl ?_
    refine OL.q (Q1.extract rfl rfl) rfl rfl ?_
    refine OL.q (Q1.assign rfl) rfl rfl ?_
    refine OL.q (Q1.assign rfl) rfl rfl ?_
    refine OL.nil ?_
    refine r_seq ?_
    refine r_region ?_
    refine OL.q (Q1.move rfl) rfl rfl ?_
    have hnl4 := numV_lt (b := b) (a := ((b.length : Int) - 4)) (size := 4) (by omega)
    refine OL.q (Q1.convN (by kernel_rfl) Try.underlying95 rfl (IntWalk.u32_in _ (by omega))) rfl rfl ?_
    refine OL.q (Q1.move rfl) rfl rfl ?_
    refine OL.q (Q1.move rfl) rfl rfl ?_
    obtain ⟨v1, hr1, hl1⟩ := Sl.part (P := Try.prog) h_b Try.underlying25 ti5 encB_len (0) ((b.length - 4)) (.inl ⟨rfl, rfl⟩) (.inr ⟨.i64, (((b.length : Nat) : Int) - 4), rfl, by omega⟩) (by omega) (by first | assumption | omega)
    replace hl1 : Sl encB w0 (Iv 0 w0.heap.size) v1 (b.take ((b.length - 4))) := by simpa using hl1
    refine OL.q (Q1.sliceV rfl rfl rfl rfl hr1) rfl rfl ?_
    have f1 := hS1.out hl1 (fun _ _ h => h)
    refine OL.act rfl rfl (AW.callF cl65 rfl (sumof_c (w0 := w1) (b := (b.take ((b.length - 4))))  (f1.iv (Nat.zero_le _) hS1.mod.size) (by (simp only [List.length_take]; omega))) ?_)
    rintro _ w2 ⟨rfl, hm2⟩
    have hS2 := hS1.ext hm2
    have := sumF_lt 0 ((b.take ((b.length - 4))))
    change sumN ((b.take ((b.length - 4)))) < _ at this
    refine OL.qb (Q1.ne rfl rfl) rfl rfl ?_
    intro b3 hb3
    refine OL.nil ?_
    cases b3 with
    | true =>
      replace hb3 := bne_iff_ne.1 hb3.symm
      refine r_cond_t rfl ?_
      refine r_seq ?_
      refine r_region ?_
      refine OL.q (Q1.assign rfl) rfl rfl ?_
      refine OL.q (Q1.assign rfl) rfl rfl ?_
      refine OL.nil ?_
      refine r_ret2 Try.func22 rfl rfl rfl ?_
      have hw : decG b = ([], 9) := by first | exact decG_short (by omega) | exact decG_sum (by omega) (by first | assumption | omega)
      exact Ret.mk ⟨_, _, rfl, ⟨w0.heap.size, w0.heap.size, .inl ⟨rfl, by rw [hw]⟩, Nat.le_refl _, hS2.mod.size⟩, by rw [hw], hS2.mod⟩
    | false =>
      replace hb3 := bne_eq_false_iff_eq.1 hb3.symm
      refine r_cond_f rfl ?_
      refine r_skip ?_
      refine r_seq ?_
      refine r_seq ?_
      refine r_region ?_
      refine OL.q (Q1.move rfl) rfl rfl ?_
      refine OL.qb (Q1.lt rfl rfl) rfl rfl ?_
      intro b4 hb4
      refine OL.q (Q1.move rfl) rfl rfl ?_
      cases b4 with
      | true =>
        replace hb4 := of_decide_eq_true hb4.symm
        refine OL.sk rfl rfl ?_
        refine OL.sk rfl rfl ?_
        refine OL.sk rfl rfl ?_
        refine OL.sk rfl rfl ?_
        refine OL.q (Q1.pick_t rfl rfl) rfl rfl ?_
        refine OL.nil ?_
        refine r_cond_t rfl ?_
        refine r_seq ?_
        refine r_region ?_
        refine OL.q (Q1.assign rfl) rfl rfl ?_
        refine OL.q (Q1.assign rfl) rfl rfl ?_
        refine OL.nil ?_
        refine r_ret2 Try.func22 rfl rfl rfl ?_
        have hw := decG_head (b := b) (by first | omega | assumption) (by first | assumption | omega) (by first | exact .inl (by omega) | exact .inr (by assumption))
        exact Ret.mk ⟨_, _, rfl, ⟨w0.heap.size, w0.heap.size, .inl ⟨rfl, by rw [hw]⟩, Nat.le_refl _, hS2.mod.size⟩, by rw [hw], hS2.mod⟩
      | false =>
        replace hb4 := of_decide_eq_false hb4.symm
        refine OL.q (Q1.move rfl) rfl rfl ?_
        obtain ⟨v2, hr2, hl2⟩ := Sl.part (P := Try.prog) h_b Try.underlying25 ti5 encB_len (0) (4) (.inl ⟨rfl, rfl⟩) (.inr ⟨.i64, 4, rfl, by omega⟩) (by omega) (by first | assumption | omega)
        replace hl2 : Sl encB w0 (Iv 0 w0.heap.size) v2 (b.take 4) := by simpa using hl2
        refine OL.q (Q1.sliceV rfl rfl rfl rfl hr2) rfl rfl ?_
        have f2 := hS2.out hl2 (fun _ _ h => h)
        refine OL.act rfl rfl (AW.bytesStr Try.underlying25 Try.underlying5 Try.underlying9 rfl (f2) ?_)
        refine OL.qb (Q1.neS rfl rfl) rfl rfl ?_
        intro b5 hb5
        refine OL.q (Q1.pick_f rfl rfl) rfl rfl ?_
        refine OL.nil ?_
        cases b5 with
        | true =>
          replace hb5 := nbeq_t hb5
          refine r_cond_t rfl ?_
          refine r_seq ?_
          refine r_region ?_
          refine OL.q (Q1.assign rfl) rfl rfl ?_
          refine OL.q (Q1.assign rfl) rfl rfl ?_
          refine OL.nil ?_
          refine r_ret2 Try.func22 rfl rfl rfl ?_
          have hw := decG_head (b := b) (by first | omega | assumption) (by first | assumption | omega) (by first | exact .inl (by omega) | exact .inr (by assumption))
          exact Ret.mk ⟨_, _, rfl, ⟨w0.heap.size, w0.heap.size, .inl ⟨rfl, by rw [hw]⟩, Nat.le_refl _, hS2.mod.size⟩, by rw [hw], hS2.mod⟩
        | false =>
          replace hb5 := nbeq_f hb5
          refine r_cond_f rfl ?_
          refine r_skip ?_
          refine r_seq ?_
          refine r_region ?_
          refine OL.q (Q1.move rfl) rfl rfl ?_
          refine OL.q (Q1.move rfl) rfl rfl ?_
          obtain ⟨v3, hr3, hl3⟩ := Sl.part (P := Try.prog) h_b Try.underlying25 ti5 encB_len (0) ((b.length - 4)) (.inl ⟨rfl, rfl⟩) (.inr ⟨.i64, (((b.length : Nat) : Int) - 4), rfl, by omega⟩) (by omega) (by first | assumption | omega)
          replace hl3 : Sl encB w0 (Iv 0 w0.heap.size) v3 (b.take ((b.length - 4))) := by simpa using hl3
          refine OL.q (Q1.sliceV rfl rfl rfl rfl hr3) rfl rfl ?_
          have f3 := hS2.out hl3 (fun _ _ h => h)
          obtain ⟨ad1, cp1, hv1⟩ := f3.shape
          subst hv1
          refine OL.q (Q1.build (vs := #[(0, (.slice ad1 ((b.take ((b.length - 4)))).length cp1)), (1, (.int .i64 4 : Value))]) (v := .agg #[(.slice ad1 ((b.take ((b.length - 4)))).length cp1), .int .i64 4, .bool false]) rfl (fun _ => by kernel_rfl)) rfl rfl ?_
          refine OL.act rfl rfl (AW.box [(.slice ad1 ((b.take ((b.length - 4)))).length cp1), .int .i64 4, .bool false] rfl rfl ?_)
          intro w3 b6 hm3 hb6 hz1 hk1
          have hS3 := hS2.ext hm3
          have hS4 : St (fun _ => False) (fun _ => False) w0 w3 [bkR b6 [(.slice ad1 ((b.take ((b.length - 4)))).length cp1), .int .i64 4, .bool false] 101] := hS2.newBk hm3 hb6 hk1
          refine OL.q (Q1.assign rfl) rfl rfl ?_
          refine OL.nil ?_
          refine r_seq ?_
          refine r_region ?_
          have hS5 : St (fun _ => False) (fun _ => False) w0 w3 [bkR b6 [(.slice ad1 ((b.take ((b.length - 4)))).length cp1), .int .i64 4, .bool false] 101, relR ([] : List RNode) []] := hS4.new (Mod.refl _ _) (F := fun _ => False) (All2.nil) (fun _ h => h.elim)
          refine OL.q (Q1.assign rfl) rfl rfl ?_
          refine OL.nil ?_
          refine r_seq ?_
          refine r_seq ?_
          refine r_region ?_
          refine OL.q (Q1.move rfl) rfl rfl ?_
          have f4 := hS5.out hl3 (fun _ _ h => h)
          obtain ⟨Fy1, hAy1, hFy1, hky1⟩ := hS5.act (i := 0) rfl
          refine OL.act rfl rfl (AW.callF cl67 rfl (rdnum_c (w0 := w3) (G := Iv 0 w0.heap.size) 4 false 2 hAy1 (fun b hb => (hFy1 b hb).2) f4 (fun b hb hx => by have := (hFy1 b hx).1.1; rcases this with h | h; exact h; unfold Iv at hb; omega) (fun b hb => Nat.lt_of_lt_of_le hb.2 hS5.mod.size) (by first | omega | assumption | (simp only [List.length_take]; omega)) (by first | omega | (simp only [List.length_take]; omega)) (by omega)) ?_)
          rintro _ w4 ⟨rfl, hm4, F1, hB1, hF1⟩
          obtain ⟨⟨nv1, na1, nq1⟩, hnx1⟩ : ∃ x, x = numR ((b.take ((b.length - 4)))) 2 (4, false) := ⟨_, rfl⟩
          rw [← hnx1] at hB1
          rw [← hnx1]
          dsimp only at hB1 ⊢
          have hnr1 := numR_rng (by omega) (by first | omega | (simp only [List.length_take]; omega)) hnx1.symm
          have hnr1b := numR_byte hnx1.symm (by omega)
          have hS6 : St (fun _ => False) (fun _ => False) w0 w4 [bkR b6 [(.slice ad1 ((b.take ((b.length - 4)))).length cp1), .int .i64 na1, .bool nq1] 101, relR ([] : List RNode) []] := hky1 _ _ _ hm4 hB1 hF1
          clear hAy1 hFy1 hky1 hB1
          refine OL.q (Q1.move rfl) rfl rfl ?_
          refine OL.nil ?_
          refine r_block ?_
          have hS8 : St (fun _ => False) (fun _ => False) w0 w4 [bkR b6 [(.slice ad1 ((b.take ((b.length - 4)))).length cp1), .int .i64 na1, .bool nq1] 101, relR ([] : List RNode) [], accR encN 105 2 (.slice none 0 0) []] := hS6.newAcc (Mod.refl _ _) Acc.nil (.inl rfl)
          have hS9 : St (fun _ => False) (fun _ => False) w0 w4 [bkR b6 [(.slice ad1 ((b.take ((b.length - 4)))).length cp1), .int .i64 na1, .bool nq1] 101, accR encN 105 2 (.slice none 0 0) [], relR ([] : List RNode) []] := hS8.sel [0, 2, 1] (by rfl) (by decide)
          refine r_loop (I := fun m E W => ∃ (ak : Int) (qk : Bool) (v_nds : Value) (nds : List RNode) (k : Nat) (N : List GN), E = [(4, .int .i64 ((((b.length : Nat) : Int) - 4))), (7, ptr b6 0), (8, v_nds), (42, .int .i64 nv1), (43, .int .i64 (((k : Nat) : Int)))] ∧ m = nv1.toNat - k ∧ St (fun _ => False) (fun _ => False) w0 W [bkR b6 [(.slice ad1 ((b.take ((b.length - 4)))).length cp1), .int .i64 ak, .bool qk] 101, accR encN 105 2 v_nds nds, relR nds N] ∧ (NdsR (b.take (b.length - 4)) nv1.toNat (na1, nq1) k N (ak, qk)) ∧ (0 ≤ ak ∧ ak ≤ (b.take (b.length - 4)).length) ∧ ((k : Int) ≤ nv1) ∧ (N.length ≤ k) ∧ (∀ x ∈ N, x.2.length ≤ 1000000) ∧ (nds.length ≤ k)) ?_ ?_
          · refine ⟨_, _, ⟨(na1 : Int), (nq1 : Bool), (.slice none 0 0 : Value), ([] : List RNode), (0 : Nat), ([] : List GN), rfl, rfl, hS9, (by exact NdsR.start _ _ _), (by omega), (by omega), (by simp), (by (intro x hx; cases hx)), (by simp)⟩, ⟨rfl, rfl, rfl, rfl, rfl, trivial⟩⟩
          · rintro _ _ w5 ⟨ak, qk, v_nds, nds, k, N, rfl, rfl, hS7, hE, hak, hkl, hNl, hel, hdl⟩ ih1
            have hnvb := hnr1b
            refine r_seq ?_
            refine r_region ?_
            refine OL.qb (Q1.lt rfl rfl) rfl rfl ?_
            intro b7 hb7
            refine OL.nil ?_
            refine r_seq ?_
            cases b7 with
            | true =>
              replace hb7 := of_decide_eq_true hb7.symm
              refine r_cond_t rfl ?_
              refine r_skip ?_
              refine r_seq ?_
              refine r_block ?_
              refine r_seq ?_
              refine r_seq ?_
              refine r_region ?_
              refine OL.q (Q1.move rfl) rfl rfl ?_
              refine OL.q (Q1.nilCheckP rfl) rfl rfl ?_
              refine OL.q (Q1.fieldAddr fl101_2 rfl) rfl rfl ?_
              have f5 := hS7.bk (i := 0) rfl
              refine OL.q (Q1.load1 ti4 rfl (fun _ e => e ▸ (f5.cell 2 _ rfl))) rfl rfl ?_
              refine OL.nil ?_
              cases qk with
              | true =>
                refine r_cond_t rfl ?_
                refine r_exit rfl ?_
                refine r_seq ?_
                refine r_seq ?_
                refine r_region ?_
                refine OL.q (Q1.move rfl) rfl rfl ?_
                refine OL.q (Q1.nilCheckP rfl) rfl rfl ?_
                refine OL.q (Q1.fieldAddr fl101_2 rfl) rfl rfl ?_
                refine OL.q (Q1.load1 ti4 rfl (fun _ e => e ▸ (f5.cell 2 _ rfl))) rfl rfl ?_
                refine OL.q (Q1.move rfl) rfl rfl ?_
                refine OL.sk rfl rfl ?_
                refine OL.sk rfl rfl ?_
                refine OL.sk rfl rfl ?_
                refine OL.sk rfl rfl ?_
                refine OL.sk rfl rfl ?_
                refine OL.sk rfl rfl ?_
                refine OL.q (Q1.pick_t rfl rfl) rfl rfl ?_
                refine OL.nil ?_
                refine r_cond_t rfl ?_
                refine r_seq ?_
                refine r_region ?_
                refine OL.q (Q1.assign rfl) rfl rfl ?_
                refine OL.q (Q1.assign rfl) rfl rfl ?_
                refine OL.nil ?_
                refine r_ret2 Try.func22 rfl rfl rfl ?_
                have hw := decG_form (b := b) (by first | omega | assumption) (by first | assumption | omega) (by intro h; rcases h with h | h; omega; first | exact h (by assumption) | exact absurd (by assumption) h) hnx1 (by first | exact hE.bad | exact hE.fin (by omega)) (by first | exact .inl rfl | exact .inr (by first | assumption | omega))
                exact Ret.mk ⟨_, _, rfl, ⟨w0.heap.size, w0.heap.size, .inl ⟨rfl, by rw [hw]⟩, Nat.le_refl _, hS7.mod.size⟩, by rw [hw], hS7.mod⟩
              | false =>
                refine r_cond_f rfl ?_
                refine r_skip ?_
                refine r_region ?_
                refine OL.q (Q1.move rfl) rfl rfl ?_
                refine OL.q (Q1.move rfl) rfl rfl ?_
                have f6 := hS7.out hl3 (fun _ _ h => h)
                obtain ⟨Fy2, hAy2, hFy2, hky2⟩ := hS7.act (i := 0) rfl
                refine OL.act rfl rfl (AW.callF cl68 rfl (rdnode_c (w0 := w5) (G := Iv 0 w0.heap.size) ak false hAy2 (fun b hb => (hFy2 b hb).2) f6 (fun b hb hx => by have := (hFy2 b hx).1.1; rcases this with h | h; exact h; unfold Iv at hb; omega) (fun b hb => Nat.lt_of_lt_of_le hb.2 hS7.mod.size) (by first | omega | assumption | (simp only [List.length_take]; omega)) (by first | omega | (simp only [List.length_take]; omega))) ?_)
                rintro _ w6 ⟨ad2, cp2, rfl, hm5, F2, hB2, hF2⟩
                have hel1 := nodeR_len ((b.take ((b.length - 4)))) (ak, false)
                obtain ⟨⟨⟨nf1, es1⟩, ⟨na2, nq2⟩⟩, hnd1⟩ : ∃ x, x = nodeR ((b.take ((b.length - 4)))) (ak, false) := ⟨_, rfl⟩
                rw [← hnd1] at hB2 hel1
                rw [← hnd1]
                dsimp only at hB2 hel1 ⊢
                have hna := nodeR_at (by first | omega | (simp only [List.length_take]; omega)) hnd1
                have hS10 : St (fun _ => False) (fun _ => False) w0 w6 [boxR [bkR b6 [(.slice ad1 ((b.take ((b.length - 4)))).length cp1), .int .i64 na2, .bool nq2] 101, accR encE 94 2 (.slice ad2 es1.length cp2) es1], accR encN 105 2 v_nds nds, relR nds N] := hky2 _ _ _ hm5 hB2 hF2
                clear hAy2 hFy2 hky2 hB2
                have hS11 : St (fun _ => False) (fun _ => False) w0 w6 [accR encN 105 2 v_nds nds, relR nds N, boxR [bkR b6 [(.slice ad1 ((b.take ((b.length - 4)))).length cp1), .int .i64 na2, .bool nq2] 101, accR encE 94 2 (.slice ad2 es1.length cp2) es1]] := hS10.sel [1, 2, 0] (by rfl) (by decide)
                have hS12 : St (fun _ => False) (fun _ => False) w0 w6 [accR encN 105 2 v_nds nds, relR nds N, boxR [bkR b6 [(.slice ad1 ((b.take ((b.length - 4)))).length cp1), .int .i64 na2, .bool nq2] 101, accR encE 94 2 (.slice ad2 es1.length cp2) es1]] := hS11
                have hS13 : St (fun _ => False) (fun _ => False) w0 w6 [accR encN 105 2 v_nds nds, relR nds N, bkR b6 [(.slice ad1 ((b.take ((b.length - 4)))).length cp1), .int .i64 na2, .bool nq2] 101, accR encE 94 2 (.slice ad2 es1.length cp2) es1] := St.open (L1 := [accR encN 105 2 v_nds nds, relR nds N]) hS12
                refine OL.act rfl rfl (AW.buildSlice [(.agg #[.bool nf1, (.slice ad2 es1.length cp2)] : Value)] Try.underlying102 ti105 rfl rfl rfl (by decide) ?_)
                intro w7 b8 hm6 hb8 hz2 hk2
                have hS14 := hS13.ext hm6
                have hl4 := Sl.of_blk (enc := encN) hk2 ([(RNode.mk nf1 (SH.mk ad2 es1.length cp2))] : List RNode) 1 rfl rfl (by unfold maxLen; omega)
                have hS15 : St (fun _ => False) (fun _ => False) w0 w7 [accR encN 105 2 v_nds nds, relR nds N, bkR b6 [(.slice ad1 ((b.take ((b.length - 4)))).length cp1), .int .i64 na2, .bool nq2] 101, accR encE 94 2 (.slice ad2 es1.length cp2) es1, slR encN [((.slice (some ⟨b8, 0, none⟩) 1 1), [(RNode.mk nf1 (SH.mk ad2 es1.length cp2))])]] := hS13.newSlB hm6 hb8 hz2 hl4
                obtain ⟨g2, f7, hl5, k1⟩ := hS15.accK (i := 0) rfl
                have f8 := hS15.sl (i := 4) (k := 0) rfl rfl
                refine OL.act rfl rfl (AW.append f7 Try.underlying102 ti105 rfl encN_len encN_one rfl rfl (f8) (by first | omega | (simp only [List.length_append, List.length_cons, List.length_nil]; omega) | (simp; omega)) (by unfold maxLen; first | omega | (simp only [List.length_append, List.length_cons, List.length_nil]; omega) | (simp; omega)) ?_)
                intro v4 g1 w8 ha1 hm7 hg1 hz3
                have hS16 : St (fun _ => False) (fun _ => False) w0 w8 [accR encN 105 2 v4 ((nds ++ [(RNode.mk nf1 (SH.mk ad2 es1.length cp2))])), relR nds N, bkR b6 [(.slice ad1 ((b.take ((b.length - 4)))).length cp1), .int .i64 na2, .bool nq2] 101, accR encE 94 2 (.slice ad2 es1.length cp2) es1, slR encN [((.slice (some ⟨b8, 0, none⟩) 1 1), [(RNode.mk nf1 (SH.mk ad2 es1.length cp2))])]] := k1 _ _ _ _ hm7 ha1 hg1
                clear hg1
                refine OL.q (Q1.assign rfl) rfl rfl ?_
                refine OL.nil ?_
                refine r_inBlock ?_
                refine r_region ?_
                have hS17 : St (fun _ => False) (fun _ => False) w0 w8 [accR encN 105 2 v4 ((nds ++ [(RNode.mk nf1 (SH.mk ad2 es1.length cp2))])), bkR b6 [(.slice ad1 ((b.take ((b.length - 4)))).length cp1), .int .i64 na2, .bool nq2] 101, slR encN [((.slice (some ⟨b8, 0, none⟩) 1 1), [(RNode.mk nf1 (SH.mk ad2 es1.length cp2))])], relR nds N, accR encE 94 2 (.slice ad2 es1.length cp2) es1] := hS16.sel [0, 2, 4, 1, 3] (by rfl) (by decide)
                have hS18 : St (fun _ => False) (fun _ => False) w0 w8 [accR encN 105 2 v4 ((nds ++ [(RNode.mk nf1 (SH.mk ad2 es1.length cp2))])), bkR b6 [(.slice ad1 ((b.take ((b.length - 4)))).length cp1), .int .i64 na2, .bool nq2] 101, slR encN [((.slice (some ⟨b8, 0, none⟩) 1 1), [(RNode.mk nf1 (SH.mk ad2 es1.length cp2))])], boxR [relR nds N, accR encE 94 2 (.slice ad2 es1.length cp2) es1]] := St.close (L1 := [accR encN 105 2 v4 ((nds ++ [(RNode.mk nf1 (SH.mk ad2 es1.length cp2))])), bkR b6 [(.slice ad1 ((b.take ((b.length - 4)))).length cp1), .int .i64 na2, .bool nq2] 101, slR encN [((.slice (some ⟨b8, 0, none⟩) 1 1), [(RNode.mk nf1 (SH.mk ad2 es1.length cp2))])]]) hS17
                have hS19 : St (fun _ => False) (fun _ => False) w0 w8 [accR encN 105 2 v4 ((nds ++ [(RNode.mk nf1 (SH.mk ad2 es1.length cp2))])), bkR b6 [(.slice ad1 ((b.take ((b.length - 4)))).length cp1), .int .i64 na2, .bool nq2] 101, slR encN [((.slice (some ⟨b8, 0, none⟩) 1 1), [(RNode.mk nf1 (SH.mk ad2 es1.length cp2))])], relR (nds ++ [RNode.mk nf1 (SH.mk ad2 es1.length cp2)]) (N ++ [(nf1, es1)])] := hS18.imp (i := 3) rfl (fun F_ h_ => rel_push rfl rfl rfl h_)
                refine OL.q (Q1.addI (((k + 1 : Nat) : Int)) rfl rfl (by omega)) rfl rfl ?_
                refine OL.q (Q1.move rfl) rfl rfl ?_
                refine OL.nil ?_
                have hS20 : St (fun _ => False) (fun _ => False) w0 w8 [bkR b6 [(.slice ad1 ((b.take ((b.length - 4)))).length cp1), .int .i64 na2, .bool nq2] 101, accR encN 105 2 v4 ((nds ++ [(RNode.mk nf1 (SH.mk ad2 es1.length cp2))])), relR (nds ++ [RNode.mk nf1 (SH.mk ad2 es1.length cp2)]) (N ++ [(nf1, es1)])] := hS19.sel [1, 0, 3] (by rfl) (by decide)
                exact (ih1 _ _ _ ⟨(na2 : Int), (nq2 : Bool), (v4 : Value), ((nds ++ [(RNode.mk nf1 (SH.mk ad2 es1.length cp2))]) : List RNode), (k + 1 : Nat), ((N ++ [(nf1, es1)]) : List GN), rfl, rfl, hS20, (by first | exact hE.step (by omega) hnd1 | (exfalso; omega)), (by first | assumption | (exfalso; omega)), (by first | omega | (exfalso; omega)), (by first | (simp only [List.length_append, List.length_cons, List.length_nil]; omega) | (exfalso; omega)), (by first | (intro x hx; rcases List.mem_append.1 hx with h | h; exact hel x h; simp only [List.mem_singleton] at h; subst h; exact Nat.le_trans hel1 (by omega)) | (exfalso; omega)), (by first | (simp only [List.length_append, List.length_cons, List.length_nil]; omega) | (exfalso; omega))⟩ (by omega)).sub ⟨rfl, rfl, rfl, rfl, rfl, trivial⟩
            | false =>
              replace hb7 := of_decide_eq_false hb7.symm
              refine r_cond_f rfl ?_
              refine r_exit rfl ?_
              refine r_seq ?_
              refine r_seq ?_
              refine r_region ?_
              refine OL.q (Q1.move rfl) rfl rfl ?_
              refine OL.q (Q1.nilCheckP rfl) rfl rfl ?_
              refine OL.q (Q1.fieldAddr fl101_2 rfl) rfl rfl ?_
              have f5 := hS7.bk (i := 0) rfl
              refine OL.q (Q1.load1 ti4 rfl (fun _ e => e ▸ (f5.cell 2 _ rfl))) rfl rfl ?_
              refine OL.q (Q1.move rfl) rfl rfl ?_
              cases qk with
              | true =>
                refine OL.sk rfl rfl ?_
                refine OL.sk rfl rfl ?_
                refine OL.sk rfl rfl ?_
                refine OL.sk rfl rfl ?_
                refine OL.sk rfl rfl ?_
                refine OL.sk rfl rfl ?_
                refine OL.q (Q1.pick_t rfl rfl) rfl rfl ?_
                refine OL.nil ?_
                refine r_cond_t rfl ?_
                refine r_seq ?_
                refine r_region ?_
                refine OL.q (Q1.assign rfl) rfl rfl ?_
                refine OL.q (Q1.assign rfl) rfl rfl ?_
                refine OL.nil ?_
                refine r_ret2 Try.func22 rfl rfl rfl ?_
                have hw := decG_form (b := b) (by first | omega | assumption) (by first | assumption | omega) (by intro h; rcases h with h | h; omega; first | exact h (by assumption) | exact absurd (by assumption) h) hnx1 (by first | exact hE.bad | exact hE.fin (by omega)) (by first | exact .inl rfl | exact .inr (by first | assumption | omega))
                exact Ret.mk ⟨_, _, rfl, ⟨w0.heap.size, w0.heap.size, .inl ⟨rfl, by rw [hw]⟩, Nat.le_refl _, hS7.mod.size⟩, by rw [hw], hS7.mod⟩
              | false =>
                refine OL.q (Q1.move rfl) rfl rfl ?_
                refine OL.q (Q1.nilCheckP rfl) rfl rfl ?_
                refine OL.q (Q1.fieldAddr fl101_1 rfl) rfl rfl ?_
                refine OL.q (Q1.load1 ti3 rfl (fun _ e => e ▸ (f5.cell 1 _ rfl))) rfl rfl ?_
                refine OL.q (Q1.move rfl) rfl rfl ?_
                refine OL.qb (Q1.ne rfl rfl) rfl rfl ?_
                intro b8 hb8
                refine OL.q (Q1.pick_f rfl rfl) rfl rfl ?_
                refine OL.nil ?_
                cases b8 with
                | true =>
                  replace hb8 := bne_iff_ne.1 hb8.symm
                  refine r_cond_t rfl ?_
                  refine r_seq ?_
                  refine r_region ?_
                  refine OL.q (Q1.assign rfl) rfl rfl ?_
                  refine OL.q (Q1.assign rfl) rfl rfl ?_
                  refine OL.nil ?_
                  refine r_ret2 Try.func22 rfl rfl rfl ?_
                  have hw := decG_form (b := b) (by first | omega | assumption) (by first | assumption | omega) (by intro h; rcases h with h | h; omega; first | exact h (by assumption) | exact absurd (by assumption) h) hnx1 (by first | exact hE.bad | exact hE.fin (by omega)) (by first | exact .inl rfl | exact .inr (by first | assumption | omega))
                  exact Ret.mk ⟨_, _, rfl, ⟨w0.heap.size, w0.heap.size, .inl ⟨rfl, by rw [hw]⟩, Nat.le_refl _, hS7.mod.size⟩, by rw [hw], hS7.mod⟩
                | false =>
                  replace hb8 := bne_eq_false_iff_eq.1 hb8.symm
                  refine r_cond_f rfl ?_
                  refine r_skip ?_
                  refine r_seq ?_
                  refine r_region ?_
                  refine OL.q (Q1.move rfl) rfl rfl ?_
                  obtain ⟨Frl1, hrl1, hlt1⟩ := hS7.get (i := 2) rfl
                  obtain ⟨gq1, haq1, hlq1, _⟩ := hS7.accK (i := 1) rfl
                  refine OL.act rfl rfl (AW.callF cl69 rfl (made_c (w0 := w5) (G := fun b => b < w5.heap.size) (N := N) (haq1.sl.mono fun b h => Nat.lt_of_lt_of_le h.2 hlq1) (NRel.mono hrl1 hlt1) (fun _ h => h) (by omega) hel) ?_)
                  rintro vg1 w6 ⟨⟨lo1, hi1, hgr1, hlo1, hhi1⟩, hm5⟩
                  have hS10 := hS7.ext hm5
                  have hS11 : St (fun _ => False) (fun _ => False) w0 w6 [bkR b6 [(.slice ad1 ((b.take ((b.length - 4)))).length cp1), .int .i64 ak, .bool false] 101, accR encN 105 2 v_nds nds, relR nds N, grR vg1 (madeG N)] := hS7.newGr hm5 hgr1 hlo1 hhi1
                  refine OL.q (Q1.assign rfl) rfl rfl ?_
                  refine OL.nil ?_
                  refine r_seq ?_
                  refine r_seq ?_
                  refine r_region ?_
                  refine OL.q (Q1.move rfl) rfl rfl ?_
                  obtain ⟨lo2, hi2, hgr2, hhi2⟩ := hS11.grAt (i := 3) rfl
                  rcases hgr2 with ⟨hv2, hN1⟩ | ⟨b9, _, _, hv2, hN1, _⟩
                  · subst hv2
                    refine OL.q (Q1.eqNil Try.underlying33 rfl rfl) rfl rfl ?_
                    refine OL.nil ?_
                    refine r_cond_t rfl ?_
                    refine r_seq ?_
                    refine r_region ?_
                    refine OL.q (Q1.assign rfl) rfl rfl ?_
                    refine OL.q (Q1.assign rfl) rfl rfl ?_
                    refine OL.nil ?_
                    refine r_ret2 Try.func22 rfl rfl rfl ?_
                    have hw := decG_none (b := b) (by first | omega | assumption) (by first | assumption | omega) (by intro h; rcases h with h | h; omega; first | exact h (by assumption) | exact absurd (by assumption) h) hnx1 (by first | exact hE.bad | exact hE.fin (by omega)) (by intro h; rcases h with h | h; exact absurd h (by decide); omega) hN1
                    exact Ret.mk ⟨_, _, rfl, ⟨w0.heap.size, w0.heap.size, .inl ⟨rfl, by rw [hw]⟩, Nat.le_refl _, hS11.mod.size⟩, by rw [hw], hS11.mod⟩
                  · subst hv2
                    refine OL.q (Q1.eqNil Try.underlying33 rfl rfl) rfl rfl ?_
                    refine OL.nil ?_
                    refine r_cond_f rfl ?_
                    refine r_skip ?_
                    refine r_seq ?_
                    refine r_region ?_
                    refine OL.q (Q1.move rfl) rfl rfl ?_
                    refine OL.q (Q1.assign rfl) rfl rfl ?_
                    refine OL.q (Q1.assign rfl) rfl rfl ?_
                    refine OL.nil ?_
                    refine r_ret2 Try.func22 rfl rfl rfl ?_
                    have hw := decG_yes (b := b) (by first | omega | assumption) (by first | assumption | omega) (by intro h; rcases h with h | h; omega; first | exact h (by assumption) | exact absurd (by assumption) h) hnx1 (by first | exact hE.bad | exact hE.fin (by omega)) (by intro h; rcases h with h | h; exact absurd h (by decide); omega) hN1
                    obtain ⟨lo3, hi3, hgr3, hlo2, hhi3⟩ := hS11.grOut (i := 3) rfl hN1
                    exact Ret.mk ⟨_, _, rfl, ⟨lo3, hi3, by rw [hw]; exact hgr3, hlo2, hhi3⟩, by rw [hw], hS11.mod⟩
end Go.Proofs
namespace Go.Proofs
open Go.Ik Go.Ml
set_option maxRecDepth 20000 in
set_option maxHeartbeats 4000000 in
theorem encode_c {w0 : World}  {v_g : Value} {lo_g hi_g : Nat} {g : List GN} (h_g : Gr 0 w0 lo_g hi_g v_g g) (hhi_g : hi_g ≤ w0.heap.size) (hgl : g.length ≤ 1000000) (hel : ∀ x ∈ g, x.2.length ≤ 1000000) (hI : ∀ x ∈ g, ∀ e ∈ x.2, I64 e.to ∧ -2147483648 ≤ e.rune ∧ e.rune ≤ 2147483647) (hbd : (bodyB g).length ≤ 3000000) :
    Calls Try.prog 20 #[v_g] w0 (Ret fun rv w1 => ∃ u0 u1, rv = .tuple #[u0, u1] ∧ (∃ gr, Acc encB 5 1 w1 gr u0 (encA g) ∧ (gr = 0 ∨ w0.heap.size < gr)) ∧ u1 = .int .i64 (errA g) ∧ Ext w0 w1) := by
  have hE0 : Ext w0 w0 := Mod.refl _ _
  refine calls_enter Try.func20 rfl Try.ntmps20 rfl ?_
  refine r_seq ?_
  refine r_region ?_
  refine OL.q (Q1.assign rfl) rfl rfl ?_
  refine OL.q (Q1.assign rfl) rfl rfl ?_
  refine OL.nil ?_
  refine r_seq ?_
  refine r_seq ?_
  refine r_region ?_
  refine OL.q (Q1.move rfl) rfl rfl ?_
  have hgr1 := h_g
  rcases h_g with ⟨hv1, hN1⟩ | ⟨b1, vn1, nds1, hv1, hN1, hrw1, hsl1, hrel1⟩
  · subst hv1
    try subst hN1
    refine OL.q (Q1.eqNil Try.underlying33 rfl rfl) rfl rfl ?_
    refine OL.nil ?_
    refine r_cond_t rfl ?_
    refine r_seq ?_
    refine r_region ?_
    refine OL.q (Q1.assign rfl) rfl rfl ?_
    refine OL.q (Q1.assign rfl) rfl rfl ?_
    refine OL.nil ?_
    refine r_ret2 Try.func20 rfl rfl rfl ?_
    exact Ret.mk ⟨_, _, rfl, ⟨0, Acc.cast Acc.nil (by first | (rw [encA_no rfl]; done) | (rw [encA_no rfl]) | rfl | (rw [encA_yes (by assumption), enc_fin hO (by omega)]; rfl) | exact errA_yes (by assumption) | (exfalso; omega)), .inl rfl⟩, (congrArg (Value.int .i64) (by first | (rw [encA_no rfl]; done) | (rw [encA_no rfl]) | rfl | (rw [encA_yes (by assumption), enc_fin hO (by omega)]; rfl) | exact errA_yes (by assumption) | (exfalso; omega))), hE0⟩
  · subst hv1
    have hnl1 := (All2.get hrel1).1
    refine OL.q (Q1.eqNil Try.underlying33 rfl rfl) rfl rfl ?_
    refine OL.nil ?_
    refine r_cond_f rfl ?_
    refine r_skip ?_
    refine r_seq ?_
    refine r_region ?_
    refine OL.act rfl rfl (AW.buildSlice [(.int .u8 73 : Value), (.int .u8 78 : Value), (.int .u8 75 : Value), (.int .u8 49 : Value)] Try.underlying25 ti5 rfl rfl rfl (by decide) ?_)
    intro w1 b2 hm1 hb1 hz1 hk1
    have f1 := hgr1.ext hm1
    have f2 := hrel1.ext hm1
    have f3 := hsl1.ext hm1
    have f4 := hrw1.ext hm1
    have hE1 := hE0.ext hm1
    have hs1 := hm1.size
    have hl1 := Sl.of_blk (enc := encB) hk1 ([(73 : UInt8), (78 : UInt8), (75 : UInt8), (49 : UInt8)] : List UInt8) 4 rfl rfl (by unfold maxLen; omega)
    refine OL.act rfl rfl (AW.convSl Try.underlying25 Try.underlying5 rfl hk1 ?_)
    intro w2 hm2 hz2 hrw2
    have f5 := f1.keepG hm2 (by omega)
    have f6 := f2.keepG hm2 (by omega)
    have f7 := f3.keepG hm2 (by omega)
    have f8 := f4.keepG hm2 (by omega)
    have hE2 := Ext.thenG hE1 hm2 (by omega)
    have hs2 := hm2.size
    have hl2 : Sl encB w2 (Iv b2 (b2 + 1)) (.slice (some ⟨b2, 0, none⟩) 4 4) [(73 : UInt8), (78 : UInt8), (75 : UInt8), (49 : UInt8)] := Sl.of_row (enc := encB) (l := [(73 : UInt8), (78 : UInt8), (75 : UInt8), (49 : UInt8)]) hrw2 4 rfl (by unfold maxLen; omega)
    refine OL.q (Q1.move rfl) rfl rfl ?_
    refine OL.act rfl rfl (AW.callF cl30 rfl (nodes_c (w0 := w2)   f5 (by omega)) ?_)
    rintro _ w3 ⟨rfl, hm3⟩
    have f9 := f5.ext hm3
    have f10 := f6.ext hm3
    have f11 := f7.ext hm3
    have f12 := f8.ext hm3
    have f13 := hl2.ext hm3
    have hE3 := hE2.ext hm3
    have hs3 := hm3.size
    refine OL.act rfl rfl (AW.callF cl63 rfl (put_c (w0 := w3) (b := [(73 : UInt8), (78 : UInt8), (75 : UInt8), (49 : UInt8)]) ((((g.length : Nat) : Int))) (2) ((f13).iv (Nat.zero_le _) (by omega)) (by first | assumption | omega | (simp only [List.length_append, putN_len, List.length_cons, List.length_nil]; omega)) (by first | omega | decide)) ?_)
    rintro v1 w4 ⟨⟨gr1, h1, hg1⟩, hm4⟩
    have f14 := f9.ext hm4
    have f15 := f10.ext hm4
    have f16 := f11.ext hm4
    have f17 := f12.ext hm4
    have f18 := f13.ext hm4
    have hE4 := hE3.ext hm4
    have hs4 := hm4.size
    have hle_1 := h1.le
    have hlt_1 := h1.lt
    have := putN_len ((((g.length : Nat) : Int))) 2
    refine OL.q (Q1.assign rfl) rfl rfl ?_
    refine OL.nil ?_
    refine r_seq ?_
    refine r_seq ?_
    refine r_region ?_
    refine OL.q (Q1.move rfl) rfl rfl ?_
    refine OL.act rfl rfl (AW.callF cl30 rfl (nodes_c (w0 := w4)   f14 (by omega)) ?_)
    rintro _ w5 ⟨rfl, hm5⟩
    have hl3 := h1.lt
    have f19 := f14.ext hm5
    have f20 := f15.ext hm5
    have f21 := f16.ext hm5
    have f22 := f17.ext hm5
    have f23 := f18.ext hm5
    have f24 := h1.ext hm5
    have hE5 := hE4.ext hm5
    have hs5 := hm5.size
    refine OL.q (Q1.move rfl) rfl rfl ?_
    refine OL.nil ?_
    refine r_block ?_
    refine r_loop (I := fun m E W => ∃ (v_out : Value) (g_out : Nat) (out : List UInt8) (i : Nat), E = [(0, ptr b1 0), (4, v_out), (18, .int .i64 ((((g.length : Nat) : Int)))), (19, .int .i64 (((i : Nat) : Int)))] ∧ m = g.length - i ∧ Ext w0 W ∧ w5.heap.size ≤ W.heap.size ∧ Acc encB 5 1 W g_out v_out out ∧ (g_out = 0 ∨ w0.heap.size < g_out) ∧ Rw W lo_g hi_g b1 [vn1] ∧ Sl encN W (Iv lo_g hi_g) vn1 nds1 ∧ NRel W (Iv lo_g hi_g) nds1 g ∧ Gr 0 W lo_g hi_g ((ptr b1 0)) g ∧ (g_out ≤ lo_g ∨ hi_g < g_out) ∧ (out ++ (g.drop i).flatMap nodeB = bodyB g) ∧ (i ≤ g.length)) ?_ ?_
    · refine ⟨_, _, ⟨(v1 : Value), (gr1 : Nat), ((([(73 : UInt8), (78 : UInt8), (75 : UInt8), (49 : UInt8)]) ++ putN ((((g.length : Nat) : Int))) 2) : List UInt8), (0 : Nat), rfl, rfl, hE5, Nat.le_refl _, f24, (by omega), f22, f21, f20, f19, (by omega), (by exact enc_start g), (by omega)⟩, ⟨rfl, rfl, rfl, rfl, trivial⟩⟩
    · rintro _ _ w6 ⟨v_out, g_out, out, i, rfl, rfl, hE6, hs6, ha1, hg2, f25, f26, f27, f28, hn1, hO, hil⟩ ih1
      have hbl := enc_len hO
      refine r_seq ?_
      refine r_region ?_
      refine OL.qb (Q1.lt rfl rfl) rfl rfl ?_
      intro b3 hb2
      refine OL.nil ?_
      refine r_seq ?_
      cases b3 with
      | true =>
        replace hb2 := of_decide_eq_true hb2.symm
        refine r_cond_t rfl ?_
        refine r_skip ?_
        refine r_seq ?_
        refine r_block ?_
        refine r_seq ?_
        refine r_region ?_
        refine OL.q (Q1.move rfl) rfl rfl ?_
        have hgi := nodeAt_some (g := g) (i := i) (by omega)
        have hgl3 := enc_lenN hO hgi
        have hnl := nodeAt_len hel (i : Int)
        refine OL.q (Q1.assign rfl) rfl rfl ?_
        refine OL.nil ?_
        refine r_seq ?_
        refine r_region ?_
        refine OL.q (Q1.assign rfl) rfl rfl ?_
        refine OL.nil ?_
        refine r_seq ?_
        refine r_seq ?_
        refine r_region ?_
        refine OL.q (Q1.move rfl) rfl rfl ?_
        refine OL.q (Q1.move rfl) rfl rfl ?_
        refine OL.act rfl rfl (AW.callF cl64 rfl (final_c (w0 := w6)  (((i : Nat) : Int)) f28 (by omega) (by first | omega | assumption) (by first | assumption | omega | (simp; done))) ?_)
        rintro _ w7 ⟨⟨b4, hb3, rfl⟩, hm6⟩
        have hl4 := ha1.lt
        have f29 := ha1.ext hm6
        have f30 := f25.ext hm6
        have f31 := f26.ext hm6
        have f32 := f27.ext hm6
        have f33 := f28.ext hm6
        have hE7 := hE6.ext hm6
        have hs7 := hm6.size
        refine OL.nil ?_
        cases b4 with
        | true =>
          replace hb3 := hb3.symm
          refine r_cond_t rfl ?_
          refine r_region ?_
          refine OL.q (Q1.assign rfl) rfl rfl ?_
          refine OL.nil ?_
          refine r_seq ?_
          refine r_region ?_
          refine OL.q (Q1.move rfl) rfl rfl ?_
          refine OL.q (Q1.move rfl) rfl rfl ?_
          refine OL.act rfl rfl (AW.callF cl63 rfl (put_c (w0 := w7) (b := out) (1) (1) ((f29.sl).iv (Nat.zero_le _) (by omega)) (by first | assumption | omega | (simp only [List.length_append, putN_len, List.length_cons, List.length_nil]; omega)) (by first | omega | decide)) ?_)
          rintro v2 w8 ⟨⟨gr2, h2, hg3⟩, hm7⟩
          have hl5 := f29.lt
          have f34 := f29.ext hm7
          have f35 := f30.ext hm7
          have f36 := f31.ext hm7
          have f37 := f32.ext hm7
          have f38 := f33.ext hm7
          have hE8 := hE7.ext hm7
          have hs8 := hm7.size
          have hle_2 := h2.le
          have hlt_2 := h2.lt
          have := putN_len 1 1
          refine OL.q (Q1.assign rfl) rfl rfl ?_
          refine OL.nil ?_
          refine r_seq ?_
          refine r_region ?_
          refine OL.q (Q1.move rfl) rfl rfl ?_
          refine OL.q (Q1.move rfl) rfl rfl ?_
          refine OL.act rfl rfl (AW.callF cl31 rfl (edges_c (w0 := w8)  (((i : Nat) : Int)) f38 (by omega) (by first | omega | assumption) (by first | assumption | omega | (simp; done)) (by first | assumption | (simp; done))) ?_)
          rintro v3 w9 ⟨⟨gr3, h3, hg4⟩, hm8⟩
          have hl6 := f34.lt
          have hl7 := h2.lt
          have f39 := f34.ext hm8
          have f40 := f35.ext hm8
          have f41 := f36.ext hm8
          have f42 := f37.ext hm8
          have f43 := f38.ext hm8
          have f44 := h2.ext hm8
          have hE9 := hE8.ext hm8
          have hs9 := hm8.size
          have hle_3 := h3.le
          have hlt_3 := h3.lt
          refine OL.q (Q1.assign rfl) rfl rfl ?_
          refine OL.nil ?_
          refine r_seq ?_
          refine r_region ?_
          refine OL.q (Q1.move rfl) rfl rfl ?_
          refine OL.q (Q1.move rfl) rfl rfl ?_
          refine OL.q (Q1.lenSl Try.underlying49 (h3.sl) rfl) rfl rfl ?_
          refine OL.act rfl rfl (AW.callF cl63 rfl (put_c (w0 := w9) (b := (out ++ putN 1 1)) ((((((nodeAt g (((i : Nat) : Int))).2)).length : Nat) : Int)) (2) ((f44.sl).iv (Nat.zero_le _) (by omega)) (by first | assumption | omega | (simp only [List.length_append, putN_len, List.length_cons, List.length_nil]; omega)) (by first | omega | decide)) ?_)
          rintro v4 w10 ⟨⟨gr4, h4, hg5⟩, hm9⟩
          have hl8 := f39.lt
          have hl9 := f44.lt
          have hl10 := h3.lt
          have f45 := f39.ext hm9
          have f46 := f40.ext hm9
          have f47 := f41.ext hm9
          have f48 := f42.ext hm9
          have f49 := f43.ext hm9
          have f50 := f44.ext hm9
          have f51 := h3.ext hm9
          have hE10 := hE9.ext hm9
          have hs10 := hm9.size
          have hle_4 := h4.le
          have hlt_4 := h4.lt
          have := putN_len ((((((nodeAt g (((i : Nat) : Int))).2)).length : Nat) : Int)) 2
          refine OL.q (Q1.assign rfl) rfl rfl ?_
          refine OL.nil ?_
          refine r_seq ?_
          refine r_region ?_
          refine OL.q (Q1.move rfl) rfl rfl ?_
          refine OL.q (Q1.lenSl Try.underlying49 (f51.sl) rfl) rfl rfl ?_
          refine OL.q (Q1.move rfl) rfl rfl ?_
          refine OL.nil ?_
          refine r_block ?_
          refine r_loop (I := fun m E W => ∃ (v_out2 : Value) (g_out2 : Nat) (out2 : List UInt8) (k : Nat), E = [(0, ptr b1 0), (4, v_out2), (18, .int .i64 ((((g.length : Nat) : Int)))), (19, .int .i64 (((i : Nat) : Int))), (35, v3), (36, .int .i64 ((((((nodeAt g (((i : Nat) : Int))).2)).length : Nat) : Int))), (37, .int .i64 (((k : Nat) : Int)))] ∧ m = (nodeAt g (i : Int)).2.length - k ∧ Ext w0 W ∧ w10.heap.size ≤ W.heap.size ∧ Acc encB 5 1 W g_out2 v_out2 out2 ∧ (g_out2 = 0 ∨ w0.heap.size < g_out2) ∧ Rw W lo_g hi_g b1 [vn1] ∧ Sl encN W (Iv lo_g hi_g) vn1 nds1 ∧ NRel W (Iv lo_g hi_g) nds1 g ∧ Gr 0 W lo_g hi_g ((ptr b1 0)) g ∧ Acc encE 94 2 W gr3 v3 (((nodeAt g (((i : Nat) : Int))).2)) ∧ (g_out2 ≤ lo_g ∨ hi_g < g_out2) ∧ (g_out2 ≠ gr3 ∨ gr3 = 0) ∧ (out2 ++ (((nodeAt g (i : Int)).2.drop k).flatMap edgeB ++ (g.drop (i + 1)).flatMap nodeB) = bodyB g) ∧ (k ≤ (nodeAt g (i : Int)).2.length)) ?_ ?_
          · refine ⟨_, _, ⟨(v4 : Value), (gr4 : Nat), ((((out ++ putN 1 1)) ++ putN ((((((nodeAt g (((i : Nat) : Int))).2)).length : Nat) : Int)) 2) : List UInt8), (0 : Nat), rfl, rfl, hE10, Nat.le_refl _, h4, (by omega), f46, f47, f48, f49, f51, (by omega), (by omega), (by first | exact enc_node hO hgi (by rw [if_pos (by assumption)]) | exact enc_node hO hgi (by rw [if_neg (by simp [*])])), (by omega)⟩, ⟨rfl, rfl, rfl, rfl, rfl, rfl, rfl, trivial⟩⟩
          · rintro _ _ w11 ⟨v_out2, g_out2, out2, k, rfl, rfl, hE11, hs11, ha2, hg6, f52, f53, f54, f55, f56, hn2, hn3, hO2, hkl⟩ ih2
            have hbl2 := enc_len hO2
            refine r_seq ?_
            refine r_region ?_
            refine OL.qb (Q1.lt rfl rfl) rfl rfl ?_
            intro b5 hb4
            refine OL.nil ?_
            refine r_seq ?_
            cases b5 with
            | true =>
              replace hb4 := of_decide_eq_true hb4.symm
              refine r_cond_t rfl ?_
              refine r_skip ?_
              refine r_seq ?_
              refine r_block ?_
              refine r_seq ?_
              refine r_region ?_
              obtain ⟨x1, b6, o1, hx1, hr1, hl11, hu1, hw1⟩ := Sl.at' (P := Try.prog) f56.sl Try.underlying49 ti94 encE_len (k := .i64) (n := ((k : Nat) : Int)) (k) (by omega) (by first | assumption | omega)
              refine OL.q (Q1.indexAddr rfl rfl hr1) rfl rfl ?_
              refine OL.q (Q1.loadN ti94 rfl (fun _ e => e ▸ hw1) rfl) rfl rfl ?_
              have hl6 := enc_len4 hO2 hx1
              have hie := hI _ (List.mem_of_getElem? hgi) _ (List.mem_of_getElem? hx1)
              refine OL.act rfl rfl (AW.alloc ti94 ?_)
              intro w12 b7 hm10 hb5 hz3 hk2
              have hl12 := ha2.lt
              have hl13 := f56.lt
              have f57 := ha2.ext hm10
              have f58 := f52.ext hm10
              have f59 := f53.ext hm10
              have f60 := f54.ext hm10
              have f61 := f55.ext hm10
              have f62 := f56.ext hm10
              have hE12 := hE11.ext hm10
              have hs12 := hm10.size
              refine OL.act rfl rfl (AW.store ti94 rfl rfl rfl rfl rfl hk2 (Nat.le_of_ble_eq_true rfl) ?_)
              intro w13 hm11 hz4 hk3
              replace hk3 : Bk w13 b7 [.int .i32 x1.rune, .int .i64 x1.to] 94 := hk3
              have hl14 := f57.lt
              have hl15 := f62.lt
              have f63 := f57.keepG hm11 (by omega)
              have f64 := f58.keepG hm11 (by omega)
              have f65 := f59.keepG hm11 (by omega)
              have f66 := f60.keepG hm11 (by omega)
              have f67 := f61.keepG hm11 (by omega)
              have f68 := f62.keepG hm11 (by omega)
              have hE13 := Ext.thenG hE12 hm11 (by omega)
              have hs13 := hm11.size
              refine OL.nil ?_
              refine r_seq ?_
              refine r_region ?_
              refine OL.q (Q1.move rfl) rfl rfl ?_
              refine OL.q (Q1.fieldAddr fl94_0 rfl) rfl rfl ?_
              refine OL.q (Q1.load1 ti21 rfl (fun _ e => e ▸ (hk3.cell 0 _ rfl))) rfl rfl ?_
              refine OL.q (Q1.convN (by kernel_rfl) Try.underlying3 rfl (IntWalk.i64_in _ (by omega))) rfl rfl ?_
              refine OL.act rfl rfl (AW.callF cl63 rfl (put_c (w0 := w13) (b := out2) (x1.rune) (4) ((f63.sl).iv (Nat.zero_le _) (by omega)) (by first | assumption | omega | (simp only [List.length_append, putN_len, List.length_cons, List.length_nil]; omega)) (by first | omega | decide)) ?_)
              rintro v5 w14 ⟨⟨gr5, h5, hg7⟩, hm12⟩
              have hl16 := f63.lt
              have hl17 := f68.lt
              have f69 := f63.ext hm12
              have f70 := f64.ext hm12
              have f71 := f65.ext hm12
              have f72 := f66.ext hm12
              have f73 := f67.ext hm12
              have f74 := f68.ext hm12
              have f75 := hk3.ext hm12
              have hE14 := hE13.ext hm12
              have hs14 := hm12.size
              have hle_5 := h5.le
              have hlt_5 := h5.lt
              have := putN_len x1.rune 4
              refine OL.q (Q1.assign rfl) rfl rfl ?_
              refine OL.nil ?_
              refine r_region ?_
              refine OL.q (Q1.move rfl) rfl rfl ?_
              refine OL.q (Q1.fieldAddr fl94_1 rfl) rfl rfl ?_
              refine OL.q (Q1.load1 ti3 rfl (fun _ e => e ▸ (f75.cell 1 _ rfl))) rfl rfl ?_
              refine OL.act rfl rfl (AW.callF cl63 rfl (put_c (w0 := w14) (b := (out2 ++ putN x1.rune 4)) (x1.to) (2) ((h5.sl).iv (Nat.zero_le _) (by omega)) (by first | assumption | omega | (simp only [List.length_append, putN_len, List.length_cons, List.length_nil]; omega)) (by first | omega | decide)) ?_)
              rintro v6 w15 ⟨⟨gr6, h6, hg8⟩, hm13⟩
              have hl18 := f69.lt
              have hl19 := f74.lt
              have hl20 := h5.lt
              have f76 := f69.ext hm13
              have f77 := f70.ext hm13
              have f78 := f71.ext hm13
              have f79 := f72.ext hm13
              have f80 := f73.ext hm13
              have f81 := f74.ext hm13
              have f82 := f75.ext hm13
              have f83 := h5.ext hm13
              have hE15 := hE14.ext hm13
              have hs15 := hm13.size
              have hle_6 := h6.le
              have hlt_6 := h6.lt
              have := putN_len x1.to 2
              refine OL.q (Q1.assign rfl) rfl rfl ?_
              refine OL.nil ?_
              refine r_inBlock ?_
              refine r_region ?_
              refine OL.q (Q1.addI (((k + 1 : Nat) : Int)) rfl rfl (by omega)) rfl rfl ?_
              refine OL.q (Q1.move rfl) rfl rfl ?_
              refine OL.nil ?_
              exact (ih2 _ _ _ ⟨(v6 : Value), (gr6 : Nat), ((((out2 ++ putN x1.rune 4)) ++ putN x1.to 2) : List UInt8), (k + 1 : Nat), rfl, rfl, hE15, (by omega), h6, (by omega), f77, f78, f79, f80, f81, (by omega), (by omega), (by first | exact enc_edge hO2 hx1 | (exfalso; omega)), (by first | omega | (exfalso; omega))⟩ (by omega)).sub ⟨rfl, rfl, rfl, rfl, rfl, rfl, rfl, trivial⟩
            | false =>
              replace hb4 := of_decide_eq_false hb4.symm
              refine r_cond_f rfl ?_
              refine r_exit rfl ?_
              refine r_inBlock ?_
              refine r_region ?_
              refine OL.q (Q1.addI (((i + 1 : Nat) : Int)) rfl rfl (by omega)) rfl rfl ?_
              refine OL.q (Q1.move rfl) rfl rfl ?_
              refine OL.nil ?_
              exact (ih1 _ _ _ ⟨(v_out2 : Value), (g_out2 : Nat), (out2 : List UInt8), (i + 1 : Nat), rfl, rfl, hE11, (by omega), ha2, (by omega), f52, f53, f54, f55, (by omega), (by first | exact enc_next hO2 (by omega) | (exfalso; omega)), (by first | omega | (exfalso; omega))⟩ (by omega)).sub ⟨rfl, rfl, rfl, rfl, trivial⟩
        | false =>
          replace hb3 := hb3.symm
          refine r_cond_f rfl ?_
          refine r_skip ?_
          refine r_seq ?_
          refine r_region ?_
          refine OL.q (Q1.move rfl) rfl rfl ?_
          refine OL.q (Q1.move rfl) rfl rfl ?_
          refine OL.act rfl rfl (AW.callF cl63 rfl (put_c (w0 := w7) (b := out) (0) (1) ((f29.sl).iv (Nat.zero_le _) (by omega)) (by first | assumption | omega | (simp only [List.length_append, putN_len, List.length_cons, List.length_nil]; omega)) (by first | omega | decide)) ?_)
          rintro v2 w8 ⟨⟨gr2, h2, hg3⟩, hm7⟩
          have hl5 := f29.lt
          have f34 := f29.ext hm7
          have f35 := f30.ext hm7
          have f36 := f31.ext hm7
          have f37 := f32.ext hm7
          have f38 := f33.ext hm7
          have hE8 := hE7.ext hm7
          have hs8 := hm7.size
          have hle_2 := h2.le
          have hlt_2 := h2.lt
          have := putN_len 0 1
          refine OL.q (Q1.assign rfl) rfl rfl ?_
          refine OL.nil ?_
          refine r_seq ?_
          refine r_region ?_
          refine OL.q (Q1.move rfl) rfl rfl ?_
          refine OL.q (Q1.move rfl) rfl rfl ?_
          refine OL.act rfl rfl (AW.callF cl31 rfl (edges_c (w0 := w8)  (((i : Nat) : Int)) f38 (by omega) (by first | omega | assumption) (by first | assumption | omega | (simp; done)) (by first | assumption | (simp; done))) ?_)
          rintro v3 w9 ⟨⟨gr3, h3, hg4⟩, hm8⟩
          have hl6 := f34.lt
          have hl7 := h2.lt
          have f39 := f34.ext hm8
          have f40 := f35.ext hm8
          have f41 := f36.ext hm8
          have f42 := f37.ext hm8
          have f43 := f38.ext hm8
          have f44 := h2.ext hm8
          have hE9 := hE8.ext hm8
          have hs9 := hm8.size
          have hle_3 := h3.le
          have hlt_3 := h3.lt
          refine OL.q (Q1.assign rfl) rfl rfl ?_
          refine OL.nil ?_
          refine r_seq ?_
          refine r_region ?_
          refine OL.q (Q1.move rfl) rfl rfl ?_
          refine OL.q (Q1.move rfl) rfl rfl ?_
          refine OL.q (Q1.lenSl Try.underlying49 (h3.sl) rfl) rfl rfl ?_
          refine OL.act rfl rfl (AW.callF cl63 rfl (put_c (w0 := w9) (b := (out ++ putN 0 1)) ((((((nodeAt g (((i : Nat) : Int))).2)).length : Nat) : Int)) (2) ((f44.sl).iv (Nat.zero_le _) (by omega)) (by first | assumption | omega | (simp only [List.length_append, putN_len, List.length_cons, List.length_nil]; omega)) (by first | omega | decide)) ?_)
          rintro v4 w10 ⟨⟨gr4, h4, hg5⟩, hm9⟩
          have hl8 := f39.lt
          have hl9 := f44.lt
          have hl10 := h3.lt
          have f45 := f39.ext hm9
          have f46 := f40.ext hm9
          have f47 := f41.ext hm9
          have f48 := f42.ext hm9
          have f49 := f43.ext hm9
          have f50 := f44.ext hm9
          have f51 := h3.ext hm9
          have hE10 := hE9.ext hm9
          have hs10 := hm9.size
          have hle_4 := h4.le
          have hlt_4 := h4.lt
          have := putN_len ((((((nodeAt g (((i : Nat) : Int))).2)).length : Nat) : Int)) 2
          refine OL.q (Q1.assign rfl) rfl rfl ?_
          refine OL.nil ?_
          refine r_seq ?_
          refine r_region ?_
          refine OL.q (Q1.move rfl) rfl rfl ?_
          refine OL.q (Q1.lenSl Try.underlying49 (f51.sl) rfl) rfl rfl ?_
          refine OL.q (Q1.move rfl) rfl rfl ?_
          refine OL.nil ?_
          refine r_block ?_
          refine r_loop (I := fun m E W => ∃ (v_out2 : Value) (g_out2 : Nat) (out2 : List UInt8) (k : Nat), E = [(0, ptr b1 0), (4, v_out2), (18, .int .i64 ((((g.length : Nat) : Int)))), (19, .int .i64 (((i : Nat) : Int))), (35, v3), (36, .int .i64 ((((((nodeAt g (((i : Nat) : Int))).2)).length : Nat) : Int))), (37, .int .i64 (((k : Nat) : Int)))] ∧ m = (nodeAt g (i : Int)).2.length - k ∧ Ext w0 W ∧ w10.heap.size ≤ W.heap.size ∧ Acc encB 5 1 W g_out2 v_out2 out2 ∧ (g_out2 = 0 ∨ w0.heap.size < g_out2) ∧ Rw W lo_g hi_g b1 [vn1] ∧ Sl encN W (Iv lo_g hi_g) vn1 nds1 ∧ NRel W (Iv lo_g hi_g) nds1 g ∧ Gr 0 W lo_g hi_g ((ptr b1 0)) g ∧ Acc encE 94 2 W gr3 v3 (((nodeAt g (((i : Nat) : Int))).2)) ∧ (g_out2 ≤ lo_g ∨ hi_g < g_out2) ∧ (g_out2 ≠ gr3 ∨ gr3 = 0) ∧ (out2 ++ (((nodeAt g (i : Int)).2.drop k).flatMap edgeB ++ (g.drop (i + 1)).flatMap nodeB) = bodyB g) ∧ (k ≤ (nodeAt g (i : Int)).2.length)) ?_ ?_
          · refine ⟨_, _, ⟨(v4 : Value), (gr4 : Nat), ((((out ++ putN 0 1)) ++ putN ((((((nodeAt g (((i : Nat) : Int))).2)).length : Nat) : Int)) 2) : List UInt8), (0 : Nat), rfl, rfl, hE10, Nat.le_refl _, h4, (by omega), f46, f47, f48, f49, f51, (by omega), (by omega), (by first | exact enc_node hO hgi (by rw [if_pos (by assumption)]) | exact enc_node hO hgi (by rw [if_neg (by simp [*])])), (by omega)⟩, ⟨rfl, rfl, rfl, rfl, rfl, rfl, rfl, trivial⟩⟩
          · rintro _ _ w11 ⟨v_out2, g_out2, out2, k, rfl, rfl, hE11, hs11, ha2, hg6, f52, f53, f54, f55, f56, hn2, hn3, hO2, hkl⟩ ih2
            have hbl2 := enc_len hO2
            refine r_seq ?_
            refine r_region ?_
            refine OL.qb (Q1.lt rfl rfl) rfl rfl ?_
            intro b5 hb4
            refine OL.nil ?_
            refine r_seq ?_
            cases b5 with
            | true =>
              replace hb4 := of_decide_eq_true hb4.symm
              refine r_cond_t rfl ?_
              refine r_skip ?_
              refine r_seq ?_
              refine r_block ?_
              refine r_seq ?_
              refine r_region ?_
              obtain ⟨x1, b6, o1, hx1, hr1, hl11, hu1, hw1⟩ := Sl.at' (P := Try.prog) f56.sl Try.underlying49 ti94 encE_len (k := .i64) (n := ((k : Nat) : Int)) (k) (by omega) (by first | assumption | omega)
              refine OL.q (Q1.indexAddr rfl rfl hr1) rfl rfl ?_
              refine OL.q (Q1.loadN ti94 rfl (fun _ e => e ▸ hw1) rfl) rfl rfl ?_
              have hl6 := enc_len4 hO2 hx1
              have hie := hI _ (List.mem_of_getElem? hgi) _ (List.mem_of_getElem? hx1)
              refine OL.act rfl rfl (AW.alloc ti94 ?_)
              intro w12 b7 hm10 hb5 hz3 hk2
              have hl12 := ha2.lt
              have hl13 := f56.lt
              have f57 := ha2.ext hm10
              have f58 := f52.ext hm10
              have f59 := f53.ext hm10
              have f60 := f54.ext hm10
              have f61 := f55.ext hm10
              have f62 := f56.ext hm10
              have hE12 := hE11.ext hm10
              have hs12 := hm10.size
              refine OL.act rfl rfl (AW.store ti94 rfl rfl rfl rfl rfl hk2 (Nat.le_of_ble_eq_true rfl) ?_)
              intro w13 hm11 hz4 hk3
              replace hk3 : Bk w13 b7 [.int .i32 x1.rune, .int .i64 x1.to] 94 := hk3
              have hl14 := f57.lt
              have hl15 := f62.lt
              have f63 := f57.keepG hm11 (by omega)
              have f64 := f58.keepG hm11 (by omega)
              have f65 := f59.keepG hm11 (by omega)
              have f66 := f60.keepG hm11 (by omega)
              have f67 := f61.keepG hm11 (by omega)
              have f68 := f62.keepG hm11 (by omega)
              have hE13 := Ext.thenG hE12 hm11 (by omega)
              have hs13 := hm11.size
              refine OL.nil ?_
              refine r_seq ?_
              refine r_region ?_
              refine OL.q (Q1.move rfl) rfl rfl ?_
              refine OL.q (Q1.fieldAddr fl94_0 rfl) rfl rfl ?_
              refine OL.q (Q1.load1 ti21 rfl (fun _ e => e ▸ (hk3.cell 0 _ rfl))) rfl rfl ?_
              refine OL.q (Q1.convN (by kernel_rfl) Try.underlying3 rfl (IntWalk.i64_in _ (by omega))) rfl rfl ?_
              refine OL.act rfl rfl (AW.callF cl63 rfl (put_c (w0 := w13) (b := out2) (x1.rune) (4) ((f63.sl).iv (Nat.zero_le _) (by omega)) (by first | assumption | omega | (simp only [List.length_append, putN_len, List.length_cons, List.length_nil]; omega)) (by first | omega | decide)) ?_)
              rintro v5 w14 ⟨⟨gr5, h5, hg7⟩, hm12⟩
              have hl16 := f63.lt
              have hl17 := f68.lt
              have f69 := f63.ext hm12
              have f70 := f64.ext hm12
              have f71 := f65.ext hm12
              have f72 := f66.ext hm12
              have f73 := f67.ext hm12
              have f74 := f68.ext hm12
              have f75 := hk3.ext hm12
              have hE14 := hE13.ext hm12
              have hs14 := hm12.size
              have hle_5 := h5.le
              have hlt_5 := h5.lt
              have := putN_len x1.rune 4
              refine OL.q (Q1.assign rfl) rfl rfl ?_
              refine OL.nil ?_
              refine r_region ?_
              refine OL.q (Q1.move rfl) rfl rfl ?_
              refine OL.q (Q1.fieldAddr fl94_1 rfl) rfl rfl ?_
              refine OL.q (Q1.load1 ti3 rfl (fun _ e => e ▸ (f75.cell 1 _ rfl))) rfl rfl ?_
              refine OL.act rfl rfl (AW.callF cl63 rfl (put_c (w0 := w14) (b := (out2 ++ putN x1.rune 4)) (x1.to) (2) ((h5.sl).iv (Nat.zero_le _) (by omega)) (by first | assumption | omega | (simp only [List.length_append, putN_len, List.length_cons, List.length_nil]; omega)) (by first | omega | decide)) ?_)
              rintro v6 w15 ⟨⟨gr6, h6, hg8⟩, hm13⟩
              have hl18 := f69.lt
              have hl19 := f74.lt
              have hl20 := h5.lt
              have f76 := f69.ext hm13
              have f77 := f70.ext hm13
              have f78 := f71.ext hm13
              have f79 := f72.ext hm13
              have f80 := f73.ext hm13
              have f81 := f74.ext hm13
              have f82 := f75.ext hm13
              have f83 := h5.ext hm13
              have hE15 := hE14.ext hm13
              have hs15 := hm13.size
              have hle_6 := h6.le
              have hlt_6 := h6.lt
              have := putN_len x1.to 2
              refine OL.q (Q1.assign rfl) rfl rfl ?_
              refine OL.nil ?_
              refine r_inBlock ?_
              refine r_region ?_
              refine OL.q (Q1.addI (((k + 1 : Nat) : Int)) rfl rfl (by omega)) rfl rfl ?_
              refine OL.q (Q1.move rfl) rfl rfl ?_
              refine OL.nil ?_
              exact (ih2 _ _ _ ⟨(v6 : Value), (gr6 : Nat), ((((out2 ++ putN x1.rune 4)) ++ putN x1.to 2) : List UInt8), (k + 1 : Nat), rfl, rfl, hE15, (by omega), h6, (by omega), f77, f78, f79, f80, f81, (by omega), (by omega), (by first | exact enc_edge hO2 hx1 | (exfalso; omega)), (by first | omega | (exfalso; omega))⟩ (by omega)).sub ⟨rfl, rfl, rfl, rfl, rfl, rfl, rfl, trivial⟩
            | false =>
              replace hb4 := of_decide_eq_false hb4.symm
              refine r_cond_f rfl ?_
              refine r_exit rfl ?_
              refine r_inBlock ?_
              refine r_region ?_
              refine OL.q (Q1.addI (((i + 1 : Nat) : Int)) rfl rfl (by omega)) rfl rfl ?_
              refine OL.q (Q1.move rfl) rfl rfl ?_
              refine OL.nil ?_
              exact (ih1 _ _ _ ⟨(v_out2 : Value), (g_out2 : Nat), (out2 : List UInt8), (i + 1 : Nat), rfl, rfl, hE11, (by omega), ha2, (by omega), f52, f53, f54, f55, (by omega), (by first | exact enc_next hO2 (by omega) | (exfalso; omega)), (by first | omega | (exfalso; omega))⟩ (by omega)).sub ⟨rfl, rfl, rfl, rfl, trivial⟩
      | false =>
        replace hb2 := of_decide_eq_false hb2.symm
        refine r_cond_f rfl ?_
        refine r_exit rfl ?_
        refine r_seq ?_
        refine r_region ?_
        refine OL.q (Q1.move rfl) rfl rfl ?_
        have hl4 := ha1.lt
        refine OL.q (Q1.move rfl) rfl rfl ?_
        refine OL.act rfl rfl (AW.callF cl65 rfl (sumof_c (w0 := w6) (b := out)  ((ha1.sl).iv (Nat.zero_le _) (by omega)) (by first | assumption | omega | (simp only [List.length_append, putN_len, List.length_cons, List.length_nil]; omega))) ?_)
        rintro _ w7 ⟨rfl, hm6⟩
        have hl5 := ha1.lt
        have f29 := ha1.ext hm6
        have f30 := f25.ext hm6
        have f31 := f26.ext hm6
        have f32 := f27.ext hm6
        have f33 := f28.ext hm6
        have hE7 := hE6.ext hm6
        have hs7 := hm6.size
        have := sumF_lt 0 out
        change sumN out < _ at this
        refine OL.q (Q1.convN (by kernel_rfl) Try.underlying3 rfl (IntWalk.i64_in _ (by omega))) rfl rfl ?_
        refine OL.act rfl rfl (AW.callF cl63 rfl (put_c (w0 := w7) (b := out) ((((sumN out : Nat) : Int))) (4) ((f29.sl).iv (Nat.zero_le _) (by omega)) (by first | assumption | omega | (simp only [List.length_append, putN_len, List.length_cons, List.length_nil]; omega)) (by first | omega | decide)) ?_)
        rintro v2 w8 ⟨⟨gr2, h2, hg3⟩, hm7⟩
        have hl6 := f29.lt
        have f34 := f29.ext hm7
        have f35 := f30.ext hm7
        have f36 := f31.ext hm7
        have f37 := f32.ext hm7
        have f38 := f33.ext hm7
        have hE8 := hE7.ext hm7
        have hs8 := hm7.size
        have hle_2 := h2.le
        have hlt_2 := h2.lt
        have := putN_len ((((sumN out : Nat) : Int))) 4
        refine OL.q (Q1.assign rfl) rfl rfl ?_
        refine OL.q (Q1.assign rfl) rfl rfl ?_
        refine OL.nil ?_
        refine r_ret2 Try.func20 rfl rfl rfl ?_
        exact Ret.mk ⟨_, _, rfl, ⟨_, Acc.cast h2 (by first | (rw [encA_no rfl]; done) | (rw [encA_no rfl]) | rfl | (rw [encA_yes (by assumption), enc_fin hO (by omega)]; rfl) | exact errA_yes (by assumption) | (exfalso; omega)), by omega⟩, (congrArg (Value.int .i64) (by first | (rw [encA_no rfl]; done) | (rw [encA_no rfl]) | rfl | (rw [encA_yes (by assumption), enc_fin hO (by omega)]; rfl) | exact errA_yes (by assumption) | (exfalso; omega))), hE8⟩
set_option maxRecDepth 20000 in
set_option maxHeartbeats 4000000 in
theorem packof_c {w0 : World}  {v_words : Value} {words : List Str} (h_words : Sl encS w0 (Iv 0 w0.heap.size) v_words words) (hok : Ml.LOk words) (hsz : words.length ≤ 1000000) :
    Calls Try.prog 15 #[v_words] w0 (Ret fun rv w1 => ∃ u0 u1, rv = .tuple #[u0, u1] ∧ (∃ gr, Acc encB 5 1 w1 gr u0 (imgM words) ∧ (gr = 0 ∨ w0.heap.size < gr)) ∧ u1 = .int .i64 (goodL words) ∧ Ext w0 w1) := by
  have hE0 : Ext w0 w0 := Mod.refl _ _
  have hle1 := h_words.le
  refine calls_enter Try.func15 rfl Try.ntmps15 rfl ?_
  refine r_seq ?_
  refine r_region ?_
  refine OL.q (Q1.assign rfl) rfl rfl ?_
  refine OL.q (Q1.assign rfl) rfl rfl ?_
  refine OL.nil ?_
  refine r_seq ?_
  refine r_region ?_
  refine OL.q (Q1.move rfl) rfl rfl ?_
  refine OL.act rfl rfl (AW.callF cl19 rfl (build_c (w0 := w0) (words := words)  ((h_words).iv (Nat.zero_le _) (by omega)) (by assumption) (by first | assumption | omega)) ?_)
  rintro _ w1 ⟨vg1, _, rfl, ⟨lo1, hi1, hgr_1, hlo1, hhi1⟩, rfl, hm1⟩
  have f1 := h_words.ext hm1
  have hE1 := hE0.ext hm1
  have hs1 := hm1.size
  have := Ml.goodL_range words
  refine OL.q (Q1.move rfl) rfl rfl ?_
  refine OL.q (Q1.extract rfl rfl) rfl rfl ?_
  refine OL.q (Q1.extract rfl rfl) rfl rfl ?_
  refine OL.q (Q1.assign rfl) rfl rfl ?_
  refine OL.q (Q1.assign rfl) rfl rfl ?_
  refine OL.nil ?_
  refine r_seq ?_
  refine r_seq ?_
  refine r_region ?_
  refine OL.q (Q1.move rfl) rfl rfl ?_
  refine OL.qb (Q1.ne rfl rfl) rfl rfl ?_
  intro b1 hb1
  refine OL.nil ?_
  cases b1 with
  | true =>
    replace hb1 := bne_iff_ne.1 hb1.symm
    refine r_cond_t rfl ?_
    refine r_seq ?_
    refine r_region ?_
    refine OL.q (Q1.move rfl) rfl rfl ?_
    refine OL.q (Q1.assign rfl) rfl rfl ?_
    refine OL.q (Q1.assign rfl) rfl rfl ?_
    refine OL.nil ?_
    refine r_ret2 Try.func15 rfl rfl rfl ?_
    exact Ret.mk ⟨_, _, rfl, ⟨0, Acc.cast Acc.nil (by first | exact imgM_no (by assumption) | rfl | exact encA_img hg0 | exact errA_img hg0 | assumption | (exfalso; omega)), .inl rfl⟩, (congrArg (Value.int .i64) (by first | exact imgM_no (by assumption) | rfl | exact encA_img hg0 | exact errA_img hg0 | assumption | (exfalso; omega))), hE1⟩
  | false =>
    replace hb1 := bne_eq_false_iff_eq.1 hb1.symm
    refine r_cond_f rfl ?_
    refine r_skip ?_
    refine r_seq ?_
    refine r_region ?_
    refine OL.q (Q1.move rfl) rfl rfl ?_
    have hg0 : goodL words = 0 := by assumption
    have hgok := gok_of hg0
    obtain ⟨hI, hgl, hel⟩ := hgok.edges
    have hbd := body_len hg0
    refine OL.act rfl rfl (AW.callF cl20 rfl (encode_c (w0 := w1)   hgr_1 (by omega) (by first | assumption | omega | (simp; done)) (by first | assumption | (simp; done)) (by first | assumption | (simp; done)) (by first | assumption | omega | (simp [bodyB, putN_len]; done))) ?_)
    rintro _ w2 ⟨v1, _, rfl, ⟨gr1, h1, hg1⟩, rfl, hm2⟩
    have f2 := f1.ext hm2
    have f3 := hgr_1.ext hm2
    have hE2 := hE1.ext hm2
    have hs2 := hm2.size
    have hle_1 := h1.le
    have hlt_1 := h1.lt
    have := encA_lenE ((Ml.gnodes words)) (by first | assumption | omega | (simp [bodyB, putN_len]; done))
    refine OL.q (Q1.extract rfl rfl) rfl rfl ?_
    refine OL.q (Q1.extract rfl rfl) rfl rfl ?_
    refine OL.q (Q1.assign rfl) rfl rfl ?_
    refine OL.q (Q1.assign rfl) rfl rfl ?_
    refine OL.nil ?_
    refine r_ret2 Try.func15 rfl rfl rfl ?_
    exact Ret.mk ⟨_, _, rfl, ⟨_, Acc.cast h1 (by first | exact imgM_no (by assumption) | rfl | exact encA_img hg0 | exact errA_img hg0 | assumption | (exfalso; omega)), by omega⟩, (congrArg (Value.int .i64) (by first | exact imgM_no (by assumption) | rfl | exact encA_img hg0 | exact errA_img hg0 | assumption | (exfalso; omega))), hE2⟩
end Go.Proofs
namespace Go.Proofs
open Go.Ik Go.Ml
set_option maxRecDepth 20000 in
set_option maxHeartbeats 4000000 in
theorem sameT_c {w0 : World}  {v_a : Value} {a : List Str} {v_b : Value} {b : List Str} (h_a : Sl encS w0 (Iv 0 w0.heap.size) v_a a) (h_b : Sl encS w0 (Iv 0 w0.heap.size) v_b b) :
    Calls Try.prog 27 #[v_a, v_b] w0 (Ret fun rv w1 => (∃ rb : Bool, rb = (decide (a = b)) ∧ rv = .bool rb) ∧ Ext w0 w1) := by
  have hE0 : Ext w0 w0 := Mod.refl _ _
  have hle1 := h_a.le
  have hle2 := h_b.le
  refine calls_enter Try.func27 rfl Try.ntmps27 rfl ?_
  refine r_seq ?_
  refine r_region ?_
  refine OL.q (Q1.assign rfl) rfl rfl ?_
  refine OL.nil ?_
  refine r_seq ?_
  refine r_seq ?_
  refine r_region ?_
  refine OL.q (Q1.move rfl) rfl rfl ?_
  refine OL.q (Q1.lenSl Try.underlying22 (h_a) rfl) rfl rfl ?_
  refine OL.q (Q1.move rfl) rfl rfl ?_
  refine OL.q (Q1.lenSl Try.underlying22 (h_b) rfl) rfl rfl ?_
  refine OL.qb (Q1.ne rfl rfl) rfl rfl ?_
  intro b1 hb1
  refine OL.nil ?_
  cases b1 with
  | true =>
    replace hb1 := bne_iff_ne.1 hb1.symm
    refine r_cond_t rfl ?_
    refine r_seq ?_
    refine r_region ?_
    refine OL.q (Q1.assign rfl) rfl rfl ?_
    refine OL.nil ?_
    refine r_ret1 Try.func27 rfl rfl ?_
    exact Ret.mk ⟨⟨_, (by first | (have e := Ml.same_not hx1 hx2 (by assumption); simp [e]) | (have e := Ml.same_all hi (by omega) (by omega); simp [e]) | (have e : a ≠ b := (fun e => absurd (congrArg List.length e) (by omega)); simp [e]) | (exfalso; omega)), rfl⟩, hE0⟩
  | false =>
    replace hb1 := bne_eq_false_iff_eq.1 hb1.symm
    refine r_cond_f rfl ?_
    refine r_skip ?_
    refine r_seq ?_
    refine r_seq ?_
    refine r_region ?_
    refine OL.q (Q1.assign rfl) rfl rfl ?_
    refine OL.nil ?_
    refine r_block ?_
    refine r_loop (I := fun m E W => ∃ (k : Nat), E = [(0, v_a), (1, v_b), (5, .int .i64 (((k : Nat) : Int)))] ∧ m = a.length - k ∧ Ext w0 W ∧ w0.heap.size ≤ W.heap.size ∧ Sl encS W (Iv 0 w0.heap.size) v_a a ∧ Sl encS W (Iv 0 w0.heap.size) v_b b ∧ (a.take k = b.take k)) ?_ ?_
    · refine ⟨_, _, ⟨(0 : Nat), rfl, rfl, hE0, Nat.le_refl _, h_a, h_b, (by rfl)⟩, ⟨rfl, rfl, rfl, trivial⟩⟩
    · rintro _ _ w1 ⟨k, rfl, rfl, hE1, hs1, f1, f2, hi⟩ ih1
      refine r_seq ?_
      refine r_seq ?_
      refine r_region ?_
      refine OL.q (Q1.move rfl) rfl rfl ?_
      refine OL.q (Q1.move rfl) rfl rfl ?_
      refine OL.q (Q1.lenSl Try.underlying22 (f1) rfl) rfl rfl ?_
      refine OL.qb (Q1.lt rfl rfl) rfl rfl ?_
      intro b2 hb2
      refine OL.nil ?_
      cases b2 with
      | true =>
        replace hb2 := of_decide_eq_true hb2.symm
        refine r_cond_t rfl ?_
        refine r_skip ?_
        refine r_seq ?_
        refine r_block ?_
        refine r_seq ?_
        refine r_draw1 (fun i => false) 9 (fun w' => Mod (Mg 0) w1 w') mixed (by kernel_rfl) ?_
        intro w2 hm1
        have f3 := f1.ext hm1
        have f4 := f2.ext hm1
        have hE2 := hE1.ext hm1
        have hs2 := hm1.size
        have hCw2 : Mod (Mg 0) w1 w2 := Mod.ofExt hm1
        refine ⟨hCw2, ?_⟩
        rw [show List.range' 0 (Array.size _) = [0, 1, 2, 3, 4, 5, 6, 7, 8] from rfl]
        refine OD.q rfl rfl (Q1.move rfl) rfl rfl ?_
        refine OD.q rfl rfl (Q1.move rfl) rfl rfl ?_
        obtain ⟨x1, b3, o1, hx1, hr1, hl1, hu1, hw1⟩ := Sl.at' (P := Try.prog) f1 Try.underlying22 ti9 encS_len (k := .i64) (n := ((k : Nat) : Int)) (k) (by omega) (by first | assumption | omega)
        refine OD.q rfl rfl (Q1.indexAddr rfl rfl hr1) rfl rfl ?_
        refine OD.q rfl rfl (Q1.load1 ti9 rfl (fun _ hc => hw1.keepG hc (by omega))) rfl rfl ?_
        refine OD.q rfl rfl (Q1.move rfl) rfl rfl ?_
        refine OD.q rfl rfl (Q1.move rfl) rfl rfl ?_
        obtain ⟨x2, b4, o2, hx2, hr2, hl2, hu2, hw2⟩ := Sl.at' (P := Try.prog) f2 Try.underlying22 ti9 encS_len (k := .i64) (n := ((k : Nat) : Int)) (k) (by omega) (by first | assumption | omega)
        refine OD.q rfl rfl (Q1.indexAddr rfl rfl hr2) rfl rfl ?_
        refine OD.q rfl rfl (Q1.load1 ti9 rfl (fun _ hc => hw2.keepG hc (by omega))) rfl rfl ?_
        refine OD.qb rfl rfl (Q1.neS rfl rfl) rfl rfl ?_
        intro b5 hb3
        refine OD.nil ?_
        cases b5 with
        | true =>
          replace hb3 := nbeq_t hb3
          refine r_cond_t rfl ?_
          refine r_seq ?_
          refine r_region ?_
          refine OL.q (Q1.assign rfl) rfl rfl ?_
          refine OL.nil ?_
          refine r_ret1 Try.func27 rfl rfl ?_
          exact Ret.mk ⟨⟨_, (by first | (have e := Ml.same_not hx1 hx2 (by assumption); simp [e]) | (have e := Ml.same_all hi (by omega) (by omega); simp [e]) | (have e : a ≠ b := (fun e => absurd (congrArg List.length e) (by omega)); simp [e]) | (exfalso; omega)), rfl⟩, hE2⟩
        | false =>
          replace hb3 := nbeq_f hb3
          refine r_cond_f rfl ?_
          refine r_skip ?_
          refine r_inBlock ?_
          refine r_region ?_
          refine OL.q (Q1.move rfl) rfl rfl ?_
          refine OL.q (Q1.addI (((k + 1 : Nat) : Int)) rfl rfl (by omega)) rfl rfl ?_
          refine OL.q (Q1.assign rfl) rfl rfl ?_
          refine OL.nil ?_
          exact (ih1 _ _ _ ⟨(k + 1 : Nat), rfl, rfl, hE2, (by omega), f3, f4, (by first | exact Ml.same_take hi hx1 hx2 (by assumption) | (exfalso; omega))⟩ (by omega)).sub ⟨rfl, rfl, rfl, trivial⟩
      | false =>
        replace hb2 := of_decide_eq_false hb2.symm
        refine r_cond_f rfl ?_
        refine r_exit rfl ?_
        refine r_seq ?_
        refine r_region ?_
        refine OL.q (Q1.assign rfl) rfl rfl ?_
        refine OL.nil ?_
        refine r_ret1 Try.func27 rfl rfl ?_
        exact Ret.mk ⟨⟨_, (by first | (have e := Ml.same_not hx1 hx2 (by assumption); simp [e]) | (have e := Ml.same_all hi (by omega) (by omega); simp [e]) | (have e : a ≠ b := (fun e => absurd (congrArg List.length e) (by omega)); simp [e]) | (exfalso; omega)), rfl⟩, hE1⟩
set_option maxRecDepth 20000 in
set_option maxHeartbeats 4000000 in
theorem sameB_c {w0 : World}  {v_a : Value} {a : List UInt8} {v_b : Value} {b : List UInt8} (h_a : Sl encB w0 (Iv 0 w0.heap.size) v_a a) (h_b : Sl encB w0 (Iv 0 w0.heap.size) v_b b) :
    Calls Try.prog 17 #[v_a, v_b] w0 (Ret fun rv w1 => (∃ rb : Bool, rb = (decide (a = b)) ∧ rv = .bool rb) ∧ Ext w0 w1) := by
  have hE0 : Ext w0 w0 := Mod.refl _ _
  have hle1 := h_a.le
  have hle2 := h_b.le
  refine calls_enter Try.func17 rfl Try.ntmps17 rfl ?_
  refine r_seq ?_
  refine r_region ?_
  refine OL.q (Q1.assign rfl) rfl rfl ?_
  refine OL.nil ?_
  refine r_seq ?_
  refine r_seq ?_
  refine r_region ?_
  refine OL.q (Q1.move rfl) rfl rfl ?_
  refine OL.q (Q1.lenSl Try.underlying25 (h_a) rfl) rfl rfl ?_
  refine OL.q (Q1.move rfl) rfl rfl ?_
  refine OL.q (Q1.lenSl Try.underlying25 (h_b) rfl) rfl rfl ?_
  refine OL.qb (Q1.ne rfl rfl) rfl rfl ?_
  intro b1 hb1
  refine OL.nil ?_
  cases b1 with
  | true =>
    replace hb1 := bne_iff_ne.1 hb1.symm
    refine r_cond_t rfl ?_
    refine r_seq ?_
    refine r_region ?_
    refine OL.q (Q1.assign rfl) rfl rfl ?_
    refine OL.nil ?_
    refine r_ret1 Try.func17 rfl rfl ?_
    exact Ret.mk ⟨⟨_, (by first | (have e := Ml.same_not hx1 hx2 (fun e => absurd (congrArg UInt8.toNat e) (by omega)); simp [e]) | (have e := Ml.same_all hi (by omega) (by omega); simp [e]) | (have e : a ≠ b := (fun e => absurd (congrArg List.length e) (by omega)); simp [e]) | (exfalso; omega)), rfl⟩, hE0⟩
  | false =>
    replace hb1 := bne_eq_false_iff_eq.1 hb1.symm
    refine r_cond_f rfl ?_
    refine r_skip ?_
    refine r_seq ?_
    refine r_seq ?_
    refine r_region ?_
    refine OL.q (Q1.assign rfl) rfl rfl ?_
    refine OL.nil ?_
    refine r_block ?_
    refine r_loop (I := fun m E W => ∃ (k : Nat), E = [(0, v_a), (1, v_b), (5, .int .i64 (((k : Nat) : Int)))] ∧ m = a.length - k ∧ Ext w0 W ∧ w0.heap.size ≤ W.heap.size ∧ Sl encB W (Iv 0 w0.heap.size) v_a a ∧ Sl encB W (Iv 0 w0.heap.size) v_b b ∧ (a.take k = b.take k)) ?_ ?_
    · refine ⟨_, _, ⟨(0 : Nat), rfl, rfl, hE0, Nat.le_refl _, h_a, h_b, (by rfl)⟩, ⟨rfl, rfl, rfl, trivial⟩⟩
    · rintro _ _ w1 ⟨k, rfl, rfl, hE1, hs1, f1, f2, hi⟩ ih1
      refine r_seq ?_
      refine r_seq ?_
      refine r_region ?_
      refine OL.q (Q1.move rfl) rfl rfl ?_
      refine OL.q (Q1.move rfl) rfl rfl ?_
      refine OL.q (Q1.lenSl Try.underlying25 (f1) rfl) rfl rfl ?_
      refine OL.qb (Q1.lt rfl rfl) rfl rfl ?_
      intro b2 hb2
      refine OL.nil ?_
      cases b2 with
      | true =>
        replace hb2 := of_decide_eq_true hb2.symm
        refine r_cond_t rfl ?_
        refine r_skip ?_
        refine r_seq ?_
        refine r_block ?_
        refine r_seq ?_
        refine r_draw1 (fun i => false) 9 (fun w' => Mod (Mg 0) w1 w') mixed (by kernel_rfl) ?_
        intro w2 hm1
        have f3 := f1.ext hm1
        have f4 := f2.ext hm1
        have hE2 := hE1.ext hm1
        have hs2 := hm1.size
        have hCw2 : Mod (Mg 0) w1 w2 := Mod.ofExt hm1
        refine ⟨hCw2, ?_⟩
        rw [show List.range' 0 (Array.size _) = [0, 1, 2, 3, 4, 5, 6, 7, 8] from rfl]
        refine OD.q rfl rfl (Q1.move rfl) rfl rfl ?_
        refine OD.q rfl rfl (Q1.move rfl) rfl rfl ?_
        obtain ⟨x1, b3, o1, hx1, hr1, hl1, hu1, hw1⟩ := Sl.at' (P := Try.prog) f1 Try.underlying25 ti5 encB_len (k := .i64) (n := ((k : Nat) : Int)) (k) (by omega) (by first | assumption | omega)
        refine OD.q rfl rfl (Q1.indexAddr rfl rfl hr1) rfl rfl ?_
        refine OD.q rfl rfl (Q1.load1 ti5 rfl (fun _ hc => hw1.keepG hc (by omega))) rfl rfl ?_
        refine OD.q rfl rfl (Q1.move rfl) rfl rfl ?_
        refine OD.q rfl rfl (Q1.move rfl) rfl rfl ?_
        obtain ⟨x2, b4, o2, hx2, hr2, hl2, hu2, hw2⟩ := Sl.at' (P := Try.prog) f2 Try.underlying25 ti5 encB_len (k := .i64) (n := ((k : Nat) : Int)) (k) (by omega) (by first | assumption | omega)
        refine OD.q rfl rfl (Q1.indexAddr rfl rfl hr2) rfl rfl ?_
        refine OD.q rfl rfl (Q1.load1 ti5 rfl (fun _ hc => hw2.keepG hc (by omega))) rfl rfl ?_
        refine OD.qb rfl rfl (Q1.ne rfl rfl) rfl rfl ?_
        intro b5 hb3
        refine OD.nil ?_
        cases b5 with
        | true =>
          replace hb3 := bne_iff_ne.1 hb3.symm
          refine r_cond_t rfl ?_
          refine r_seq ?_
          refine r_region ?_
          refine OL.q (Q1.assign rfl) rfl rfl ?_
          refine OL.nil ?_
          refine r_ret1 Try.func17 rfl rfl ?_
          exact Ret.mk ⟨⟨_, (by first | (have e := Ml.same_not hx1 hx2 (fun e => absurd (congrArg UInt8.toNat e) (by omega)); simp [e]) | (have e := Ml.same_all hi (by omega) (by omega); simp [e]) | (have e : a ≠ b := (fun e => absurd (congrArg List.length e) (by omega)); simp [e]) | (exfalso; omega)), rfl⟩, hE2⟩
        | false =>
          replace hb3 := bne_eq_false_iff_eq.1 hb3.symm
          refine r_cond_f rfl ?_
          refine r_skip ?_
          refine r_inBlock ?_
          refine r_region ?_
          refine OL.q (Q1.move rfl) rfl rfl ?_
          refine OL.q (Q1.addI (((k + 1 : Nat) : Int)) rfl rfl (by omega)) rfl rfl ?_
          refine OL.q (Q1.assign rfl) rfl rfl ?_
          refine OL.nil ?_
          exact (ih1 _ _ _ ⟨(k + 1 : Nat), rfl, rfl, hE2, (by omega), f3, f4, (by first | exact Ml.same_take hi hx1 hx2 (UInt8.toNat_inj.1 (by omega)) | (exfalso; omega))⟩ (by omega)).sub ⟨rfl, rfl, rfl, trivial⟩
      | false =>
        replace hb2 := of_decide_eq_false hb2.symm
        refine r_cond_f rfl ?_
        refine r_exit rfl ?_
        refine r_seq ?_
        refine r_region ?_
        refine OL.q (Q1.assign rfl) rfl rfl ?_
        refine OL.nil ?_
        refine r_ret1 Try.func17 rfl rfl ?_
        exact Ret.mk ⟨⟨_, (by first | (have e := Ml.same_not hx1 hx2 (fun e => absurd (congrArg UInt8.toNat e) (by omega)); simp [e]) | (have e := Ml.same_all hi (by omega) (by omega); simp [e]) | (have e : a ≠ b := (fun e => absurd (congrArg List.length e) (by omega)); simp [e]) | (exfalso; omega)), rfl⟩, hE1⟩
set_option maxRecDepth 20000 in
set_option maxHeartbeats 4000000 in
theorem num_c {w0 : World}  (e : Int) (h_e : I64 e) :
    Calls Try.prog 18 #[.int .i64 e] w0 (Ret fun rv w1 => rv = .int .i64 (e) ∧ Ext w0 w1) := by
  have hE0 : Ext w0 w0 := Mod.refl _ _
  refine calls_enter Try.func18 rfl Try.ntmps18 rfl ?_
  refine r_seq ?_
  refine r_region ?_
  refine OL.q (Q1.assign rfl) rfl rfl ?_
  refine OL.nil ?_
  refine r_seq ?_
  refine r_region ?_
  refine OL.q (Q1.move rfl) rfl rfl ?_
  refine OL.q (Q1.assign rfl) rfl rfl ?_
  refine OL.nil ?_
  refine r_ret1 Try.func18 rfl rfl ?_
  exact Ret.mk ⟨(congrArg (Value.int .i64) (by rfl)), hE0⟩
set_option maxRecDepth 20000 in
set_option maxHeartbeats 4000000 in
theorem overBytes_c {w0 : World}  {v_l : Value} {g_l : Nat} {l : List UInt8} (h_l : Acc encB 5 1 w0 g_l v_l l) (hln : l.length ≤ 4000000) :
    Calls Try.prog 21 #[v_l] w0 (Ret fun rv w1 => rv = .tuple #[] ∧ Mod (Mg g_l) w0 w1) := by
  have hE0 : Mod (Mg g_l) w0 w0 := Mod.refl _ _
  have hle1 := h_l.le
  have hlt1 := h_l.lt
  refine calls_enter Try.func21 rfl Try.ntmps21 rfl ?_
  refine r_seq ?_
  refine r_seq ?_
  refine r_region ?_
  refine OL.q (Q1.assign rfl) rfl rfl ?_
  refine OL.nil ?_
  refine r_block ?_
  refine r_loop (I := fun m E W => ∃ (k1 : Nat) (l1 : List UInt8), E = [(0, v_l), (2, .int .i64 (((k1 : Nat) : Int)))] ∧ m = l.length - k1 ∧ Mod (Mg g_l) w0 W ∧ w0.heap.size ≤ W.heap.size ∧ Acc encB 5 1 W g_l v_l l1 ∧ (l1.length = l.length)) ?_ ?_
  · refine ⟨_, _, ⟨(0 : Nat), (l : List UInt8), rfl, rfl, hE0, Nat.le_refl _, h_l, (by rfl)⟩, ⟨rfl, rfl, trivial⟩⟩
  · rintro _ _ w1 ⟨k1, l1, rfl, rfl, hE1, hs1, f1, hl1⟩ ih1
    refine r_seq ?_
    refine r_seq ?_
    refine r_region ?_
    refine OL.q (Q1.move rfl) rfl rfl ?_
    refine OL.q (Q1.move rfl) rfl rfl ?_
    refine OL.q (Q1.lenSl Try.underlying25 (f1.sl) rfl) rfl rfl ?_
    refine OL.qb (Q1.lt rfl rfl) rfl rfl ?_
    intro b1 hb1
    refine OL.nil ?_
    cases b1 with
    | true =>
      replace hb1 := of_decide_eq_true hb1.symm
      refine r_cond_t rfl ?_
      refine r_skip ?_
      refine r_seq ?_
      refine r_block ?_
      refine r_region ?_
      refine OL.q (Q1.move rfl) rfl rfl ?_
      refine OL.q (Q1.move rfl) rfl rfl ?_
      obtain ⟨hr1, x1, hx1⟩ := Acc.at (P := Try.prog) f1 Try.underlying25 ti5 (k := .i64) (n := ((k1 : Nat) : Int)) (k1) (by omega) (by first | assumption | omega | (simp; done))
      refine OL.q (Q1.indexAddr rfl rfl hr1) rfl rfl ?_
      have hl2 := f1.lt
      refine OL.act rfl rfl (AW.storeA f1 encB_len (i := k1) (o := 0) hx1 ((238 : UInt8)) ti5 rfl (by omega) rfl rfl rfl rfl (by decide) (by first | rfl | simp [encB]) ?_)
      intro w2 hm1 hz1 ha1
      have hl3 := f1.lt
      have hE2 := Mod.thenG hE1 hm1 (by omega)
      have hs2 := hm1.size
      have hl1 : (l1.set k1 ((238 : UInt8))).length = l1.length := List.length_set
      refine OL.nil ?_
      refine r_inBlock ?_
      refine r_region ?_
      refine OL.q (Q1.move rfl) rfl rfl ?_
      refine OL.q (Q1.addI (((k1 + 1 : Nat) : Int)) rfl rfl (by omega)) rfl rfl ?_
      refine OL.q (Q1.assign rfl) rfl rfl ?_
      refine OL.nil ?_
      exact (ih1 _ _ _ ⟨(k1 + 1 : Nat), ((l1.set k1 ((238 : UInt8))) : List UInt8), rfl, rfl, hE2, (by omega), ha1, (by first | omega | (simp only [List.length_set]; omega) | (exfalso; omega))⟩ (by omega)).sub ⟨rfl, rfl, trivial⟩
    | false =>
      replace hb1 := of_decide_eq_false hb1.symm
      refine r_cond_f rfl ?_
      refine r_exit rfl ?_
      refine r_region ?_
      refine OL.q (Q1.move rfl) rfl rfl ?_
      refine OL.act rfl rfl (AW.buildSlice [(.int .u8 238 : Value)] Try.underlying25 ti5 rfl rfl rfl (by decide) ?_)
      intro w2 b2 hm1 hb2 hz1 hk1
      have hl1 := f1.lt
      have f2 := f1.ext hm1
      have hE2 := hE1.ext hm1
      have hs2 := hm1.size
      have hl2 := Sl.of_blk (enc := encB) hk1 ([(238 : UInt8)] : List UInt8) 1 rfl rfl (by unfold maxLen; omega)
      have hl3 := f2.lt
      refine OL.act rfl rfl (AW.append f2 Try.underlying25 ti5 rfl encB_len encB_one rfl rfl (hl2) (by first | omega | (simp only [List.length_append, List.length_cons, List.length_nil]; omega) | (simp; omega)) (by unfold maxLen; first | omega | (simp only [List.length_append, List.length_cons, List.length_nil]; omega) | (simp; omega)) ?_)
      intro v1 g1 w3 ha1 hm2 hg1 hz2
      have hl4 := f2.lt
      have f3 := hl2.keepG hm2 (by omega)
      have hE3 := Mod.thenG hE2 hm2 (by omega)
      have hs3 := hm2.size
      refine OL.nil ?_
      refine r_end0 Try.func21 rfl ?_
      exact Ret.mk ⟨rfl, hE3⟩
end Go.Proofs
namespace Go.Proofs
open Go.Ik Go.Ml
set_option maxRecDepth 20000 in
set_option maxHeartbeats 4000000 in
theorem awake9_c {w0 : World}    :
    Calls Try.prog 14 #[] w0 (Ret fun rv w1 => (∃ rb : Bool, rb = true ∧ rv = .bool rb) ∧ Ext w0 w1) := by
  have hE0 : Ext w0 w0 := Mod.refl _ _
  refine calls_enter Try.func14 rfl Try.ntmps14 rfl ?_
  refine r_seq ?_
  refine r_region ?_
  refine OL.q (Q1.assign rfl) rfl rfl ?_
  refine OL.nil ?_
  refine r_seq ?_
  refine r_region ?_
  refine OL.act rfl rfl (AW.callF cl15 rfl (packof_c (w0 := w0) (words := [])  Sl.nil (by first | assumption | (intro s hs; simp at hs)) (by first | assumption | omega | (simp; done))) ?_)
  rintro _ w1 ⟨v1, _, rfl, ⟨gr1, h1, hg1⟩, rfl, hm1⟩
  have hE1 := hE0.ext hm1
  have hs1 := hm1.size
  have hle_1 := h1.le
  have hlt_1 := h1.lt
  have := imgM_len []
  refine OL.q (Q1.move rfl) rfl rfl ?_
  refine OL.q (Q1.extract rfl rfl) rfl rfl ?_
  refine OL.q (Q1.extract rfl rfl) rfl rfl ?_
  refine OL.q (Q1.assign rfl) rfl rfl ?_
  refine OL.q (Q1.assign rfl) rfl rfl ?_
  refine OL.nil ?_
  refine r_seq ?_
  refine r_seq ?_
  refine r_region ?_
  refine OL.q (Q1.move rfl) rfl rfl ?_
  have hl13 : (imgM []).length = 13 := by decide +kernel
  refine OL.qb (Q1.ne rfl rfl) rfl rfl ?_
  intro b1 hb1
  obtain rfl : b1 = false := hb1.trans (by decide +kernel)
  refine OL.q (Q1.move rfl) rfl rfl ?_
  refine OL.q (Q1.move rfl) rfl rfl ?_
  refine OL.q (Q1.lenSl Try.underlying25 (h1.sl) rfl) rfl rfl ?_
  refine OL.qb (Q1.ne rfl rfl) rfl rfl ?_
  intro b2 hb2
  obtain rfl : b2 = false := hb2.trans (by decide +kernel)
  refine OL.q (Q1.pick_f rfl rfl) rfl rfl ?_
  refine OL.q (Q1.move rfl) rfl rfl ?_
  refine OL.q (Q1.move rfl) rfl rfl ?_
  obtain ⟨x1, b3, o1, hx1, hr1, hl1, hu1, hw1⟩ := Sl.at' (P := Try.prog) h1.sl Try.underlying25 ti5 encB_len (k := .i64) (n := 0) (0) (by omega) (by first | assumption | omega)
  refine OL.q (Q1.indexAddr rfl rfl hr1) rfl rfl ?_
  refine OL.q (Q1.load1 ti5 rfl (fun _ e => e ▸ hw1)) rfl rfl ?_
  refine OL.qb (Q1.ne rfl rfl) rfl rfl ?_
  intro b4 hb3
  obtain rfl : b4 = false := hb3.trans (by (have hq : (imgM [])[0]? = some 73 := (by decide +kernel); obtain rfl := Option.some.inj (hx1.symm.trans hq); decide))
  refine OL.q (Q1.pick_f rfl rfl) rfl rfl ?_
  refine OL.q (Q1.move rfl) rfl rfl ?_
  refine OL.q (Q1.move rfl) rfl rfl ?_
  obtain ⟨x2, b5, o2, hx2, hr2, hl2, hu2, hw2⟩ := Sl.at' (P := Try.prog) h1.sl Try.underlying25 ti5 encB_len (k := .i64) (n := 5) (5) (by omega) (by first | assumption | omega)
  refine OL.q (Q1.indexAddr rfl rfl hr2) rfl rfl ?_
  refine OL.q (Q1.load1 ti5 rfl (fun _ e => e ▸ hw2)) rfl rfl ?_
  refine OL.qb (Q1.ne rfl rfl) rfl rfl ?_
  intro b6 hb4
  obtain rfl : b6 = false := hb4.trans (by (have hq : (imgM [])[5]? = some 1 := (by decide +kernel); obtain rfl := Option.some.inj (hx2.symm.trans hq); decide))
  refine OL.q (Q1.pick_f rfl rfl) rfl rfl ?_
  refine OL.nil ?_
  refine r_cond_f rfl ?_
  refine r_skip ?_
  refine r_seq ?_
  refine r_region ?_
  refine OL.q (Q1.move rfl) rfl rfl ?_
  refine OL.act rfl rfl (AW.callF cl22 rfl (decode_c (w0 := w1) (b := (imgM []))  ((h1.sl).iv (Nat.zero_le _) (by omega)) (by first | assumption | omega)) ?_)
  rintro _ w2 ⟨vg1, _, rfl, ⟨lo1, hi1, hgr_1, hlo1, hhi1⟩, rfl, hm2⟩
  have hl3 := h1.lt
  have f1 := h1.ext hm2
  have hE2 := hE1.ext hm2
  have hs2 := hm2.size
  refine OL.q (Q1.move rfl) rfl rfl ?_
  refine OL.q (Q1.extract rfl rfl) rfl rfl ?_
  refine OL.q (Q1.extract rfl rfl) rfl rfl ?_
  refine OL.q (Q1.assign rfl) rfl rfl ?_
  refine OL.q (Q1.assign rfl) rfl rfl ?_
  refine OL.nil ?_
  refine r_seq ?_
  refine r_region ?_
  refine OL.q (Q1.move rfl) rfl rfl ?_
  refine OL.qb (Q1.eq rfl rfl) rfl rfl ?_
  intro b7 hb5
  obtain rfl : b7 = true := hb5.trans (by (rw [dec_img (by decide)]; rfl))
  refine OL.q (Q1.move rfl) rfl rfl ?_
  refine OL.q (Q1.move rfl) rfl rfl ?_
  have hgr1 := hgr_1
  rcases hgr_1 with ⟨hv1, hN1⟩ | ⟨b8, vn1, nds1, hv1, hN1, hrw1, hsl1, hrel1⟩
  · exact absurd hN1 (by (rw [dec_img (by decide)]; exact gnodes_nn (words := []) (by decide)))
  · subst hv1
    have hnl1 := (All2.get hrel1).1
    refine OL.q (Q1.neNil Try.underlying33 rfl rfl) rfl rfl ?_
    refine OL.q (Q1.pick_t rfl rfl) rfl rfl ?_
    refine OL.q (Q1.move rfl) rfl rfl ?_
    refine OL.q (Q1.move rfl) rfl rfl ?_
    refine OL.act rfl rfl (AW.callF cl30 rfl (nodes_c (w0 := w2)   hgr1 (by omega)) ?_)
    rintro _ w3 ⟨rfl, hm3⟩
    have hl4 := f1.lt
    have f2 := f1.ext hm3
    have f3 := hgr1.ext hm3
    have f4 := hrel1.ext hm3
    have f5 := hsl1.ext hm3
    have f6 := hrw1.ext hm3
    have hE3 := hE2.ext hm3
    have hs3 := hm3.size
    refine OL.qb (Q1.eq rfl rfl) rfl rfl ?_
    intro b9 hb6
    obtain rfl : b9 = true := hb6.trans (by (rw [dec_img (by decide), gnodes_nil rfl]; rfl))
    refine OL.q (Q1.pick_t rfl rfl) rfl rfl ?_
    refine OL.q (Q1.assign rfl) rfl rfl ?_
    refine OL.nil ?_
    refine r_ret1 Try.func14 rfl rfl ?_
    exact Ret.mk ⟨⟨_, (by rfl), rfl⟩, hE3⟩
end Go.Proofs
