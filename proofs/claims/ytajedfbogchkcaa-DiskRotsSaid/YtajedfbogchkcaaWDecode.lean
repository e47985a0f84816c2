/-
  Walks through package pack: what is read.
-/
import Derived.Test.YtajedfbogchkcaaWMade
import Derived.Test.YtajedfbogchkcaaWSum
set_option linter.unusedVariables false
set_option linter.unusedSimpArgs false
namespace Go.Proofs
open Go.Ik Go.Ml
set_option maxRecDepth 20000 in
set_option maxHeartbeats 4000000 in
theorem rdnum_c {w0 : World} {F G : Nat → Prop} {br : Nat} {v_b : Value} {b : List UInt8} (a : Int) (q : Bool) (size : Nat) (hA : (bkR (R := fun _ => False) br [v_b, .int .i64 a, .bool q] 101).p F w0) (hF : ∀ b, F b → b < w0.heap.size) (hb : Sl encB w0 G v_b b) (hG : ∀ b, G b → ¬ F b) (hGl : ∀ b, G b → b < w0.heap.size) (ha : 0 ≤ a ∧ a ≤ b.length) (hbl : b.length ≤ 4000000) (hsz : 1 ≤ size ∧ size ≤ 4) :
    Calls Try.prog 67 #[ptr br 0, .int .i64 (size : Int)] w0 (Ret fun rv w1 => rv = .int .i64 (numR b size (a, q)).1 ∧ Mod F w0 w1 ∧ ∃ F2, (bkR (R := fun _ => False) br [v_b, .int .i64 ((numR b size (a, q)).2.1), .bool (numR b size (a, q)).2.2] 101).p F2 w1 ∧ ∀ b, F2 b → b < w1.heap.size ∧ (F b ∨ w0.heap.size ≤ b)) := by
  have hS00 := St.start1 (R := fun _ => False) hA (fun b hb => ⟨hF b hb, id⟩) (fun _ h => h.elim)
  have hS1 : St (fun _ => False) F w0 w0 [bkR br [v_b, .int .i64 a, .bool q] 101] := hS00
  have hble := hb.le
  refine calls_enter Try.func67 rfl Try.ntmps67 rfl ?_
  refine r_seq ?_
  refine r_region ?_
  refine OL.q (Q1.assign rfl) rfl rfl ?_
  refine OL.nil ?_
  refine r_seq ?_
  refine r_draw1 (fun i => Nat.beq i 9) 15 (fun w' => Mod (Mg 0) w0 w') mixed (by kernel_rfl) ?_
  intro w1 hm1
  have hS2 := hS1.ext hm1
  have hCw1 : Mod (Mg 0) w0 w1 := Mod.ofExt hm1
  refine ⟨hCw1, ?_⟩
  rw [show List.range' 0 (Array.size _) = [0, 1, 2, 3, 4, 5, 6, 7, 8, 9, 10, 11, 12, 13, 14] from rfl]
  refine OD.q rfl rfl (Q1.move rfl) rfl rfl ?_
  refine OD.q rfl rfl (Q1.nilCheckP rfl) rfl rfl ?_
  refine OD.q rfl rfl (Q1.fieldAddr fl101_0 rfl) rfl rfl ?_
  have f1 := hS1.bk (i := 0) rfl
  refine OD.q rfl rfl (Q1.load1 ti25 rfl (fun _ hc => (f1.cell 0 _ rfl).keepG hc (Nat.succ_ne_zero _))) rfl rfl ?_
  refine OD.q rfl rfl (Q1.move rfl) rfl rfl ?_
  refine OD.q rfl rfl (Q1.nilCheckP rfl) rfl rfl ?_
  refine OD.q rfl rfl (Q1.fieldAddr fl101_1 rfl) rfl rfl ?_
  refine OD.q rfl rfl (Q1.load1 ti3 rfl (fun _ hc => (f1.cell 1 _ rfl).keepG hc (Nat.succ_ne_zero _))) rfl rfl ?_
  refine OD.q rfl rfl (Q1.move rfl) rfl rfl ?_
  have f2 := hS2.out hb hG
  refine OD.act rfl rfl rfl rfl (AW.callF cl66 rfl (num4_c (w0 := w1) (b := b) (a) (size) (f2.mono (fun b hb => ⟨Nat.zero_le _, Nat.lt_of_lt_of_le (hGl b hb) hS2.mod.size⟩)) (by first | omega | assumption) (by first | assumption | omega | (simp only [List.length_append, putN_len, List.length_cons, List.length_nil]; omega)) (by first | omega | decide)) ?_)
  rintro _ w2 ⟨_, _, rfl, rfl, ⟨b1, hb1, rfl⟩, hm2⟩
  have hS3 := hS2.ext hm2
  have hCw2 := hCw1.ext hm2
  refine ⟨.inr hCw2, ?_⟩
  have := numV_rng b a size
  refine OD.q rfl rfl (Q1.move rfl) rfl rfl ?_
  refine OD.q rfl rfl (Q1.extract rfl rfl) rfl rfl ?_
  refine OD.q rfl rfl (Q1.extract rfl rfl) rfl rfl ?_
  refine OD.q rfl rfl (Q1.assign rfl) rfl rfl ?_
  refine OD.q rfl rfl (Q1.assign rfl) rfl rfl ?_
  refine OD.nil ?_
  refine r_seq ?_
  refine r_seq ?_
  refine r_region ?_
  refine OL.q (Q1.move rfl) rfl rfl ?_
  cases b1 with
  | true =>
    replace hb1 := hb1.symm
    refine OL.q (Q1.not rfl) rfl rfl ?_
    refine OL.nil ?_
    refine r_cond_f rfl ?_
    refine r_skip ?_
    refine r_seq ?_
    refine r_region ?_
    refine OL.q (Q1.move rfl) rfl rfl ?_
    refine OL.q (Q1.nilCheckP rfl) rfl rfl ?_
    refine OL.q (Q1.fieldAddr fl101_1 rfl) rfl rfl ?_
    have f3 := hS3.bk (i := 0) rfl
    refine OL.q (Q1.load1 ti3 rfl (fun _ e => e ▸ (f3.cell 1 _ rfl))) rfl rfl ?_
    refine OL.q (Q1.move rfl) rfl rfl ?_
    refine OL.q (Q1.addI ((a + (((size : Nat) : Int)))) rfl rfl (by omega)) rfl rfl ?_
    refine OL.q (Q1.nilCheckP rfl) rfl rfl ?_
    refine OL.q (Q1.fieldAddr fl101_1 rfl) rfl rfl ?_
    refine OL.act rfl rfl (AW.store ti3 rfl rfl rfl rfl rfl f3 (Nat.le_of_ble_eq_true rfl) ?_)
    intro w3 hm3 hz1 hk1
    have hS4 : St (fun _ => False) F w0 w3 [bkR br [v_b, .int .i64 ((a + (((size : Nat) : Int)))), .bool q] 101] := hS3.bkK (i := 0) rfl hm3 hk1
    refine OL.nil ?_
    refine r_seq ?_
    refine r_region ?_
    refine OL.q (Q1.move rfl) rfl rfl ?_
    refine OL.q (Q1.assign rfl) rfl rfl ?_
    refine OL.nil ?_
    refine r_ret1 Try.func67 rfl rfl ?_
    obtain ⟨hmF, F2r, hAr, hFr⟩ := hS4.fin
    have hnr : numR b size (a, q) = ((numV b a size), ((a + (((size : Nat) : Int))), q)) := by first | exact numR_yes (by assumption) | exact numR_no (by assumption)
    exact Ret.mk ⟨by first | (rw [hnr]; done) | (rw [hnr]; rfl), hmF, F2r, by rw [hnr]; exact hAr, hFr⟩
  | false =>
    replace hb1 := hb1.symm
    refine OL.q (Q1.not rfl) rfl rfl ?_
    refine OL.nil ?_
    refine r_cond_t rfl ?_
    refine r_seq ?_
    refine r_region ?_
    refine OL.q (Q1.move rfl) rfl rfl ?_
    refine OL.q (Q1.nilCheckP rfl) rfl rfl ?_
    refine OL.q (Q1.fieldAddr fl101_2 rfl) rfl rfl ?_
    have f3 := hS3.bk (i := 0) rfl
    refine OL.act rfl rfl (AW.store ti4 rfl rfl rfl rfl rfl f3 (Nat.le_of_ble_eq_true rfl) ?_)
    intro w3 hm3 hz1 hk1
    have hS4 : St (fun _ => False) F w0 w3 [bkR br [v_b, .int .i64 a, .bool true] 101] := hS3.bkK (i := 0) rfl hm3 hk1
    refine OL.nil ?_
    refine r_seq ?_
    refine r_region ?_
    refine OL.q (Q1.assign rfl) rfl rfl ?_
    refine OL.nil ?_
    refine r_ret1 Try.func67 rfl rfl ?_
    obtain ⟨hmF, F2r, hAr, hFr⟩ := hS4.fin
    have hnr : numR b size (a, q) = (0, (a, true)) := by first | exact numR_yes (by assumption) | exact numR_no (by assumption)
    exact Ret.mk ⟨by first | (rw [hnr]; done) | (rw [hnr]; rfl), hmF, F2r, by rw [hnr]; exact hAr, hFr⟩
set_option maxRecDepth 20000 in
set_option maxHeartbeats 4000000 in
theorem rdnode_c {w0 : World} {F G : Nat → Prop} {br : Nat} {v_b : Value} {b : List UInt8} (a : Int) (q : Bool) (hA : (bkR (R := fun _ => False) br [v_b, .int .i64 a, .bool q] 101).p F w0) (hF : ∀ b, F b → b < w0.heap.size) (hb : Sl encB w0 G v_b b) (hG : ∀ b, G b → ¬ F b) (hGl : ∀ b, G b → b < w0.heap.size) (ha : 0 ≤ a ∧ a ≤ b.length) (hbl : b.length ≤ 4000000) :
    Calls Try.prog 68 #[ptr br 0] w0 (Ret fun rv w1 => ∃ ad cp, rv = .agg #[.bool (nodeR b (a, q)).1.1, .slice ad (nodeR b (a, q)).1.2.length cp] ∧ Mod F w0 w1 ∧ ∃ F2, (boxR (R := fun _ => False) [bkR br [v_b, .int .i64 ((nodeR b (a, q)).2.1), .bool (nodeR b (a, q)).2.2] 101, accR encE 94 2 (.slice ad (nodeR b (a, q)).1.2.length cp) (nodeR b (a, q)).1.2]).p F2 w1 ∧ ∀ b, F2 b → b < w1.heap.size ∧ (F b ∨ w0.heap.size ≤ b)) := by
  have hS00 := St.start1 (R := fun _ => False) hA (fun b hb => ⟨hF b hb, id⟩) (fun _ h => h.elim)
  have hS1 : St (fun _ => False) F w0 w0 [bkR br [v_b, .int .i64 a, .bool q] 101] := hS00
  have hble := hb.le
  refine calls_enter Try.func68 rfl Try.ntmps68 rfl ?_
  refine r_seq ?_
  refine r_region ?_
  refine OL.act rfl rfl (AW.alloc ti105 ?_)
  intro w1 b1 hm1 hb1 hz1 hk1
  have hS2 := hS1.ext hm1
  have hS3 : St (fun _ => False) F w0 w1 [bkR br [v_b, .int .i64 a, .bool q] 101, bkR b1 [.bool false, .slice none 0 0] 105] := hS1.newBk hm1 hb1 hk1
  refine OL.nil ?_
  refine r_seq ?_
  refine r_region ?_
  refine OL.q (Q1.move rfl) rfl rfl ?_
  have f1 := hS3.out hb hG
  obtain ⟨Fy1, hAy1, hFy1, hky1⟩ := hS3.act (i := 0) rfl
  refine OL.act rfl rfl (AW.callF cl67 rfl (rdnum_c (w0 := w1) (G := G) a q 1 hAy1 (fun b hb => (hFy1 b hb).2) f1 (fun b hb hx => by have := (hFy1 b hx).1.1; rcases this with h | h; exact hG b hb h; have := hGl b hb; omega) (fun b hb => Nat.lt_of_lt_of_le (hGl b hb) hS3.mod.size) (by omega) hbl (by omega)) ?_)
  rintro _ w2 ⟨rfl, hm2, F1, hB1, hF1⟩
  obtain ⟨⟨nv1, na1, nq1⟩, hnx1⟩ : ∃ x, x = numR b 1 (a, q) := ⟨_, rfl⟩
  rw [← hnx1] at hB1
  rw [← hnx1]
  dsimp only at hB1 ⊢
  have hnr1 := numR_rng (by omega) (by omega) hnx1.symm
  have hS4 : St (fun _ => False) F w0 w2 [bkR br [v_b, .int .i64 na1, .bool nq1] 101, bkR b1 [.bool false, .slice none 0 0] 105] := hky1 _ _ _ hm2 hB1 hF1
  clear hAy1 hFy1 hky1 hB1 hF1
  have hnb1 := numR_byte hnx1.symm (by omega)
  refine OL.q (Q1.assign rfl) rfl rfl ?_
  refine OL.nil ?_
  refine r_seq ?_
  refine r_region ?_
  refine OL.q (Q1.move rfl) rfl rfl ?_
  refine OL.qb (Q1.eq rfl rfl) rfl rfl ?_
  intro b2 hb2
  refine OL.q (Q1.build (vs := #[(0, (.bool b2 : Value))]) (v := .agg #[.bool b2, .slice none 0 0]) rfl (fun _ => by kernel_rfl)) rfl rfl ?_
  refine OL.act rfl rfl (AW.alloc ti105 ?_)
  intro w3 b3 hm3 hb3 hz2 hk2
  have hS5 := hS4.ext hm3
  have hS6 : St (fun _ => False) F w0 w3 [bkR br [v_b, .int .i64 na1, .bool nq1] 101, bkR b1 [.bool false, .slice none 0 0] 105, bkR b3 [.bool false, .slice none 0 0] 105] := hS4.newBk hm3 hb3 hk2
  have f2 := hS6.bk (i := 2) rfl
  refine OL.act rfl rfl (AW.store ti105 rfl rfl rfl rfl rfl f2 (Nat.le_of_ble_eq_true rfl) ?_)
  intro w4 hm4 hz3 hk3
  have hS7 : St (fun _ => False) F w0 w4 [bkR br [v_b, .int .i64 na1, .bool nq1] 101, bkR b1 [.bool false, .slice none 0 0] 105, bkR b3 [.bool b2, .slice none 0 0] 105] := hS6.bkK (i := 2) rfl hm4 hk3
  refine OL.nil ?_
  refine r_seq ?_
  refine r_region ?_
  refine OL.q (Q1.move rfl) rfl rfl ?_
  refine OL.q (Q1.move rfl) rfl rfl ?_
  refine OL.q (Q1.nilCheckP rfl) rfl rfl ?_
  refine OL.q (Q1.fieldAddr fl101_2 rfl) rfl rfl ?_
  have f3 := hS7.bk (i := 0) rfl
  refine OL.q (Q1.load1 ti4 rfl (fun _ e => e ▸ (f3.cell 2 _ rfl))) rfl rfl ?_
  refine OL.q (Q1.move rfl) rfl rfl ?_
  cases nq1 with
  | true =>
    refine OL.sk rfl rfl ?_
    refine OL.sk rfl rfl ?_
    refine OL.q (Q1.pick_t rfl rfl) rfl rfl ?_
    refine OL.q (Q1.nilCheckP rfl) rfl rfl ?_
    refine OL.q (Q1.fieldAddr fl101_2 rfl) rfl rfl ?_
    refine OL.act rfl rfl (AW.store ti4 rfl rfl rfl rfl rfl f3 (Nat.le_of_ble_eq_true rfl) ?_)
    intro w5 hm5 hz4 hk4
    have hS8 : St (fun _ => False) F w0 w5 [bkR br [v_b, .int .i64 na1, .bool true] 101, bkR b1 [.bool false, .slice none 0 0] 105, bkR b3 [.bool b2, .slice none 0 0] 105] := hS7.bkK (i := 0) rfl hm5 hk4
    refine OL.nil ?_
    refine r_seq ?_
    refine r_seq ?_
    refine r_region ?_
    refine OL.q (Q1.move rfl) rfl rfl ?_
    have f4 := hS8.out hb hG
    obtain ⟨Fy2, hAy2, hFy2, hky2⟩ := hS8.act (i := 0) rfl
    refine OL.act rfl rfl (AW.callF cl67 rfl (rdnum_c (w0 := w5) (G := G) na1 true 2 hAy2 (fun b hb => (hFy2 b hb).2) f4 (fun b hb hx => by have := (hFy2 b hx).1.1; rcases this with h | h; exact hG b hb h; have := hGl b hb; omega) (fun b hb => Nat.lt_of_lt_of_le (hGl b hb) hS8.mod.size) (by omega) hbl (by omega)) ?_)
    rintro _ w6 ⟨rfl, hm6, F2, hB2, hF2⟩
    obtain ⟨⟨nv2, na2, nq2⟩, hnx2⟩ : ∃ x, x = numR b 2 (na1, true) := ⟨_, rfl⟩
    rw [← hnx2] at hB2
    rw [← hnx2]
    dsimp only at hB2 ⊢
    have hnr2 := numR_rng (by omega) (by omega) hnx2.symm
    have hS9 : St (fun _ => False) F w0 w6 [bkR br [v_b, .int .i64 na2, .bool nq2] 101, bkR b1 [.bool false, .slice none 0 0] 105, bkR b3 [.bool b2, .slice none 0 0] 105] := hky2 _ _ _ hm6 hB2 hF2
    clear hAy2 hFy2 hky2 hB2 hF2
    have hnb2 := numR_byte hnx2.symm (by omega)
    have hS10 : St (fun _ => False) F w0 w6 [bkR br [v_b, .int .i64 na2, .bool nq2] 101, bkR b1 [.bool false, .slice none 0 0] 105, bkR b3 [.bool b2, .slice none 0 0] 105, accR encE 94 2 (.slice none 0 0) []] := hS9.newAcc (Mod.refl _ _) Acc.nil (.inl rfl)
    have hS11 : St (fun _ => False) F w0 w6 [bkR br [v_b, .int .i64 na2, .bool nq2] 101, bkR b1 [.bool false, .slice none 0 0] 105, boxR [bkR b3 [.bool b2, .slice none 0 0] 105, accR encE 94 2 (.slice none 0 0) []]] := St.close (L1 := [bkR br [v_b, .int .i64 na2, .bool nq2] 101, bkR b1 [.bool false, .slice none 0 0] 105]) hS10
    have hS12 : St (fun _ => False) F w0 w6 [bkR br [v_b, .int .i64 na2, .bool nq2] 101, bkR b1 [.bool false, .slice none 0 0] 105, nbR 105 94 b3 b2 []] := hS11.exi (.slice none 0 0) (i := 2) rfl
    refine OL.q (Q1.move rfl) rfl rfl ?_
    refine OL.nil ?_
    refine r_block ?_
    refine r_loop (I := fun m E W => ∃ (ak : Int) (qk : Bool) (k : Nat) (es : List Ed), E = [(0, ptr br 0), (2, ptr b1 0), (4, ptr b3 0), (23, .int .i64 nv2), (24, .int .i64 (((k : Nat) : Int)))] ∧ m = nv2.toNat - k ∧ St (fun _ => False) F w0 W [bkR br [v_b, .int .i64 ak, .bool qk] 101, bkR b1 [.bool false, .slice none 0 0] 105, nbR 105 94 b3 b2 es] ∧ (EdsR b nv2.toNat (na2, nq2) k es (ak, qk)) ∧ (0 ≤ ak ∧ ak ≤ b.length) ∧ ((k : Int) ≤ nv2) ∧ (es.length ≤ k)) ?_ ?_
    · refine ⟨_, _, ⟨(na2 : Int), (nq2 : Bool), (0 : Nat), ([] : List Ed), rfl, rfl, hS12, (by exact EdsR.start _ _ _), (by omega), (by omega), (by simp)⟩, ⟨rfl, rfl, rfl, rfl, rfl, trivial⟩⟩
    · rintro _ _ w7 ⟨ak, qk, k, es, rfl, rfl, hS13, hE, hak, hkl, hesl⟩ ih1
      refine r_seq ?_
      refine r_region ?_
      refine OL.qb (Q1.lt rfl rfl) rfl rfl ?_
      intro b4 hb4
      refine OL.nil ?_
      refine r_seq ?_
      cases b4 with
      | true =>
        replace hb4 := of_decide_eq_true hb4.symm
        refine r_cond_t rfl ?_
        refine r_skip ?_
        refine r_seq ?_
        refine r_block ?_
        refine r_seq ?_
        refine r_seq ?_
        refine r_region ?_
        refine OL.q (Q1.move rfl) rfl rfl ?_
        refine OL.q (Q1.nilCheckP rfl) rfl rfl ?_
        refine OL.q (Q1.fieldAddr fl101_2 rfl) rfl rfl ?_
        have f5 := hS13.bk (i := 0) rfl
        refine OL.q (Q1.load1 ti4 rfl (fun _ e => e ▸ (f5.cell 2 _ rfl))) rfl rfl ?_
        refine OL.nil ?_
        cases qk with
        | true =>
          refine r_cond_t rfl ?_
          refine r_exit rfl ?_
          refine r_seq ?_
          refine r_region ?_
          obtain ⟨vb1, hS14⟩ := hS13.exo (i := 2) rfl
          change St (fun _ => False) F w0 w7 [bkR br [v_b, .int .i64 ak, .bool true] 101, bkR b1 [.bool false, .slice none 0 0] 105, boxR [bkR b3 [.bool b2, vb1] 105, accR encE 94 2 vb1 es]] at hS14
          have hS15 : St (fun _ => False) F w0 w7 [bkR br [v_b, .int .i64 ak, .bool true] 101, bkR b1 [.bool false, .slice none 0 0] 105, bkR b3 [.bool b2, vb1] 105, accR encE 94 2 vb1 es] := St.open (L1 := [bkR br [v_b, .int .i64 ak, .bool true] 101, bkR b1 [.bool false, .slice none 0 0] 105]) hS14
          obtain ⟨g1, f6, hl1, k1⟩ := hS15.accK (i := 3) rfl
          obtain ⟨ad1, cp1, hv1⟩ := f6.shape
          subst hv1
          have f7 := hS15.bk (i := 2) rfl
          refine OL.q (Q1.loadN ti105 rfl (fun _ e => e ▸ f7.row) rfl) rfl rfl ?_
          have f8 := hS15.bk (i := 1) rfl
          refine OL.act rfl rfl (AW.store ti105 rfl rfl rfl rfl rfl f8 (Nat.le_of_ble_eq_true rfl) ?_)
          intro w8 hm7 hz5 hk5
          have hS16 : St (fun _ => False) F w0 w8 [bkR br [v_b, .int .i64 ak, .bool true] 101, bkR b1 [.bool b2, (.slice ad1 es.length cp1)] 105, bkR b3 [.bool b2, (.slice ad1 es.length cp1)] 105, accR encE 94 2 ((.slice ad1 es.length cp1)) es] := hS15.bkK (i := 1) rfl hm7 hk5
          refine OL.nil ?_
          have f9 := hS16.bk (i := 1) rfl
          refine r_retC1 Try.func68 rfl rfl ti105 f9.row rfl ?_
          have hS17 : St (fun _ => False) F w0 w8 [bkR b1 [.bool b2, (.slice ad1 es.length cp1)] 105, bkR b3 [.bool b2, (.slice ad1 es.length cp1)] 105, bkR br [v_b, .int .i64 ak, .bool true] 101, accR encE 94 2 ((.slice ad1 es.length cp1)) es] := hS16.sel [1, 2, 0, 3] (by rfl) (by decide)
          have hS18 : St (fun _ => False) F w0 w8 [bkR b1 [.bool b2, (.slice ad1 es.length cp1)] 105, bkR b3 [.bool b2, (.slice ad1 es.length cp1)] 105, boxR [bkR br [v_b, .int .i64 ak, .bool true] 101, accR encE 94 2 ((.slice ad1 es.length cp1)) es]] := St.close (L1 := [bkR b1 [.bool b2, (.slice ad1 es.length cp1)] 105, bkR b3 [.bool b2, (.slice ad1 es.length cp1)] 105]) hS17
          have hS19 : St (fun _ => False) F w0 w8 [boxR [bkR br [v_b, .int .i64 ak, .bool true] 101, accR encE 94 2 ((.slice ad1 es.length cp1)) es]] := hS18.sel [2] (by rfl) (by decide)
          obtain ⟨hmF, F2r, hAr, hFr⟩ := hS19.fin
          have hed : edgesR b nv2.toNat (na2, nq2) = (es, (ak, true)) := by first | exact hE.bad | exact hE.fin (by omega)
          have hnd : nodeR b (a, q) = ((b2, es), (ak, true)) := by first | exact node_eq hnx1 (by first | rfl | (simp; done) | (rw [Bool.false_or]; assumption) | (rw [Bool.true_or])) hnx2 hed (by assumption)
          exact Ret.mk ⟨_, _, by rw [hnd], hmF, F2r, by rw [hnd]; exact hAr, hFr⟩
        | false =>
          refine r_cond_f rfl ?_
          refine r_skip ?_
          refine r_seq ?_
          refine r_region ?_
          refine OL.q (Q1.move rfl) rfl rfl ?_
          have f6 := hS13.out hb hG
          obtain ⟨Fy3, hAy3, hFy3, hky3⟩ := hS13.act (i := 0) rfl
          refine OL.act rfl rfl (AW.callF cl67 rfl (rdnum_c (w0 := w7) (G := G) ak false 4 hAy3 (fun b hb => (hFy3 b hb).2) f6 (fun b hb hx => by have := (hFy3 b hx).1.1; rcases this with h | h; exact hG b hb h; have := hGl b hb; omega) (fun b hb => Nat.lt_of_lt_of_le (hGl b hb) hS13.mod.size) (by omega) hbl (by omega)) ?_)
          rintro _ w8 ⟨rfl, hm7, F3, hB3, hF3⟩
          obtain ⟨⟨nv3, na3, nq3⟩, hnx3⟩ : ∃ x, x = numR b 4 (ak, false) := ⟨_, rfl⟩
          rw [← hnx3] at hB3
          rw [← hnx3]
          dsimp only at hB3 ⊢
          have hnr3 := numR_rng (by omega) (by omega) hnx3.symm
          have hS14 : St (fun _ => False) F w0 w8 [bkR br [v_b, .int .i64 na3, .bool nq3] 101, bkR b1 [.bool false, .slice none 0 0] 105, nbR 105 94 b3 b2 es] := hky3 _ _ _ hm7 hB3 hF3
          clear hAy3 hFy3 hky3 hB3 hF3
          refine OL.q (Q1.assign rfl) rfl rfl ?_
          refine OL.nil ?_
          refine r_seq ?_
          refine r_region ?_
          refine OL.q (Q1.move rfl) rfl rfl ?_
          refine OL.q (Q1.move rfl) rfl rfl ?_
          refine OL.q (Q1.nilCheckP rfl) rfl rfl ?_
          refine OL.q (Q1.fieldAddr fl101_2 rfl) rfl rfl ?_
          have f7 := hS14.bk (i := 0) rfl
          refine OL.q (Q1.load1 ti4 rfl (fun _ e => e ▸ (f7.cell 2 _ rfl))) rfl rfl ?_
          refine OL.q (Q1.move rfl) rfl rfl ?_
          cases nq3 with
          | true =>
            refine OL.sk rfl rfl ?_
            refine OL.sk rfl rfl ?_
            refine OL.q (Q1.pick_t rfl rfl) rfl rfl ?_
            refine OL.q (Q1.nilCheckP rfl) rfl rfl ?_
            refine OL.q (Q1.fieldAddr fl101_2 rfl) rfl rfl ?_
            refine OL.act rfl rfl (AW.store ti4 rfl rfl rfl rfl rfl f7 (Nat.le_of_ble_eq_true rfl) ?_)
            intro w9 hm8 hz5 hk5
            have hS15 : St (fun _ => False) F w0 w9 [bkR br [v_b, .int .i64 na3, .bool true] 101, bkR b1 [.bool false, .slice none 0 0] 105, nbR 105 94 b3 b2 es] := hS14.bkK (i := 0) rfl hm8 hk5
            refine OL.nil ?_
            obtain ⟨vb1, hS16⟩ := hS15.exo (i := 2) rfl
            change St (fun _ => False) F w0 w9 [bkR br [v_b, .int .i64 na3, .bool true] 101, bkR b1 [.bool false, .slice none 0 0] 105, boxR [bkR b3 [.bool b2, vb1] 105, accR encE 94 2 vb1 es]] at hS16
            have hS17 : St (fun _ => False) F w0 w9 [bkR br [v_b, .int .i64 na3, .bool true] 101, bkR b1 [.bool false, .slice none 0 0] 105, bkR b3 [.bool b2, vb1] 105, accR encE 94 2 vb1 es] := St.open (L1 := [bkR br [v_b, .int .i64 na3, .bool true] 101, bkR b1 [.bool false, .slice none 0 0] 105]) hS16
            refine r_draw1 (fun i => Nat.beq i 5 || Nat.beq i 7 || Nat.beq i 8 || Nat.beq i 10) 10 (fun w' => Row w' b3 1 [vb1]) mixed (by kernel_rfl) ?_
            intro w10 hm9
            have hS18 := hS17.ext hm9
            have f8 := hS18.bk (i := 2) rfl
            refine ⟨(f8.cell 1 _ rfl), ?_⟩
            rw [show List.range' 0 (Array.size _) = [0, 1, 2, 3, 4, 5, 6, 7, 8, 9, 10] from rfl]
            refine OD.q rfl rfl (Q1.fieldAddr fl105_1 rfl) rfl rfl ?_
            have f9 := hS17.bk (i := 2) rfl
            refine OD.q rfl rfl (Q1.load1 ti49 rfl (fun _ hc => hc)) rfl rfl ?_
            refine OD.q rfl rfl (Q1.move rfl) rfl rfl ?_
            refine OD.q rfl rfl (Q1.convI (by kernel_rfl) Try.underlying21 rfl) rfl rfl ?_
            refine OD.q rfl rfl (Q1.move rfl) rfl rfl ?_
            have f10 := hS18.out hb hG
            obtain ⟨Fy4, hAy4, hFy4, hky4⟩ := hS18.act (i := 0) rfl
            refine OD.act rfl rfl rfl rfl (AW.callF cl67 rfl (rdnum_c (w0 := w10) (G := G) na3 true 2 hAy4 (fun b hb => (hFy4 b hb).2) f10 (fun b hb hx => by have := (hFy4 b hx).1.1; rcases this with h | h; exact hG b hb h; have := hGl b hb; omega) (fun b hb => Nat.lt_of_lt_of_le (hGl b hb) hS18.mod.size) (by omega) hbl (by omega)) ?_)
            rintro _ w11 ⟨rfl, hm10, F4, hB4, hF4⟩
            obtain ⟨⟨nv4, na4, nq4⟩, hnx4⟩ : ∃ x, x = numR b 2 (na3, true) := ⟨_, rfl⟩
            rw [← hnx4] at hB4
            rw [← hnx4]
            dsimp only at hB4 ⊢
            have hnr4 := numR_rng (by omega) (by omega) hnx4.symm
            have hS19 : St (fun _ => False) F w0 w11 [bkR br [v_b, .int .i64 na4, .bool nq4] 101, bkR b1 [.bool false, .slice none 0 0] 105, bkR b3 [.bool b2, vb1] 105, accR encE 94 2 vb1 es] := hky4 _ _ _ hm10 hB4 hF4
            clear hAy4 hFy4 hky4 hB4 hF4
            have hnb3 := numR_byte hnx4.symm (by omega)
            have f11 := hS19.bk (i := 2) rfl
            refine ⟨.inr (f11.cell 1 _ rfl), ?_⟩
            refine OD.q rfl rfl (Q1.build (vs := #[(0, (.int .i32 ((IntKind.i32.wrap nv3)) : Value)), (1, (.int .i64 nv4 : Value))]) (v := .agg #[.int .i32 ((IntKind.i32.wrap nv3)), .int .i64 nv4]) rfl (fun _ => by kernel_rfl)) rfl rfl ?_
            refine OD.act rfl rfl rfl rfl (AW.buildSlice [(.agg #[.int .i32 ((IntKind.i32.wrap nv3)), .int .i64 nv4] : Value)] Try.underlying49 ti94 rfl rfl rfl (by decide) ?_)
            intro w12 b5 hm11 hb5 hz6 hk6
            have hS20 := hS19.ext hm11
            have hl1 := Sl.of_blk (enc := encE) hk6 ([(Ed.mk ((IntKind.i32.wrap nv3)) nv4)] : List Ed) 1 rfl rfl (by unfold maxLen; omega)
            have hS21 : St (fun _ => False) F w0 w12 [bkR br [v_b, .int .i64 na4, .bool nq4] 101, bkR b1 [.bool false, .slice none 0 0] 105, bkR b3 [.bool b2, vb1] 105, accR encE 94 2 vb1 es, slR encE [((.slice (some ⟨b5, 0, none⟩) 1 1), [(Ed.mk ((IntKind.i32.wrap nv3)) nv4)])]] := hS19.newSlB hm11 hb5 hz6 hl1
            have f12 := hS21.bk (i := 2) rfl
            refine ⟨.inr (f12.cell 1 _ rfl), ?_⟩
            obtain ⟨g2, f13, hl2, k1⟩ := hS21.accK (i := 3) rfl
            have f14 := hS21.sl (i := 4) (k := 0) rfl rfl
            refine OD.act rfl rfl rfl rfl (AW.append f13 Try.underlying49 ti94 rfl encE_len encE_one rfl rfl (f14) (by first | omega | (simp only [List.length_append, List.length_cons, List.length_nil]; omega) | (simp; omega)) (by unfold maxLen; first | omega | (simp only [List.length_append, List.length_cons, List.length_nil]; omega) | (simp; omega)) ?_)
            intro v1 g1 w13 ha1 hm12 hg1 hz7
            have hS22 : St (fun _ => False) F w0 w13 [bkR br [v_b, .int .i64 na4, .bool nq4] 101, bkR b1 [.bool false, .slice none 0 0] 105, bkR b3 [.bool b2, vb1] 105, accR encE 94 2 v1 ((es ++ [(Ed.mk ((IntKind.i32.wrap nv3)) nv4)])), slR encE [((.slice (some ⟨b5, 0, none⟩) 1 1), [(Ed.mk ((IntKind.i32.wrap nv3)) nv4)])]] := k1 _ _ _ _ hm12 ha1 hg1
            have f15 := hS22.bk (i := 2) rfl
            refine ⟨.inr (f15.cell 1 _ rfl), ?_⟩
            clear hg1
            refine OD.q rfl rfl (Q1.fieldAddr fl105_1 rfl) rfl rfl ?_
            obtain ⟨g3, f16, hl3, k2⟩ := hS22.accK (i := 3) rfl
            obtain ⟨ad1, cp1, hv1⟩ := f16.shape
            subst hv1
            refine OD.act rfl rfl rfl rfl (AW.store ti49 rfl rfl rfl rfl rfl f15 (Nat.le_of_ble_eq_true rfl) ?_)
            intro w14 hm13 hz8 hk7
            have hS23 : St (fun _ => False) F w0 w14 [bkR br [v_b, .int .i64 na4, .bool nq4] 101, bkR b1 [.bool false, .slice none 0 0] 105, bkR b3 [.bool b2, (.slice ad1 ((es ++ [(Ed.mk ((IntKind.i32.wrap nv3)) nv4)])).length cp1)] 105, accR encE 94 2 ((.slice ad1 ((es ++ [(Ed.mk ((IntKind.i32.wrap nv3)) nv4)])).length cp1)) ((es ++ [(Ed.mk ((IntKind.i32.wrap nv3)) nv4)])), slR encE [((.slice (some ⟨b5, 0, none⟩) 1 1), [(Ed.mk ((IntKind.i32.wrap nv3)) nv4)])]] := hS22.bkK (i := 2) rfl hm13 hk7
            refine ⟨.inl rfl, ?_⟩
            refine OD.nil ?_
            refine r_inBlock ?_
            refine r_region ?_
            have hS24 : St (fun _ => False) F w0 w14 [bkR br [v_b, .int .i64 na4, .bool nq4] 101, bkR b1 [.bool false, .slice none 0 0] 105, slR encE [((.slice (some ⟨b5, 0, none⟩) 1 1), [(Ed.mk ((IntKind.i32.wrap nv3)) nv4)])], bkR b3 [.bool b2, (.slice ad1 ((es ++ [(Ed.mk ((IntKind.i32.wrap nv3)) nv4)])).length cp1)] 105, accR encE 94 2 ((.slice ad1 ((es ++ [(Ed.mk ((IntKind.i32.wrap nv3)) nv4)])).length cp1)) ((es ++ [(Ed.mk ((IntKind.i32.wrap nv3)) nv4)]))] := hS23.sel [0, 1, 4, 2, 3] (by rfl) (by decide)
            have hS25 : St (fun _ => False) F w0 w14 [bkR br [v_b, .int .i64 na4, .bool nq4] 101, bkR b1 [.bool false, .slice none 0 0] 105, slR encE [((.slice (some ⟨b5, 0, none⟩) 1 1), [(Ed.mk ((IntKind.i32.wrap nv3)) nv4)])], boxR [bkR b3 [.bool b2, (.slice ad1 ((es ++ [(Ed.mk ((IntKind.i32.wrap nv3)) nv4)])).length cp1)] 105, accR encE 94 2 ((.slice ad1 ((es ++ [(Ed.mk ((IntKind.i32.wrap nv3)) nv4)])).length cp1)) ((es ++ [(Ed.mk ((IntKind.i32.wrap nv3)) nv4)]))]] := St.close (L1 := [bkR br [v_b, .int .i64 na4, .bool nq4] 101, bkR b1 [.bool false, .slice none 0 0] 105, slR encE [((.slice (some ⟨b5, 0, none⟩) 1 1), [(Ed.mk ((IntKind.i32.wrap nv3)) nv4)])]]) hS24
            have hS26 : St (fun _ => False) F w0 w14 [bkR br [v_b, .int .i64 na4, .bool nq4] 101, bkR b1 [.bool false, .slice none 0 0] 105, slR encE [((.slice (some ⟨b5, 0, none⟩) 1 1), [(Ed.mk ((IntKind.i32.wrap nv3)) nv4)])], nbR 105 94 b3 b2 ((es ++ [(Ed.mk ((IntKind.i32.wrap nv3)) nv4)]))] := hS25.exi (.slice ad1 ((es ++ [(Ed.mk ((IntKind.i32.wrap nv3)) nv4)])).length cp1) (i := 3) rfl
            refine OL.q (Q1.addI (((k + 1 : Nat) : Int)) rfl rfl (by omega)) rfl rfl ?_
            refine OL.q (Q1.move rfl) rfl rfl ?_
            refine OL.nil ?_
            have hS27 : St (fun _ => False) F w0 w14 [bkR br [v_b, .int .i64 na4, .bool nq4] 101, bkR b1 [.bool false, .slice none 0 0] 105, nbR 105 94 b3 b2 ((es ++ [(Ed.mk ((IntKind.i32.wrap nv3)) nv4)]))] := hS26.sel [0, 1, 3] (by rfl) (by decide)
            exact (ih1 _ _ _ ⟨(na4 : Int), (nq4 : Bool), (k + 1 : Nat), ((es ++ [(Ed.mk ((IntKind.i32.wrap nv3)) nv4)]) : List Ed), rfl, rfl, hS27, (by first | exact hE.step (by omega) (edge_eq hnx3 (by first | rfl | (simp; done) | (rw [Bool.false_or]; assumption) | (rw [Bool.true_or])) hnx4) | (exfalso; omega)), (by first | omega | (exfalso; omega)), (by first | omega | (exfalso; omega)), (by first | (simp only [List.length_append, List.length_cons, List.length_nil]; omega) | (exfalso; omega))⟩ (by omega)).sub ⟨rfl, rfl, rfl, rfl, rfl, trivial⟩
          | false =>
            refine OL.q (Q1.move rfl) rfl rfl ?_
            refine OL.qb (Q1.gt rfl rfl) rfl rfl ?_
            intro b5 hb5
            refine OL.q (Q1.pick_f rfl rfl) rfl rfl ?_
            refine OL.q (Q1.nilCheckP rfl) rfl rfl ?_
            refine OL.q (Q1.fieldAddr fl101_2 rfl) rfl rfl ?_
            refine OL.act rfl rfl (AW.store ti4 rfl rfl rfl rfl rfl f7 (Nat.le_of_ble_eq_true rfl) ?_)
            intro w9 hm8 hz5 hk5
            have hS15 : St (fun _ => False) F w0 w9 [bkR br [v_b, .int .i64 na3, .bool b5] 101, bkR b1 [.bool false, .slice none 0 0] 105, nbR 105 94 b3 b2 es] := hS14.bkK (i := 0) rfl hm8 hk5
            refine OL.nil ?_
            obtain ⟨vb1, hS16⟩ := hS15.exo (i := 2) rfl
            change St (fun _ => False) F w0 w9 [bkR br [v_b, .int .i64 na3, .bool b5] 101, bkR b1 [.bool false, .slice none 0 0] 105, boxR [bkR b3 [.bool b2, vb1] 105, accR encE 94 2 vb1 es]] at hS16
            have hS17 : St (fun _ => False) F w0 w9 [bkR br [v_b, .int .i64 na3, .bool b5] 101, bkR b1 [.bool false, .slice none 0 0] 105, bkR b3 [.bool b2, vb1] 105, accR encE 94 2 vb1 es] := St.open (L1 := [bkR br [v_b, .int .i64 na3, .bool b5] 101, bkR b1 [.bool false, .slice none 0 0] 105]) hS16
            refine r_draw1 (fun i => Nat.beq i 5 || Nat.beq i 7 || Nat.beq i 8 || Nat.beq i 10) 10 (fun w' => Row w' b3 1 [vb1]) mixed (by kernel_rfl) ?_
            intro w10 hm9
            have hS18 := hS17.ext hm9
            have f8 := hS18.bk (i := 2) rfl
            refine ⟨(f8.cell 1 _ rfl), ?_⟩
            rw [show List.range' 0 (Array.size _) = [0, 1, 2, 3, 4, 5, 6, 7, 8, 9, 10] from rfl]
            refine OD.q rfl rfl (Q1.fieldAddr fl105_1 rfl) rfl rfl ?_
            have f9 := hS17.bk (i := 2) rfl
            refine OD.q rfl rfl (Q1.load1 ti49 rfl (fun _ hc => hc)) rfl rfl ?_
            refine OD.q rfl rfl (Q1.move rfl) rfl rfl ?_
            refine OD.q rfl rfl (Q1.convI (by kernel_rfl) Try.underlying21 rfl) rfl rfl ?_
            refine OD.q rfl rfl (Q1.move rfl) rfl rfl ?_
            have f10 := hS18.out hb hG
            obtain ⟨Fy4, hAy4, hFy4, hky4⟩ := hS18.act (i := 0) rfl
            refine OD.act rfl rfl rfl rfl (AW.callF cl67 rfl (rdnum_c (w0 := w10) (G := G) na3 b5 2 hAy4 (fun b hb => (hFy4 b hb).2) f10 (fun b hb hx => by have := (hFy4 b hx).1.1; rcases this with h | h; exact hG b hb h; have := hGl b hb; omega) (fun b hb => Nat.lt_of_lt_of_le (hGl b hb) hS18.mod.size) (by omega) hbl (by omega)) ?_)
            rintro _ w11 ⟨rfl, hm10, F4, hB4, hF4⟩
            obtain ⟨⟨nv4, na4, nq4⟩, hnx4⟩ : ∃ x, x = numR b 2 (na3, b5) := ⟨_, rfl⟩
            rw [← hnx4] at hB4
            rw [← hnx4]
            dsimp only at hB4 ⊢
            have hnr4 := numR_rng (by omega) (by omega) hnx4.symm
            have hS19 : St (fun _ => False) F w0 w11 [bkR br [v_b, .int .i64 na4, .bool nq4] 101, bkR b1 [.bool false, .slice none 0 0] 105, bkR b3 [.bool b2, vb1] 105, accR encE 94 2 vb1 es] := hky4 _ _ _ hm10 hB4 hF4
            clear hAy4 hFy4 hky4 hB4 hF4
            have hnb3 := numR_byte hnx4.symm (by omega)
            have f11 := hS19.bk (i := 2) rfl
            refine ⟨.inr (f11.cell 1 _ rfl), ?_⟩
            refine OD.q rfl rfl (Q1.build (vs := #[(0, (.int .i32 ((IntKind.i32.wrap nv3)) : Value)), (1, (.int .i64 nv4 : Value))]) (v := .agg #[.int .i32 ((IntKind.i32.wrap nv3)), .int .i64 nv4]) rfl (fun _ => by kernel_rfl)) rfl rfl ?_
            refine OD.act rfl rfl rfl rfl (AW.buildSlice [(.agg #[.int .i32 ((IntKind.i32.wrap nv3)), .int .i64 nv4] : Value)] Try.underlying49 ti94 rfl rfl rfl (by decide) ?_)
            intro w12 b6 hm11 hb6 hz6 hk6
            have hS20 := hS19.ext hm11
            have hl1 := Sl.of_blk (enc := encE) hk6 ([(Ed.mk ((IntKind.i32.wrap nv3)) nv4)] : List Ed) 1 rfl rfl (by unfold maxLen; omega)
            have hS21 : St (fun _ => False) F w0 w12 [bkR br [v_b, .int .i64 na4, .bool nq4] 101, bkR b1 [.bool false, .slice none 0 0] 105, bkR b3 [.bool b2, vb1] 105, accR encE 94 2 vb1 es, slR encE [((.slice (some ⟨b6, 0, none⟩) 1 1), [(Ed.mk ((IntKind.i32.wrap nv3)) nv4)])]] := hS19.newSlB hm11 hb6 hz6 hl1
            have f12 := hS21.bk (i := 2) rfl
            refine ⟨.inr (f12.cell 1 _ rfl), ?_⟩
            obtain ⟨g2, f13, hl2, k1⟩ := hS21.accK (i := 3) rfl
            have f14 := hS21.sl (i := 4) (k := 0) rfl rfl
            refine OD.act rfl rfl rfl rfl (AW.append f13 Try.underlying49 ti94 rfl encE_len encE_one rfl rfl (f14) (by first | omega | (simp only [List.length_append, List.length_cons, List.length_nil]; omega) | (simp; omega)) (by unfold maxLen; first | omega | (simp only [List.length_append, List.length_cons, List.length_nil]; omega) | (simp; omega)) ?_)
            intro v1 g1 w13 ha1 hm12 hg1 hz7
            have hS22 : St (fun _ => False) F w0 w13 [bkR br [v_b, .int .i64 na4, .bool nq4] 101, bkR b1 [.bool false, .slice none 0 0] 105, bkR b3 [.bool b2, vb1] 105, accR encE 94 2 v1 ((es ++ [(Ed.mk ((IntKind.i32.wrap nv3)) nv4)])), slR encE [((.slice (some ⟨b6, 0, none⟩) 1 1), [(Ed.mk ((IntKind.i32.wrap nv3)) nv4)])]] := k1 _ _ _ _ hm12 ha1 hg1
            have f15 := hS22.bk (i := 2) rfl
            refine ⟨.inr (f15.cell 1 _ rfl), ?_⟩
            clear hg1
            refine OD.q rfl rfl (Q1.fieldAddr fl105_1 rfl) rfl rfl ?_
            obtain ⟨g3, f16, hl3, k2⟩ := hS22.accK (i := 3) rfl
            obtain ⟨ad1, cp1, hv1⟩ := f16.shape
            subst hv1
            refine OD.act rfl rfl rfl rfl (AW.store ti49 rfl rfl rfl rfl rfl f15 (Nat.le_of_ble_eq_true rfl) ?_)
            intro w14 hm13 hz8 hk7
            have hS23 : St (fun _ => False) F w0 w14 [bkR br [v_b, .int .i64 na4, .bool nq4] 101, bkR b1 [.bool false, .slice none 0 0] 105, bkR b3 [.bool b2, (.slice ad1 ((es ++ [(Ed.mk ((IntKind.i32.wrap nv3)) nv4)])).length cp1)] 105, accR encE 94 2 ((.slice ad1 ((es ++ [(Ed.mk ((IntKind.i32.wrap nv3)) nv4)])).length cp1)) ((es ++ [(Ed.mk ((IntKind.i32.wrap nv3)) nv4)])), slR encE [((.slice (some ⟨b6, 0, none⟩) 1 1), [(Ed.mk ((IntKind.i32.wrap nv3)) nv4)])]] := hS22.bkK (i := 2) rfl hm13 hk7
            refine ⟨.inl rfl, ?_⟩
            refine OD.nil ?_
            refine r_inBlock ?_
            refine r_region ?_
            have hS24 : St (fun _ => False) F w0 w14 [bkR br [v_b, .int .i64 na4, .bool nq4] 101, bkR b1 [.bool false, .slice none 0 0] 105, slR encE [((.slice (some ⟨b6, 0, none⟩) 1 1), [(Ed.mk ((IntKind.i32.wrap nv3)) nv4)])], bkR b3 [.bool b2, (.slice ad1 ((es ++ [(Ed.mk ((IntKind.i32.wrap nv3)) nv4)])).length cp1)] 105, accR encE 94 2 ((.slice ad1 ((es ++ [(Ed.mk ((IntKind.i32.wrap nv3)) nv4)])).length cp1)) ((es ++ [(Ed.mk ((IntKind.i32.wrap nv3)) nv4)]))] := hS23.sel [0, 1, 4, 2, 3] (by rfl) (by decide)
            have hS25 : St (fun _ => False) F w0 w14 [bkR br [v_b, .int .i64 na4, .bool nq4] 101, bkR b1 [.bool false, .slice none 0 0] 105, slR encE [((.slice (some ⟨b6, 0, none⟩) 1 1), [(Ed.mk ((IntKind.i32.wrap nv3)) nv4)])], boxR [bkR b3 [.bool b2, (.slice ad1 ((es ++ [(Ed.mk ((IntKind.i32.wrap nv3)) nv4)])).length cp1)] 105, accR encE 94 2 ((.slice ad1 ((es ++ [(Ed.mk ((IntKind.i32.wrap nv3)) nv4)])).length cp1)) ((es ++ [(Ed.mk ((IntKind.i32.wrap nv3)) nv4)]))]] := St.close (L1 := [bkR br [v_b, .int .i64 na4, .bool nq4] 101, bkR b1 [.bool false, .slice none 0 0] 105, slR encE [((.slice (some ⟨b6, 0, none⟩) 1 1), [(Ed.mk ((IntKind.i32.wrap nv3)) nv4)])]]) hS24
            have hS26 : St (fun _ => False) F w0 w14 [bkR br [v_b, .int .i64 na4, .bool nq4] 101, bkR b1 [.bool false, .slice none 0 0] 105, slR encE [((.slice (some ⟨b6, 0, none⟩) 1 1), [(Ed.mk ((IntKind.i32.wrap nv3)) nv4)])], nbR 105 94 b3 b2 ((es ++ [(Ed.mk ((IntKind.i32.wrap nv3)) nv4)]))] := hS25.exi (.slice ad1 ((es ++ [(Ed.mk ((IntKind.i32.wrap nv3)) nv4)])).length cp1) (i := 3) rfl
            refine OL.q (Q1.addI (((k + 1 : Nat) : Int)) rfl rfl (by omega)) rfl rfl ?_
            refine OL.q (Q1.move rfl) rfl rfl ?_
            refine OL.nil ?_
            have hS27 : St (fun _ => False) F w0 w14 [bkR br [v_b, .int .i64 na4, .bool nq4] 101, bkR b1 [.bool false, .slice none 0 0] 105, nbR 105 94 b3 b2 ((es ++ [(Ed.mk ((IntKind.i32.wrap nv3)) nv4)]))] := hS26.sel [0, 1, 3] (by rfl) (by decide)
            exact (ih1 _ _ _ ⟨(na4 : Int), (nq4 : Bool), (k + 1 : Nat), ((es ++ [(Ed.mk ((IntKind.i32.wrap nv3)) nv4)]) : List Ed), rfl, rfl, hS27, (by first | exact hE.step (by omega) (edge_eq hnx3 (by first | rfl | (simp; done) | (rw [Bool.false_or]; assumption) | (rw [Bool.true_or])) hnx4) | (exfalso; omega)), (by first | omega | (exfalso; omega)), (by first | omega | (exfalso; omega)), (by first | (simp only [List.length_append, List.length_cons, List.length_nil]; omega) | (exfalso; omega))⟩ (by omega)).sub ⟨rfl, rfl, rfl, rfl, rfl, trivial⟩
      | false =>
        replace hb4 := of_decide_eq_false hb4.symm
        refine r_cond_f rfl ?_
        refine r_exit rfl ?_
        refine r_seq ?_
        refine r_region ?_
        obtain ⟨vb1, hS14⟩ := hS13.exo (i := 2) rfl
        change St (fun _ => False) F w0 w7 [bkR br [v_b, .int .i64 ak, .bool qk] 101, bkR b1 [.bool false, .slice none 0 0] 105, boxR [bkR b3 [.bool b2, vb1] 105, accR encE 94 2 vb1 es]] at hS14
        have hS15 : St (fun _ => False) F w0 w7 [bkR br [v_b, .int .i64 ak, .bool qk] 101, bkR b1 [.bool false, .slice none 0 0] 105, bkR b3 [.bool b2, vb1] 105, accR encE 94 2 vb1 es] := St.open (L1 := [bkR br [v_b, .int .i64 ak, .bool qk] 101, bkR b1 [.bool false, .slice none 0 0] 105]) hS14
        obtain ⟨g1, f5, hl1, k1⟩ := hS15.accK (i := 3) rfl
        obtain ⟨ad1, cp1, hv1⟩ := f5.shape
        subst hv1
        have f6 := hS15.bk (i := 2) rfl
        refine OL.q (Q1.loadN ti105 rfl (fun _ e => e ▸ f6.row) rfl) rfl rfl ?_
        have f7 := hS15.bk (i := 1) rfl
        refine OL.act rfl rfl (AW.store ti105 rfl rfl rfl rfl rfl f7 (Nat.le_of_ble_eq_true rfl) ?_)
        intro w8 hm7 hz5 hk5
        have hS16 : St (fun _ => False) F w0 w8 [bkR br [v_b, .int .i64 ak, .bool qk] 101, bkR b1 [.bool b2, (.slice ad1 es.length cp1)] 105, bkR b3 [.bool b2, (.slice ad1 es.length cp1)] 105, accR encE 94 2 ((.slice ad1 es.length cp1)) es] := hS15.bkK (i := 1) rfl hm7 hk5
        refine OL.nil ?_
        have f8 := hS16.bk (i := 1) rfl
        refine r_retC1 Try.func68 rfl rfl ti105 f8.row rfl ?_
        have hS17 : St (fun _ => False) F w0 w8 [bkR b1 [.bool b2, (.slice ad1 es.length cp1)] 105, bkR b3 [.bool b2, (.slice ad1 es.length cp1)] 105, bkR br [v_b, .int .i64 ak, .bool qk] 101, accR encE 94 2 ((.slice ad1 es.length cp1)) es] := hS16.sel [1, 2, 0, 3] (by rfl) (by decide)
        have hS18 : St (fun _ => False) F w0 w8 [bkR b1 [.bool b2, (.slice ad1 es.length cp1)] 105, bkR b3 [.bool b2, (.slice ad1 es.length cp1)] 105, boxR [bkR br [v_b, .int .i64 ak, .bool qk] 101, accR encE 94 2 ((.slice ad1 es.length cp1)) es]] := St.close (L1 := [bkR b1 [.bool b2, (.slice ad1 es.length cp1)] 105, bkR b3 [.bool b2, (.slice ad1 es.length cp1)] 105]) hS17
        have hS19 : St (fun _ => False) F w0 w8 [boxR [bkR br [v_b, .int .i64 ak, .bool qk] 101, accR encE 94 2 ((.slice ad1 es.length cp1)) es]] := hS18.sel [2] (by rfl) (by decide)
        obtain ⟨hmF, F2r, hAr, hFr⟩ := hS19.fin
        have hed : edgesR b nv2.toNat (na2, nq2) = (es, (ak, qk)) := by first | exact hE.bad | exact hE.fin (by omega)
        have hnd : nodeR b (a, q) = ((b2, es), (ak, qk)) := by first | exact node_eq hnx1 (by first | rfl | (simp; done) | (rw [Bool.false_or]; assumption) | (rw [Bool.true_or])) hnx2 hed (by assumption)
        exact Ret.mk ⟨_, _, by rw [hnd], hmF, F2r, by rw [hnd]; exact hAr, hFr⟩
  | false =>
    refine OL.q (Q1.move rfl) rfl rfl ?_
    refine OL.qb (Q1.gt rfl rfl) rfl rfl ?_
    intro b4 hb4
    refine OL.q (Q1.pick_f rfl rfl) rfl rfl ?_
    refine OL.q (Q1.nilCheckP rfl) rfl rfl ?_
    refine OL.q (Q1.fieldAddr fl101_2 rfl) rfl rfl ?_
    refine OL.act rfl rfl (AW.store ti4 rfl rfl rfl rfl rfl f3 (Nat.le_of_ble_eq_true rfl) ?_)
    intro w5 hm5 hz4 hk4
    have hS8 : St (fun _ => False) F w0 w5 [bkR br [v_b, .int .i64 na1, .bool b4] 101, bkR b1 [.bool false, .slice none 0 0] 105, bkR b3 [.bool b2, .slice none 0 0] 105] := hS7.bkK (i := 0) rfl hm5 hk4
    refine OL.nil ?_
    refine r_seq ?_
    refine r_seq ?_
    refine r_region ?_
    refine OL.q (Q1.move rfl) rfl rfl ?_
    have f4 := hS8.out hb hG
    obtain ⟨Fy2, hAy2, hFy2, hky2⟩ := hS8.act (i := 0) rfl
    refine OL.act rfl rfl (AW.callF cl67 rfl (rdnum_c (w0 := w5) (G := G) na1 b4 2 hAy2 (fun b hb => (hFy2 b hb).2) f4 (fun b hb hx => by have := (hFy2 b hx).1.1; rcases this with h | h; exact hG b hb h; have := hGl b hb; omega) (fun b hb => Nat.lt_of_lt_of_le (hGl b hb) hS8.mod.size) (by omega) hbl (by omega)) ?_)
    rintro _ w6 ⟨rfl, hm6, F2, hB2, hF2⟩
    obtain ⟨⟨nv2, na2, nq2⟩, hnx2⟩ : ∃ x, x = numR b 2 (na1, b4) := ⟨_, rfl⟩
    rw [← hnx2] at hB2
    rw [← hnx2]
    dsimp only at hB2 ⊢
    have hnr2 := numR_rng (by omega) (by omega) hnx2.symm
    have hS9 : St (fun _ => False) F w0 w6 [bkR br [v_b, .int .i64 na2, .bool nq2] 101, bkR b1 [.bool false, .slice none 0 0] 105, bkR b3 [.bool b2, .slice none 0 0] 105] := hky2 _ _ _ hm6 hB2 hF2
    clear hAy2 hFy2 hky2 hB2 hF2
    have hnb2 := numR_byte hnx2.symm (by omega)
    have hS10 : St (fun _ => False) F w0 w6 [bkR br [v_b, .int .i64 na2, .bool nq2] 101, bkR b1 [.bool false, .slice none 0 0] 105, bkR b3 [.bool b2, .slice none 0 0] 105, accR encE 94 2 (.slice none 0 0) []] := hS9.newAcc (Mod.refl _ _) Acc.nil (.inl rfl)
    have hS11 : St (fun _ => False) F w0 w6 [bkR br [v_b, .int .i64 na2, .bool nq2] 101, bkR b1 [.bool false, .slice none 0 0] 105, boxR [bkR b3 [.bool b2, .slice none 0 0] 105, accR encE 94 2 (.slice none 0 0) []]] := St.close (L1 := [bkR br [v_b, .int .i64 na2, .bool nq2] 101, bkR b1 [.bool false, .slice none 0 0] 105]) hS10
    have hS12 : St (fun _ => False) F w0 w6 [bkR br [v_b, .int .i64 na2, .bool nq2] 101, bkR b1 [.bool false, .slice none 0 0] 105, nbR 105 94 b3 b2 []] := hS11.exi (.slice none 0 0) (i := 2) rfl
    refine OL.q (Q1.move rfl) rfl rfl ?_
    refine OL.nil ?_
    refine r_block ?_
    refine r_loop (I := fun m E W => ∃ (ak : Int) (qk : Bool) (k : Nat) (es : List Ed), E = [(0, ptr br 0), (2, ptr b1 0), (4, ptr b3 0), (23, .int .i64 nv2), (24, .int .i64 (((k : Nat) : Int)))] ∧ m = nv2.toNat - k ∧ St (fun _ => False) F w0 W [bkR br [v_b, .int .i64 ak, .bool qk] 101, bkR b1 [.bool false, .slice none 0 0] 105, nbR 105 94 b3 b2 es] ∧ (EdsR b nv2.toNat (na2, nq2) k es (ak, qk)) ∧ (0 ≤ ak ∧ ak ≤ b.length) ∧ ((k : Int) ≤ nv2) ∧ (es.length ≤ k)) ?_ ?_
    · refine ⟨_, _, ⟨(na2 : Int), (nq2 : Bool), (0 : Nat), ([] : List Ed), rfl, rfl, hS12, (by exact EdsR.start _ _ _), (by omega), (by omega), (by simp)⟩, ⟨rfl, rfl, rfl, rfl, rfl, trivial⟩⟩
    · rintro _ _ w7 ⟨ak, qk, k, es, rfl, rfl, hS13, hE, hak, hkl, hesl⟩ ih1
      refine r_seq ?_
      refine r_region ?_
      refine OL.qb (Q1.lt rfl rfl) rfl rfl ?_
      intro b5 hb5
      refine OL.nil ?_
      refine r_seq ?_
      cases b5 with
      | true =>
        replace hb5 := of_decide_eq_true hb5.symm
        refine r_cond_t rfl ?_
        refine r_skip ?_
        refine r_seq ?_
        refine r_block ?_
        refine r_seq ?_
        refine r_seq ?_
        refine r_region ?_
        refine OL.q (Q1.move rfl) rfl rfl ?_
        refine OL.q (Q1.nilCheckP rfl) rfl rfl ?_
        refine OL.q (Q1.fieldAddr fl101_2 rfl) rfl rfl ?_
        have f5 := hS13.bk (i := 0) rfl
        refine OL.q (Q1.load1 ti4 rfl (fun _ e => e ▸ (f5.cell 2 _ rfl))) rfl rfl ?_
        refine OL.nil ?_
        cases qk with
        | true =>
          refine r_cond_t rfl ?_
          refine r_exit rfl ?_
          refine r_seq ?_
          refine r_region ?_
          obtain ⟨vb1, hS14⟩ := hS13.exo (i := 2) rfl
          change St (fun _ => False) F w0 w7 [bkR br [v_b, .int .i64 ak, .bool true] 101, bkR b1 [.bool false, .slice none 0 0] 105, boxR [bkR b3 [.bool b2, vb1] 105, accR encE 94 2 vb1 es]] at hS14
          have hS15 : St (fun _ => False) F w0 w7 [bkR br [v_b, .int .i64 ak, .bool true] 101, bkR b1 [.bool false, .slice none 0 0] 105, bkR b3 [.bool b2, vb1] 105, accR encE 94 2 vb1 es] := St.open (L1 := [bkR br [v_b, .int .i64 ak, .bool true] 101, bkR b1 [.bool false, .slice none 0 0] 105]) hS14
          obtain ⟨g1, f6, hl1, k1⟩ := hS15.accK (i := 3) rfl
          obtain ⟨ad1, cp1, hv1⟩ := f6.shape
          subst hv1
          have f7 := hS15.bk (i := 2) rfl
          refine OL.q (Q1.loadN ti105 rfl (fun _ e => e ▸ f7.row) rfl) rfl rfl ?_
          have f8 := hS15.bk (i := 1) rfl
          refine OL.act rfl rfl (AW.store ti105 rfl rfl rfl rfl rfl f8 (Nat.le_of_ble_eq_true rfl) ?_)
          intro w8 hm7 hz5 hk5
          have hS16 : St (fun _ => False) F w0 w8 [bkR br [v_b, .int .i64 ak, .bool true] 101, bkR b1 [.bool b2, (.slice ad1 es.length cp1)] 105, bkR b3 [.bool b2, (.slice ad1 es.length cp1)] 105, accR encE 94 2 ((.slice ad1 es.length cp1)) es] := hS15.bkK (i := 1) rfl hm7 hk5
          refine OL.nil ?_
          have f9 := hS16.bk (i := 1) rfl
          refine r_retC1 Try.func68 rfl rfl ti105 f9.row rfl ?_
          have hS17 : St (fun _ => False) F w0 w8 [bkR b1 [.bool b2, (.slice ad1 es.length cp1)] 105, bkR b3 [.bool b2, (.slice ad1 es.length cp1)] 105, bkR br [v_b, .int .i64 ak, .bool true] 101, accR encE 94 2 ((.slice ad1 es.length cp1)) es] := hS16.sel [1, 2, 0, 3] (by rfl) (by decide)
          have hS18 : St (fun _ => False) F w0 w8 [bkR b1 [.bool b2, (.slice ad1 es.length cp1)] 105, bkR b3 [.bool b2, (.slice ad1 es.length cp1)] 105, boxR [bkR br [v_b, .int .i64 ak, .bool true] 101, accR encE 94 2 ((.slice ad1 es.length cp1)) es]] := St.close (L1 := [bkR b1 [.bool b2, (.slice ad1 es.length cp1)] 105, bkR b3 [.bool b2, (.slice ad1 es.length cp1)] 105]) hS17
          have hS19 : St (fun _ => False) F w0 w8 [boxR [bkR br [v_b, .int .i64 ak, .bool true] 101, accR encE 94 2 ((.slice ad1 es.length cp1)) es]] := hS18.sel [2] (by rfl) (by decide)
          obtain ⟨hmF, F2r, hAr, hFr⟩ := hS19.fin
          have hed : edgesR b nv2.toNat (na2, nq2) = (es, (ak, true)) := by first | exact hE.bad | exact hE.fin (by omega)
          have hnd : nodeR b (a, q) = ((b2, es), (ak, true)) := by first | exact node_eq hnx1 (by first | rfl | (simp; done) | (rw [Bool.false_or]; assumption) | (rw [Bool.true_or])) hnx2 hed (by assumption)
          exact Ret.mk ⟨_, _, by rw [hnd], hmF, F2r, by rw [hnd]; exact hAr, hFr⟩
        | false =>
          refine r_cond_f rfl ?_
          refine r_skip ?_
          refine r_seq ?_
          refine r_region ?_
          refine OL.q (Q1.move rfl) rfl rfl ?_
          have f6 := hS13.out hb hG
          obtain ⟨Fy3, hAy3, hFy3, hky3⟩ := hS13.act (i := 0) rfl
          refine OL.act rfl rfl (AW.callF cl67 rfl (rdnum_c (w0 := w7) (G := G) ak false 4 hAy3 (fun b hb => (hFy3 b hb).2) f6 (fun b hb hx => by have := (hFy3 b hx).1.1; rcases this with h | h; exact hG b hb h; have := hGl b hb; omega) (fun b hb => Nat.lt_of_lt_of_le (hGl b hb) hS13.mod.size) (by omega) hbl (by omega)) ?_)
          rintro _ w8 ⟨rfl, hm7, F3, hB3, hF3⟩
          obtain ⟨⟨nv3, na3, nq3⟩, hnx3⟩ : ∃ x, x = numR b 4 (ak, false) := ⟨_, rfl⟩
          rw [← hnx3] at hB3
          rw [← hnx3]
          dsimp only at hB3 ⊢
          have hnr3 := numR_rng (by omega) (by omega) hnx3.symm
          have hS14 : St (fun _ => False) F w0 w8 [bkR br [v_b, .int .i64 na3, .bool nq3] 101, bkR b1 [.bool false, .slice none 0 0] 105, nbR 105 94 b3 b2 es] := hky3 _ _ _ hm7 hB3 hF3
          clear hAy3 hFy3 hky3 hB3 hF3
          refine OL.q (Q1.assign rfl) rfl rfl ?_
          refine OL.nil ?_
          refine r_seq ?_
          refine r_region ?_
          refine OL.q (Q1.move rfl) rfl rfl ?_
          refine OL.q (Q1.move rfl) rfl rfl ?_
          refine OL.q (Q1.nilCheckP rfl) rfl rfl ?_
          refine OL.q (Q1.fieldAddr fl101_2 rfl) rfl rfl ?_
          have f7 := hS14.bk (i := 0) rfl
          refine OL.q (Q1.load1 ti4 rfl (fun _ e => e ▸ (f7.cell 2 _ rfl))) rfl rfl ?_
          refine OL.q (Q1.move rfl) rfl rfl ?_
          cases nq3 with
          | true =>
            refine OL.sk rfl rfl ?_
            refine OL.sk rfl rfl ?_
            refine OL.q (Q1.pick_t rfl rfl) rfl rfl ?_
            refine OL.q (Q1.nilCheckP rfl) rfl rfl ?_
            refine OL.q (Q1.fieldAddr fl101_2 rfl) rfl rfl ?_
            refine OL.act rfl rfl (AW.store ti4 rfl rfl rfl rfl rfl f7 (Nat.le_of_ble_eq_true rfl) ?_)
            intro w9 hm8 hz5 hk5
            have hS15 : St (fun _ => False) F w0 w9 [bkR br [v_b, .int .i64 na3, .bool true] 101, bkR b1 [.bool false, .slice none 0 0] 105, nbR 105 94 b3 b2 es] := hS14.bkK (i := 0) rfl hm8 hk5
            refine OL.nil ?_
            obtain ⟨vb1, hS16⟩ := hS15.exo (i := 2) rfl
            change St (fun _ => False) F w0 w9 [bkR br [v_b, .int .i64 na3, .bool true] 101, bkR b1 [.bool false, .slice none 0 0] 105, boxR [bkR b3 [.bool b2, vb1] 105, accR encE 94 2 vb1 es]] at hS16
            have hS17 : St (fun _ => False) F w0 w9 [bkR br [v_b, .int .i64 na3, .bool true] 101, bkR b1 [.bool false, .slice none 0 0] 105, bkR b3 [.bool b2, vb1] 105, accR encE 94 2 vb1 es] := St.open (L1 := [bkR br [v_b, .int .i64 na3, .bool true] 101, bkR b1 [.bool false, .slice none 0 0] 105]) hS16
            refine r_draw1 (fun i => Nat.beq i 5 || Nat.beq i 7 || Nat.beq i 8 || Nat.beq i 10) 10 (fun w' => Row w' b3 1 [vb1]) mixed (by kernel_rfl) ?_
            intro w10 hm9
            have hS18 := hS17.ext hm9
            have f8 := hS18.bk (i := 2) rfl
            refine ⟨(f8.cell 1 _ rfl), ?_⟩
            rw [show List.range' 0 (Array.size _) = [0, 1, 2, 3, 4, 5, 6, 7, 8, 9, 10] from rfl]
            refine OD.q rfl rfl (Q1.fieldAddr fl105_1 rfl) rfl rfl ?_
            have f9 := hS17.bk (i := 2) rfl
            refine OD.q rfl rfl (Q1.load1 ti49 rfl (fun _ hc => hc)) rfl rfl ?_
            refine OD.q rfl rfl (Q1.move rfl) rfl rfl ?_
            refine OD.q rfl rfl (Q1.convI (by kernel_rfl) Try.underlying21 rfl) rfl rfl ?_
            refine OD.q rfl rfl (Q1.move rfl) rfl rfl ?_
            have f10 := hS18.out hb hG
            obtain ⟨Fy4, hAy4, hFy4, hky4⟩ := hS18.act (i := 0) rfl
            refine OD.act rfl rfl rfl rfl (AW.callF cl67 rfl (rdnum_c (w0 := w10) (G := G) na3 true 2 hAy4 (fun b hb => (hFy4 b hb).2) f10 (fun b hb hx => by have := (hFy4 b hx).1.1; rcases this with h | h; exact hG b hb h; have := hGl b hb; omega) (fun b hb => Nat.lt_of_lt_of_le (hGl b hb) hS18.mod.size) (by omega) hbl (by omega)) ?_)
            rintro _ w11 ⟨rfl, hm10, F4, hB4, hF4⟩
            obtain ⟨⟨nv4, na4, nq4⟩, hnx4⟩ : ∃ x, x = numR b 2 (na3, true) := ⟨_, rfl⟩
            rw [← hnx4] at hB4
            rw [← hnx4]
            dsimp only at hB4 ⊢
            have hnr4 := numR_rng (by omega) (by omega) hnx4.symm
            have hS19 : St (fun _ => False) F w0 w11 [bkR br [v_b, .int .i64 na4, .bool nq4] 101, bkR b1 [.bool false, .slice none 0 0] 105, bkR b3 [.bool b2, vb1] 105, accR encE 94 2 vb1 es] := hky4 _ _ _ hm10 hB4 hF4
            clear hAy4 hFy4 hky4 hB4 hF4
            have hnb3 := numR_byte hnx4.symm (by omega)
            have f11 := hS19.bk (i := 2) rfl
            refine ⟨.inr (f11.cell 1 _ rfl), ?_⟩
            refine OD.q rfl rfl (Q1.build (vs := #[(0, (.int .i32 ((IntKind.i32.wrap nv3)) : Value)), (1, (.int .i64 nv4 : Value))]) (v := .agg #[.int .i32 ((IntKind.i32.wrap nv3)), .int .i64 nv4]) rfl (fun _ => by kernel_rfl)) rfl rfl ?_
            refine OD.act rfl rfl rfl rfl (AW.buildSlice [(.agg #[.int .i32 ((IntKind.i32.wrap nv3)), .int .i64 nv4] : Value)] Try.underlying49 ti94 rfl rfl rfl (by decide) ?_)
            intro w12 b6 hm11 hb6 hz6 hk6
            have hS20 := hS19.ext hm11
            have hl1 := Sl.of_blk (enc := encE) hk6 ([(Ed.mk ((IntKind.i32.wrap nv3)) nv4)] : List Ed) 1 rfl rfl (by unfold maxLen; omega)
            have hS21 : St (fun _ => False) F w0 w12 [bkR br [v_b, .int .i64 na4, .bool nq4] 101, bkR b1 [.bool false, .slice none 0 0] 105, bkR b3 [.bool b2, vb1] 105, accR encE 94 2 vb1 es, slR encE [((.slice (some ⟨b6, 0, none⟩) 1 1), [(Ed.mk ((IntKind.i32.wrap nv3)) nv4)])]] := hS19.newSlB hm11 hb6 hz6 hl1
            have f12 := hS21.bk (i := 2) rfl
            refine ⟨.inr (f12.cell 1 _ rfl), ?_⟩
            obtain ⟨g2, f13, hl2, k1⟩ := hS21.accK (i := 3) rfl
            have f14 := hS21.sl (i := 4) (k := 0) rfl rfl
            refine OD.act rfl rfl rfl rfl (AW.append f13 Try.underlying49 ti94 rfl encE_len encE_one rfl rfl (f14) (by first | omega | (simp only [List.length_append, List.length_cons, List.length_nil]; omega) | (simp; omega)) (by unfold maxLen; first | omega | (simp only [List.length_append, List.length_cons, List.length_nil]; omega) | (simp; omega)) ?_)
            intro v1 g1 w13 ha1 hm12 hg1 hz7
            have hS22 : St (fun _ => False) F w0 w13 [bkR br [v_b, .int .i64 na4, .bool nq4] 101, bkR b1 [.bool false, .slice none 0 0] 105, bkR b3 [.bool b2, vb1] 105, accR encE 94 2 v1 ((es ++ [(Ed.mk ((IntKind.i32.wrap nv3)) nv4)])), slR encE [((.slice (some ⟨b6, 0, none⟩) 1 1), [(Ed.mk ((IntKind.i32.wrap nv3)) nv4)])]] := k1 _ _ _ _ hm12 ha1 hg1
            have f15 := hS22.bk (i := 2) rfl
            refine ⟨.inr (f15.cell 1 _ rfl), ?_⟩
            clear hg1
            refine OD.q rfl rfl (Q1.fieldAddr fl105_1 rfl) rfl rfl ?_
            obtain ⟨g3, f16, hl3, k2⟩ := hS22.accK (i := 3) rfl
            obtain ⟨ad1, cp1, hv1⟩ := f16.shape
            subst hv1
            refine OD.act rfl rfl rfl rfl (AW.store ti49 rfl rfl rfl rfl rfl f15 (Nat.le_of_ble_eq_true rfl) ?_)
            intro w14 hm13 hz8 hk7
            have hS23 : St (fun _ => False) F w0 w14 [bkR br [v_b, .int .i64 na4, .bool nq4] 101, bkR b1 [.bool false, .slice none 0 0] 105, bkR b3 [.bool b2, (.slice ad1 ((es ++ [(Ed.mk ((IntKind.i32.wrap nv3)) nv4)])).length cp1)] 105, accR encE 94 2 ((.slice ad1 ((es ++ [(Ed.mk ((IntKind.i32.wrap nv3)) nv4)])).length cp1)) ((es ++ [(Ed.mk ((IntKind.i32.wrap nv3)) nv4)])), slR encE [((.slice (some ⟨b6, 0, none⟩) 1 1), [(Ed.mk ((IntKind.i32.wrap nv3)) nv4)])]] := hS22.bkK (i := 2) rfl hm13 hk7
            refine ⟨.inl rfl, ?_⟩
            refine OD.nil ?_
            refine r_inBlock ?_
            refine r_region ?_
            have hS24 : St (fun _ => False) F w0 w14 [bkR br [v_b, .int .i64 na4, .bool nq4] 101, bkR b1 [.bool false, .slice none 0 0] 105, slR encE [((.slice (some ⟨b6, 0, none⟩) 1 1), [(Ed.mk ((IntKind.i32.wrap nv3)) nv4)])], bkR b3 [.bool b2, (.slice ad1 ((es ++ [(Ed.mk ((IntKind.i32.wrap nv3)) nv4)])).length cp1)] 105, accR encE 94 2 ((.slice ad1 ((es ++ [(Ed.mk ((IntKind.i32.wrap nv3)) nv4)])).length cp1)) ((es ++ [(Ed.mk ((IntKind.i32.wrap nv3)) nv4)]))] := hS23.sel [0, 1, 4, 2, 3] (by rfl) (by decide)
            have hS25 : St (fun _ => False) F w0 w14 [bkR br [v_b, .int .i64 na4, .bool nq4] 101, bkR b1 [.bool false, .slice none 0 0] 105, slR encE [((.slice (some ⟨b6, 0, none⟩) 1 1), [(Ed.mk ((IntKind.i32.wrap nv3)) nv4)])], boxR [bkR b3 [.bool b2, (.slice ad1 ((es ++ [(Ed.mk ((IntKind.i32.wrap nv3)) nv4)])).length cp1)] 105, accR encE 94 2 ((.slice ad1 ((es ++ [(Ed.mk ((IntKind.i32.wrap nv3)) nv4)])).length cp1)) ((es ++ [(Ed.mk ((IntKind.i32.wrap nv3)) nv4)]))]] := St.close (L1 := [bkR br [v_b, .int .i64 na4, .bool nq4] 101, bkR b1 [.bool false, .slice none 0 0] 105, slR encE [((.slice (some ⟨b6, 0, none⟩) 1 1), [(Ed.mk ((IntKind.i32.wrap nv3)) nv4)])]]) hS24
            have hS26 : St (fun _ => False) F w0 w14 [bkR br [v_b, .int .i64 na4, .bool nq4] 101, bkR b1 [.bool false, .slice none 0 0] 105, slR encE [((.slice (some ⟨b6, 0, none⟩) 1 1), [(Ed.mk ((IntKind.i32.wrap nv3)) nv4)])], nbR 105 94 b3 b2 ((es ++ [(Ed.mk ((IntKind.i32.wrap nv3)) nv4)]))] := hS25.exi (.slice ad1 ((es ++ [(Ed.mk ((IntKind.i32.wrap nv3)) nv4)])).length cp1) (i := 3) rfl
            refine OL.q (Q1.addI (((k + 1 : Nat) : Int)) rfl rfl (by omega)) rfl rfl ?_
            refine OL.q (Q1.move rfl) rfl rfl ?_
            refine OL.nil ?_
            have hS27 : St (fun _ => False) F w0 w14 [bkR br [v_b, .int .i64 na4, .bool nq4] 101, bkR b1 [.bool false, .slice none 0 0] 105, nbR 105 94 b3 b2 ((es ++ [(Ed.mk ((IntKind.i32.wrap nv3)) nv4)]))] := hS26.sel [0, 1, 3] (by rfl) (by decide)
            exact (ih1 _ _ _ ⟨(na4 : Int), (nq4 : Bool), (k + 1 : Nat), ((es ++ [(Ed.mk ((IntKind.i32.wrap nv3)) nv4)]) : List Ed), rfl, rfl, hS27, (by first | exact hE.step (by omega) (edge_eq hnx3 (by first | rfl | (simp; done) | (rw [Bool.false_or]; assumption) | (rw [Bool.true_or])) hnx4) | (exfalso; omega)), (by first | omega | (exfalso; omega)), (by first | omega | (exfalso; omega)), (by first | (simp only [List.length_append, List.length_cons, List.length_nil]; omega) | (exfalso; omega))⟩ (by omega)).sub ⟨rfl, rfl, rfl, rfl, rfl, trivial⟩
          | false =>
            refine OL.q (Q1.move rfl) rfl rfl ?_
            refine OL.qb (Q1.gt rfl rfl) rfl rfl ?_
            intro b6 hb6
            refine OL.q (Q1.pick_f rfl rfl) rfl rfl ?_
            refine OL.q (Q1.nilCheckP rfl) rfl rfl ?_
            refine OL.q (Q1.fieldAddr fl101_2 rfl) rfl rfl ?_
            refine OL.act rfl rfl (AW.store ti4 rfl rfl rfl rfl rfl f7 (Nat.le_of_ble_eq_true rfl) ?_)
            intro w9 hm8 hz5 hk5
            have hS15 : St (fun _ => False) F w0 w9 [bkR br [v_b, .int .i64 na3, .bool b6] 101, bkR b1 [.bool false, .slice none 0 0] 105, nbR 105 94 b3 b2 es] := hS14.bkK (i := 0) rfl hm8 hk5
            refine OL.nil ?_
            obtain ⟨vb1, hS16⟩ := hS15.exo (i := 2) rfl
            change St (fun _ => False) F w0 w9 [bkR br [v_b, .int .i64 na3, .bool b6] 101, bkR b1 [.bool false, .slice none 0 0] 105, boxR [bkR b3 [.bool b2, vb1] 105, accR encE 94 2 vb1 es]] at hS16
            have hS17 : St (fun _ => False) F w0 w9 [bkR br [v_b, .int .i64 na3, .bool b6] 101, bkR b1 [.bool false, .slice none 0 0] 105, bkR b3 [.bool b2, vb1] 105, accR encE 94 2 vb1 es] := St.open (L1 := [bkR br [v_b, .int .i64 na3, .bool b6] 101, bkR b1 [.bool false, .slice none 0 0] 105]) hS16
            refine r_draw1 (fun i => Nat.beq i 5 || Nat.beq i 7 || Nat.beq i 8 || Nat.beq i 10) 10 (fun w' => Row w' b3 1 [vb1]) mixed (by kernel_rfl) ?_
            intro w10 hm9
            have hS18 := hS17.ext hm9
            have f8 := hS18.bk (i := 2) rfl
            refine ⟨(f8.cell 1 _ rfl), ?_⟩
            rw [show List.range' 0 (Array.size _) = [0, 1, 2, 3, 4, 5, 6, 7, 8, 9, 10] from rfl]
            refine OD.q rfl rfl (Q1.fieldAddr fl105_1 rfl) rfl rfl ?_
            have f9 := hS17.bk (i := 2) rfl
            refine OD.q rfl rfl (Q1.load1 ti49 rfl (fun _ hc => hc)) rfl rfl ?_
            refine OD.q rfl rfl (Q1.move rfl) rfl rfl ?_
            refine OD.q rfl rfl (Q1.convI (by kernel_rfl) Try.underlying21 rfl) rfl rfl ?_
            refine OD.q rfl rfl (Q1.move rfl) rfl rfl ?_
            have f10 := hS18.out hb hG
            obtain ⟨Fy4, hAy4, hFy4, hky4⟩ := hS18.act (i := 0) rfl
            refine OD.act rfl rfl rfl rfl (AW.callF cl67 rfl (rdnum_c (w0 := w10) (G := G) na3 b6 2 hAy4 (fun b hb => (hFy4 b hb).2) f10 (fun b hb hx => by have := (hFy4 b hx).1.1; rcases this with h | h; exact hG b hb h; have := hGl b hb; omega) (fun b hb => Nat.lt_of_lt_of_le (hGl b hb) hS18.mod.size) (by omega) hbl (by omega)) ?_)
            rintro _ w11 ⟨rfl, hm10, F4, hB4, hF4⟩
            obtain ⟨⟨nv4, na4, nq4⟩, hnx4⟩ : ∃ x, x = numR b 2 (na3, b6) := ⟨_, rfl⟩
            rw [← hnx4] at hB4
            rw [← hnx4]
            dsimp only at hB4 ⊢
            have hnr4 := numR_rng (by omega) (by omega) hnx4.symm
            have hS19 : St (fun _ => False) F w0 w11 [bkR br [v_b, .int .i64 na4, .bool nq4] 101, bkR b1 [.bool false, .slice none 0 0] 105, bkR b3 [.bool b2, vb1] 105, accR encE 94 2 vb1 es] := hky4 _ _ _ hm10 hB4 hF4
            clear hAy4 hFy4 hky4 hB4 hF4
            have hnb3 := numR_byte hnx4.symm (by omega)
            have f11 := hS19.bk (i := 2) rfl
            refine ⟨.inr (f11.cell 1 _ rfl), ?_⟩
            refine OD.q rfl rfl (Q1.build (vs := #[(0, (.int .i32 ((IntKind.i32.wrap nv3)) : Value)), (1, (.int .i64 nv4 : Value))]) (v := .agg #[.int .i32 ((IntKind.i32.wrap nv3)), .int .i64 nv4]) rfl (fun _ => by kernel_rfl)) rfl rfl ?_
            refine OD.act rfl rfl rfl rfl (AW.buildSlice [(.agg #[.int .i32 ((IntKind.i32.wrap nv3)), .int .i64 nv4] : Value)] Try.underlying49 ti94 rfl rfl rfl (by decide) ?_)
            intro w12 b7 hm11 hb7 hz6 hk6
            have hS20 := hS19.ext hm11
            have hl1 := Sl.of_blk (enc := encE) hk6 ([(Ed.mk ((IntKind.i32.wrap nv3)) nv4)] : List Ed) 1 rfl rfl (by unfold maxLen; omega)
            have hS21 : St (fun _ => False) F w0 w12 [bkR br [v_b, .int .i64 na4, .bool nq4] 101, bkR b1 [.bool false, .slice none 0 0] 105, bkR b3 [.bool b2, vb1] 105, accR encE 94 2 vb1 es, slR encE [((.slice (some ⟨b7, 0, none⟩) 1 1), [(Ed.mk ((IntKind.i32.wrap nv3)) nv4)])]] := hS19.newSlB hm11 hb7 hz6 hl1
            have f12 := hS21.bk (i := 2) rfl
            refine ⟨.inr (f12.cell 1 _ rfl), ?_⟩
            obtain ⟨g2, f13, hl2, k1⟩ := hS21.accK (i := 3) rfl
            have f14 := hS21.sl (i := 4) (k := 0) rfl rfl
            refine OD.act rfl rfl rfl rfl (AW.append f13 Try.underlying49 ti94 rfl encE_len encE_one rfl rfl (f14) (by first | omega | (simp only [List.length_append, List.length_cons, List.length_nil]; omega) | (simp; omega)) (by unfold maxLen; first | omega | (simp only [List.length_append, List.length_cons, List.length_nil]; omega) | (simp; omega)) ?_)
            intro v1 g1 w13 ha1 hm12 hg1 hz7
            have hS22 : St (fun _ => False) F w0 w13 [bkR br [v_b, .int .i64 na4, .bool nq4] 101, bkR b1 [.bool false, .slice none 0 0] 105, bkR b3 [.bool b2, vb1] 105, accR encE 94 2 v1 ((es ++ [(Ed.mk ((IntKind.i32.wrap nv3)) nv4)])), slR encE [((.slice (some ⟨b7, 0, none⟩) 1 1), [(Ed.mk ((IntKind.i32.wrap nv3)) nv4)])]] := k1 _ _ _ _ hm12 ha1 hg1
            have f15 := hS22.bk (i := 2) rfl
            refine ⟨.inr (f15.cell 1 _ rfl), ?_⟩
            clear hg1
            refine OD.q rfl rfl (Q1.fieldAddr fl105_1 rfl) rfl rfl ?_
            obtain ⟨g3, f16, hl3, k2⟩ := hS22.accK (i := 3) rfl
            obtain ⟨ad1, cp1, hv1⟩ := f16.shape
            subst hv1
            refine OD.act rfl rfl rfl rfl (AW.store ti49 rfl rfl rfl rfl rfl f15 (Nat.le_of_ble_eq_true rfl) ?_)
            intro w14 hm13 hz8 hk7
            have hS23 : St (fun _ => False) F w0 w14 [bkR br [v_b, .int .i64 na4, .bool nq4] 101, bkR b1 [.bool false, .slice none 0 0] 105, bkR b3 [.bool b2, (.slice ad1 ((es ++ [(Ed.mk ((IntKind.i32.wrap nv3)) nv4)])).length cp1)] 105, accR encE 94 2 ((.slice ad1 ((es ++ [(Ed.mk ((IntKind.i32.wrap nv3)) nv4)])).length cp1)) ((es ++ [(Ed.mk ((IntKind.i32.wrap nv3)) nv4)])), slR encE [((.slice (some ⟨b7, 0, none⟩) 1 1), [(Ed.mk ((IntKind.i32.wrap nv3)) nv4)])]] := hS22.bkK (i := 2) rfl hm13 hk7
            refine ⟨.inl rfl, ?_⟩
            refine OD.nil ?_
            refine r_inBlock ?_
            refine r_region ?_
            have hS24 : St (fun _ => False) F w0 w14 [bkR br [v_b, .int .i64 na4, .bool nq4] 101, bkR b1 [.bool false, .slice none 0 0] 105, slR encE [((.slice (some ⟨b7, 0, none⟩) 1 1), [(Ed.mk ((IntKind.i32.wrap nv3)) nv4)])], bkR b3 [.bool b2, (.slice ad1 ((es ++ [(Ed.mk ((IntKind.i32.wrap nv3)) nv4)])).length cp1)] 105, accR encE 94 2 ((.slice ad1 ((es ++ [(Ed.mk ((IntKind.i32.wrap nv3)) nv4)])).length cp1)) ((es ++ [(Ed.mk ((IntKind.i32.wrap nv3)) nv4)]))] := hS23.sel [0, 1, 4, 2, 3] (by rfl) (by decide)
            have hS25 : St (fun _ => False) F w0 w14 [bkR br [v_b, .int .i64 na4, .bool nq4] 101, bkR b1 [.bool false, .slice none 0 0] 105, slR encE [((.slice (some ⟨b7, 0, none⟩) 1 1), [(Ed.mk ((IntKind.i32.wrap nv3)) nv4)])], boxR [bkR b3 [.bool b2, (.slice ad1 ((es ++ [(Ed.mk ((IntKind.i32.wrap nv3)) nv4)])).length cp1)] 105, accR encE 94 2 ((.slice ad1 ((es ++ [(Ed.mk ((IntKind.i32.wrap nv3)) nv4)])).length cp1)) ((es ++ [(Ed.mk ((IntKind.i32.wrap nv3)) nv4)]))]] := St.close (L1 := [bkR br [v_b, .int .i64 na4, .bool nq4] 101, bkR b1 [.bool false, .slice none 0 0] 105, slR encE [((.slice (some ⟨b7, 0, none⟩) 1 1), [(Ed.mk ((IntKind.i32.wrap nv3)) nv4)])]]) hS24
            have hS26 : St (fun _ => False) F w0 w14 [bkR br [v_b, .int .i64 na4, .bool nq4] 101, bkR b1 [.bool false, .slice none 0 0] 105, slR encE [((.slice (some ⟨b7, 0, none⟩) 1 1), [(Ed.mk ((IntKind.i32.wrap nv3)) nv4)])], nbR 105 94 b3 b2 ((es ++ [(Ed.mk ((IntKind.i32.wrap nv3)) nv4)]))] := hS25.exi (.slice ad1 ((es ++ [(Ed.mk ((IntKind.i32.wrap nv3)) nv4)])).length cp1) (i := 3) rfl
            refine OL.q (Q1.addI (((k + 1 : Nat) : Int)) rfl rfl (by omega)) rfl rfl ?_
            refine OL.q (Q1.move rfl) rfl rfl ?_
            refine OL.nil ?_
            have hS27 : St (fun _ => False) F w0 w14 [bkR br [v_b, .int .i64 na4, .bool nq4] 101, bkR b1 [.bool false, .slice none 0 0] 105, nbR 105 94 b3 b2 ((es ++ [(Ed.mk ((IntKind.i32.wrap nv3)) nv4)]))] := hS26.sel [0, 1, 3] (by rfl) (by decide)
            exact (ih1 _ _ _ ⟨(na4 : Int), (nq4 : Bool), (k + 1 : Nat), ((es ++ [(Ed.mk ((IntKind.i32.wrap nv3)) nv4)]) : List Ed), rfl, rfl, hS27, (by first | exact hE.step (by omega) (edge_eq hnx3 (by first | rfl | (simp; done) | (rw [Bool.false_or]; assumption) | (rw [Bool.true_or])) hnx4) | (exfalso; omega)), (by first | omega | (exfalso; omega)), (by first | omega | (exfalso; omega)), (by first | (simp only [List.length_append, List.length_cons, List.length_nil]; omega) | (exfalso; omega))⟩ (by omega)).sub ⟨rfl, rfl, rfl, rfl, rfl, trivial⟩
      | false =>
        replace hb5 := of_decide_eq_false hb5.symm
        refine r_cond_f rfl ?_
        refine r_exit rfl ?_
        refine r_seq ?_
        refine r_region ?_
        obtain ⟨vb1, hS14⟩ := hS13.exo (i := 2) rfl
        change St (fun _ => False) F w0 w7 [bkR br [v_b, .int .i64 ak, .bool qk] 101, bkR b1 [.bool false, .slice none 0 0] 105, boxR [bkR b3 [.bool b2, vb1] 105, accR encE 94 2 vb1 es]] at hS14
        have hS15 : St (fun _ => False) F w0 w7 [bkR br [v_b, .int .i64 ak, .bool qk] 101, bkR b1 [.bool false, .slice none 0 0] 105, bkR b3 [.bool b2, vb1] 105, accR encE 94 2 vb1 es] := St.open (L1 := [bkR br [v_b, .int .i64 ak, .bool qk] 101, bkR b1 [.bool false, .slice none 0 0] 105]) hS14
        obtain ⟨g1, f5, hl1, k1⟩ := hS15.accK (i := 3) rfl
        obtain ⟨ad1, cp1, hv1⟩ := f5.shape
        subst hv1
        have f6 := hS15.bk (i := 2) rfl
        refine OL.q (Q1.loadN ti105 rfl (fun _ e => e ▸ f6.row) rfl) rfl rfl ?_
        have f7 := hS15.bk (i := 1) rfl
        refine OL.act rfl rfl (AW.store ti105 rfl rfl rfl rfl rfl f7 (Nat.le_of_ble_eq_true rfl) ?_)
        intro w8 hm7 hz5 hk5
        have hS16 : St (fun _ => False) F w0 w8 [bkR br [v_b, .int .i64 ak, .bool qk] 101, bkR b1 [.bool b2, (.slice ad1 es.length cp1)] 105, bkR b3 [.bool b2, (.slice ad1 es.length cp1)] 105, accR encE 94 2 ((.slice ad1 es.length cp1)) es] := hS15.bkK (i := 1) rfl hm7 hk5
        refine OL.nil ?_
        have f8 := hS16.bk (i := 1) rfl
        refine r_retC1 Try.func68 rfl rfl ti105 f8.row rfl ?_
        have hS17 : St (fun _ => False) F w0 w8 [bkR b1 [.bool b2, (.slice ad1 es.length cp1)] 105, bkR b3 [.bool b2, (.slice ad1 es.length cp1)] 105, bkR br [v_b, .int .i64 ak, .bool qk] 101, accR encE 94 2 ((.slice ad1 es.length cp1)) es] := hS16.sel [1, 2, 0, 3] (by rfl) (by decide)
        have hS18 : St (fun _ => False) F w0 w8 [bkR b1 [.bool b2, (.slice ad1 es.length cp1)] 105, bkR b3 [.bool b2, (.slice ad1 es.length cp1)] 105, boxR [bkR br [v_b, .int .i64 ak, .bool qk] 101, accR encE 94 2 ((.slice ad1 es.length cp1)) es]] := St.close (L1 := [bkR b1 [.bool b2, (.slice ad1 es.length cp1)] 105, bkR b3 [.bool b2, (.slice ad1 es.length cp1)] 105]) hS17
        have hS19 : St (fun _ => False) F w0 w8 [boxR [bkR br [v_b, .int .i64 ak, .bool qk] 101, accR encE 94 2 ((.slice ad1 es.length cp1)) es]] := hS18.sel [2] (by rfl) (by decide)
        obtain ⟨hmF, F2r, hAr, hFr⟩ := hS19.fin
        have hed : edgesR b nv2.toNat (na2, nq2) = (es, (ak, qk)) := by first | exact hE.bad | exact hE.fin (by omega)
        have hnd : nodeR b (a, q) = ((b2, es), (ak, qk)) := by first | exact node_eq hnx1 (by first | rfl | (simp; done) | (rw [Bool.false_or]; assumption) | (rw [Bool.true_or])) hnx2 hed (by assumption)
        exact Ret.mk ⟨_, _, by rw [hnd], hmF, F2r, by rw [hnd]; exact hAr, hFr⟩
set_option maxRecDepth 20000 in
set_option maxHeartbeats 4000000 in
theorem decode_c {w0 : World}  {v_b : Value} {b : List UInt8} (h_b : Sl encB w0 (Iv 0 w0.heap.size) v_b b) (hbl : b.length ≤ 4000000) :
    Calls Try.prog 22 #[v_b] w0 (Ret fun rv w1 => ∃ u0 u1, rv = .tuple #[u0, u1] ∧ (∃ lo hi, Gr 0 w1 lo hi u0 ((decG b).1) ∧ w0.heap.size ≤ lo ∧ hi ≤ w1.heap.size) ∧ u1 = .int .i64 ((decG b).2) ∧ Ext w0 w1) := by
  have hle_b := h_b.le
  have hS0 := St.start0 w0
  refine calls_enter Try.func22 rfl Try.ntmps22 rfl ?_
  refine r_seq ?_
  refine r_region ?_
  refine OL.q (Q1.assign rfl) rfl rfl ?_
  refine OL.q (Q1.assign rfl) rfl rfl ?_
  refine OL.nil ?_
  refine r_seq ?_
  refine r_region ?_
  refine OL.q (Q1.move rfl) rfl rfl ?_
  refine OL.q (Q1.lenSl Try.underlying25 (h_b) rfl) rfl rfl ?_
  refine OL.q (Q1.subI ((((b.length : Nat) : Int) - 4)) rfl rfl (by omega)) rfl rfl ?_
  refine OL.q (Q1.assign rfl) rfl rfl ?_
  refine OL.nil ?_
  refine r_seq ?_
  refine r_seq ?_
  refine r_region ?_
  refine OL.q (Q1.move rfl) rfl rfl ?_
  refine OL.qb (Q1.lt rfl rfl) rfl rfl ?_
  intro b1 hb1
  refine OL.nil ?_
  cases b1 with
  | true =>
    replace hb1 := of_decide_eq_true hb1.symm
    refine r_cond_t rfl ?_
    refine r_seq ?_
    refine r_region ?_
    refine OL.q (Q1.assign rfl) rfl rfl ?_
    refine OL.q (Q1.assign rfl) rfl rfl ?_
    refine OL.nil ?_
    refine r_ret2 Try.func22 rfl rfl rfl ?_
    have hw : decG b = ([], 9) := by first | exact decG_short (by omega) | exact decG_sum (by omega) (by first | assumption | omega)
    exact Ret.mk ⟨_, _, rfl, ⟨w0.heap.size, w0.heap.size, .inl ⟨rfl, by rw [hw]⟩, Nat.le_refl _, hS0.mod.size⟩, by rw [hw], hS0.mod⟩
  | false =>
    replace hb1 := of_decide_eq_false hb1.symm
    refine r_cond_f rfl ?_
    refine r_skip ?_
    refine r_seq ?_
    refine r_seq ?_
    refine r_region ?_
    refine OL.q (Q1.move rfl) rfl rfl ?_
    refine OL.q (Q1.move rfl) rfl rfl ?_
    refine OL.act rfl rfl (AW.callF cl66 rfl (num4_c (w0 := w0) (b := b) ((((b.length : Nat) : Int) - 4)) (4) h_b (by first | omega | assumption) (by first | assumption | omega | (simp only [List.length_append, putN_len, List.length_cons, List.length_nil]; omega)) (by first | omega | decide)) ?_)
    rintro _ w1 ⟨_, _, rfl, rfl, ⟨b2, hb2, rfl⟩, hm1⟩
    have hS1 := hS0.ext hm1
    have := numV_rng b ((((b.length : Nat) : Int) - 4)) 4
    refine OL.q (Q1.move rfl) rfl rfl ?_
    refine OL.q (Q1.extract rfl rfl) rfl rfl ?_
    refine OL.q (Q1.extract rfl rfl) rfl rfl ?_
    refine OL.q (Q1.assign rfl) rfl rfl ?_
    refine OL.q (Q1.assign rfl) rfl rfl ?_
    refine OL.nil ?_
    refine r_seq ?_
    refine r_region ?_
    refine OL.q (Q1.move rfl) rfl rfl ?_
    have hnl4 := numV_lt (b := b) (a := ((b.length : Int) - 4)) (size := 4) (by omega)
    refine OL.q (Q1.convN (by kernel_rfl) Try.underlying95 rfl (IntWalk.u32_in _ (by omega))) rfl rfl ?_
    refine OL.q (Q1.move rfl) rfl rfl ?_
    refine OL.q (Q1.move rfl) rfl rfl ?_
    obtain ⟨v1, hr1, hl1⟩ := Sl.part (P := Try.prog) h_b Try.underlying25 ti5 encB_len (0) ((b.length - 4)) (.inl ⟨rfl, rfl⟩) (.inr ⟨.i64, (((b.length : Nat) : Int) - 4), rfl, by omega⟩) (by omega) (by first | assumption | omega)
    replace hl1 : Sl encB w0 (Iv 0 w0.heap.size) v1 (b.take ((b.length - 4))) := by simpa using hl1
    refine OL.q (Q1.sliceV rfl rfl rfl rfl hr1) rfl rfl ?_
    have f1 := hS1.out hl1 (fun _ _ h => h)
    refine OL.act rfl rfl (AW.callF cl65 rfl (sumof_c (w0 := w1) (b := (b.take ((b.length - 4))))  (f1.iv (Nat.zero_le _) hS1.mod.size) (by (simp only [List.length_take]; omega))) ?_)
    rintro _ w2 ⟨rfl, hm2⟩
    have hS2 := hS1.ext hm2
    have := sumF_lt 0 ((b.take ((b.length - 4))))
    change sumN ((b.take ((b.length - 4)))) < _ at this
    refine OL.qb (Q1.ne rfl rfl) rfl rfl ?_
    intro b3 hb3
    refine OL.nil ?_
    cases b3 with
    | true =>
      replace hb3 := bne_iff_ne.1 hb3.symm
      refine r_cond_t rfl ?_
      refine r_seq ?_
      refine r_region ?_
      refine OL.q (Q1.assign rfl) rfl rfl ?_
      refine OL.q (Q1.assign rfl) rfl rfl ?_
      refine OL.nil ?_
      refine r_ret2 Try.func22 rfl rfl rfl ?_
      have hw : decG b = ([], 9) := by first | exact decG_short (by omega) | exact decG_sum (by omega) (by first | assumption | omega)
      exact Ret.mk ⟨_, _, rfl, ⟨w0.heap.size, w0.heap.size, .inl ⟨rfl, by rw [hw]⟩, Nat.le_refl _, hS2.mod.size⟩, by rw [hw], hS2.mod⟩
    | false =>
      replace hb3 := bne_eq_false_iff_eq.1 hb3.symm
      refine r_cond_f rfl ?_
      refine r_skip ?_
      refine r_seq ?_
      refine r_seq ?_
      refine r_region ?_
      refine OL.q (Q1.move rfl) rfl rfl ?_
      refine OL.qb (Q1.lt rfl rfl) rfl rfl ?_
      intro b4 hb4
      refine OL.q (Q1.move rfl) rfl rfl ?_
      cases b4 with
      | true =>
        replace hb4 := of_decide_eq_true hb4.symm
        refine OL.sk rfl rfl ?_
        refine OL.sk rfl rfl ?_
        refine OL.sk rfl rfl ?_
        refine OL.sk rfl rfl ?_
        refine OL.q (Q1.pick_t rfl rfl) rfl rfl ?_
        refine OL.nil ?_
        refine r_cond_t rfl ?_
        refine r_seq ?_
        refine r_region ?_
        refine OL.q (Q1.assign rfl) rfl rfl ?_
        refine OL.q (Q1.assign rfl) rfl rfl ?_
        refine OL.nil ?_
        refine r_ret2 Try.func22 rfl rfl rfl ?_
        have hw := decG_head (b := b) (by first | omega | assumption) (by first | assumption | omega) (by first | exact .inl (by omega) | exact .inr (by assumption))
        exact Ret.mk ⟨_, _, rfl, ⟨w0.heap.size, w0.heap.size, .inl ⟨rfl, by rw [hw]⟩, Nat.le_refl _, hS2.mod.size⟩, by rw [hw], hS2.mod⟩
      | false =>
        replace hb4 := of_decide_eq_false hb4.symm
        refine OL.q (Q1.move rfl) rfl rfl ?_
        obtain ⟨v2, hr2, hl2⟩ := Sl.part (P := Try.prog) h_b Try.underlying25 ti5 encB_len (0) (4) (.inl ⟨rfl, rfl⟩) (.inr ⟨.i64, 4, rfl, by omega⟩) (by omega) (by first | assumption | omega)
        replace hl2 : Sl encB w0 (Iv 0 w0.heap.size) v2 (b.take 4) := by simpa using hl2
        refine OL.q (Q1.sliceV rfl rfl rfl rfl hr2) rfl rfl ?_
        have f2 := hS2.out hl2 (fun _ _ h => h)
        refine OL.act rfl rfl (AW.bytesStr Try.underlying25 Try.underlying5 Try.underlying9 rfl (f2) ?_)
        refine OL.qb (Q1.neS rfl rfl) rfl rfl ?_
        intro b5 hb5
        refine OL.q (Q1.pick_f rfl rfl) rfl rfl ?_
        refine OL.nil ?_
        cases b5 with
        | true =>
          replace hb5 := nbeq_t hb5
          refine r_cond_t rfl ?_
          refine r_seq ?_
          refine r_region ?_
          refine OL.q (Q1.assign rfl) rfl rfl ?_
          refine OL.q (Q1.assign rfl) rfl rfl ?_
          refine OL.nil ?_
          refine r_ret2 Try.func22 rfl rfl rfl ?_
          have hw := decG_head (b := b) (by first | omega | assumption) (by first | assumption | omega) (by first | exact .inl (by omega) | exact .inr (by assumption))
          exact Ret.mk ⟨_, _, rfl, ⟨w0.heap.size, w0.heap.size, .inl ⟨rfl, by rw [hw]⟩, Nat.le_refl _, hS2.mod.size⟩, by rw [hw], hS2.mod⟩
        | false =>
          replace hb5 := nbeq_f hb5
          refine r_cond_f rfl ?_
          refine r_skip ?_
          refine r_seq ?_
          refine r_region ?_
          refine OL.q (Q1.move rfl) rfl rfl ?_
          refine OL.q (Q1.move rfl) rfl rfl ?_
          obtain ⟨v3, hr3, hl3⟩ := Sl.part (P := Try.prog) h_b Try.underlying25 ti5 encB_len (0) ((b.length - 4)) (.inl ⟨rfl, rfl⟩) (.inr ⟨.i64, (((b.length : Nat) : Int) - 4), rfl, by omega⟩) (by omega) (by first | assumption | omega)
          replace hl3 : Sl encB w0 (Iv 0 w0.heap.size) v3 (b.take ((b.length - 4))) := by simpa using hl3
          refine OL.q (Q1.sliceV rfl rfl rfl rfl hr3) rfl rfl ?_
          have f3 := hS2.out hl3 (fun _ _ h => h)
          obtain ⟨ad1, cp1, hv1⟩ := f3.shape
          subst hv1
          refine OL.q (Q1.build (vs := #[(0, (.slice ad1 ((b.take ((b.length - 4)))).length cp1)), (1, (.int .i64 4 : Value))]) (v := .agg #[(.slice ad1 ((b.take ((b.length - 4)))).length cp1), .int .i64 4, .bool false]) rfl (fun _ => by kernel_rfl)) rfl rfl ?_
          refine OL.act rfl rfl (AW.box [(.slice ad1 ((b.take ((b.length - 4)))).length cp1), .int .i64 4, .bool false] rfl rfl ?_)
          intro w3 b6 hm3 hb6 hz1 hk1
          have hS3 := hS2.ext hm3
          have hS4 : St (fun _ => False) (fun _ => False) w0 w3 [bkR b6 [(.slice ad1 ((b.take ((b.length - 4)))).length cp1), .int .i64 4, .bool false] 101] := hS2.newBk hm3 hb6 hk1
          refine OL.q (Q1.assign rfl) rfl rfl ?_
          refine OL.nil ?_
          refine r_seq ?_
          refine r_region ?_
          have hS5 : St (fun _ => False) (fun _ => False) w0 w3 [bkR b6 [(.slice ad1 ((b.take ((b.length - 4)))).length cp1), .int .i64 4, .bool false] 101, relR ([] : List RNode) []] := hS4.new (Mod.refl _ _) (F := fun _ => False) (All2.nil) (fun _ h => h.elim)
          refine OL.q (Q1.assign rfl) rfl rfl ?_
          refine OL.nil ?_
          refine r_seq ?_
          refine r_seq ?_
          refine r_region ?_
          refine OL.q (Q1.move rfl) rfl rfl ?_
          have f4 := hS5.out hl3 (fun _ _ h => h)
          obtain ⟨Fy1, hAy1, hFy1, hky1⟩ := hS5.act (i := 0) rfl
          refine OL.act rfl rfl (AW.callF cl67 rfl (rdnum_c (w0 := w3) (G := Iv 0 w0.heap.size) 4 false 2 hAy1 (fun b hb => (hFy1 b hb).2) f4 (fun b hb hx => by have := (hFy1 b hx).1.1; rcases this with h | h; exact h; unfold Iv at hb; omega) (fun b hb => Nat.lt_of_lt_of_le hb.2 hS5.mod.size) (by first | omega | assumption | (simp only [List.length_take]; omega)) (by first | omega | (simp only [List.length_take]; omega)) (by omega)) ?_)
          rintro _ w4 ⟨rfl, hm4, F1, hB1, hF1⟩
          obtain ⟨⟨nv1, na1, nq1⟩, hnx1⟩ : ∃ x, x = numR ((b.take ((b.length - 4)))) 2 (4, false) := ⟨_, rfl⟩
          rw [← hnx1] at hB1
          rw [← hnx1]
          dsimp only at hB1 ⊢
          have hnr1 := numR_rng (by omega) (by first | omega | (simp only [List.length_take]; omega)) hnx1.symm
          have hnr1b := numR_byte hnx1.symm (by omega)
          have hS6 : St (fun _ => False) (fun _ => False) w0 w4 [bkR b6 [(.slice ad1 ((b.take ((b.length - 4)))).length cp1), .int .i64 na1, .bool nq1] 101, relR ([] : List RNode) []] := hky1 _ _ _ hm4 hB1 hF1
          clear hAy1 hFy1 hky1 hB1
          refine OL.q (Q1.move rfl) rfl rfl ?_
          refine OL.nil ?_
          refine r_block ?_
          have hS8 : St (fun _ => False) (fun _ => False) w0 w4 [bkR b6 [(.slice ad1 ((b.take ((b.length - 4)))).length cp1), .int .i64 na1, .bool nq1] 101, relR ([] : List RNode) [], accR encN 105 2 (.slice none 0 0) []] := hS6.newAcc (Mod.refl _ _) Acc.nil (.inl rfl)
          have hS9 : St (fun _ => False) (fun _ => False) w0 w4 [bkR b6 [(.slice ad1 ((b.take ((b.length - 4)))).length cp1), .int .i64 na1, .bool nq1] 101, accR encN 105 2 (.slice none 0 0) [], relR ([] : List RNode) []] := hS8.sel [0, 2, 1] (by rfl) (by decide)
          refine r_loop (I := fun m E W => ∃ (ak : Int) (qk : Bool) (v_nds : Value) (nds : List RNode) (k : Nat) (N : List GN), E = [(4, .int .i64 ((((b.length : Nat) : Int) - 4))), (7, ptr b6 0), (8, v_nds), (42, .int .i64 nv1), (43, .int .i64 (((k : Nat) : Int)))] ∧ m = nv1.toNat - k ∧ St (fun _ => False) (fun _ => False) w0 W [bkR b6 [(.slice ad1 ((b.take ((b.length - 4)))).length cp1), .int .i64 ak, .bool qk] 101, accR encN 105 2 v_nds nds, relR nds N] ∧ (NdsR (b.take (b.length - 4)) nv1.toNat (na1, nq1) k N (ak, qk)) ∧ (0 ≤ ak ∧ ak ≤ (b.take (b.length - 4)).length) ∧ ((k : Int) ≤ nv1) ∧ (N.length ≤ k) ∧ (∀ x ∈ N, x.2.length ≤ 1000000) ∧ (nds.length ≤ k)) ?_ ?_
          · refine ⟨_, _, ⟨(na1 : Int), (nq1 : Bool), (.slice none 0 0 : Value), ([] : List RNode), (0 : Nat), ([] : List GN), rfl, rfl, hS9, (by exact NdsR.start _ _ _), (by omega), (by omega), (by simp), (by (intro x hx; cases hx)), (by simp)⟩, ⟨rfl, rfl, rfl, rfl, rfl, trivial⟩⟩
          · rintro _ _ w5 ⟨ak, qk, v_nds, nds, k, N, rfl, rfl, hS7, hE, hak, hkl, hNl, hel, hdl⟩ ih1
            have hnvb := hnr1b
            refine r_seq ?_
            refine r_region ?_
            refine OL.qb (Q1.lt rfl rfl) rfl rfl ?_
            intro b7 hb7
            refine OL.nil ?_
            refine r_seq ?_
            cases b7 with
            | true =>
              replace hb7 := of_decide_eq_true hb7.symm
              refine r_cond_t rfl ?_
              refine r_skip ?_
              refine r_seq ?_
              refine r_block ?_
              refine r_seq ?_
              refine r_seq ?_
              refine r_region ?_
              refine OL.q (Q1.move rfl) rfl rfl ?_
              refine OL.q (Q1.nilCheckP rfl) rfl rfl ?_
              refine OL.q (Q1.fieldAddr fl101_2 rfl) rfl rfl ?_
              have f5 := hS7.bk (i := 0) rfl
              refine OL.q (Q1.load1 ti4 rfl (fun _ e => e ▸ (f5.cell 2 _ rfl))) rfl rfl ?_
              refine OL.nil ?_
              cases qk with
              | true =>
                refine r_cond_t rfl ?_
                refine r_exit rfl ?_
                refine r_seq ?_
                refine r_seq ?_
                refine r_region ?_
                refine OL.q (Q1.move rfl) rfl rfl ?_
                refine OL.q (Q1.nilCheckP rfl) rfl rfl ?_
                refine OL.q (Q1.fieldAddr fl101_2 rfl) rfl rfl ?_
                refine OL.q (Q1.load1 ti4 rfl (fun _ e => e ▸ (f5.cell 2 _ rfl))) rfl rfl ?_
                refine OL.q (Q1.move rfl) rfl rfl ?_
                refine OL.sk rfl rfl ?_
                refine OL.sk rfl rfl ?_
                refine OL.sk rfl rfl ?_
                refine OL.sk rfl rfl ?_
                refine OL.sk rfl rfl ?_
                refine OL.sk rfl rfl ?_
                refine OL.q (Q1.pick_t rfl rfl) rfl rfl ?_
                refine OL.nil ?_
                refine r_cond_t rfl ?_
                refine r_seq ?_
                refine r_region ?_
                refine OL.q (Q1.assign rfl) rfl rfl ?_
                refine OL.q (Q1.assign rfl) rfl rfl ?_
                refine OL.nil ?_
                refine r_ret2 Try.func22 rfl rfl rfl ?_
                have hw := decG_form (b := b) (by first | omega | assumption) (by first | assumption | omega) (by intro h; rcases h with h | h; omega; first | exact h (by assumption) | exact absurd (by assumption) h) hnx1 (by first | exact hE.bad | exact hE.fin (by omega)) (by first | exact .inl rfl | exact .inr (by first | assumption | omega))
                exact Ret.mk ⟨_, _, rfl, ⟨w0.heap.size, w0.heap.size, .inl ⟨rfl, by rw [hw]⟩, Nat.le_refl _, hS7.mod.size⟩, by rw [hw], hS7.mod⟩
              | false =>
                refine r_cond_f rfl ?_
                refine r_skip ?_
                refine r_region ?_
                refine OL.q (Q1.move rfl) rfl rfl ?_
                refine OL.q (Q1.move rfl) rfl rfl ?_
                have f6 := hS7.out hl3 (fun _ _ h => h)
                obtain ⟨Fy2, hAy2, hFy2, hky2⟩ := hS7.act (i := 0) rfl
                refine OL.act rfl rfl (AW.callF cl68 rfl (rdnode_c (w0 := w5) (G := Iv 0 w0.heap.size) ak false hAy2 (fun b hb => (hFy2 b hb).2) f6 (fun b hb hx => by have := (hFy2 b hx).1.1; rcases this with h | h; exact h; unfold Iv at hb; omega) (fun b hb => Nat.lt_of_lt_of_le hb.2 hS7.mod.size) (by first | omega | assumption | (simp only [List.length_take]; omega)) (by first | omega | (simp only [List.length_take]; omega))) ?_)
                rintro _ w6 ⟨ad2, cp2, rfl, hm5, F2, hB2, hF2⟩
                have hel1 := nodeR_len ((b.take ((b.length - 4)))) (ak, false)
                obtain ⟨⟨⟨nf1, es1⟩, ⟨na2, nq2⟩⟩, hnd1⟩ : ∃ x, x = nodeR ((b.take ((b.length - 4)))) (ak, false) := ⟨_, rfl⟩
                rw [← hnd1] at hB2 hel1
                rw [← hnd1]
                dsimp only at hB2 hel1 ⊢
                have hna := nodeR_at (by first | omega | (simp only [List.length_take]; omega)) hnd1
                have hS10 : St (fun _ => False) (fun _ => False) w0 w6 [boxR [bkR b6 [(.slice ad1 ((b.take ((b.length - 4)))).length cp1), .int .i64 na2, .bool nq2] 101, accR encE 94 2 (.slice ad2 es1.length cp2) es1], accR encN 105 2 v_nds nds, relR nds N] := hky2 _ _ _ hm5 hB2 hF2
                clear hAy2 hFy2 hky2 hB2
                have hS11 : St (fun _ => False) (fun _ => False) w0 w6 [accR encN 105 2 v_nds nds, relR nds N, boxR [bkR b6 [(.slice ad1 ((b.take ((b.length - 4)))).length cp1), .int .i64 na2, .bool nq2] 101, accR encE 94 2 (.slice ad2 es1.length cp2) es1]] := hS10.sel [1, 2, 0] (by rfl) (by decide)
                have hS12 : St (fun _ => False) (fun _ => False) w0 w6 [accR encN 105 2 v_nds nds, relR nds N, boxR [bkR b6 [(.slice ad1 ((b.take ((b.length - 4)))).length cp1), .int .i64 na2, .bool nq2] 101, accR encE 94 2 (.slice ad2 es1.length cp2) es1]] := hS11
                have hS13 : St (fun _ => False) (fun _ => False) w0 w6 [accR encN 105 2 v_nds nds, relR nds N, bkR b6 [(.slice ad1 ((b.take ((b.length - 4)))).length cp1), .int .i64 na2, .bool nq2] 101, accR encE 94 2 (.slice ad2 es1.length cp2) es1] := St.open (L1 := [accR encN 105 2 v_nds nds, relR nds N]) hS12
                refine OL.act rfl rfl (AW.buildSlice [(.agg #[.bool nf1, (.slice ad2 es1.length cp2)] : Value)] Try.underlying102 ti105 rfl rfl rfl (by decide) ?_)
                intro w7 b8 hm6 hb8 hz2 hk2
                have hS14 := hS13.ext hm6
                have hl4 := Sl.of_blk (enc := encN) hk2 ([(RNode.mk nf1 (SH.mk ad2 es1.length cp2))] : List RNode) 1 rfl rfl (by unfold maxLen; omega)
                have hS15 : St (fun _ => False) (fun _ => False) w0 w7 [accR encN 105 2 v_nds nds, relR nds N, bkR b6 [(.slice ad1 ((b.take ((b.length - 4)))).length cp1), .int .i64 na2, .bool nq2] 101, accR encE 94 2 (.slice ad2 es1.length cp2) es1, slR encN [((.slice (some ⟨b8, 0, none⟩) 1 1), [(RNode.mk nf1 (SH.mk ad2 es1.length cp2))])]] := hS13.newSlB hm6 hb8 hz2 hl4
                obtain ⟨g2, f7, hl5, k1⟩ := hS15.accK (i := 0) rfl
                have f8 := hS15.sl (i := 4) (k := 0) rfl rfl
                refine OL.act rfl rfl (AW.append f7 Try.underlying102 ti105 rfl encN_len encN_one rfl rfl (f8) (by first | omega | (simp only [List.length_append, List.length_cons, List.length_nil]; omega) | (simp; omega)) (by unfold maxLen; first | omega | (simp only [List.length_append, List.length_cons, List.length_nil]; omega) | (simp; omega)) ?_)
                intro v4 g1 w8 ha1 hm7 hg1 hz3
                have hS16 : St (fun _ => False) (fun _ => False) w0 w8 [accR encN 105 2 v4 ((nds ++ [(RNode.mk nf1 (SH.mk ad2 es1.length cp2))])), relR nds N, bkR b6 [(.slice ad1 ((b.take ((b.length - 4)))).length cp1), .int .i64 na2, .bool nq2] 101, accR encE 94 2 (.slice ad2 es1.length cp2) es1, slR encN [((.slice (some ⟨b8, 0, none⟩) 1 1), [(RNode.mk nf1 (SH.mk ad2 es1.length cp2))])]] := k1 _ _ _ _ hm7 ha1 hg1
                clear hg1
                refine OL.q (Q1.assign rfl) rfl rfl ?_
                refine OL.nil ?_
                refine r_inBlock ?_
                refine r_region ?_
                have hS17 : St (fun _ => False) (fun _ => False) w0 w8 [accR encN 105 2 v4 ((nds ++ [(RNode.mk nf1 (SH.mk ad2 es1.length cp2))])), bkR b6 [(.slice ad1 ((b.take ((b.length - 4)))).length cp1), .int .i64 na2, .bool nq2] 101, slR encN [((.slice (some ⟨b8, 0, none⟩) 1 1), [(RNode.mk nf1 (SH.mk ad2 es1.length cp2))])], relR nds N, accR encE 94 2 (.slice ad2 es1.length cp2) es1] := hS16.sel [0, 2, 4, 1, 3] (by rfl) (by decide)
                have hS18 : St (fun _ => False) (fun _ => False) w0 w8 [accR encN 105 2 v4 ((nds ++ [(RNode.mk nf1 (SH.mk ad2 es1.length cp2))])), bkR b6 [(.slice ad1 ((b.take ((b.length - 4)))).length cp1), .int .i64 na2, .bool nq2] 101, slR encN [((.slice (some ⟨b8, 0, none⟩) 1 1), [(RNode.mk nf1 (SH.mk ad2 es1.length cp2))])], boxR [relR nds N, accR encE 94 2 (.slice ad2 es1.length cp2) es1]] := St.close (L1 := [accR encN 105 2 v4 ((nds ++ [(RNode.mk nf1 (SH.mk ad2 es1.length cp2))])), bkR b6 [(.slice ad1 ((b.take ((b.length - 4)))).length cp1), .int .i64 na2, .bool nq2] 101, slR encN [((.slice (some ⟨b8, 0, none⟩) 1 1), [(RNode.mk nf1 (SH.mk ad2 es1.length cp2))])]]) hS17
                have hS19 : St (fun _ => False) (fun _ => False) w0 w8 [accR encN 105 2 v4 ((nds ++ [(RNode.mk nf1 (SH.mk ad2 es1.length cp2))])), bkR b6 [(.slice ad1 ((b.take ((b.length - 4)))).length cp1), .int .i64 na2, .bool nq2] 101, slR encN [((.slice (some ⟨b8, 0, none⟩) 1 1), [(RNode.mk nf1 (SH.mk ad2 es1.length cp2))])], relR (nds ++ [RNode.mk nf1 (SH.mk ad2 es1.length cp2)]) (N ++ [(nf1, es1)])] := hS18.imp (i := 3) rfl (fun F_ h_ => rel_push rfl rfl rfl h_)
                refine OL.q (Q1.addI (((k + 1 : Nat) : Int)) rfl rfl (by omega)) rfl rfl ?_
                refine OL.q (Q1.move rfl) rfl rfl ?_
                refine OL.nil ?_
                have hS20 : St (fun _ => False) (fun _ => False) w0 w8 [bkR b6 [(.slice ad1 ((b.take ((b.length - 4)))).length cp1), .int .i64 na2, .bool nq2] 101, accR encN 105 2 v4 ((nds ++ [(RNode.mk nf1 (SH.mk ad2 es1.length cp2))])), relR (nds ++ [RNode.mk nf1 (SH.mk ad2 es1.length cp2)]) (N ++ [(nf1, es1)])] := hS19.sel [1, 0, 3] (by rfl) (by decide)
                exact (ih1 _ _ _ ⟨(na2 : Int), (nq2 : Bool), (v4 : Value), ((nds ++ [(RNode.mk nf1 (SH.mk ad2 es1.length cp2))]) : List RNode), (k + 1 : Nat), ((N ++ [(nf1, es1)]) : List GN), rfl, rfl, hS20, (by first | exact hE.step (by omega) hnd1 | (exfalso; omega)), (by first | assumption | (exfalso; omega)), (by first | omega | (exfalso; omega)), (by first | (simp only [List.length_append, List.length_cons, List.length_nil]; omega) | (exfalso; omega)), (by first | (intro x hx; rcases List.mem_append.1 hx with h | h; exact hel x h; simp only [List.mem_singleton] at h; subst h; exact Nat.le_trans hel1 (by omega)) | (exfalso; omega)), (by first | (simp only [List.length_append, List.length_cons, List.length_nil]; omega) | (exfalso; omega))⟩ (by omega)).sub ⟨rfl, rfl, rfl, rfl, rfl, trivial⟩
            | false =>
              replace hb7 := of_decide_eq_false hb7.symm
              refine r_cond_f rfl ?_
              refine r_exit rfl ?_
              refine r_seq ?_
              refine r_seq ?_
              refine r_region ?_
              refine OL.q (Q1.move rfl) rfl rfl ?_
              refine OL.q (Q1.nilCheckP rfl) rfl rfl ?_
              refine OL.q (Q1.fieldAddr fl101_2 rfl) rfl rfl ?_
              have f5 := hS7.bk (i := 0) rfl
              refine OL.q (Q1.load1 ti4 rfl (fun _ e => e ▸ (f5.cell 2 _ rfl))) rfl rfl ?_
              refine OL.q (Q1.move rfl) rfl rfl ?_
              cases qk with
              | true =>
                refine OL.sk rfl rfl ?_
                refine OL.sk rfl rfl ?_
                refine OL.sk rfl rfl ?_
                refine OL.sk rfl rfl ?_
                refine OL.sk rfl rfl ?_
                refine OL.sk rfl rfl ?_
                refine OL.q (Q1.pick_t rfl rfl) rfl rfl ?_
                refine OL.nil ?_
                refine r_cond_t rfl ?_
                refine r_seq ?_
                refine r_region ?_
                refine OL.q (Q1.assign rfl) rfl rfl ?_
                refine OL.q (Q1.assign rfl) rfl rfl ?_
                refine OL.nil ?_
                refine r_ret2 Try.func22 rfl rfl rfl ?_
                have hw := decG_form (b := b) (by first | omega | assumption) (by first | assumption | omega) (by intro h; rcases h with h | h; omega; first | exact h (by assumption) | exact absurd (by assumption) h) hnx1 (by first | exact hE.bad | exact hE.fin (by omega)) (by first | exact .inl rfl | exact .inr (by first | assumption | omega))
                exact Ret.mk ⟨_, _, rfl, ⟨w0.heap.size, w0.heap.size, .inl ⟨rfl, by rw [hw]⟩, Nat.le_refl _, hS7.mod.size⟩, by rw [hw], hS7.mod⟩
              | false =>
                refine OL.q (Q1.move rfl) rfl rfl ?_
                refine OL.q (Q1.nilCheckP rfl) rfl rfl ?_
                refine OL.q (Q1.fieldAddr fl101_1 rfl) rfl rfl ?_
                refine OL.q (Q1.load1 ti3 rfl (fun _ e => e ▸ (f5.cell 1 _ rfl))) rfl rfl ?_
                refine OL.q (Q1.move rfl) rfl rfl ?_
                refine OL.qb (Q1.ne rfl rfl) rfl rfl ?_
                intro b8 hb8
                refine OL.q (Q1.pick_f rfl rfl) rfl rfl ?_
                refine OL.nil ?_
                cases b8 with
                | true =>
                  replace hb8 := bne_iff_ne.1 hb8.symm
                  refine r_cond_t rfl ?_
                  refine r_seq ?_
                  refine r_region ?_
                  refine OL.q (Q1.assign rfl) rfl rfl ?_
                  refine OL.q (Q1.assign rfl) rfl rfl ?_
                  refine OL.nil ?_
                  refine r_ret2 Try.func22 rfl rfl rfl ?_
                  have hw := decG_form (b := b) (by first | omega | assumption) (by first | assumption | omega) (by intro h; rcases h with h | h; omega; first | exact h (by assumption) | exact absurd (by assumption) h) hnx1 (by first | exact hE.bad | exact hE.fin (by omega)) (by first | exact .inl rfl | exact .inr (by first | assumption | omega))
                  exact Ret.mk ⟨_, _, rfl, ⟨w0.heap.size, w0.heap.size, .inl ⟨rfl, by rw [hw]⟩, Nat.le_refl _, hS7.mod.size⟩, by rw [hw], hS7.mod⟩
                | false =>
                  replace hb8 := bne_eq_false_iff_eq.1 hb8.symm
                  refine r_cond_f rfl ?_
                  refine r_skip ?_
                  refine r_seq ?_
                  refine r_region ?_
                  refine OL.q (Q1.move rfl) rfl rfl ?_
                  obtain ⟨Frl1, hrl1, hlt1⟩ := hS7.get (i := 2) rfl
                  obtain ⟨gq1, haq1, hlq1, _⟩ := hS7.accK (i := 1) rfl
                  refine OL.act rfl rfl (AW.callF cl69 rfl (made_c (w0 := w5) (G := fun b => b < w5.heap.size) (N := N) (haq1.sl.mono fun b h => Nat.lt_of_lt_of_le h.2 hlq1) (NRel.mono hrl1 hlt1) (fun _ h => h) (by omega) hel) ?_)
                  rintro vg1 w6 ⟨⟨lo1, hi1, hgr1, hlo1, hhi1⟩, hm5⟩
                  have hS10 := hS7.ext hm5
                  have hS11 : St (fun _ => False) (fun _ => False) w0 w6 [bkR b6 [(.slice ad1 ((b.take ((b.length - 4)))).length cp1), .int .i64 ak, .bool false] 101, accR encN 105 2 v_nds nds, relR nds N, grR vg1 (madeG N)] := hS7.newGr hm5 hgr1 hlo1 hhi1
                  refine OL.q (Q1.assign rfl) rfl rfl ?_
                  refine OL.nil ?_
                  refine r_seq ?_
                  refine r_seq ?_
                  refine r_region ?_
                  refine OL.q (Q1.move rfl) rfl rfl ?_
                  obtain ⟨lo2, hi2, hgr2, hhi2⟩ := hS11.grAt (i := 3) rfl
                  rcases hgr2 with ⟨hv2, hN1⟩ | ⟨b9, _, _, hv2, hN1, _⟩
                  · subst hv2
                    refine OL.q (Q1.eqNil Try.underlying33 rfl rfl) rfl rfl ?_
                    refine OL.nil ?_
                    refine r_cond_t rfl ?_
                    refine r_seq ?_
                    refine r_region ?_
                    refine OL.q (Q1.assign rfl) rfl rfl ?_
                    refine OL.q (Q1.assign rfl) rfl rfl ?_
                    refine OL.nil ?_
                    refine r_ret2 Try.func22 rfl rfl rfl ?_
                    have hw := decG_none (b := b) (by first | omega | assumption) (by first | assumption | omega) (by intro h; rcases h with h | h; omega; first | exact h (by assumption) | exact absurd (by assumption) h) hnx1 (by first | exact hE.bad | exact hE.fin (by omega)) (by intro h; rcases h with h | h; exact absurd h (by decide); omega) hN1
                    exact Ret.mk ⟨_, _, rfl, ⟨w0.heap.size, w0.heap.size, .inl ⟨rfl, by rw [hw]⟩, Nat.le_refl _, hS11.mod.size⟩, by rw [hw], hS11.mod⟩
                  · subst hv2
                    refine OL.q (Q1.eqNil Try.underlying33 rfl rfl) rfl rfl ?_
                    refine OL.nil ?_
                    refine r_cond_f rfl ?_
                    refine r_skip ?_
                    refine r_seq ?_
                    refine r_region ?_
                    refine OL.q (Q1.move rfl) rfl rfl ?_
                    refine OL.q (Q1.assign rfl) rfl rfl ?_
                    refine OL.q (Q1.assign rfl) rfl rfl ?_
                    refine OL.nil ?_
                    refine r_ret2 Try.func22 rfl rfl rfl ?_
                    have hw := decG_yes (b := b) (by first | omega | assumption) (by first | assumption | omega) (by intro h; rcases h with h | h; omega; first | exact h (by assumption) | exact absurd (by assumption) h) hnx1 (by first | exact hE.bad | exact hE.fin (by omega)) (by intro h; rcases h with h | h; exact absurd h (by decide); omega) hN1
                    obtain ⟨lo3, hi3, hgr3, hlo2, hhi3⟩ := hS11.grOut (i := 3) rfl hN1
                    exact Ret.mk ⟨_, _, rfl, ⟨lo3, hi3, by rw [hw]; exact hgr3, hlo2, hhi3⟩, by rw [hw], hS11.mod⟩
end Go.Proofs
