/-
  Walks through package auto.
-/
import Derived.Test.YtjhbobjjkbppkaaFacts
set_option linter.unusedVariables false
set_option linter.unusedSimpArgs false
namespace Go.Proofs
open Go.Ik Go.Ml
set_option maxRecDepth 20000 in
set_option maxHeartbeats 4000000 in
theorem amay_c {w0 : World}  (k : Int) (h_k : I64 k) (hk : 0 ≤ k ∧ k ≤ 4) :
    Calls Try.prog 76 #[.int .i64 k] w0 (Ret fun rv w1 => (∃ rb : Bool, rb = true ∧ rv = .bool rb) ∧ Ext w0 w1) := by
  have hE0 : Ext w0 w0 := Mod.refl _ _
  refine calls_enter Try.func76 rfl Try.ntmps76 rfl ?_
  refine r_seq ?_
  refine r_region ?_
  refine OL.q (Q1.assign rfl) rfl rfl ?_
  refine OL.nil ?_
  refine r_seq ?_
  refine r_region ?_
  refine OL.q (Q1.move rfl) rfl rfl ?_
  refine OL.qb (Q1.ge rfl rfl) rfl rfl ?_
  intro b1 hb1
  obtain rfl : b1 = true := hb1.trans (by exact decide_eq_true (by omega))
  refine OL.q (Q1.move rfl) rfl rfl ?_
  refine OL.q (Q1.move rfl) rfl rfl ?_
  refine OL.qb (Q1.le rfl rfl) rfl rfl ?_
  intro b2 hb2
  obtain rfl : b2 = true := hb2.trans (by exact decide_eq_true (by omega))
  refine OL.q (Q1.pick_t rfl rfl) rfl rfl ?_
  refine OL.q (Q1.assign rfl) rfl rfl ?_
  refine OL.nil ?_
  refine r_ret1 Try.func76 rfl rfl ?_
  exact Ret.mk ⟨⟨_, (by rfl), rfl⟩, hE0⟩
set_option maxRecDepth 20000 in
set_option maxHeartbeats 4000000 in
theorem aspread_c {w0 : World}  {v_q : Value} {q : List Int} (k : Int) {v_s : Value} {s : List Pos} (h_q : Sl encRn w0 (Iv 0 w0.heap.size) v_q q) (h_k : I64 k) (h_s : Sl encPos w0 (Iv 0 w0.heap.size) v_s s) (hk : 0 ≤ k ∧ k ≤ 4) (hq : q.length ≤ 1000) (hsl : s.length ≤ 1000) :
    Calls Try.prog 77 #[v_q, .int .i64 k, v_s] w0 (Ret fun rv w1 => (∃ gr, Acc Ik.encI 3 1 w1 gr rv (rowL q.length (spreadF q.length k s)) ∧ (gr = 0 ∨ w0.heap.size < gr)) ∧ Ext w0 w1) := by
  have hE0 : Ext w0 w0 := Mod.refl _ _
  have hle1 := h_q.le
  have hle2 := h_s.le
  refine calls_enter Try.func77 rfl Try.ntmps77 rfl ?_
  refine r_seq ?_
  refine r_region ?_
  refine OL.q (Q1.assign rfl) rfl rfl ?_
  refine OL.nil ?_
  refine r_seq ?_
  refine r_region ?_
  refine OL.q (Q1.move rfl) rfl rfl ?_
  refine OL.q (Q1.lenSl Try.underlying74 (h_q) rfl) rfl rfl ?_
  refine OL.q (Q1.addI (((q.length + 1 : Nat) : Int)) rfl rfl (by omega)) rfl rfl ?_
  refine OL.act rfl rfl (AW.makeSlice (enc := Ik.encI) (q.length + 1) (0 : Int) Try.underlying55 ti3 (by decide) rfl Ik.encI_len rfl rfl (by omega) (by omega) (by omega) (by unfold maxLen; omega) ?_)
  intro v1 g1 w1 hm1 hg1 hz1 ha1
  have f1 := h_q.ext hm1
  have f2 := h_s.ext hm1
  have hE1 := hE0.ext hm1
  have hs1 := hm1.size
  have hr1 : (List.replicate (q.length + 1) (0 : Int)).length = q.length + 1 := List.length_replicate
  refine OL.q (Q1.assign rfl) rfl rfl ?_
  refine OL.nil ?_
  refine r_seq ?_
  refine r_seq ?_
  refine r_region ?_
  refine OL.q (Q1.move rfl) rfl rfl ?_
  refine OL.q (Q1.lenSl Try.underlying55 (ha1.sl) rfl) rfl rfl ?_
  refine OL.q (Q1.move rfl) rfl rfl ?_
  refine OL.nil ?_
  refine r_block ?_
  refine r_loop (I := fun m E W => ∃ (i : Nat) (row : List Int), E = [(0, v_q), (1, .int .i64 k), (2, v_s), (7, v1), (17, .int .i64 (((((List.replicate (q.length + 1) (0 : Int))).length : Nat) : Int))), (18, .int .i64 (((i : Nat) : Int)))] ∧ m = q.length + 1 - i ∧ Ext w0 W ∧ w1.heap.size ≤ W.heap.size ∧ Sl encRn W (Iv 0 w0.heap.size) v_q q ∧ Sl encPos W (Iv 0 w0.heap.size) v_s s ∧ Acc Ik.encI 3 1 W g1 v1 row ∧ (row = rowL q.length fun j => if j < i then k + 1 else 0) ∧ (row.length = q.length + 1)) ?_ ?_
  · refine ⟨_, _, ⟨(0 : Nat), ((List.replicate (q.length + 1) (0 : Int)) : List Int), rfl, rfl, hE1, Nat.le_refl _, f1, f2, ha1, (by exact fill_start _ _), (by simp)⟩, ⟨rfl, rfl, rfl, rfl, rfl, rfl, trivial⟩⟩
  · rintro _ _ w2 ⟨i, row, rfl, rfl, hE2, hs2, f3, f4, f5, hrow, hrl⟩ ih1
    refine r_seq ?_
    refine r_region ?_
    refine OL.qb (Q1.lt rfl rfl) rfl rfl ?_
    intro b1 hb1
    refine OL.nil ?_
    refine r_seq ?_
    cases b1 with
    | true =>
      replace hb1 := of_decide_eq_true hb1.symm
      refine r_cond_t rfl ?_
      refine r_skip ?_
      refine r_seq ?_
      refine r_block ?_
      refine r_seq ?_
      refine r_region ?_
      refine OL.q (Q1.move rfl) rfl rfl ?_
      refine OL.q (Q1.assign rfl) rfl rfl ?_
      refine OL.nil ?_
      refine r_region ?_
      refine OL.q (Q1.move rfl) rfl rfl ?_
      refine OL.q (Q1.move rfl) rfl rfl ?_
      refine OL.q (Q1.move rfl) rfl rfl ?_
      refine OL.q (Q1.addI ((k + 1)) rfl rfl (by omega)) rfl rfl ?_
      obtain ⟨hr2, x1, hx1⟩ := Acc.at (P := Try.prog) f5 Try.underlying55 ti3 (k := .i64) (n := ((i : Nat) : Int)) (i) (by omega) (by first | assumption | omega | (simp; done))
      refine OL.q (Q1.indexAddr rfl rfl hr2) rfl rfl ?_
      have hl2 := f5.lt
      refine OL.act rfl rfl (AW.storeA f5 Ik.encI_len (i := i) (o := 0) hx1 ((k + 1)) ti3 rfl (by omega) rfl rfl rfl rfl (by decide) (by first | rfl | simp [Ik.encI]) ?_)
      intro w3 hm2 hz2 ha2
      have hl3 := f5.lt
      have f6 := f3.keepG hm2 (by omega)
      have f7 := f4.keepG hm2 (by omega)
      have hE3 := Ext.thenG hE2 hm2 (by omega)
      have hs3 := hm2.size
      have hl1 : (row.set i ((k + 1))).length = row.length := List.length_set
      refine OL.nil ?_
      refine r_inBlock ?_
      refine r_region ?_
      refine OL.q (Q1.addI (((i + 1 : Nat) : Int)) rfl rfl (by omega)) rfl rfl ?_
      refine OL.q (Q1.move rfl) rfl rfl ?_
      refine OL.nil ?_
      exact (ih1 _ _ _ ⟨(i + 1 : Nat), ((row.set i ((k + 1))) : List Int), rfl, rfl, hE3, (by omega), f6, f7, ha2, (by first | exact fill_step hrow (by omega) | (exfalso; omega)), (by first | (simp only [List.length_set]; omega) | (exfalso; omega))⟩ (by omega)).sub ⟨rfl, rfl, rfl, rfl, rfl, rfl, trivial⟩
    | false =>
      replace hb1 := of_decide_eq_false hb1.symm
      refine r_cond_f rfl ?_
      refine r_exit rfl ?_
      refine r_seq ?_
      refine r_seq ?_
      refine r_region ?_
      refine OL.q (Q1.move rfl) rfl rfl ?_
      refine OL.q (Q1.lenSl Try.underlying93 (f4) rfl) rfl rfl ?_
      refine OL.q (Q1.move rfl) rfl rfl ?_
      refine OL.nil ?_
      refine r_block ?_
      refine r_loop (I := fun m E W => ∃ (j : Nat) (row2 : List Int), E = [(0, v_q), (1, .int .i64 k), (7, v1), (27, v_s), (28, .int .i64 (((s.length : Nat) : Int))), (29, .int .i64 (((j : Nat) : Int)))] ∧ m = s.length - j ∧ Ext w0 W ∧ w2.heap.size ≤ W.heap.size ∧ Sl encRn W (Iv 0 w0.heap.size) v_q q ∧ Acc Ik.encI 3 1 W g1 v1 row2 ∧ Sl encPos W (Iv 0 w0.heap.size) v_s s ∧ (row2 = rowL q.length (spreadF q.length k (s.take j))) ∧ (row2.length = q.length + 1)) ?_ ?_
      · refine ⟨_, _, ⟨(0 : Nat), (row : List Int), rfl, rfl, hE2, Nat.le_refl _, f3, f5, f4, (by first | exact fill_end hrow (by omega)), (by omega)⟩, ⟨rfl, rfl, rfl, rfl, rfl, rfl, trivial⟩⟩
      · rintro _ _ w3 ⟨j, row2, rfl, rfl, hE3, hs3, f6, f7, f8, hq2, hq2l⟩ ih2
        refine r_seq ?_
        refine r_region ?_
        refine OL.qb (Q1.lt rfl rfl) rfl rfl ?_
        intro b2 hb2
        refine OL.nil ?_
        refine r_seq ?_
        cases b2 with
        | true =>
          replace hb2 := of_decide_eq_true hb2.symm
          refine r_cond_t rfl ?_
          refine r_skip ?_
          refine r_seq ?_
          refine r_block ?_
          refine r_seq ?_
          refine r_region ?_
          obtain ⟨x1, b3, o1, hx1, hr2, hl1, hu1, hw1⟩ := Sl.at' (P := Try.prog) f8 Try.underlying93 ti121 encPos_len (k := .i64) (n := ((j : Nat) : Int)) (j) (by omega) (by first | assumption | omega)
          refine OL.q (Q1.indexAddr rfl rfl hr2) rfl rfl ?_
          refine OL.q (Q1.loadN ti121 rfl (fun _ e => e ▸ hw1) rfl) rfl rfl ?_
          refine OL.act rfl rfl (AW.alloc ti121 ?_)
          intro w4 b4 hm2 hb3 hz2 hk1
          have hl2 := f7.lt
          have f9 := f6.ext hm2
          have f10 := f7.ext hm2
          have f11 := f8.ext hm2
          have hE4 := hE3.ext hm2
          have hs4 := hm2.size
          refine OL.act rfl rfl (AW.store ti121 rfl rfl rfl rfl rfl hk1 (Nat.le_of_ble_eq_true rfl) ?_)
          intro w5 hm3 hz3 hk2
          replace hk2 : Bk w5 b4 [.int .i64 x1.at_, .int .i64 x1.dist] 121 := hk2
          have hl3 := f10.lt
          have f12 := f9.keepG hm3 (by omega)
          have f13 := f10.keepG hm3 (by omega)
          have f14 := f11.keepG hm3 (by omega)
          have hE5 := Ext.thenG hE4 hm3 (by omega)
          have hs5 := hm3.size
          refine OL.nil ?_
          refine r_seq ?_
          refine r_seq ?_
          refine r_region ?_
          refine OL.q (Q1.fieldAddr fl121_0 rfl) rfl rfl ?_
          refine OL.q (Q1.load1 ti3 rfl (fun _ e => e ▸ (hk2.cell 0 _ rfl))) rfl rfl ?_
          refine OL.qb (Q1.lt rfl rfl) rfl rfl ?_
          intro b5 hb4
          refine OL.q (Q1.move rfl) rfl rfl ?_
          cases b5 with
          | true =>
            replace hb4 := of_decide_eq_true hb4.symm
            refine OL.sk rfl rfl ?_
            refine OL.sk rfl rfl ?_
            refine OL.sk rfl rfl ?_
            refine OL.sk rfl rfl ?_
            refine OL.sk rfl rfl ?_
            refine OL.q (Q1.pick_t rfl rfl) rfl rfl ?_
            refine OL.q (Q1.move rfl) rfl rfl ?_
            refine OL.sk rfl rfl ?_
            refine OL.sk rfl rfl ?_
            refine OL.sk rfl rfl ?_
            refine OL.q (Q1.pick_t rfl rfl) rfl rfl ?_
            refine OL.q (Q1.move rfl) rfl rfl ?_
            refine OL.sk rfl rfl ?_
            refine OL.sk rfl rfl ?_
            refine OL.sk rfl rfl ?_
            refine OL.sk rfl rfl ?_
            refine OL.q (Q1.pick_t rfl rfl) rfl rfl ?_
            refine OL.nil ?_
            refine r_cond_t rfl ?_
            refine r_exit rfl ?_
            refine r_region ?_
            refine OL.q (Q1.addI (((j + 1 : Nat) : Int)) rfl rfl (by omega)) rfl rfl ?_
            refine OL.q (Q1.move rfl) rfl rfl ?_
            refine OL.nil ?_
            exact (ih2 _ _ _ ⟨(j + 1 : Nat), (row2 : List Int), rfl, rfl, hE5, (by omega), f12, f13, f14, (by first | exact hq2.trans (sp_skip hx1 (by omega)) | (rw [hq3]; exact sp_end hx1 (by omega)) | (exfalso; omega)), (by first | omega | (exfalso; omega))⟩ (by omega)).sub ⟨rfl, rfl, rfl, rfl, rfl, rfl, trivial⟩
          | false =>
            replace hb4 := of_decide_eq_false hb4.symm
            refine OL.q (Q1.fieldAddr fl121_0 rfl) rfl rfl ?_
            refine OL.q (Q1.load1 ti3 rfl (fun _ e => e ▸ (hk2.cell 0 _ rfl))) rfl rfl ?_
            refine OL.q (Q1.move rfl) rfl rfl ?_
            refine OL.q (Q1.lenSl Try.underlying74 (f12) rfl) rfl rfl ?_
            refine OL.qb (Q1.gt rfl rfl) rfl rfl ?_
            intro b6 hb5
            refine OL.q (Q1.pick_f rfl rfl) rfl rfl ?_
            refine OL.q (Q1.move rfl) rfl rfl ?_
            cases b6 with
            | true =>
              replace hb5 := of_decide_eq_true hb5.symm
              refine OL.sk rfl rfl ?_
              refine OL.sk rfl rfl ?_
              refine OL.sk rfl rfl ?_
              refine OL.q (Q1.pick_t rfl rfl) rfl rfl ?_
              refine OL.q (Q1.move rfl) rfl rfl ?_
              refine OL.sk rfl rfl ?_
              refine OL.sk rfl rfl ?_
              refine OL.sk rfl rfl ?_
              refine OL.sk rfl rfl ?_
              refine OL.q (Q1.pick_t rfl rfl) rfl rfl ?_
              refine OL.nil ?_
              refine r_cond_t rfl ?_
              refine r_exit rfl ?_
              refine r_region ?_
              refine OL.q (Q1.addI (((j + 1 : Nat) : Int)) rfl rfl (by omega)) rfl rfl ?_
              refine OL.q (Q1.move rfl) rfl rfl ?_
              refine OL.nil ?_
              exact (ih2 _ _ _ ⟨(j + 1 : Nat), (row2 : List Int), rfl, rfl, hE5, (by omega), f12, f13, f14, (by first | exact hq2.trans (sp_skip hx1 (by omega)) | (rw [hq3]; exact sp_end hx1 (by omega)) | (exfalso; omega)), (by first | omega | (exfalso; omega))⟩ (by omega)).sub ⟨rfl, rfl, rfl, rfl, rfl, rfl, trivial⟩
            | false =>
              replace hb5 := of_decide_eq_false hb5.symm
              refine OL.q (Q1.fieldAddr fl121_1 rfl) rfl rfl ?_
              refine OL.q (Q1.load1 ti3 rfl (fun _ e => e ▸ (hk2.cell 1 _ rfl))) rfl rfl ?_
              refine OL.qb (Q1.lt rfl rfl) rfl rfl ?_
              intro b7 hb6
              refine OL.q (Q1.pick_f rfl rfl) rfl rfl ?_
              refine OL.q (Q1.move rfl) rfl rfl ?_
              cases b7 with
              | true =>
                replace hb6 := of_decide_eq_true hb6.symm
                refine OL.sk rfl rfl ?_
                refine OL.sk rfl rfl ?_
                refine OL.sk rfl rfl ?_
                refine OL.sk rfl rfl ?_
                refine OL.q (Q1.pick_t rfl rfl) rfl rfl ?_
                refine OL.nil ?_
                refine r_cond_t rfl ?_
                refine r_exit rfl ?_
                refine r_region ?_
                refine OL.q (Q1.addI (((j + 1 : Nat) : Int)) rfl rfl (by omega)) rfl rfl ?_
                refine OL.q (Q1.move rfl) rfl rfl ?_
                refine OL.nil ?_
                exact (ih2 _ _ _ ⟨(j + 1 : Nat), (row2 : List Int), rfl, rfl, hE5, (by omega), f12, f13, f14, (by first | exact hq2.trans (sp_skip hx1 (by omega)) | (rw [hq3]; exact sp_end hx1 (by omega)) | (exfalso; omega)), (by first | omega | (exfalso; omega))⟩ (by omega)).sub ⟨rfl, rfl, rfl, rfl, rfl, rfl, trivial⟩
              | false =>
                replace hb6 := of_decide_eq_false hb6.symm
                refine OL.q (Q1.fieldAddr fl121_1 rfl) rfl rfl ?_
                refine OL.q (Q1.load1 ti3 rfl (fun _ e => e ▸ (hk2.cell 1 _ rfl))) rfl rfl ?_
                refine OL.q (Q1.move rfl) rfl rfl ?_
                refine OL.qb (Q1.gt rfl rfl) rfl rfl ?_
                intro b8 hb7
                refine OL.q (Q1.pick_f rfl rfl) rfl rfl ?_
                refine OL.nil ?_
                cases b8 with
                | true =>
                  replace hb7 := of_decide_eq_true hb7.symm
                  refine r_cond_t rfl ?_
                  refine r_exit rfl ?_
                  refine r_region ?_
                  refine OL.q (Q1.addI (((j + 1 : Nat) : Int)) rfl rfl (by omega)) rfl rfl ?_
                  refine OL.q (Q1.move rfl) rfl rfl ?_
                  refine OL.nil ?_
                  exact (ih2 _ _ _ ⟨(j + 1 : Nat), (row2 : List Int), rfl, rfl, hE5, (by omega), f12, f13, f14, (by first | exact hq2.trans (sp_skip hx1 (by omega)) | (rw [hq3]; exact sp_end hx1 (by omega)) | (exfalso; omega)), (by first | omega | (exfalso; omega))⟩ (by omega)).sub ⟨rfl, rfl, rfl, rfl, rfl, rfl, trivial⟩
                | false =>
                  replace hb7 := of_decide_eq_false hb7.symm
                  refine r_cond_f rfl ?_
                  refine r_skip ?_
                  refine r_seq ?_
                  refine r_region ?_
                  refine OL.q (Q1.fieldAddr fl121_0 rfl) rfl rfl ?_
                  refine OL.q (Q1.load1 ti3 rfl (fun _ e => e ▸ (hk2.cell 0 _ rfl))) rfl rfl ?_
                  refine OL.q (Q1.move rfl) rfl rfl ?_
                  refine OL.q (Q1.subI ((x1.at_ - k)) rfl rfl (by omega)) rfl rfl ?_
                  refine OL.q (Q1.max rfl rfl) rfl rfl ?_
                  refine OL.q (Q1.assign rfl) rfl rfl ?_
                  refine OL.nil ?_
                  refine r_block ?_
                  refine r_loop (I := fun m E W => ∃ (i : Int) (row3 : List Int), E = [(0, v_q), (1, .int .i64 k), (7, v1), (10, ptr b4 0), (11, .int .i64 i), (27, v_s), (28, .int .i64 (((s.length : Nat) : Int))), (29, .int .i64 (((j : Nat) : Int)))] ∧ m = (3000 - i).toNat ∧ Ext w0 W ∧ w5.heap.size ≤ W.heap.size ∧ Sl encRn W (Iv 0 w0.heap.size) v_q q ∧ Acc Ik.encI 3 1 W g1 v1 row3 ∧ Bk W b4 [.int .i64 x1.at_, .int .i64 x1.dist] 121 ∧ Sl encPos W (Iv 0 w0.heap.size) v_s s ∧ b4 + 1 ≠ g1 ∧ (row3 = rowL q.length (spMix q.length k s j i)) ∧ (row3.length = q.length + 1) ∧ (0 ≤ i ∧ i ≤ 3000 ∧ x1.at_ - k ≤ i)) ?_ ?_
                  · refine ⟨_, _, ⟨((max ((x1.at_ - k)) 0) : Int), (row2 : List Int), rfl, rfl, hE5, Nat.le_refl _, f12, f13, hk2, f14, (by omega), (by rw [hq2]; exact sp_start hx1 rfl), (by omega), (by omega)⟩, ⟨rfl, rfl, rfl, rfl, rfl, rfl, rfl, rfl, trivial⟩⟩
                  · rintro _ _ w6 ⟨i, row3, rfl, rfl, hE6, hs6, f15, f16, f17, f18, hn1, hq3, hq3l, hi3⟩ ih3
                    refine r_seq ?_
                    refine r_seq ?_
                    refine r_region ?_
                    refine OL.q (Q1.move rfl) rfl rfl ?_
                    refine OL.q (Q1.fieldAddr fl121_0 rfl) rfl rfl ?_
                    refine OL.q (Q1.load1 ti3 rfl (fun _ e => e ▸ (f17.cell 0 _ rfl))) rfl rfl ?_
                    refine OL.q (Q1.move rfl) rfl rfl ?_
                    refine OL.q (Q1.addI ((x1.at_ + k)) rfl rfl (by omega)) rfl rfl ?_
                    refine OL.q (Q1.move rfl) rfl rfl ?_
                    refine OL.q (Q1.lenSl Try.underlying74 (f15) rfl) rfl rfl ?_
                    refine OL.q (Q1.min rfl rfl) rfl rfl ?_
                    refine OL.qb (Q1.le rfl rfl) rfl rfl ?_
                    intro b9 hb8
                    refine OL.nil ?_
                    cases b9 with
                    | true =>
                      replace hb8 := of_decide_eq_true hb8.symm
                      refine r_cond_t rfl ?_
                      refine r_skip ?_
                      refine r_seq ?_
                      refine r_block ?_
                      refine r_draw1 (fun i => Nat.beq i 20) 20 (fun w' => Mod (Mg 0) w6 w') mixed (by kernel_rfl) ?_
                      intro w7 hm4
                      have hl4 := f16.lt
                      have f19 := f15.ext hm4
                      have f20 := f16.ext hm4
                      have f21 := f17.ext hm4
                      have f22 := f18.ext hm4
                      have hE7 := hE6.ext hm4
                      have hs7 := hm4.size
                      have hCw7 : Mod (Mg 0) w6 w7 := Mod.ofExt hm4
                      refine ⟨hCw7, ?_⟩
                      rw [show List.range' 0 (Array.size _) = [0, 1, 2, 3, 4, 5, 6, 7, 8, 9, 10, 11, 12, 13, 14, 15, 16, 17, 18, 19, 20] from rfl]
                      refine OD.q rfl rfl (Q1.move rfl) rfl rfl ?_
                      refine OD.q rfl rfl (Q1.move rfl) rfl rfl ?_
                      refine OD.q rfl rfl (Q1.move rfl) rfl rfl ?_
                      refine OD.q rfl rfl (Q1.move rfl) rfl rfl ?_
                      obtain ⟨x2, b10, o2, hx2, hr3, hl5, hu2, hw2⟩ := Sl.at' (P := Try.prog) f16.sl Try.underlying55 ti3 Ik.encI_len (k := .i64) (n := i) ((i).toNat) (by omega) (by first | assumption | omega)
                      refine OD.q rfl rfl (Q1.indexAddr rfl rfl hr3) rfl rfl ?_
                      have hx2r := rowL_at (hq3 ▸ hx2)
                      have hx2g := sp_rng (n := q.length) (s := s) (j := j) (i := i) (x := i.toNat) hk.1
                      refine OD.q rfl rfl (Q1.load1 ti3 rfl (fun _ hc => hw2.keepG hc (by omega))) rfl rfl ?_
                      refine OD.q rfl rfl (Q1.fieldAddr fl121_1 rfl) rfl rfl ?_
                      refine OD.q rfl rfl (Q1.load1 ti3 rfl (fun _ hc => (f17.cell 1 _ rfl).keepG hc (by omega))) rfl rfl ?_
                      refine OD.q rfl rfl (Q1.move rfl) rfl rfl ?_
                      refine OD.q rfl rfl (Q1.fieldAddr fl121_0 rfl) rfl rfl ?_
                      refine OD.q rfl rfl (Q1.load1 ti3 rfl (fun _ hc => (f17.cell 0 _ rfl).keepG hc (by omega))) rfl rfl ?_
                      refine OD.q rfl rfl (Q1.subI ((i - x1.at_)) rfl rfl (by omega)) rfl rfl ?_
                      refine OD.q rfl rfl (Q1.fieldAddr fl121_0 rfl) rfl rfl ?_
                      refine OD.q rfl rfl (Q1.load1 ti3 rfl (fun _ hc => (f17.cell 0 _ rfl).keepG hc (by omega))) rfl rfl ?_
                      refine OD.q rfl rfl (Q1.move rfl) rfl rfl ?_
                      refine OD.q rfl rfl (Q1.subI ((x1.at_ - i)) rfl rfl (by omega)) rfl rfl ?_
                      refine OD.q rfl rfl (Q1.max rfl rfl) rfl rfl ?_
                      refine OD.q rfl rfl (Q1.addI ((x1.dist + ((max ((i - x1.at_)) ((x1.at_ - i)))))) rfl rfl (by omega)) rfl rfl ?_
                      refine OD.q rfl rfl (Q1.min rfl rfl) rfl rfl ?_
                      obtain ⟨hr4, x3, hx3⟩ := Acc.at (P := Try.prog) f16 Try.underlying55 ti3 (k := .i64) (n := i) ((i).toNat) (by omega) (by first | assumption | omega | (simp; done))
                      refine OD.q rfl rfl (Q1.indexAddr rfl rfl hr4) rfl rfl ?_
                      have hl7 := f20.lt
                      refine OD.act rfl rfl rfl rfl (AW.storeA f20 Ik.encI_len (i := ((i).toNat)) (o := 0) hx3 ((min x2 ((x1.dist + ((max ((i - x1.at_)) ((x1.at_ - i)))))))) ti3 rfl (by omega) rfl rfl rfl rfl (by decide) (by first | rfl | simp [Ik.encI]) ?_)
                      intro w8 hm5 hz4 ha2
                      have hl8 := f20.lt
                      have f23 := f19.keepG hm5 (by omega)
                      have f24 := f21.keepG hm5 (by omega)
                      have f25 := f22.keepG hm5 (by omega)
                      have hE8 := Ext.thenG hE7 hm5 (by omega)
                      have hs8 := hm5.size
                      refine ⟨.inl rfl, ?_⟩
                      have hl6 : (row3.set ((i).toNat) ((min x2 ((x1.dist + ((max ((i - x1.at_)) ((x1.at_ - i))))))))).length = row3.length := List.length_set
                      refine OD.nil ?_
                      refine r_inBlock ?_
                      refine r_region ?_
                      refine OL.q (Q1.move rfl) rfl rfl ?_
                      refine OL.q (Q1.addI ((i + 1)) rfl rfl (by omega)) rfl rfl ?_
                      refine OL.q (Q1.assign rfl) rfl rfl ?_
                      refine OL.nil ?_
                      exact (ih3 _ _ _ ⟨((i + 1) : Int), ((row3.set ((i).toNat) ((min x2 ((x1.dist + ((max ((i - x1.at_)) ((x1.at_ - i))))))))) : List Int), rfl, rfl, hE8, (by omega), f23, ha2, f24, f25, (by omega), (by first | (subst hq3; exact sp_set hx1 (by omega) (by omega) (by omega) (by omega) (by omega) hx2) | (exfalso; omega)), (by first | (simp only [List.length_set]; omega) | (exfalso; omega)), (by first | omega | (exfalso; omega))⟩ (by omega)).sub ⟨rfl, rfl, rfl, rfl, rfl, rfl, rfl, rfl, trivial⟩
                    | false =>
                      replace hb8 := of_decide_eq_false hb8.symm
                      refine r_cond_f rfl ?_
                      refine r_exit rfl ?_
                      refine r_inBlock ?_
                      refine r_region ?_
                      refine OL.q (Q1.addI (((j + 1 : Nat) : Int)) rfl rfl (by omega)) rfl rfl ?_
                      refine OL.q (Q1.move rfl) rfl rfl ?_
                      refine OL.nil ?_
                      exact (ih2 _ _ _ ⟨(j + 1 : Nat), (row3 : List Int), rfl, rfl, hE6, (by omega), f15, f16, f18, (by first | exact hq2.trans (sp_skip hx1 (by omega)) | (rw [hq3]; exact sp_end hx1 (by omega)) | (exfalso; omega)), (by first | omega | (exfalso; omega))⟩ (by omega)).sub ⟨rfl, rfl, rfl, rfl, rfl, rfl, trivial⟩
        | false =>
          replace hb2 := of_decide_eq_false hb2.symm
          refine r_cond_f rfl ?_
          refine r_exit rfl ?_
          refine r_seq ?_
          refine r_region ?_
          refine OL.q (Q1.move rfl) rfl rfl ?_
          refine OL.q (Q1.assign rfl) rfl rfl ?_
          refine OL.nil ?_
          refine r_ret1 Try.func77 rfl rfl ?_
          exact Ret.mk ⟨⟨_, Acc.cast f7 (by first | exact sp_fin hq2 (by omega) | (exfalso; omega)), by omega⟩, hE3⟩
set_option maxRecDepth 20000 in
set_option maxHeartbeats 4000000 in
theorem cloneI_c {w0 : World}  {v_s : Value} {s : List Int} (h_s : Sl Ik.encI w0 (Iv 0 w0.heap.size) v_s s) (hln : s.length ≤ 1000000) :
    Calls Try.prog 80 #[v_s] w0 (Ret fun rv w1 => (∃ gr, Acc Ik.encI 3 1 w1 gr rv (s) ∧ (gr = 0 ∨ w0.heap.size < gr)) ∧ Ext w0 w1) := by
  have hE0 : Ext w0 w0 := Mod.refl _ _
  have hle1 := h_s.le
  refine calls_enter Try.func80 rfl Try.ntmps80 rfl ?_
  refine r_seq ?_
  refine r_region ?_
  refine OL.q (Q1.assign rfl) rfl rfl ?_
  refine OL.nil ?_
  refine r_seq ?_
  refine r_seq ?_
  refine r_region ?_
  refine OL.q (Q1.move rfl) rfl rfl ?_
  obtain ⟨ad1, cp1, hv1, hz1⟩ := Sl.isNil (h_s)
  subst hv1
  refine OL.qb (Q1.eqNilSl Try.underlying55 rfl rfl) rfl rfl ?_
  intro b1 hb1
  refine OL.nil ?_
  cases b1 with
  | true =>
    replace hb1 := hb1.symm
    replace hz1 := hz1 hb1
    refine r_cond_t rfl ?_
    refine r_seq ?_
    refine r_region ?_
    refine OL.q (Q1.assign rfl) rfl rfl ?_
    refine OL.nil ?_
    refine r_ret1 Try.func80 rfl rfl ?_
    exact Ret.mk ⟨⟨0, Acc.cast Acc.nil (by first | (symm; assumption) | simp | (exfalso; omega)), .inl rfl⟩, hE0⟩
  | false =>
    replace hb1 := hb1.symm
    refine r_cond_f rfl ?_
    refine r_skip ?_
    refine r_seq ?_
    refine r_region ?_
    refine OL.act rfl rfl (AW.buildSlice [] Try.underlying55 ti3 rfl rfl rfl (by decide) ?_)
    intro w1 b2 hm1 hb2 hz2 hk1
    have f1 := h_s.ext hm1
    have hE1 := hE0.ext hm1
    have hs1 := hm1.size
    have hl1 := Acc.of_blk (enc := Ik.encI) hk1 ([] : List Int) 0 rfl Ik.encI_len rfl (by unfold maxLen; omega)
    refine OL.q (Q1.move rfl) rfl rfl ?_
    have hl2 := hl1.lt
    refine OL.act rfl rfl (AW.append hl1 Try.underlying55 ti3 rfl Ik.encI_len Ik.encI_one rfl rfl (f1) (by first | omega | (simp only [List.length_append, List.length_cons, List.length_nil]; omega) | (simp; omega)) (by unfold maxLen; first | omega | (simp only [List.length_append, List.length_cons, List.length_nil]; omega) | (simp; omega)) ?_)
    intro v1 g1 w2 ha1 hm2 hg1 hz3
    have hl3 := hl1.lt
    have f2 := f1.keepG hm2 (by omega)
    have hE2 := Ext.thenG hE1 hm2 (by omega)
    have hs2 := hm2.size
    refine OL.q (Q1.assign rfl) rfl rfl ?_
    refine OL.nil ?_
    refine r_ret1 Try.func80 rfl rfl ?_
    exact Ret.mk ⟨⟨_, Acc.cast ha1 (by first | (symm; assumption) | simp | (exfalso; omega)), by omega⟩, hE2⟩
set_option maxRecDepth 20000 in
set_option maxHeartbeats 4000000 in
theorem astate_c {w0 : World} {n : Nat} {f : Nat → Int} {v_row : Value} {row : List Int} (k : Int) (h_row : Sl Ik.encI w0 (Iv 0 w0.heap.size) v_row row) (h_k : I64 k) (hk : 0 ≤ k ∧ k ≤ 4) (hrow : row = rowL n f) (hfp : ∀ x, 0 ≤ f x ∧ f x ≤ k + 1) (hn : n ≤ 1000) :
    Calls Try.prog 81 #[v_row, .int .i64 k] w0 (Ret fun rv w1 => (∃ gr, Acc encPos 121 2 w1 gr rv (stateF (n + 1) k f) ∧ (gr = 0 ∨ w0.heap.size < gr)) ∧ Ext w0 w1) := by
  have hE0 : Ext w0 w0 := Mod.refl _ _
  have hle1 := h_row.le
  have hrl : row.length = n + 1 := by rw [hrow]; exact rowL_len n f
  refine calls_enter Try.func81 rfl Try.ntmps81 rfl ?_
  refine r_seq ?_
  refine r_region ?_
  refine OL.q (Q1.assign rfl) rfl rfl ?_
  refine OL.nil ?_
  refine r_seq ?_
  refine r_region ?_
  refine OL.q (Q1.assign rfl) rfl rfl ?_
  refine OL.nil ?_
  refine r_seq ?_
  refine r_seq ?_
  refine r_region ?_
  refine OL.q (Q1.move rfl) rfl rfl ?_
  refine OL.q (Q1.lenSl Try.underlying55 (h_row) rfl) rfl rfl ?_
  refine OL.q (Q1.move rfl) rfl rfl ?_
  refine OL.nil ?_
  refine r_block ?_
  refine r_loop (I := fun m E W => ∃ (v_l : Value) (g_l : Nat) (l : List Pos) (j : Nat), E = [(0, v_row), (1, .int .i64 k), (5, v_l), (10, v_row), (11, .int .i64 (((row.length : Nat) : Int))), (12, .int .i64 (((j : Nat) : Int)))] ∧ m = row.length - j ∧ Ext w0 W ∧ w0.heap.size ≤ W.heap.size ∧ Acc encPos 121 2 W g_l v_l l ∧ (g_l = 0 ∨ w0.heap.size < g_l) ∧ Sl Ik.encI W (Iv 0 w0.heap.size) v_row row ∧ (l = stateT (n + 1) k f j) ∧ (j ≤ row.length) ∧ (l.length ≤ j)) ?_ ?_
  · refine ⟨_, _, ⟨(.slice none 0 0 : Value), (0 : Nat), ([] : List Pos), (0 : Nat), rfl, rfl, hE0, Nat.le_refl _, Acc.nil, (by omega), h_row, (by rfl), (by omega), (by exact Nat.zero_le _)⟩, ⟨rfl, rfl, rfl, rfl, rfl, rfl, trivial⟩⟩
  · rintro _ _ w1 ⟨v_l, g_l, l, j, rfl, rfl, hE1, hs1, ha1, hg1, f1, hl, hjl, hll⟩ ih1
    refine r_seq ?_
    refine r_region ?_
    refine OL.qb (Q1.lt rfl rfl) rfl rfl ?_
    intro b1 hb1
    refine OL.nil ?_
    refine r_seq ?_
    cases b1 with
    | true =>
      replace hb1 := of_decide_eq_true hb1.symm
      refine r_cond_t rfl ?_
      refine r_skip ?_
      refine r_seq ?_
      refine r_block ?_
      refine r_seq ?_
      refine r_region ?_
      refine OL.q (Q1.move rfl) rfl rfl ?_
      obtain ⟨x1, b2, o1, hx1, hr1, hl1, hu1, hw1⟩ := Sl.at' (P := Try.prog) f1 Try.underlying55 ti3 Ik.encI_len (k := .i64) (n := ((j : Nat) : Int)) (j) (by omega) (by first | assumption | omega)
      refine OL.q (Q1.indexAddr rfl rfl hr1) rfl rfl ?_
      have hx1r := rowL_at (hrow ▸ hx1)
      have hx1g := hfp j
      refine OL.q (Q1.load1 ti3 rfl (fun _ e => e ▸ hw1)) rfl rfl ?_
      refine OL.q (Q1.assign rfl) rfl rfl ?_
      refine OL.q (Q1.assign rfl) rfl rfl ?_
      refine OL.nil ?_
      refine r_seq ?_
      refine r_seq ?_
      refine r_region ?_
      refine OL.q (Q1.move rfl) rfl rfl ?_
      refine OL.q (Q1.move rfl) rfl rfl ?_
      refine OL.qb (Q1.gt rfl rfl) rfl rfl ?_
      intro b3 hb2
      refine OL.nil ?_
      cases b3 with
      | true =>
        replace hb2 := of_decide_eq_true hb2.symm
        refine r_cond_t rfl ?_
        refine r_exit rfl ?_
        refine r_region ?_
        refine OL.q (Q1.addI (((j + 1 : Nat) : Int)) rfl rfl (by omega)) rfl rfl ?_
        refine OL.q (Q1.move rfl) rfl rfl ?_
        refine OL.nil ?_
        exact (ih1 _ _ _ ⟨(v_l : Value), (g_l : Nat), (l : List Pos), (j + 1 : Nat), rfl, rfl, hE1, (by omega), ha1, (by omega), f1, (by first | exact stT_high hl (by omega) | exact stT_less hl (less_end hlw (fun x => (hfp x).1) (by omega) (by omega)) | exact stT_more hl (by omega) (less_end hlw (fun x => (hfp x).1) (by omega) (by omega)) hx1r.1 | (exfalso; omega)), (by first | omega | (exfalso; omega)), (by first | omega | (simp only [List.length_append, List.length_cons, List.length_nil]; omega) | (exfalso; omega))⟩ (by omega)).sub ⟨rfl, rfl, rfl, rfl, rfl, rfl, trivial⟩
      | false =>
        replace hb2 := of_decide_eq_false hb2.symm
        refine r_cond_f rfl ?_
        refine r_skip ?_
        refine r_seq ?_
        refine r_region ?_
        refine OL.q (Q1.assign rfl) rfl rfl ?_
        refine OL.nil ?_
        refine r_seq ?_
        refine r_seq ?_
        refine r_region ?_
        refine OL.q (Q1.move rfl) rfl rfl ?_
        refine OL.q (Q1.move rfl) rfl rfl ?_
        refine OL.q (Q1.subI ((((j : Nat) : Int) - k)) rfl rfl (by omega)) rfl rfl ?_
        refine OL.q (Q1.max rfl rfl) rfl rfl ?_
        refine OL.q (Q1.assign rfl) rfl rfl ?_
        refine OL.nil ?_
        refine r_block ?_
        refine r_loop (I := fun m E W => ∃ (b : Bool) (i : Int), E = [(0, v_row), (1, .int .i64 k), (5, v_l), (6, .int .i64 (((j : Nat) : Int))), (7, .int .i64 x1), (8, .bool b), (9, .int .i64 i), (10, v_row), (11, .int .i64 (((row.length : Nat) : Int))), (12, .int .i64 (((j : Nat) : Int)))] ∧ m = (3000 - i).toNat ∧ Ext w0 W ∧ w1.heap.size ≤ W.heap.size ∧ Sl Ik.encI W (Iv 0 w0.heap.size) v_row row ∧ Acc encPos 121 2 W g_l v_l l ∧ (b = lessW (n + 1) f j i) ∧ (0 ≤ i ∧ i ≤ 3000)) ?_ ?_
        · refine ⟨_, _, ⟨(false : Bool), ((max ((((j : Nat) : Int) - k)) 0) : Int), rfl, rfl, hE1, Nat.le_refl _, f1, ha1, (by exact less_start (fun x => (hfp x).1) (by omega) rfl), (by omega)⟩, ⟨rfl, rfl, rfl, rfl, rfl, rfl, rfl, rfl, rfl, rfl, trivial⟩⟩
        · rintro _ _ w2 ⟨b, i, rfl, rfl, hE2, hs2, f2, f3, hlw, hi3⟩ ih2
          refine r_seq ?_
          refine r_seq ?_
          refine r_region ?_
          refine OL.q (Q1.move rfl) rfl rfl ?_
          refine OL.q (Q1.move rfl) rfl rfl ?_
          refine OL.q (Q1.move rfl) rfl rfl ?_
          refine OL.q (Q1.addI ((((j : Nat) : Int) + k)) rfl rfl (by omega)) rfl rfl ?_
          refine OL.q (Q1.move rfl) rfl rfl ?_
          refine OL.q (Q1.lenSl Try.underlying55 (f2) rfl) rfl rfl ?_
          refine OL.q (Q1.subI ((((row.length : Nat) : Int) - 1)) rfl rfl (by omega)) rfl rfl ?_
          refine OL.q (Q1.min rfl rfl) rfl rfl ?_
          refine OL.qb (Q1.le rfl rfl) rfl rfl ?_
          intro b4 hb3
          refine OL.nil ?_
          cases b4 with
          | true =>
            replace hb3 := of_decide_eq_true hb3.symm
            refine r_cond_t rfl ?_
            refine r_skip ?_
            refine r_seq ?_
            refine r_block ?_
            refine r_region ?_
            refine OL.q (Q1.move rfl) rfl rfl ?_
            refine OL.q (Q1.move rfl) rfl rfl ?_
            cases b with
            | true =>
              refine OL.sk rfl rfl ?_
              refine OL.sk rfl rfl ?_
              refine OL.sk rfl rfl ?_
              refine OL.sk rfl rfl ?_
              refine OL.sk rfl rfl ?_
              refine OL.sk rfl rfl ?_
              refine OL.sk rfl rfl ?_
              refine OL.sk rfl rfl ?_
              refine OL.sk rfl rfl ?_
              refine OL.sk rfl rfl ?_
              refine OL.sk rfl rfl ?_
              refine OL.sk rfl rfl ?_
              refine OL.sk rfl rfl ?_
              refine OL.sk rfl rfl ?_
              refine OL.sk rfl rfl ?_
              refine OL.sk rfl rfl ?_
              refine OL.sk rfl rfl ?_
              refine OL.sk rfl rfl ?_
              refine OL.sk rfl rfl ?_
              refine OL.sk rfl rfl ?_
              refine OL.sk rfl rfl ?_
              refine OL.sk rfl rfl ?_
              refine OL.q (Q1.pick_t rfl rfl) rfl rfl ?_
              refine OL.q (Q1.assign rfl) rfl rfl ?_
              refine OL.nil ?_
              refine r_inBlock ?_
              refine r_region ?_
              refine OL.q (Q1.move rfl) rfl rfl ?_
              refine OL.q (Q1.addI ((i + 1)) rfl rfl (by omega)) rfl rfl ?_
              refine OL.q (Q1.assign rfl) rfl rfl ?_
              refine OL.nil ?_
              exact (ih2 _ _ _ ⟨(true : Bool), ((i + 1) : Int), rfl, rfl, hE2, (by omega), f2, f3, (by first | exact less_go hlw (by omega) (by omega) | exact less_stepA hlw (by omega) (by omega) hx2r.1 hx1r.1 (by assumption) (by assumption) | exact less_stepB hlw (by omega) (by omega) hx2r.1 hx1r.1 (by assumption) | (exfalso; omega)), (by first | omega | (exfalso; omega))⟩ (by omega)).sub ⟨rfl, rfl, rfl, rfl, rfl, rfl, rfl, rfl, rfl, rfl, trivial⟩
            | false =>
              refine OL.q (Q1.move rfl) rfl rfl ?_
              refine OL.q (Q1.move rfl) rfl rfl ?_
              obtain ⟨x2, b5, o2, hx2, hr2, hl2, hu2, hw2⟩ := Sl.at' (P := Try.prog) f2 Try.underlying55 ti3 Ik.encI_len (k := .i64) (n := i) ((i).toNat) (by omega) (by first | assumption | omega)
              refine OL.q (Q1.indexAddr rfl rfl hr2) rfl rfl ?_
              have hx2r := rowL_at (hrow ▸ hx2)
              have hx2g := hfp i.toNat
              refine OL.q (Q1.load1 ti3 rfl (fun _ e => e ▸ hw2)) rfl rfl ?_
              refine OL.q (Q1.move rfl) rfl rfl ?_
              refine OL.qb (Q1.lt rfl rfl) rfl rfl ?_
              intro b6 hb4
              refine OL.q (Q1.move rfl) rfl rfl ?_
              cases b6 with
              | true =>
                replace hb4 := of_decide_eq_true hb4.symm
                refine OL.q (Q1.move rfl) rfl rfl ?_
                refine OL.q (Q1.move rfl) rfl rfl ?_
                refine OL.q (Q1.subI ((i - (((j : Nat) : Int)))) rfl rfl (by omega)) rfl rfl ?_
                refine OL.q (Q1.move rfl) rfl rfl ?_
                refine OL.q (Q1.move rfl) rfl rfl ?_
                refine OL.q (Q1.subI ((((j : Nat) : Int) - i)) rfl rfl (by omega)) rfl rfl ?_
                refine OL.q (Q1.max rfl rfl) rfl rfl ?_
                refine OL.q (Q1.move rfl) rfl rfl ?_
                refine OL.q (Q1.move rfl) rfl rfl ?_
                refine OL.q (Q1.move rfl) rfl rfl ?_
                obtain ⟨x3, b7, o3, hx3, hr3, hl3, hu3, hw3⟩ := Sl.at' (P := Try.prog) f2 Try.underlying55 ti3 Ik.encI_len (k := .i64) (n := i) ((i).toNat) (by omega) (by first | assumption | omega)
                obtain rfl : x2 = x3 := Option.some.inj (hx2.symm.trans hx3)
                refine OL.q (Q1.indexAddr rfl rfl hr3) rfl rfl ?_
                refine OL.q (Q1.load1 ti3 rfl (fun _ e => e ▸ hw3)) rfl rfl ?_
                refine OL.q (Q1.subI ((x1 - x2)) rfl rfl (by omega)) rfl rfl ?_
                refine OL.qb (Q1.le rfl rfl) rfl rfl ?_
                intro b8 hb5
                refine OL.q (Q1.pick_t rfl rfl) rfl rfl ?_
                refine OL.q (Q1.pick_f rfl rfl) rfl rfl ?_
                refine OL.q (Q1.assign rfl) rfl rfl ?_
                refine OL.nil ?_
                refine r_inBlock ?_
                refine r_region ?_
                refine OL.q (Q1.move rfl) rfl rfl ?_
                refine OL.q (Q1.addI ((i + 1)) rfl rfl (by omega)) rfl rfl ?_
                refine OL.q (Q1.assign rfl) rfl rfl ?_
                refine OL.nil ?_
                exact (ih2 _ _ _ ⟨(b8 : Bool), ((i + 1) : Int), rfl, rfl, hE2, (by omega), f2, f3, (by first | exact less_go hlw (by omega) (by omega) | exact less_stepA hlw (by omega) (by omega) hx2r.1 hx1r.1 (by assumption) (by assumption) | exact less_stepB hlw (by omega) (by omega) hx2r.1 hx1r.1 (by assumption) | (exfalso; omega)), (by first | omega | (exfalso; omega))⟩ (by omega)).sub ⟨rfl, rfl, rfl, rfl, rfl, rfl, rfl, rfl, rfl, rfl, trivial⟩
              | false =>
                replace hb4 := of_decide_eq_false hb4.symm
                refine OL.sk rfl rfl ?_
                refine OL.sk rfl rfl ?_
                refine OL.sk rfl rfl ?_
                refine OL.sk rfl rfl ?_
                refine OL.sk rfl rfl ?_
                refine OL.sk rfl rfl ?_
                refine OL.sk rfl rfl ?_
                refine OL.sk rfl rfl ?_
                refine OL.sk rfl rfl ?_
                refine OL.sk rfl rfl ?_
                refine OL.sk rfl rfl ?_
                refine OL.sk rfl rfl ?_
                refine OL.sk rfl rfl ?_
                refine OL.sk rfl rfl ?_
                refine OL.q (Q1.pick_f rfl rfl) rfl rfl ?_
                refine OL.q (Q1.pick_f rfl rfl) rfl rfl ?_
                refine OL.q (Q1.assign rfl) rfl rfl ?_
                refine OL.nil ?_
                refine r_inBlock ?_
                refine r_region ?_
                refine OL.q (Q1.move rfl) rfl rfl ?_
                refine OL.q (Q1.addI ((i + 1)) rfl rfl (by omega)) rfl rfl ?_
                refine OL.q (Q1.assign rfl) rfl rfl ?_
                refine OL.nil ?_
                exact (ih2 _ _ _ ⟨(false : Bool), ((i + 1) : Int), rfl, rfl, hE2, (by omega), f2, f3, (by first | exact less_go hlw (by omega) (by omega) | exact less_stepA hlw (by omega) (by omega) hx2r.1 hx1r.1 (by assumption) (by assumption) | exact less_stepB hlw (by omega) (by omega) hx2r.1 hx1r.1 (by assumption) | (exfalso; omega)), (by first | omega | (exfalso; omega))⟩ (by omega)).sub ⟨rfl, rfl, rfl, rfl, rfl, rfl, rfl, rfl, rfl, rfl, trivial⟩
          | false =>
            replace hb3 := of_decide_eq_false hb3.symm
            refine r_cond_f rfl ?_
            refine r_exit rfl ?_
            refine r_seq ?_
            refine r_region ?_
            refine OL.q (Q1.move rfl) rfl rfl ?_
            cases b with
            | true =>
              refine OL.q (Q1.not rfl) rfl rfl ?_
              refine OL.nil ?_
              refine r_cond_f rfl ?_
              refine r_skip ?_
              refine r_inBlock ?_
              refine r_region ?_
              refine OL.q (Q1.addI (((j + 1 : Nat) : Int)) rfl rfl (by omega)) rfl rfl ?_
              refine OL.q (Q1.move rfl) rfl rfl ?_
              refine OL.nil ?_
              exact (ih1 _ _ _ ⟨(v_l : Value), (g_l : Nat), (l : List Pos), (j + 1 : Nat), rfl, rfl, hE2, (by omega), f3, (by omega), f2, (by first | exact stT_high hl (by omega) | exact stT_less hl (less_end hlw (fun x => (hfp x).1) (by omega) (by omega)) | exact stT_more hl (by omega) (less_end hlw (fun x => (hfp x).1) (by omega) (by omega)) hx1r.1 | (exfalso; omega)), (by first | omega | (exfalso; omega)), (by first | omega | (simp only [List.length_append, List.length_cons, List.length_nil]; omega) | (exfalso; omega))⟩ (by omega)).sub ⟨rfl, rfl, rfl, rfl, rfl, rfl, trivial⟩
            | false =>
              refine OL.q (Q1.not rfl) rfl rfl ?_
              refine OL.nil ?_
              refine r_cond_t rfl ?_
              refine r_region ?_
              refine OL.q (Q1.move rfl) rfl rfl ?_
              refine OL.q (Q1.move rfl) rfl rfl ?_
              refine OL.q (Q1.move rfl) rfl rfl ?_
              refine OL.q (Q1.build (vs := #[(0, (.int .i64 (((j : Nat) : Int)) : Value)), (1, (.int .i64 x1 : Value))]) (v := .agg #[.int .i64 (((j : Nat) : Int)), .int .i64 x1]) rfl (fun _ => by kernel_rfl)) rfl rfl ?_
              refine OL.act rfl rfl (AW.buildSlice [(.agg #[.int .i64 (((j : Nat) : Int)), .int .i64 x1] : Value)] Try.underlying93 ti121 rfl rfl rfl (by decide) ?_)
              intro w3 b5 hm1 hb4 hz1 hk1
              have hl2 := f3.lt
              have f4 := f2.ext hm1
              have f5 := f3.ext hm1
              have hE3 := hE2.ext hm1
              have hs3 := hm1.size
              have hl3 := Sl.of_blk (enc := encPos) hk1 ([(Pos.mk (((j : Nat) : Int)) x1)] : List Pos) 1 rfl rfl (by unfold maxLen; omega)
              have hl4 := f5.lt
              refine OL.act rfl rfl (AW.append f5 Try.underlying93 ti121 rfl encPos_len encPos_one rfl rfl (hl3) (by first | omega | (simp only [List.length_append, List.length_cons, List.length_nil]; omega) | (simp; omega)) (by unfold maxLen; first | omega | (simp only [List.length_append, List.length_cons, List.length_nil]; omega) | (simp; omega)) ?_)
              intro v1 g1 w4 ha2 hm2 hg2 hz2
              have hl5 := f5.lt
              have f6 := f4.keepG hm2 (by omega)
              have f7 := hl3.keepG hm2 (by omega)
              have hE4 := Ext.thenG hE3 hm2 (by omega)
              have hs4 := hm2.size
              refine OL.q (Q1.assign rfl) rfl rfl ?_
              refine OL.nil ?_
              refine r_inBlock ?_
              refine r_region ?_
              refine OL.q (Q1.addI (((j + 1 : Nat) : Int)) rfl rfl (by omega)) rfl rfl ?_
              refine OL.q (Q1.move rfl) rfl rfl ?_
              refine OL.nil ?_
              exact (ih1 _ _ _ ⟨(v1 : Value), (g1 : Nat), ((l ++ [(Pos.mk (((j : Nat) : Int)) x1)]) : List Pos), (j + 1 : Nat), rfl, rfl, hE4, (by omega), ha2, (by omega), f6, (by first | exact stT_high hl (by omega) | exact stT_less hl (less_end hlw (fun x => (hfp x).1) (by omega) (by omega)) | exact stT_more hl (by omega) (less_end hlw (fun x => (hfp x).1) (by omega) (by omega)) hx1r.1 | (exfalso; omega)), (by first | omega | (exfalso; omega)), (by first | omega | (simp only [List.length_append, List.length_cons, List.length_nil]; omega) | (exfalso; omega))⟩ (by omega)).sub ⟨rfl, rfl, rfl, rfl, rfl, rfl, trivial⟩
    | false =>
      replace hb1 := of_decide_eq_false hb1.symm
      refine r_cond_f rfl ?_
      refine r_exit rfl ?_
      refine r_seq ?_
      refine r_region ?_
      refine OL.q (Q1.move rfl) rfl rfl ?_
      refine OL.q (Q1.assign rfl) rfl rfl ?_
      refine OL.nil ?_
      refine r_ret1 Try.func81 rfl rfl ?_
      exact Ret.mk ⟨⟨_, Acc.cast ha1 (by first | (rw [hl, show j = n + 1 from by omega]; rfl) | (exfalso; omega)), by omega⟩, hE1⟩
set_option maxRecDepth 20000 in
set_option maxHeartbeats 4000000 in
theorem astart_c {w0 : World}  {v_q : Value} {q : List Int} (k : Int) (h_q : Sl encRn w0 (Iv 0 w0.heap.size) v_q q) (h_k : I64 k) (hk : 0 ≤ k ∧ k ≤ 4) :
    Calls Try.prog 54 #[v_q, .int .i64 k] w0 (Ret fun rv w1 => Sl encPos w1 (Iv w0.heap.size w1.heap.size) rv ([Pos.mk 0 0]) ∧ Ext w0 w1) := by
  have hE0 : Ext w0 w0 := Mod.refl _ _
  have hle1 := h_q.le
  refine calls_enter Try.func54 rfl Try.ntmps54 rfl ?_
  refine r_seq ?_
  refine r_region ?_
  refine OL.q (Q1.assign rfl) rfl rfl ?_
  refine OL.nil ?_
  refine r_seq ?_
  refine r_seq ?_
  refine r_region ?_
  refine OL.q (Q1.move rfl) rfl rfl ?_
  refine OL.act rfl rfl (AW.callF cl76 rfl (amay_c (w0 := w0)  (k) (by first | omega | assumption) (by first | assumption | omega)) ?_)
  rintro _ w1 ⟨⟨_, rfl, rfl⟩, hm1⟩
  have f1 := h_q.ext hm1
  have hE1 := hE0.ext hm1
  have hs1 := hm1.size
  refine OL.q (Q1.not rfl) rfl rfl ?_
  refine OL.nil ?_
  refine r_cond_f rfl ?_
  refine r_skip ?_
  refine r_seq ?_
  refine r_region ?_
  refine OL.q (Q1.build (vs := #[]) (v := .agg #[.int .i64 0, .int .i64 0]) rfl (fun _ => by kernel_rfl)) rfl rfl ?_
  refine OL.act rfl rfl (AW.buildSlice [(.agg #[.int .i64 0, .int .i64 0] : Value)] Try.underlying93 ti121 rfl rfl rfl (by decide) ?_)
  intro w2 b1 hm2 hb1 hz1 hk1
  have f2 := f1.ext hm2
  have hE2 := hE1.ext hm2
  have hs2 := hm2.size
  have hl1 := Sl.of_blk (enc := encPos) hk1 ([(Pos.mk 0 0)] : List Pos) 1 rfl rfl (by unfold maxLen; omega)
  refine OL.q (Q1.assign rfl) rfl rfl ?_
  refine OL.nil ?_
  refine r_ret1 Try.func54 rfl rfl ?_
  exact Ret.mk ⟨(Sl.cast (hl1.iv (by omega) (by omega)) (by rfl)), hE2⟩
set_option maxRecDepth 20000 in
set_option maxHeartbeats 4000000 in
theorem astep_c {w0 : World}  {v_q : Value} {q : List Int} (k : Int) {v_s : Value} {s : List Pos} (r : Int) (h_q : Sl encRn w0 (Iv 0 w0.heap.size) v_q q) (h_k : I64 k) (h_s : Sl encPos w0 (Iv 0 w0.heap.size) v_s s) (h_r : -2147483648 ≤ r ∧ r ≤ 2147483647) (hk : 0 ≤ k ∧ k ≤ 4) (hq : q.length ≤ 1000) (hsl : s.length ≤ 1000) :
    Calls Try.prog 58 #[v_q, .int .i64 k, v_s, .int .i32 r] w0 (Ret fun rv w1 => (∃ gr, Acc encPos 121 2 w1 gr rv (stateF (q.length + 1) k (cstepF k q (spreadF q.length k s) r)) ∧ (gr = 0 ∨ w0.heap.size < gr)) ∧ Ext w0 w1) := by
  have hE0 : Ext w0 w0 := Mod.refl _ _
  have hle1 := h_q.le
  have hle2 := h_s.le
  refine calls_enter Try.func58 rfl Try.ntmps58 rfl ?_
  refine r_seq ?_
  refine r_region ?_
  refine OL.q (Q1.assign rfl) rfl rfl ?_
  refine OL.nil ?_
  refine r_seq ?_
  refine r_seq ?_
  refine r_region ?_
  refine OL.q (Q1.move rfl) rfl rfl ?_
  refine OL.act rfl rfl (AW.callF cl76 rfl (amay_c (w0 := w0)  (k) (by first | omega | assumption) (by first | assumption | omega)) ?_)
  rintro _ w1 ⟨⟨_, rfl, rfl⟩, hm1⟩
  have f1 := h_q.ext hm1
  have f2 := h_s.ext hm1
  have hE1 := hE0.ext hm1
  have hs1 := hm1.size
  refine OL.q (Q1.not rfl) rfl rfl ?_
  refine OL.nil ?_
  refine r_cond_f rfl ?_
  refine r_skip ?_
  refine r_seq ?_
  refine r_region ?_
  refine OL.q (Q1.move rfl) rfl rfl ?_
  refine OL.q (Q1.move rfl) rfl rfl ?_
  refine OL.q (Q1.move rfl) rfl rfl ?_
  refine OL.act rfl rfl (AW.callF cl77 rfl (aspread_c (w0 := w1) (q := q) (s := s) (k) ((f1).iv (Nat.zero_le _) (by omega)) (by first | omega | assumption) ((f2).iv (Nat.zero_le _) (by omega)) (by first | assumption | omega) (by first | assumption | omega) (by first | assumption | omega)) ?_)
  rintro v1 w2 ⟨⟨gr1, h1, hg1⟩, hm2⟩
  have f3 := f1.ext hm2
  have f4 := f2.ext hm2
  have hE2 := hE1.ext hm2
  have hs2 := hm2.size
  have hle_1 := h1.le
  have hlt_1 := h1.lt
  refine OL.q (Q1.assign rfl) rfl rfl ?_
  refine OL.nil ?_
  refine r_seq ?_
  refine r_region ?_
  refine OL.q (Q1.move rfl) rfl rfl ?_
  have hrl := rowL_len q.length (spreadF q.length k s)
  refine OL.act rfl rfl (AW.callF cl80 rfl (cloneI_c (w0 := w2) (s := (rowL q.length (spreadF q.length k s)))  ((h1.sl).iv (Nat.zero_le _) (by omega)) (by first | assumption | omega)) ?_)
  rintro v2 w3 ⟨⟨gr2, h2, hg2⟩, hm3⟩
  have hl1 := h1.lt
  have f5 := f3.ext hm3
  have f6 := f4.ext hm3
  have f7 := h1.ext hm3
  have hE3 := hE2.ext hm3
  have hs3 := hm3.size
  have hle_2 := h2.le
  have hlt_2 := h2.lt
  refine OL.q (Q1.assign rfl) rfl rfl ?_
  refine OL.nil ?_
  refine r_seq ?_
  refine r_region ?_
  refine OL.q (Q1.move rfl) rfl rfl ?_
  refine OL.q (Q1.move rfl) rfl rfl ?_
  obtain ⟨x1, b1, o1, hx1, hr1, hl2, hu1, hw1⟩ := Sl.at' (P := Try.prog) f7.sl Try.underlying55 ti3 Ik.encI_len (k := .i64) (n := 0) (0) (by omega) (by first | assumption | omega)
  refine OL.q (Q1.indexAddr rfl rfl hr1) rfl rfl ?_
  have hx1r := rowL_at hx1
  have hx1g := spread_rng (n := q.length) hk.1 s 0
  refine OL.q (Q1.load1 ti3 rfl (fun _ e => e ▸ hw1)) rfl rfl ?_
  refine OL.q (Q1.addI ((x1 + 1)) rfl rfl (by omega)) rfl rfl ?_
  refine OL.q (Q1.move rfl) rfl rfl ?_
  refine OL.q (Q1.addI ((k + 1)) rfl rfl (by omega)) rfl rfl ?_
  refine OL.q (Q1.min rfl rfl) rfl rfl ?_
  obtain ⟨hr2, x2, hx2⟩ := Acc.at (P := Try.prog) h2 Try.underlying55 ti3 (k := .i64) (n := 0) (0) (by omega) (by first | assumption | omega | (simp; done))
  refine OL.q (Q1.indexAddr rfl rfl hr2) rfl rfl ?_
  have hl4 := h2.lt
  refine OL.act rfl rfl (AW.storeA h2 Ik.encI_len (i := 0) (o := 0) hx2 ((min ((x1 + 1)) ((k + 1)))) ti3 rfl (by omega) rfl rfl rfl rfl (by decide) (by first | rfl | simp [Ik.encI]) ?_)
  intro w4 hm4 hz1 ha1
  have hl5 := f7.lt
  have hl6 := h2.lt
  have f8 := f5.keepG hm4 (by omega)
  have f9 := f6.keepG hm4 (by omega)
  have f10 := f7.keepG hm4 (by omega)
  have hE4 := Ext.thenG hE3 hm4 (by omega)
  have hs4 := hm4.size
  have hl3 : (((((rowL q.length (spreadF q.length k s))))).set 0 ((min ((x1 + 1)) ((k + 1))))).length = ((((rowL q.length (spreadF q.length k s))))).length := List.length_set
  refine OL.nil ?_
  refine r_seq ?_
  refine r_seq ?_
  refine r_region ?_
  refine OL.q (Q1.move rfl) rfl rfl ?_
  refine OL.q (Q1.lenSl Try.underlying74 (f8) rfl) rfl rfl ?_
  refine OL.q (Q1.move rfl) rfl rfl ?_
  refine OL.nil ?_
  refine r_block ?_
  refine r_loop (I := fun m E W => ∃ (i : Nat) (nx : List Int), E = [(1, .int .i64 k), (3, .int .i32 r), (9, v1), (10, v2), (32, v_q), (33, .int .i64 (((q.length : Nat) : Int))), (34, .int .i64 (((i : Nat) : Int)))] ∧ m = q.length - i ∧ Ext w0 W ∧ w4.heap.size ≤ W.heap.size ∧ Acc Ik.encI 3 1 W gr1 v1 ((rowL q.length (spreadF q.length k s))) ∧ Acc Ik.encI 3 1 W gr2 v2 nx ∧ Sl encRn W (Iv 0 w0.heap.size) v_q q ∧ (gr2 ≠ gr1 ∨ gr1 = 0) ∧ (nx = rowL q.length (stepMix q.length k q s r i)) ∧ (nx.length = q.length + 1)) ?_ ?_
  · refine ⟨_, _, ⟨(0 : Nat), ((((((rowL q.length (spreadF q.length k s))))).set 0 ((min ((x1 + 1)) ((k + 1))))) : List Int), rfl, rfl, hE4, Nat.le_refl _, f10, ha1, f8, (by omega), (by exact stp_start hx1), (by (simp only [List.length_set]; omega))⟩, ⟨rfl, rfl, rfl, rfl, rfl, rfl, rfl, trivial⟩⟩
  · rintro _ _ w5 ⟨i, nx, rfl, rfl, hE5, hs5, f11, f12, f13, hn1, hnx, hnxl⟩ ih1
    refine r_seq ?_
    refine r_region ?_
    refine OL.qb (Q1.lt rfl rfl) rfl rfl ?_
    intro b2 hb1
    refine OL.nil ?_
    refine r_seq ?_
    cases b2 with
    | true =>
      replace hb1 := of_decide_eq_true hb1.symm
      refine r_cond_t rfl ?_
      refine r_skip ?_
      refine r_seq ?_
      refine r_block ?_
      refine r_seq ?_
      refine r_region ?_
      refine OL.q (Q1.move rfl) rfl rfl ?_
      obtain ⟨x3, b3, o2, hx3, hr3, hl7, hu2, hw2⟩ := Sl.at' (P := Try.prog) f13 Try.underlying74 ti21 encRn_len (k := .i64) (n := ((i : Nat) : Int)) (i) (by omega) (by first | assumption | omega)
      refine OL.q (Q1.indexAddr rfl rfl hr3) rfl rfl ?_
      refine OL.q (Q1.load1 ti21 rfl (fun _ e => e ▸ hw2)) rfl rfl ?_
      refine OL.q (Q1.assign rfl) rfl rfl ?_
      refine OL.q (Q1.assign rfl) rfl rfl ?_
      refine OL.nil ?_
      refine r_seq ?_
      refine r_region ?_
      refine OL.q (Q1.move rfl) rfl rfl ?_
      refine OL.q (Q1.move rfl) rfl rfl ?_
      obtain ⟨x4, b4, o3, hx4, hr4, hl8, hu3, hw3⟩ := Sl.at' (P := Try.prog) f11.sl Try.underlying55 ti3 Ik.encI_len (k := .i64) (n := ((i : Nat) : Int)) (i) (by omega) (by first | assumption | omega)
      refine OL.q (Q1.indexAddr rfl rfl hr4) rfl rfl ?_
      have hx4r := rowL_at hx4
      have hx4g := spread_rng (n := q.length) hk.1 s i
      refine OL.q (Q1.load1 ti3 rfl (fun _ e => e ▸ hw3)) rfl rfl ?_
      refine OL.q (Q1.assign rfl) rfl rfl ?_
      refine OL.nil ?_
      refine r_seq ?_
      refine r_seq ?_
      refine r_region ?_
      refine OL.q (Q1.move rfl) rfl rfl ?_
      refine OL.q (Q1.move rfl) rfl rfl ?_
      refine OL.qb (Q1.ne rfl rfl) rfl rfl ?_
      intro b5 hb2
      refine OL.nil ?_
      cases b5 with
      | true =>
        replace hb2 := bne_iff_ne.1 hb2.symm
        refine r_cond_t rfl ?_
        refine r_region ?_
        refine OL.q (Q1.move rfl) rfl rfl ?_
        refine OL.q (Q1.addI ((x4 + 1)) rfl rfl (by omega)) rfl rfl ?_
        refine OL.q (Q1.assign rfl) rfl rfl ?_
        refine OL.nil ?_
        refine r_draw1 (fun i => Nat.beq i 19) 19 (fun w' => Mod (Mg 0) w5 w') mixed (by kernel_rfl) ?_
        intro w6 hm5
        have hl9 := f11.lt
        have hl10 := f12.lt
        have f14 := f11.ext hm5
        have f15 := f12.ext hm5
        have f16 := f13.ext hm5
        have hE6 := hE5.ext hm5
        have hs6 := hm5.size
        have hCw6 : Mod (Mg 0) w5 w6 := Mod.ofExt hm5
        refine ⟨hCw6, ?_⟩
        rw [show List.range' 0 (Array.size _) = [0, 1, 2, 3, 4, 5, 6, 7, 8, 9, 10, 11, 12, 13, 14, 15, 16, 17, 18, 19] from rfl]
        refine OD.q rfl rfl (Q1.move rfl) rfl rfl ?_
        refine OD.q rfl rfl (Q1.move rfl) rfl rfl ?_
        refine OD.q rfl rfl (Q1.addI (((i + 1 : Nat) : Int)) rfl rfl (by omega)) rfl rfl ?_
        refine OD.q rfl rfl (Q1.move rfl) rfl rfl ?_
        refine OD.q rfl rfl (Q1.move rfl) rfl rfl ?_
        refine OD.q rfl rfl (Q1.addI (((i + 1 : Nat) : Int)) rfl rfl (by omega)) rfl rfl ?_
        obtain ⟨x5, b6, o4, hx5, hr5, hl11, hu4, hw4⟩ := Sl.at' (P := Try.prog) f11.sl Try.underlying55 ti3 Ik.encI_len (k := .i64) (n := ((i + 1 : Nat) : Int)) (i + 1) (by omega) (by first | assumption | omega)
        refine OD.q rfl rfl (Q1.indexAddr rfl rfl hr5) rfl rfl ?_
        have hx5r := rowL_at hx5
        have hx5g := spread_rng (n := q.length) hk.1 s (i + 1)
        refine OD.q rfl rfl (Q1.load1 ti3 rfl (fun _ hc => hw4.keepG hc (by omega))) rfl rfl ?_
        refine OD.q rfl rfl (Q1.addI ((x5 + 1)) rfl rfl (by omega)) rfl rfl ?_
        refine OD.q rfl rfl (Q1.move rfl) rfl rfl ?_
        refine OD.q rfl rfl (Q1.move rfl) rfl rfl ?_
        obtain ⟨x6, b7, o5, hx6, hr6, hl12, hu5, hw5⟩ := Sl.at' (P := Try.prog) f12.sl Try.underlying55 ti3 Ik.encI_len (k := .i64) (n := ((i : Nat) : Int)) (i) (by omega) (by first | assumption | omega)
        refine OD.q rfl rfl (Q1.indexAddr rfl rfl hr6) rfl rfl ?_
        have hx6r := rowL_at (hnx ▸ hx6)
        have hx6g := stepMix_rng (n := q.length) (q := q) (r := r) hk.1 s i i
        refine OD.q rfl rfl (Q1.load1 ti3 rfl (fun _ hc => hw5.keepG hc (by omega))) rfl rfl ?_
        refine OD.q rfl rfl (Q1.addI ((x6 + 1)) rfl rfl (by omega)) rfl rfl ?_
        refine OD.q rfl rfl (Q1.move rfl) rfl rfl ?_
        refine OD.q rfl rfl (Q1.move rfl) rfl rfl ?_
        refine OD.q rfl rfl (Q1.addI ((k + 1)) rfl rfl (by omega)) rfl rfl ?_
        refine OD.q rfl rfl (Q1.min4 rfl rfl rfl rfl) rfl rfl ?_
        obtain ⟨hr7, x7, hx7⟩ := Acc.at (P := Try.prog) f12 Try.underlying55 ti3 (k := .i64) (n := ((i + 1 : Nat) : Int)) (i + 1) (by omega) (by first | assumption | omega | (simp; done))
        refine OD.q rfl rfl (Q1.indexAddr rfl rfl hr7) rfl rfl ?_
        have hl14 := f15.lt
        refine OD.act rfl rfl rfl rfl (AW.storeA f15 Ik.encI_len (i := (i + 1)) (o := 0) hx7 ((min ((min ((min ((x5 + 1)) ((x6 + 1)))) ((x4 + 1)))) ((k + 1)))) ti3 rfl (by omega) rfl rfl rfl rfl (by decide) (by first | rfl | simp [Ik.encI]) ?_)
        intro w7 hm6 hz2 ha2
        have hl15 := f14.lt
        have hl16 := f15.lt
        have f17 := f14.keepG hm6 (by omega)
        have f18 := f16.keepG hm6 (by omega)
        have hE7 := Ext.thenG hE6 hm6 (by omega)
        have hs7 := hm6.size
        refine ⟨.inl rfl, ?_⟩
        have hl13 : (nx.set (i + 1) ((min ((min ((min ((x5 + 1)) ((x6 + 1)))) ((x4 + 1)))) ((k + 1))))).length = nx.length := List.length_set
        refine OD.nil ?_
        refine r_inBlock ?_
        refine r_region ?_
        refine OL.q (Q1.addI (((i + 1 : Nat) : Int)) rfl rfl (by omega)) rfl rfl ?_
        refine OL.q (Q1.move rfl) rfl rfl ?_
        refine OL.nil ?_
        exact (ih1 _ _ _ ⟨(i + 1 : Nat), ((nx.set (i + 1) ((min ((min ((min ((x5 + 1)) ((x6 + 1)))) ((x4 + 1)))) ((k + 1))))) : List Int), rfl, rfl, hE7, (by omega), f17, ha2, f18, (by omega), (by first | (subst hnx; first | exact stp_step (by omega) hx5 hx6 hx4 (by rw [if_pos (by rw [hx3]; congr 1)]; omega) | exact stp_step (by omega) hx5 hx6 hx4 (by rw [if_neg (by rw [hx3]; intro e; cases e; omega)])) | (exfalso; omega)), (by first | (simp only [List.length_set]; omega) | (exfalso; omega))⟩ (by omega)).sub ⟨rfl, rfl, rfl, rfl, rfl, rfl, rfl, trivial⟩
      | false =>
        replace hb2 := bne_eq_false_iff_eq.1 hb2.symm
        refine r_cond_f rfl ?_
        refine r_skip ?_
        refine r_draw1 (fun i => Nat.beq i 19) 19 (fun w' => Mod (Mg 0) w5 w') mixed (by kernel_rfl) ?_
        intro w6 hm5
        have hl9 := f11.lt
        have hl10 := f12.lt
        have f14 := f11.ext hm5
        have f15 := f12.ext hm5
        have f16 := f13.ext hm5
        have hE6 := hE5.ext hm5
        have hs6 := hm5.size
        have hCw6 : Mod (Mg 0) w5 w6 := Mod.ofExt hm5
        refine ⟨hCw6, ?_⟩
        rw [show List.range' 0 (Array.size _) = [0, 1, 2, 3, 4, 5, 6, 7, 8, 9, 10, 11, 12, 13, 14, 15, 16, 17, 18, 19] from rfl]
        refine OD.q rfl rfl (Q1.move rfl) rfl rfl ?_
        refine OD.q rfl rfl (Q1.move rfl) rfl rfl ?_
        refine OD.q rfl rfl (Q1.addI (((i + 1 : Nat) : Int)) rfl rfl (by omega)) rfl rfl ?_
        refine OD.q rfl rfl (Q1.move rfl) rfl rfl ?_
        refine OD.q rfl rfl (Q1.move rfl) rfl rfl ?_
        refine OD.q rfl rfl (Q1.addI (((i + 1 : Nat) : Int)) rfl rfl (by omega)) rfl rfl ?_
        obtain ⟨x5, b6, o4, hx5, hr5, hl11, hu4, hw4⟩ := Sl.at' (P := Try.prog) f11.sl Try.underlying55 ti3 Ik.encI_len (k := .i64) (n := ((i + 1 : Nat) : Int)) (i + 1) (by omega) (by first | assumption | omega)
        refine OD.q rfl rfl (Q1.indexAddr rfl rfl hr5) rfl rfl ?_
        have hx5r := rowL_at hx5
        have hx5g := spread_rng (n := q.length) hk.1 s (i + 1)
        refine OD.q rfl rfl (Q1.load1 ti3 rfl (fun _ hc => hw4.keepG hc (by omega))) rfl rfl ?_
        refine OD.q rfl rfl (Q1.addI ((x5 + 1)) rfl rfl (by omega)) rfl rfl ?_
        refine OD.q rfl rfl (Q1.move rfl) rfl rfl ?_
        refine OD.q rfl rfl (Q1.move rfl) rfl rfl ?_
        obtain ⟨x6, b7, o5, hx6, hr6, hl12, hu5, hw5⟩ := Sl.at' (P := Try.prog) f12.sl Try.underlying55 ti3 Ik.encI_len (k := .i64) (n := ((i : Nat) : Int)) (i) (by omega) (by first | assumption | omega)
        refine OD.q rfl rfl (Q1.indexAddr rfl rfl hr6) rfl rfl ?_
        have hx6r := rowL_at (hnx ▸ hx6)
        have hx6g := stepMix_rng (n := q.length) (q := q) (r := r) hk.1 s i i
        refine OD.q rfl rfl (Q1.load1 ti3 rfl (fun _ hc => hw5.keepG hc (by omega))) rfl rfl ?_
        refine OD.q rfl rfl (Q1.addI ((x6 + 1)) rfl rfl (by omega)) rfl rfl ?_
        refine OD.q rfl rfl (Q1.move rfl) rfl rfl ?_
        refine OD.q rfl rfl (Q1.move rfl) rfl rfl ?_
        refine OD.q rfl rfl (Q1.addI ((k + 1)) rfl rfl (by omega)) rfl rfl ?_
        refine OD.q rfl rfl (Q1.min4 rfl rfl rfl rfl) rfl rfl ?_
        obtain ⟨hr7, x7, hx7⟩ := Acc.at (P := Try.prog) f12 Try.underlying55 ti3 (k := .i64) (n := ((i + 1 : Nat) : Int)) (i + 1) (by omega) (by first | assumption | omega | (simp; done))
        refine OD.q rfl rfl (Q1.indexAddr rfl rfl hr7) rfl rfl ?_
        have hl14 := f15.lt
        refine OD.act rfl rfl rfl rfl (AW.storeA f15 Ik.encI_len (i := (i + 1)) (o := 0) hx7 ((min ((min ((min ((x5 + 1)) ((x6 + 1)))) x4)) ((k + 1)))) ti3 rfl (by omega) rfl rfl rfl rfl (by decide) (by first | rfl | simp [Ik.encI]) ?_)
        intro w7 hm6 hz2 ha2
        have hl15 := f14.lt
        have hl16 := f15.lt
        have f17 := f14.keepG hm6 (by omega)
        have f18 := f16.keepG hm6 (by omega)
        have hE7 := Ext.thenG hE6 hm6 (by omega)
        have hs7 := hm6.size
        refine ⟨.inl rfl, ?_⟩
        have hl13 : (nx.set (i + 1) ((min ((min ((min ((x5 + 1)) ((x6 + 1)))) x4)) ((k + 1))))).length = nx.length := List.length_set
        refine OD.nil ?_
        refine r_inBlock ?_
        refine r_region ?_
        refine OL.q (Q1.addI (((i + 1 : Nat) : Int)) rfl rfl (by omega)) rfl rfl ?_
        refine OL.q (Q1.move rfl) rfl rfl ?_
        refine OL.nil ?_
        exact (ih1 _ _ _ ⟨(i + 1 : Nat), ((nx.set (i + 1) ((min ((min ((min ((x5 + 1)) ((x6 + 1)))) x4)) ((k + 1))))) : List Int), rfl, rfl, hE7, (by omega), f17, ha2, f18, (by omega), (by first | (subst hnx; first | exact stp_step (by omega) hx5 hx6 hx4 (by rw [if_pos (by rw [hx3]; congr 1)]; omega) | exact stp_step (by omega) hx5 hx6 hx4 (by rw [if_neg (by rw [hx3]; intro e; cases e; omega)])) | (exfalso; omega)), (by first | (simp only [List.length_set]; omega) | (exfalso; omega))⟩ (by omega)).sub ⟨rfl, rfl, rfl, rfl, rfl, rfl, rfl, trivial⟩
    | false =>
      replace hb1 := of_decide_eq_false hb1.symm
      refine r_cond_f rfl ?_
      refine r_exit rfl ?_
      refine r_seq ?_
      refine r_region ?_
      refine OL.q (Q1.move rfl) rfl rfl ?_
      refine OL.q (Q1.move rfl) rfl rfl ?_
      refine OL.act rfl rfl (AW.callF cl81 rfl (astate_c (w0 := w5) (row := nx) (k) ((f12.sl).iv (Nat.zero_le _) (by omega)) (by first | omega | assumption) (by first | assumption | omega) (by exact stp_fin hnx (by omega)) (by exact cstep_rng hk.1 (spread_rng hk.1 s)) (by first | assumption | omega)) ?_)
      rintro v3 w6 ⟨⟨gr3, h3, hg3⟩, hm5⟩
      have hl7 := f11.lt
      have hl8 := f12.lt
      have f14 := f11.ext hm5
      have f15 := f12.ext hm5
      have f16 := f13.ext hm5
      have hE6 := hE5.ext hm5
      have hs6 := hm5.size
      have hle_3 := h3.le
      have hlt_3 := h3.lt
      refine OL.q (Q1.assign rfl) rfl rfl ?_
      refine OL.nil ?_
      refine r_ret1 Try.func58 rfl rfl ?_
      exact Ret.mk ⟨⟨_, Acc.cast h3 (by rfl), by omega⟩, hE6⟩
set_option maxRecDepth 20000 in
set_option maxHeartbeats 4000000 in
theorem adist_c {w0 : World}  {v_q : Value} {q : List Int} (k : Int) {v_s : Value} {s : List Pos} (h_q : Sl encRn w0 (Iv 0 w0.heap.size) v_q q) (h_k : I64 k) (h_s : Sl encPos w0 (Iv 0 w0.heap.size) v_s s) (hk : 0 ≤ k ∧ k ≤ 4) (hq : q.length ≤ 1000) (hsl : s.length ≤ 1000) :
    Calls Try.prog 55 #[v_q, .int .i64 k, v_s] w0 (Ret fun rv w1 => ∃ u0 u1, rv = .tuple #[u0, u1] ∧ u0 = .int .i64 (if spreadF q.length k s q.length > k then 0 else spreadF q.length k s q.length) ∧ (∃ rb : Bool, rb = (decide (spreadF q.length k s q.length ≤ k)) ∧ u1 = .bool rb) ∧ Ext w0 w1) := by
  have hE0 : Ext w0 w0 := Mod.refl _ _
  have hle1 := h_q.le
  have hle2 := h_s.le
  refine calls_enter Try.func55 rfl Try.ntmps55 rfl ?_
  refine r_seq ?_
  refine r_region ?_
  refine OL.q (Q1.assign rfl) rfl rfl ?_
  refine OL.q (Q1.assign rfl) rfl rfl ?_
  refine OL.nil ?_
  refine r_seq ?_
  refine r_seq ?_
  refine r_region ?_
  refine OL.q (Q1.move rfl) rfl rfl ?_
  refine OL.act rfl rfl (AW.callF cl76 rfl (amay_c (w0 := w0)  (k) (by first | omega | assumption) (by first | assumption | omega)) ?_)
  rintro _ w1 ⟨⟨_, rfl, rfl⟩, hm1⟩
  have f1 := h_q.ext hm1
  have f2 := h_s.ext hm1
  have hE1 := hE0.ext hm1
  have hs1 := hm1.size
  refine OL.q (Q1.not rfl) rfl rfl ?_
  refine OL.nil ?_
  refine r_cond_f rfl ?_
  refine r_skip ?_
  refine r_seq ?_
  refine r_region ?_
  refine OL.q (Q1.move rfl) rfl rfl ?_
  refine OL.q (Q1.move rfl) rfl rfl ?_
  refine OL.q (Q1.move rfl) rfl rfl ?_
  refine OL.act rfl rfl (AW.callF cl77 rfl (aspread_c (w0 := w1) (q := q) (s := s) (k) ((f1).iv (Nat.zero_le _) (by omega)) (by first | omega | assumption) ((f2).iv (Nat.zero_le _) (by omega)) (by first | assumption | omega) (by first | assumption | omega) (by first | assumption | omega)) ?_)
  rintro v1 w2 ⟨⟨gr1, h1, hg1⟩, hm2⟩
  have f3 := f1.ext hm2
  have f4 := f2.ext hm2
  have hE2 := hE1.ext hm2
  have hs2 := hm2.size
  have hle_1 := h1.le
  have hlt_1 := h1.lt
  have hrl := rowL_len q.length (spreadF q.length k s)
  refine OL.q (Q1.move rfl) rfl rfl ?_
  refine OL.q (Q1.lenSl Try.underlying74 (f3) rfl) rfl rfl ?_
  obtain ⟨x1, b1, o1, hx1, hr1, hl1, hu1, hw1⟩ := Sl.at' (P := Try.prog) h1.sl Try.underlying55 ti3 Ik.encI_len (k := .i64) (n := ((q.length : Nat) : Int)) (q.length) (by omega) (by first | assumption | omega)
  refine OL.q (Q1.indexAddr rfl rfl hr1) rfl rfl ?_
  have hx1r := rowL_at hx1
  have hx1g := spread_rng (n := q.length) hk.1 s q.length
  refine OL.q (Q1.load1 ti3 rfl (fun _ e => e ▸ hw1)) rfl rfl ?_
  refine OL.q (Q1.assign rfl) rfl rfl ?_
  refine OL.nil ?_
  refine r_seq ?_
  refine r_seq ?_
  refine r_region ?_
  refine OL.q (Q1.move rfl) rfl rfl ?_
  refine OL.q (Q1.move rfl) rfl rfl ?_
  refine OL.qb (Q1.gt rfl rfl) rfl rfl ?_
  intro b2 hb1
  refine OL.nil ?_
  cases b2 with
  | true =>
    replace hb1 := of_decide_eq_true hb1.symm
    refine r_cond_t rfl ?_
    refine r_seq ?_
    refine r_region ?_
    refine OL.q (Q1.assign rfl) rfl rfl ?_
    refine OL.q (Q1.assign rfl) rfl rfl ?_
    refine OL.nil ?_
    refine r_ret2 Try.func55 rfl rfl rfl ?_
    exact Ret.mk ⟨_, _, rfl, (congrArg (Value.int .i64) (by first | (rw [if_pos (by omega)]; done) | (rw [if_neg (by omega)]; omega) | exact (decide_eq_false (by omega)).symm | exact (decide_eq_true (by omega)).symm | (exfalso; omega))), ⟨_, (by first | (rw [if_pos (by omega)]; done) | (rw [if_neg (by omega)]; omega) | exact (decide_eq_false (by omega)).symm | exact (decide_eq_true (by omega)).symm | (exfalso; omega)), rfl⟩, hE2⟩
  | false =>
    replace hb1 := of_decide_eq_false hb1.symm
    refine r_cond_f rfl ?_
    refine r_skip ?_
    refine r_seq ?_
    refine r_region ?_
    refine OL.q (Q1.move rfl) rfl rfl ?_
    refine OL.q (Q1.assign rfl) rfl rfl ?_
    refine OL.q (Q1.assign rfl) rfl rfl ?_
    refine OL.nil ?_
    refine r_ret2 Try.func55 rfl rfl rfl ?_
    exact Ret.mk ⟨_, _, rfl, (congrArg (Value.int .i64) (by first | (rw [if_pos (by omega)]; done) | (rw [if_neg (by omega)]; omega) | exact (decide_eq_false (by omega)).symm | exact (decide_eq_true (by omega)).symm | (exfalso; omega))), ⟨_, (by first | (rw [if_pos (by omega)]; done) | (rw [if_neg (by omega)]; omega) | exact (decide_eq_false (by omega)).symm | exact (decide_eq_true (by omega)).symm | (exfalso; omega)), rfl⟩, hE2⟩
set_option maxRecDepth 20000 in
set_option maxHeartbeats 4000000 in
theorem adead_c {w0 : World}  {v_s : Value} {s : List Pos} (h_s : Sl encPos w0 (Iv 0 w0.heap.size) v_s s) :
    Calls Try.prog 59 #[v_s] w0 (Ret fun rv w1 => (∃ rb : Bool, rb = s.isEmpty ∧ rv = .bool rb) ∧ Ext w0 w1) := by
  have hE0 : Ext w0 w0 := Mod.refl _ _
  have hle1 := h_s.le
  refine calls_enter Try.func59 rfl Try.ntmps59 rfl ?_
  refine r_seq ?_
  refine r_region ?_
  refine OL.q (Q1.assign rfl) rfl rfl ?_
  refine OL.nil ?_
  refine r_seq ?_
  refine r_region ?_
  refine OL.q (Q1.move rfl) rfl rfl ?_
  refine OL.q (Q1.lenSl Try.underlying93 (h_s) rfl) rfl rfl ?_
  refine OL.qb (Q1.eq rfl rfl) rfl rfl ?_
  intro b1 hb1
  refine OL.q (Q1.assign rfl) rfl rfl ?_
  refine OL.nil ?_
  refine r_ret1 Try.func59 rfl rfl ?_
  exact Ret.mk ⟨⟨_, (by first | exact isEmpty_len (by assumption) | (exfalso; omega)), rfl⟩, hE0⟩
end Go.Proofs
