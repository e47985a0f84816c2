/-
  Walks through package band, and rank.All.
-/
import Derived.Test.YtjhbobjjkbppkaaWStable
set_option linter.unusedVariables false
set_option linter.unusedSimpArgs false
namespace Go.Proofs
open Go.Ik Go.Ml
set_option maxRecDepth 20000 in
set_option maxHeartbeats 4000000 in
theorem within_c {w0 : World}  {v_q : Value} {q : List Int} {v_p : Value} {p : List Int} (k : Int) (h_q : Sl encRn w0 (Iv 0 w0.heap.size) v_q q) (h_p : Sl encRn w0 (Iv 0 w0.heap.size) v_p p) (h_k : I64 k) (hql : q.length ≤ 100000) (hpl : p.length ≤ 100000) :
    Calls Try.prog 67 #[v_q, v_p, .int .i64 k] w0 (Ret fun rv w1 => ∃ u0 u1, rv = .tuple #[u0, u1] ∧ u0 = .int .i64 ((withinM q p k).1) ∧ (∃ rb : Bool, rb = ((withinM q p k).2) ∧ u1 = .bool rb) ∧ Ext w0 w1) := by
  have hle_q := h_q.le
  have hle_p := h_p.le
  have hS0 := St.start0 w0
  refine calls_enter Try.func67 rfl Try.ntmps67 rfl ?_
  refine r_seq ?_
  refine r_region ?_
  refine OL.q (Q1.assign rfl) rfl rfl ?_
  refine OL.q (Q1.assign rfl) rfl rfl ?_
  refine OL.nil ?_
  refine r_seq ?_
  refine r_seq ?_
  refine r_region ?_
  refine OL.q (Q1.move rfl) rfl rfl ?_
  refine OL.qb (Q1.lt rfl rfl) rfl rfl ?_
  intro b1 hb1
  refine OL.q (Q1.move rfl) rfl rfl ?_
  cases b1 with
  | true =>
    replace hb1 := of_decide_eq_true hb1.symm
    refine OL.sk rfl rfl ?_
    refine OL.sk rfl rfl ?_
    refine OL.sk rfl rfl ?_
    refine OL.sk rfl rfl ?_
    refine OL.sk rfl rfl ?_
    refine OL.sk rfl rfl ?_
    refine OL.sk rfl rfl ?_
    refine OL.q (Q1.pick_t rfl rfl) rfl rfl ?_
    refine OL.q (Q1.move rfl) rfl rfl ?_
    refine OL.sk rfl rfl ?_
    refine OL.sk rfl rfl ?_
    refine OL.sk rfl rfl ?_
    refine OL.sk rfl rfl ?_
    refine OL.sk rfl rfl ?_
    refine OL.sk rfl rfl ?_
    refine OL.sk rfl rfl ?_
    refine OL.q (Q1.pick_t rfl rfl) rfl rfl ?_
    refine OL.nil ?_
    refine r_cond_t rfl ?_
    refine r_seq ?_
    refine r_region ?_
    refine OL.q (Q1.assign rfl) rfl rfl ?_
    refine OL.q (Q1.assign rfl) rfl rfl ?_
    refine OL.nil ?_
    refine r_ret2 Try.func67 rfl rfl rfl ?_
    exact Ret.mk ⟨_, _, rfl, (congrArg (Value.int .i64) (by first | (rw [within_far (by omega)]; done) | (rw [within_end (hil0 ▸ hbd) hK (by omega) (by omega) hx1, if_pos (by omega)]; done) | (rw [within_end (hil0 ▸ hbd) hK (by omega) (by omega) hx1, if_neg (by omega)]; done) | (exfalso; omega))), ⟨_, (by first | (rw [within_far (by omega)]; done) | (rw [within_end (hil0 ▸ hbd) hK (by omega) (by omega) hx1, if_pos (by omega)]; done) | (rw [within_end (hil0 ▸ hbd) hK (by omega) (by omega) hx1, if_neg (by omega)]; done) | (exfalso; omega)), rfl⟩, hS0.mod⟩
  | false =>
    replace hb1 := of_decide_eq_false hb1.symm
    refine OL.q (Q1.move rfl) rfl rfl ?_
    refine OL.q (Q1.lenSl Try.underlying74 (h_q) rfl) rfl rfl ?_
    refine OL.q (Q1.move rfl) rfl rfl ?_
    refine OL.q (Q1.lenSl Try.underlying74 (h_p) rfl) rfl rfl ?_
    refine OL.q (Q1.subI ((((q.length : Nat) : Int) - (((p.length : Nat) : Int)))) rfl rfl (by omega)) rfl rfl ?_
    refine OL.q (Q1.move rfl) rfl rfl ?_
    refine OL.qb (Q1.gt rfl rfl) rfl rfl ?_
    intro b2 hb2
    refine OL.q (Q1.pick_f rfl rfl) rfl rfl ?_
    refine OL.q (Q1.move rfl) rfl rfl ?_
    cases b2 with
    | true =>
      replace hb2 := of_decide_eq_true hb2.symm
      refine OL.sk rfl rfl ?_
      refine OL.sk rfl rfl ?_
      refine OL.sk rfl rfl ?_
      refine OL.sk rfl rfl ?_
      refine OL.sk rfl rfl ?_
      refine OL.sk rfl rfl ?_
      refine OL.sk rfl rfl ?_
      refine OL.q (Q1.pick_t rfl rfl) rfl rfl ?_
      refine OL.nil ?_
      refine r_cond_t rfl ?_
      refine r_seq ?_
      refine r_region ?_
      refine OL.q (Q1.assign rfl) rfl rfl ?_
      refine OL.q (Q1.assign rfl) rfl rfl ?_
      refine OL.nil ?_
      refine r_ret2 Try.func67 rfl rfl rfl ?_
      exact Ret.mk ⟨_, _, rfl, (congrArg (Value.int .i64) (by first | (rw [within_far (by omega)]; done) | (rw [within_end (hil0 ▸ hbd) hK (by omega) (by omega) hx1, if_pos (by omega)]; done) | (rw [within_end (hil0 ▸ hbd) hK (by omega) (by omega) hx1, if_neg (by omega)]; done) | (exfalso; omega))), ⟨_, (by first | (rw [within_far (by omega)]; done) | (rw [within_end (hil0 ▸ hbd) hK (by omega) (by omega) hx1, if_pos (by omega)]; done) | (rw [within_end (hil0 ▸ hbd) hK (by omega) (by omega) hx1, if_neg (by omega)]; done) | (exfalso; omega)), rfl⟩, hS0.mod⟩
    | false =>
      replace hb2 := of_decide_eq_false hb2.symm
      refine OL.q (Q1.move rfl) rfl rfl ?_
      refine OL.q (Q1.lenSl Try.underlying74 (h_p) rfl) rfl rfl ?_
      refine OL.q (Q1.move rfl) rfl rfl ?_
      refine OL.q (Q1.lenSl Try.underlying74 (h_q) rfl) rfl rfl ?_
      refine OL.q (Q1.subI ((((p.length : Nat) : Int) - (((q.length : Nat) : Int)))) rfl rfl (by omega)) rfl rfl ?_
      refine OL.q (Q1.move rfl) rfl rfl ?_
      refine OL.qb (Q1.gt rfl rfl) rfl rfl ?_
      intro b3 hb3
      refine OL.q (Q1.pick_f rfl rfl) rfl rfl ?_
      refine OL.nil ?_
      cases b3 with
      | true =>
        replace hb3 := of_decide_eq_true hb3.symm
        refine r_cond_t rfl ?_
        refine r_seq ?_
        refine r_region ?_
        refine OL.q (Q1.assign rfl) rfl rfl ?_
        refine OL.q (Q1.assign rfl) rfl rfl ?_
        refine OL.nil ?_
        refine r_ret2 Try.func67 rfl rfl rfl ?_
        exact Ret.mk ⟨_, _, rfl, (congrArg (Value.int .i64) (by first | (rw [within_far (by omega)]; done) | (rw [within_end (hil0 ▸ hbd) hK (by omega) (by omega) hx1, if_pos (by omega)]; done) | (rw [within_end (hil0 ▸ hbd) hK (by omega) (by omega) hx1, if_neg (by omega)]; done) | (exfalso; omega))), ⟨_, (by first | (rw [within_far (by omega)]; done) | (rw [within_end (hil0 ▸ hbd) hK (by omega) (by omega) hx1, if_pos (by omega)]; done) | (rw [within_end (hil0 ▸ hbd) hK (by omega) (by omega) hx1, if_neg (by omega)]; done) | (exfalso; omega)), rfl⟩, hS0.mod⟩
      | false =>
        replace hb3 := of_decide_eq_false hb3.symm
        refine r_cond_f rfl ?_
        refine r_skip ?_
        refine r_seq ?_
        refine r_region ?_
        refine OL.q (Q1.move rfl) rfl rfl ?_
        refine OL.q (Q1.move rfl) rfl rfl ?_
        refine OL.q (Q1.lenSl Try.underlying74 (h_q) rfl) rfl rfl ?_
        refine OL.q (Q1.move rfl) rfl rfl ?_
        refine OL.q (Q1.lenSl Try.underlying74 (h_p) rfl) rfl rfl ?_
        refine OL.q (Q1.addI (((q.length + p.length : Nat) : Int)) rfl rfl (by omega)) rfl rfl ?_
        refine OL.q (Q1.min rfl rfl) rfl rfl ?_
        obtain ⟨K, hK⟩ : ∃ K : Nat, (K : Int) = (min k (((q.length + p.length : Nat) : Int))) := ⟨((min k (((q.length + p.length : Nat) : Int)))).toNat, by omega⟩
        rw [← hK]
        refine OL.q (Q1.assign rfl) rfl rfl ?_
        refine OL.nil ?_
        refine r_seq ?_
        refine r_region ?_
        refine OL.q (Q1.move rfl) rfl rfl ?_
        refine OL.q (Q1.addI (((K + 1 : Nat) : Int)) rfl rfl (by omega)) rfl rfl ?_
        rw [show ((K + 1 : Nat) : Int) = (K : Int) + 1 from by omega]
        refine OL.q (Q1.assign rfl) rfl rfl ?_
        refine OL.nil ?_
        refine r_seq ?_
        refine r_region ?_
        refine OL.q (Q1.move rfl) rfl rfl ?_
        refine OL.q (Q1.lenSl Try.underlying74 (h_p) rfl) rfl rfl ?_
        refine OL.q (Q1.addI (((p.length + 1 : Nat) : Int)) rfl rfl (by omega)) rfl rfl ?_
        refine OL.act rfl rfl (AW.makeSlice (enc := Ik.encI) (p.length + 1) (0 : Int) Try.underlying55 ti3 (by decide) rfl Ik.encI_len rfl rfl (by omega) (by omega) (by omega) (by unfold maxLen; omega) ?_)
        intro v1 g1 w1 hm1 hg1 hz1 ha1
        have hS1 := hS0.ext hm1
        have hr1 : (List.replicate (p.length + 1) (0 : Int)).length = p.length + 1 := List.length_replicate
        have hS2 : St (fun _ => False) (fun _ => False) w0 w1 [accR Ik.encI 3 1 v1 ((List.replicate (p.length + 1) (0 : Int)))] := hS0.newAcc hm1 ha1 (.inr (by omega))
        refine OL.q (Q1.assign rfl) rfl rfl ?_
        refine OL.nil ?_
        refine r_seq ?_
        refine r_seq ?_
        refine r_region ?_
        refine OL.q (Q1.move rfl) rfl rfl ?_
        obtain ⟨g2, f1, hl1, k1⟩ := hS2.accK (i := 0) rfl
        refine OL.q (Q1.lenSl Try.underlying55 (f1.sl) rfl) rfl rfl ?_
        refine OL.q (Q1.move rfl) rfl rfl ?_
        refine OL.nil ?_
        refine r_block ?_
        refine r_loop (I := fun m E W => ∃ (row : List Int) (j0 : Nat), E = [(0, v_q), (1, v_p), (2, .int .i64 (((K : Nat) : Int))), (8, .int .i64 (((K : Int) + 1))), (9, v1), (52, .int .i64 (((((List.replicate (p.length + 1) (0 : Int))).length : Nat) : Int))), (53, .int .i64 (((j0 : Nat) : Int)))] ∧ m = p.length + 1 - j0 ∧ St (fun _ => False) (fun _ => False) w0 W [accR Ik.encI 3 1 v1 row] ∧ (row.length = p.length + 1) ∧ (∀ c, c < j0 → row[c]? = some (min (c : Int) (K + 1)))) ?_ ?_
        · refine ⟨_, _, ⟨((List.replicate (p.length + 1) (0 : Int)) : List Int), (0 : Nat), rfl, rfl, hS2, (by exact List.length_replicate), (by (intro c hc; omega))⟩, ⟨rfl, rfl, rfl, rfl, rfl, rfl, rfl, trivial⟩⟩
        · rintro _ _ w2 ⟨row, j0, rfl, rfl, hS3, hl0, hr0⟩ ih1
          refine r_seq ?_
          refine r_region ?_
          refine OL.qb (Q1.lt rfl rfl) rfl rfl ?_
          intro b4 hb4
          refine OL.nil ?_
          refine r_seq ?_
          cases b4 with
          | true =>
            replace hb4 := of_decide_eq_true hb4.symm
            refine r_cond_t rfl ?_
            refine r_skip ?_
            refine r_seq ?_
            refine r_block ?_
            refine r_seq ?_
            refine r_region ?_
            refine OL.q (Q1.move rfl) rfl rfl ?_
            refine OL.q (Q1.assign rfl) rfl rfl ?_
            refine OL.nil ?_
            refine r_region ?_
            refine OL.q (Q1.move rfl) rfl rfl ?_
            refine OL.q (Q1.move rfl) rfl rfl ?_
            refine OL.q (Q1.move rfl) rfl rfl ?_
            refine OL.q (Q1.move rfl) rfl rfl ?_
            refine OL.q (Q1.min rfl rfl) rfl rfl ?_
            obtain ⟨g3, f2, hl2, k2⟩ := hS3.accK (i := 0) rfl
            obtain ⟨hr2, x1, hx1⟩ := Acc.at (P := Try.prog) f2 Try.underlying55 ti3 (k := .i64) (n := ((j0 : Nat) : Int)) (j0) (by omega) (by first | assumption | omega | (simp; done))
            refine OL.q (Q1.indexAddr rfl rfl hr2) rfl rfl ?_
            refine OL.act rfl rfl (AW.storeA f2 Ik.encI_len (i := j0) (o := 0) hx1 ((min (((j0 : Nat) : Int)) (((K : Int) + 1)))) ti3 rfl (by first | omega | rfl) rfl rfl rfl rfl (by decide) (by first | rfl | simp [Ik.encI]) ?_)
            intro w3 hm2 hz2 ha2
            have hl3 : (row.set j0 ((min (((j0 : Nat) : Int)) (((K : Int) + 1))))).length = row.length := List.length_set
            have hS4 : St (fun _ => False) (fun _ => False) w0 w3 [accR Ik.encI 3 1 v1 ((row.set j0 ((min (((j0 : Nat) : Int)) (((K : Int) + 1))))))] := k2 _ _ _ _ hm2 ha2 (.inl rfl)
            refine OL.nil ?_
            refine r_inBlock ?_
            refine r_region ?_
            refine OL.q (Q1.addI (((j0 + 1 : Nat) : Int)) rfl rfl (by omega)) rfl rfl ?_
            refine OL.q (Q1.move rfl) rfl rfl ?_
            refine OL.nil ?_
            exact (ih1 _ _ _ ⟨((row.set j0 ((min (((j0 : Nat) : Int)) (((K : Int) + 1))))) : List Int), (j0 + 1 : Nat), rfl, rfl, hS4, (by first | (rw [List.length_set]; exact hl0) | (exfalso; omega)), (by first | exact row0_step hr0 (by omega) (by omega) | (exfalso; omega))⟩ (by omega)).sub ⟨rfl, rfl, rfl, rfl, rfl, rfl, rfl, trivial⟩
          | false =>
            replace hb4 := of_decide_eq_false hb4.symm
            refine r_cond_f rfl ?_
            refine r_exit rfl ?_
            refine r_seq ?_
            refine r_seq ?_
            refine r_region ?_
            refine OL.q (Q1.move rfl) rfl rfl ?_
            have f2 := hS3.out h_q (fun _ _ h => h)
            refine OL.q (Q1.lenSl Try.underlying74 (f2) rfl) rfl rfl ?_
            refine OL.q (Q1.move rfl) rfl rfl ?_
            refine OL.nil ?_
            refine r_block ?_
            refine r_loop (I := fun m E W => ∃ (row1 : List Int) (i : Nat), E = [(0, v_q), (1, v_p), (2, .int .i64 (((K : Nat) : Int))), (8, .int .i64 (((K : Int) + 1))), (9, v1), (64, .int .i64 (((q.length : Nat) : Int))), (65, .int .i64 (((i : Nat) : Int)))] ∧ m = q.length - i ∧ St (fun _ => False) (fun _ => False) w0 W [accR Ik.encI 3 1 v1 row1] ∧ (Band q p K row1 i) ∧ (i ≤ q.length)) ?_ ?_
            · refine ⟨_, _, ⟨(row : List Int), (0 : Nat), rfl, rfl, hS3, (by exact Band.start hl0 (fun c hc => hr0 c (by omega))), (by omega)⟩, ⟨rfl, rfl, rfl, rfl, rfl, rfl, rfl, trivial⟩⟩
            · rintro _ _ w3 ⟨row1, i, rfl, rfl, hS4, hbd, hil⟩ ih2
              have hl1 := hbd.len
              refine r_seq ?_
              refine r_region ?_
              refine OL.qb (Q1.lt rfl rfl) rfl rfl ?_
              intro b5 hb5
              refine OL.nil ?_
              refine r_seq ?_
              cases b5 with
              | true =>
                replace hb5 := of_decide_eq_true hb5.symm
                refine r_cond_t rfl ?_
                refine r_skip ?_
                refine r_seq ?_
                refine r_block ?_
                refine r_seq ?_
                refine r_region ?_
                refine OL.q (Q1.move rfl) rfl rfl ?_
                refine OL.q (Q1.assign rfl) rfl rfl ?_
                refine OL.nil ?_
                refine r_seq ?_
                refine r_region ?_
                refine OL.q (Q1.move rfl) rfl rfl ?_
                refine OL.q (Q1.addI (((i + 1 : Nat) : Int)) rfl rfl (by omega)) rfl rfl ?_
                refine OL.q (Q1.move rfl) rfl rfl ?_
                refine OL.q (Q1.subI ((((i + 1 : Nat) : Int) - (((K : Nat) : Int)))) rfl rfl (by omega)) rfl rfl ?_
                refine OL.q (Q1.max rfl rfl) rfl rfl ?_
                rw [show (max ((((i + 1 : Nat) : Int) - (((K : Nat) : Int)))) 1) = (((max (i + 1 - K) 1) : Nat) : Int) from by omega]
                refine OL.q (Q1.move rfl) rfl rfl ?_
                refine OL.q (Q1.addI (((i + 1 : Nat) : Int)) rfl rfl (by omega)) rfl rfl ?_
                refine OL.q (Q1.move rfl) rfl rfl ?_
                refine OL.q (Q1.addI ((((i + 1) + K : Nat) : Int)) rfl rfl (by omega)) rfl rfl ?_
                refine OL.q (Q1.move rfl) rfl rfl ?_
                have f3 := hS4.out h_p (fun _ _ h => h)
                refine OL.q (Q1.lenSl Try.underlying74 (f3) rfl) rfl rfl ?_
                refine OL.q (Q1.min rfl rfl) rfl rfl ?_
                rw [show (min ((((i + 1) + K : Nat) : Int)) (((p.length : Nat) : Int))) = (((min (i + 1 + K) p.length) : Nat) : Int) from by omega]
                refine OL.q (Q1.assign rfl) rfl rfl ?_
                refine OL.q (Q1.assign rfl) rfl rfl ?_
                refine OL.nil ?_
                refine r_seq ?_
                refine r_region ?_
                refine OL.q (Q1.move rfl) rfl rfl ?_
                refine OL.q (Q1.move rfl) rfl rfl ?_
                refine OL.q (Q1.subI (((((max (i + 1 - K) 1) : Nat) : Int) - 1)) rfl rfl (by omega)) rfl rfl ?_
                rw [show ((((max (i + 1 - K) 1) : Nat) : Int) - 1) = (((max (i + 1 - K) 1) - 1 : Nat) : Int) from by omega]
                obtain ⟨g3, f4, hl2, k2⟩ := hS4.accK (i := 0) rfl
                obtain ⟨x1, b6, o1, hx1, hr2, hl3, hw1⟩ := Sl.atF (P := Try.prog) f4.sl Try.underlying55 ti3 Ik.encI_len (k := .i64) (n := (((max (i + 1 - K) 1) - 1 : Nat) : Int)) ((max (i + 1 - K) 1) - 1) (by omega) (by first | assumption | omega)
                refine OL.q (Q1.indexAddr rfl rfl hr2) rfl rfl ?_
                refine OL.q (Q1.load1 ti3 rfl (fun _ e => e ▸ hw1)) rfl rfl ?_
                refine OL.q (Q1.assign rfl) rfl rfl ?_
                refine OL.nil ?_
                refine r_seq ?_
                refine r_region ?_
                refine OL.q (Q1.move rfl) rfl rfl ?_
                refine OL.q (Q1.move rfl) rfl rfl ?_
                refine OL.q (Q1.subI (((((max (i + 1 - K) 1) : Nat) : Int) - 1)) rfl rfl (by omega)) rfl rfl ?_
                rw [show ((((max (i + 1 - K) 1) : Nat) : Int) - 1) = (((max (i + 1 - K) 1) - 1 : Nat) : Int) from by omega]
                refine OL.q (Q1.move rfl) rfl rfl ?_
                obtain ⟨hr3, x2, hx2⟩ := Acc.at (P := Try.prog) f4 Try.underlying55 ti3 (k := .i64) (n := (((max (i + 1 - K) 1) - 1 : Nat) : Int)) ((max (i + 1 - K) 1) - 1) (by omega) (by first | assumption | omega | (simp; done))
                obtain rfl : x1 = x2 := Option.some.inj (hx1.symm.trans hx2)
                refine OL.q (Q1.indexAddr rfl rfl hr3) rfl rfl ?_
                refine OL.act rfl rfl (AW.storeA f4 Ik.encI_len (i := ((max (i + 1 - K) 1) - 1)) (o := 0) hx2 (((K : Int) + 1)) ti3 rfl (by first | omega | rfl) rfl rfl rfl rfl (by decide) (by first | rfl | simp [Ik.encI]) ?_)
                intro w4 hm2 hz2 ha2
                have hl4 : (row1.set ((max (i + 1 - K) 1) - 1) (((K : Int) + 1))).length = row1.length := List.length_set
                have hS5 : St (fun _ => False) (fun _ => False) w0 w4 [accR Ik.encI 3 1 v1 ((row1.set ((max (i + 1 - K) 1) - 1) (((K : Int) + 1))))] := k2 _ _ _ _ hm2 ha2 (.inl rfl)
                refine OL.nil ?_
                refine r_seq ?_
                refine r_seq ?_
                refine r_region ?_
                refine OL.q (Q1.move rfl) rfl rfl ?_
                refine OL.qb (Q1.eq rfl rfl) rfl rfl ?_
                intro b7 hb6
                refine OL.nil ?_
                cases b7 with
                | true =>
                  replace hb6 := eq_of_beq hb6.symm
                  refine r_cond_t rfl ?_
                  refine r_region ?_
                  refine OL.q (Q1.move rfl) rfl rfl ?_
                  refine OL.q (Q1.move rfl) rfl rfl ?_
                  refine OL.q (Q1.addI (((i + 1 : Nat) : Int)) rfl rfl (by omega)) rfl rfl ?_
                  refine OL.q (Q1.move rfl) rfl rfl ?_
                  refine OL.q (Q1.min rfl rfl) rfl rfl ?_
                  obtain ⟨g4, f5, hl5, k3⟩ := hS5.accK (i := 0) rfl
                  obtain ⟨hr4, x3, hx3⟩ := Acc.at (P := Try.prog) f5 Try.underlying55 ti3 (k := .i64) (n := 0) (0) (by omega) (by first | assumption | omega | (simp; done))
                  refine OL.q (Q1.indexAddr rfl rfl hr4) rfl rfl ?_
                  refine OL.act rfl rfl (AW.storeA f5 Ik.encI_len (i := 0) (o := 0) hx3 ((min (((i + 1 : Nat) : Int)) (((K : Int) + 1)))) ti3 rfl (by first | omega | rfl) rfl rfl rfl rfl (by decide) (by first | rfl | simp [Ik.encI]) ?_)
                  intro w5 hm3 hz3 ha3
                  have hl6 : (((row1.set ((max (i + 1 - K) 1) - 1) (((K : Int) + 1)))).set 0 ((min (((i + 1 : Nat) : Int)) (((K : Int) + 1))))).length = ((row1.set ((max (i + 1 - K) 1) - 1) (((K : Int) + 1)))).length := List.length_set
                  have hS6 : St (fun _ => False) (fun _ => False) w0 w5 [accR Ik.encI 3 1 v1 ((((row1.set ((max (i + 1 - K) 1) - 1) (((K : Int) + 1)))).set 0 ((min (((i + 1 : Nat) : Int)) (((K : Int) + 1))))))] := k3 _ _ _ _ hm3 ha3 (.inl rfl)
                  refine OL.nil ?_
                  refine r_seq ?_
                  refine r_seq ?_
                  refine r_region ?_
                  refine OL.q (Q1.move rfl) rfl rfl ?_
                  refine OL.q (Q1.move rfl) rfl rfl ?_
                  refine OL.q (Q1.subI (((((min (i + 1 + K) p.length) : Nat) : Int) - ((((max (i + 1 - K) 1) : Nat) : Int)))) rfl rfl (by omega)) rfl rfl ?_
                  refine OL.q (Q1.addI ((((((min (i + 1 + K) p.length) : Nat) : Int) - ((((max (i + 1 - K) 1) : Nat) : Int))) + 1)) rfl rfl (by omega)) rfl rfl ?_
                  rw [show (((((min (i + 1 + K) p.length) : Nat) : Int) - ((((max (i + 1 - K) 1) : Nat) : Int))) + 1) = (((min (i + 1 + K) p.length) + 1 - (max (i + 1 - K) 1) : Nat) : Int) from by omega]
                  refine OL.q (Q1.move rfl) rfl rfl ?_
                  refine OL.nil ?_
                  refine r_block ?_
                  refine r_loop (I := fun m E W => ∃ (row2 : List Int) (was : Int) (t : Nat), E = [(0, v_q), (1, v_p), (2, .int .i64 (((K : Nat) : Int))), (8, .int .i64 (((K : Int) + 1))), (9, v1), (11, .int .i64 (((i : Nat) : Int))), (12, .int .i64 ((((max (i + 1 - K) 1) : Nat) : Int))), (13, .int .i64 ((((min (i + 1 + K) p.length) : Nat) : Int))), (14, .int .i64 was), (64, .int .i64 (((q.length : Nat) : Int))), (65, .int .i64 (((i : Nat) : Int))), (101, .int .i64 ((((min (i + 1 + K) p.length) + 1 - (max (i + 1 - K) 1) : Nat) : Int))), (102, .int .i64 (((t : Nat) : Int)))] ∧ m = (min (i + 1 + K) p.length) + 1 - t ∧ St (fun _ => False) (fun _ => False) w0 W [accR Ik.encI 3 1 v1 row2] ∧ (BandW q p K row2 i (max (i + 1 - K) 1) (t + (max (i + 1 - K) 1))) ∧ (was = cap K (dT q p i (t + (max (i + 1 - K) 1) - 1))) ∧ (t + (max (i + 1 - K) 1) ≤ (min (i + 1 + K) p.length) + 1)) ?_ ?_
                  · refine ⟨_, _, ⟨((((row1.set ((max (i + 1 - K) 1) - 1) (((K : Int) + 1)))).set 0 ((min (((i + 1 : Nat) : Int)) (((K : Int) + 1))))) : List Int), (x1 : Int), (0 : Nat), rfl, rfl, hS6, (by (rw [Nat.zero_add]; first | exact BandW.start1 hbd rfl (by omega) (by omega) (by omega) | exact BandW.start2 hbd rfl (by omega) (by omega) (by omega))), (by (rw [Nat.zero_add]; exact was_at hbd hx1 (by omega) (by omega) (by omega))), (by omega)⟩, ⟨rfl, rfl, rfl, rfl, rfl, rfl, rfl, rfl, rfl, rfl, rfl, rfl, rfl, trivial⟩⟩
                  · rintro _ _ w6 ⟨row2, was, t, rfl, rfl, hS7, hbw, hwas, htl⟩ ih3
                    have hl2 := hbw.len
                    refine r_seq ?_
                    refine r_region ?_
                    refine OL.qb (Q1.lt rfl rfl) rfl rfl ?_
                    intro b8 hb7
                    refine OL.nil ?_
                    refine r_seq ?_
                    cases b8 with
                    | true =>
                      replace hb7 := of_decide_eq_true hb7.symm
                      refine r_cond_t rfl ?_
                      refine r_skip ?_
                      refine r_seq ?_
                      refine r_block ?_
                      refine r_seq ?_
                      refine r_region ?_
                      refine OL.q (Q1.move rfl) rfl rfl ?_
                      refine OL.q (Q1.assign rfl) rfl rfl ?_
                      refine OL.nil ?_
                      refine r_seq ?_
                      refine r_region ?_
                      refine OL.q (Q1.move rfl) rfl rfl ?_
                      refine OL.q (Q1.move rfl) rfl rfl ?_
                      refine OL.q (Q1.addI (((t + ((max (i + 1 - K) 1)) : Nat) : Int)) rfl rfl (by omega)) rfl rfl ?_
                      refine OL.q (Q1.assign rfl) rfl rfl ?_
                      refine OL.nil ?_
                      refine r_seq ?_
                      refine r_region ?_
                      refine OL.q (Q1.move rfl) rfl rfl ?_
                      refine OL.q (Q1.assign rfl) rfl rfl ?_
                      refine OL.nil ?_
                      refine r_seq ?_
                      refine r_seq ?_
                      refine r_draw1 (fun i => false) 10 (fun w' => Mod (Mg 0) w6 w') mixed (by kernel_rfl) ?_
                      intro w7 hm4
                      have hS8 := hS7.ext hm4
                      have hCw7 : Mod (Mg 0) w6 w7 := Mod.ofExt hm4
                      refine ⟨hCw7, ?_⟩
                      rw [show List.range' 0 (Array.size _) = [0, 1, 2, 3, 4, 5, 6, 7, 8, 9] from rfl]
                      refine OD.q rfl rfl (Q1.move rfl) rfl rfl ?_
                      refine OD.q rfl rfl (Q1.move rfl) rfl rfl ?_
                      have f6 := hS7.out h_q (fun _ _ h => h)
                      obtain ⟨x4, b9, o2, hx4, hr5, hl7, hw2⟩ := Sl.atF (P := Try.prog) f6 Try.underlying74 ti21 encRn_len (k := .i64) (n := ((i : Nat) : Int)) (i) (by omega) (by first | assumption | omega)
                      refine OD.q rfl rfl (Q1.indexAddr rfl rfl hr5) rfl rfl ?_
                      refine OD.q rfl rfl (Q1.load1 ti21 rfl (fun _ hc => hw2.keepG hc (Nat.succ_ne_zero _))) rfl rfl ?_
                      refine OD.q rfl rfl (Q1.move rfl) rfl rfl ?_
                      refine OD.q rfl rfl (Q1.move rfl) rfl rfl ?_
                      refine OD.q rfl rfl (Q1.subI ((((t + ((max (i + 1 - K) 1)) : Nat) : Int) - 1)) rfl rfl (by omega)) rfl rfl ?_
                      have f7 := hS7.out h_p (fun _ _ h => h)
                      obtain ⟨x5, b10, o3, hx5, hr6, hl8, hw3⟩ := Sl.atF (P := Try.prog) f7 Try.underlying74 ti21 encRn_len (k := .i64) (n := (((t + ((max (i + 1 - K) 1)) : Nat) : Int) - 1)) ((t + ((max (i + 1 - K) 1)) - 1)) (by omega) (by first | assumption | omega)
                      refine OD.q rfl rfl (Q1.indexAddr rfl rfl hr6) rfl rfl ?_
                      refine OD.q rfl rfl (Q1.load1 ti21 rfl (fun _ hc => hw3.keepG hc (Nat.succ_ne_zero _))) rfl rfl ?_
                      refine OD.qb rfl rfl (Q1.ne rfl rfl) rfl rfl ?_
                      intro b11 hb8
                      refine OD.nil ?_
                      cases b11 with
                      | true =>
                        replace hb8 := bne_iff_ne.1 hb8.symm
                        refine r_cond_t rfl ?_
                        refine r_region ?_
                        refine OL.q (Q1.move rfl) rfl rfl ?_
                        have hwr := hwas ▸ cap_rng (q := q) (p := p) (K := K) (i := i) (c := t + (max (i + 1 - K) 1) - 1)
                        refine OL.q (Q1.addI ((was + 1)) rfl rfl (by omega)) rfl rfl ?_
                        refine OL.q (Q1.assign rfl) rfl rfl ?_
                        refine OL.nil ?_
                        refine r_seq ?_
                        refine r_region ?_
                        refine OL.q (Q1.move rfl) rfl rfl ?_
                        refine OL.q (Q1.move rfl) rfl rfl ?_
                        obtain ⟨g5, f8, hl9, k4⟩ := hS8.accK (i := 0) rfl
                        obtain ⟨x6, b12, o4, hx6, hr7, hl10, hw4⟩ := Sl.atF (P := Try.prog) f8.sl Try.underlying55 ti3 Ik.encI_len (k := .i64) (n := ((t + ((max (i + 1 - K) 1)) : Nat) : Int)) (t + ((max (i + 1 - K) 1))) (by omega) (by first | assumption | omega)
                        refine OL.q (Q1.indexAddr rfl rfl hr7) rfl rfl ?_
                        refine OL.q (Q1.load1 ti3 rfl (fun _ e => e ▸ hw4)) rfl rfl ?_
                        have har := hbw.old (t + (max (i + 1 - K) 1)) (Nat.le_refl _) (by omega) (by omega)
                        rw [hx6] at har
                        have har2 := Option.some.inj har ▸ cap_rng (q := q) (p := p) (K := K) (i := i) (c := t + (max (i + 1 - K) 1))
                        refine OL.q (Q1.assign rfl) rfl rfl ?_
                        refine OL.nil ?_
                        refine r_region ?_
                        refine OL.q (Q1.move rfl) rfl rfl ?_
                        refine OL.q (Q1.move rfl) rfl rfl ?_
                        refine OL.q (Q1.move rfl) rfl rfl ?_
                        refine OL.q (Q1.addI ((x6 + 1)) rfl rfl (by omega)) rfl rfl ?_
                        refine OL.q (Q1.move rfl) rfl rfl ?_
                        refine OL.q (Q1.move rfl) rfl rfl ?_
                        refine OL.q (Q1.subI ((((t + ((max (i + 1 - K) 1)) : Nat) : Int) - 1)) rfl rfl (by omega)) rfl rfl ?_
                        obtain ⟨x7, b13, o5, hx7, hr8, hl11, hw5⟩ := Sl.atF (P := Try.prog) f8.sl Try.underlying55 ti3 Ik.encI_len (k := .i64) (n := (((t + ((max (i + 1 - K) 1)) : Nat) : Int) - 1)) ((t + ((max (i + 1 - K) 1)) - 1)) (by omega) (by first | assumption | omega)
                        refine OL.q (Q1.indexAddr rfl rfl hr8) rfl rfl ?_
                        refine OL.q (Q1.load1 ti3 rfl (fun _ e => e ▸ hw5)) rfl rfl ?_
                        obtain ⟨⟨ha0, ha1⟩, hb0, hb1_⟩ := hbw.rng (by omega) (by omega) (by omega) (by omega) hx6 hx7
                        have hstep := hbw.step (u := (was + 1)) rfl (by omega) (by omega) (by omega) hx4 hx5 hx6 hx7 hwas (by first | rw [if_neg (by assumption)] | rw [if_pos (by assumption)])
                        refine OL.q (Q1.addI ((x7 + 1)) rfl rfl (by omega)) rfl rfl ?_
                        refine OL.q (Q1.move rfl) rfl rfl ?_
                        refine OL.q (Q1.move rfl) rfl rfl ?_
                        refine OL.q (Q1.min4 rfl rfl rfl rfl) rfl rfl ?_
                        obtain ⟨hr9, x8, hx8⟩ := Acc.at (P := Try.prog) f8 Try.underlying55 ti3 (k := .i64) (n := ((t + ((max (i + 1 - K) 1)) : Nat) : Int)) (t + ((max (i + 1 - K) 1))) (by omega) (by first | assumption | omega | (simp; done))
                        obtain rfl : x6 = x8 := Option.some.inj (hx6.symm.trans hx8)
                        refine OL.q (Q1.indexAddr rfl rfl hr9) rfl rfl ?_
                        refine OL.act rfl rfl (AW.storeA f8 Ik.encI_len (i := (t + ((max (i + 1 - K) 1)))) (o := 0) hx8 ((min ((min ((min ((x6 + 1)) ((x7 + 1)))) ((was + 1)))) (((K : Int) + 1)))) ti3 rfl (by first | omega | rfl) rfl rfl rfl rfl (by decide) (by first | rfl | simp [Ik.encI]) ?_)
                        intro w8 hm5 hz4 ha4
                        have hl12 : (row2.set (t + ((max (i + 1 - K) 1))) ((min ((min ((min ((x6 + 1)) ((x7 + 1)))) ((was + 1)))) (((K : Int) + 1))))).length = row2.length := List.length_set
                        have hS9 : St (fun _ => False) (fun _ => False) w0 w8 [accR Ik.encI 3 1 v1 ((row2.set (t + ((max (i + 1 - K) 1))) ((min ((min ((min ((x6 + 1)) ((x7 + 1)))) ((was + 1)))) (((K : Int) + 1))))))] := k4 _ _ _ _ hm5 ha4 (.inl rfl)
                        refine OL.nil ?_
                        refine r_inBlock ?_
                        refine r_region ?_
                        refine OL.q (Q1.addI (((t + 1 : Nat) : Int)) rfl rfl (by omega)) rfl rfl ?_
                        refine OL.q (Q1.move rfl) rfl rfl ?_
                        refine OL.nil ?_
                        exact (ih3 _ _ _ ⟨((row2.set (t + ((max (i + 1 - K) 1))) ((min ((min ((min ((x6 + 1)) ((x7 + 1)))) ((was + 1)))) (((K : Int) + 1))))) : List Int), (x6 : Int), (t + 1 : Nat), rfl, rfl, hS9, (by first | (rw [show t + 1 + (max (i + 1 - K) 1) = t + (max (i + 1 - K) 1) + 1 from by omega]; exact hstep.1) | (exfalso; omega)), (by first | (rw [show t + 1 + (max (i + 1 - K) 1) - 1 = t + (max (i + 1 - K) 1) from by omega]; exact hstep.2) | (exfalso; omega)), (by first | omega | (exfalso; omega))⟩ (by omega)).sub ⟨rfl, rfl, rfl, rfl, rfl, rfl, rfl, rfl, rfl, rfl, rfl, rfl, rfl, trivial⟩
                      | false =>
                        replace hb8 := bne_eq_false_iff_eq.1 hb8.symm
                        refine r_cond_f rfl ?_
                        refine r_skip ?_
                        refine r_seq ?_
                        refine r_region ?_
                        refine OL.q (Q1.move rfl) rfl rfl ?_
                        refine OL.q (Q1.move rfl) rfl rfl ?_
                        obtain ⟨g5, f8, hl9, k4⟩ := hS8.accK (i := 0) rfl
                        obtain ⟨x6, b12, o4, hx6, hr7, hl10, hw4⟩ := Sl.atF (P := Try.prog) f8.sl Try.underlying55 ti3 Ik.encI_len (k := .i64) (n := ((t + ((max (i + 1 - K) 1)) : Nat) : Int)) (t + ((max (i + 1 - K) 1))) (by omega) (by first | assumption | omega)
                        refine OL.q (Q1.indexAddr rfl rfl hr7) rfl rfl ?_
                        refine OL.q (Q1.load1 ti3 rfl (fun _ e => e ▸ hw4)) rfl rfl ?_
                        have har := hbw.old (t + (max (i + 1 - K) 1)) (Nat.le_refl _) (by omega) (by omega)
                        rw [hx6] at har
                        have har2 := Option.some.inj har ▸ cap_rng (q := q) (p := p) (K := K) (i := i) (c := t + (max (i + 1 - K) 1))
                        refine OL.q (Q1.assign rfl) rfl rfl ?_
                        refine OL.nil ?_
                        refine r_region ?_
                        refine OL.q (Q1.move rfl) rfl rfl ?_
                        refine OL.q (Q1.move rfl) rfl rfl ?_
                        refine OL.q (Q1.move rfl) rfl rfl ?_
                        refine OL.q (Q1.addI ((x6 + 1)) rfl rfl (by omega)) rfl rfl ?_
                        refine OL.q (Q1.move rfl) rfl rfl ?_
                        refine OL.q (Q1.move rfl) rfl rfl ?_
                        refine OL.q (Q1.subI ((((t + ((max (i + 1 - K) 1)) : Nat) : Int) - 1)) rfl rfl (by omega)) rfl rfl ?_
                        obtain ⟨x7, b13, o5, hx7, hr8, hl11, hw5⟩ := Sl.atF (P := Try.prog) f8.sl Try.underlying55 ti3 Ik.encI_len (k := .i64) (n := (((t + ((max (i + 1 - K) 1)) : Nat) : Int) - 1)) ((t + ((max (i + 1 - K) 1)) - 1)) (by omega) (by first | assumption | omega)
                        refine OL.q (Q1.indexAddr rfl rfl hr8) rfl rfl ?_
                        refine OL.q (Q1.load1 ti3 rfl (fun _ e => e ▸ hw5)) rfl rfl ?_
                        obtain ⟨⟨ha0, ha1⟩, hb0, hb1_⟩ := hbw.rng (by omega) (by omega) (by omega) (by omega) hx6 hx7
                        have hstep := hbw.step (u := was) rfl (by omega) (by omega) (by omega) hx4 hx5 hx6 hx7 hwas (by first | rw [if_neg (by assumption)] | rw [if_pos (by assumption)])
                        refine OL.q (Q1.addI ((x7 + 1)) rfl rfl (by omega)) rfl rfl ?_
                        refine OL.q (Q1.move rfl) rfl rfl ?_
                        refine OL.q (Q1.move rfl) rfl rfl ?_
                        refine OL.q (Q1.min4 rfl rfl rfl rfl) rfl rfl ?_
                        obtain ⟨hr9, x8, hx8⟩ := Acc.at (P := Try.prog) f8 Try.underlying55 ti3 (k := .i64) (n := ((t + ((max (i + 1 - K) 1)) : Nat) : Int)) (t + ((max (i + 1 - K) 1))) (by omega) (by first | assumption | omega | (simp; done))
                        obtain rfl : x6 = x8 := Option.some.inj (hx6.symm.trans hx8)
                        refine OL.q (Q1.indexAddr rfl rfl hr9) rfl rfl ?_
                        refine OL.act rfl rfl (AW.storeA f8 Ik.encI_len (i := (t + ((max (i + 1 - K) 1)))) (o := 0) hx8 ((min ((min ((min ((x6 + 1)) ((x7 + 1)))) was)) (((K : Int) + 1)))) ti3 rfl (by first | omega | rfl) rfl rfl rfl rfl (by decide) (by first | rfl | simp [Ik.encI]) ?_)
                        intro w8 hm5 hz4 ha4
                        have hl12 : (row2.set (t + ((max (i + 1 - K) 1))) ((min ((min ((min ((x6 + 1)) ((x7 + 1)))) was)) (((K : Int) + 1))))).length = row2.length := List.length_set
                        have hS9 : St (fun _ => False) (fun _ => False) w0 w8 [accR Ik.encI 3 1 v1 ((row2.set (t + ((max (i + 1 - K) 1))) ((min ((min ((min ((x6 + 1)) ((x7 + 1)))) was)) (((K : Int) + 1))))))] := k4 _ _ _ _ hm5 ha4 (.inl rfl)
                        refine OL.nil ?_
                        refine r_inBlock ?_
                        refine r_region ?_
                        refine OL.q (Q1.addI (((t + 1 : Nat) : Int)) rfl rfl (by omega)) rfl rfl ?_
                        refine OL.q (Q1.move rfl) rfl rfl ?_
                        refine OL.nil ?_
                        exact (ih3 _ _ _ ⟨((row2.set (t + ((max (i + 1 - K) 1))) ((min ((min ((min ((x6 + 1)) ((x7 + 1)))) was)) (((K : Int) + 1))))) : List Int), (x6 : Int), (t + 1 : Nat), rfl, rfl, hS9, (by first | (rw [show t + 1 + (max (i + 1 - K) 1) = t + (max (i + 1 - K) 1) + 1 from by omega]; exact hstep.1) | (exfalso; omega)), (by first | (rw [show t + 1 + (max (i + 1 - K) 1) - 1 = t + (max (i + 1 - K) 1) from by omega]; exact hstep.2) | (exfalso; omega)), (by first | omega | (exfalso; omega))⟩ (by omega)).sub ⟨rfl, rfl, rfl, rfl, rfl, rfl, rfl, rfl, rfl, rfl, rfl, rfl, rfl, trivial⟩
                    | false =>
                      replace hb7 := of_decide_eq_false hb7.symm
                      refine r_cond_f rfl ?_
                      refine r_exit rfl ?_
                      refine r_seq ?_
                      refine r_region ?_
                      refine OL.q (Q1.move rfl) rfl rfl ?_
                      refine OL.q (Q1.move rfl) rfl rfl ?_
                      have f6 := hS7.out h_p (fun _ _ h => h)
                      refine OL.q (Q1.lenSl Try.underlying74 (f6) rfl) rfl rfl ?_
                      refine OL.qb (Q1.lt rfl rfl) rfl rfl ?_
                      intro b9 hb8
                      refine OL.nil ?_
                      cases b9 with
                      | true =>
                        replace hb8 := of_decide_eq_true hb8.symm
                        refine r_cond_t rfl ?_
                        refine r_region ?_
                        refine OL.q (Q1.move rfl) rfl rfl ?_
                        refine OL.q (Q1.move rfl) rfl rfl ?_
                        refine OL.q (Q1.addI (((((min (i + 1 + K) p.length)) + 1 : Nat) : Int)) rfl rfl (by omega)) rfl rfl ?_
                        refine OL.q (Q1.move rfl) rfl rfl ?_
                        obtain ⟨g5, f7, hl7, k4⟩ := hS7.accK (i := 0) rfl
                        obtain ⟨hr5, x4, hx4⟩ := Acc.at (P := Try.prog) f7 Try.underlying55 ti3 (k := .i64) (n := ((((min (i + 1 + K) p.length)) + 1 : Nat) : Int)) (((min (i + 1 + K) p.length)) + 1) (by omega) (by first | assumption | omega | (simp; done))
                        refine OL.q (Q1.indexAddr rfl rfl hr5) rfl rfl ?_
                        refine OL.act rfl rfl (AW.storeA f7 Ik.encI_len (i := (((min (i + 1 + K) p.length)) + 1)) (o := 0) hx4 (((K : Int) + 1)) ti3 rfl (by first | omega | rfl) rfl rfl rfl rfl (by decide) (by first | rfl | simp [Ik.encI]) ?_)
                        intro w7 hm4 hz4 ha4
                        have hl8 : (row2.set (((min (i + 1 + K) p.length)) + 1) (((K : Int) + 1))).length = row2.length := List.length_set
                        have hS8 : St (fun _ => False) (fun _ => False) w0 w7 [accR Ik.encI 3 1 v1 ((row2.set (((min (i + 1 + K) p.length)) + 1) (((K : Int) + 1))))] := k4 _ _ _ _ hm4 ha4 (.inl rfl)
                        refine OL.nil ?_
                        refine r_inBlock ?_
                        refine r_region ?_
                        refine OL.q (Q1.addI (((i + 1 : Nat) : Int)) rfl rfl (by omega)) rfl rfl ?_
                        refine OL.q (Q1.move rfl) rfl rfl ?_
                        refine OL.nil ?_
                        exact (ih2 _ _ _ ⟨((row2.set (((min (i + 1 + K) p.length)) + 1) (((K : Int) + 1))) : List Int), (i + 1 : Nat), rfl, rfl, hS8, (by first | (have ht1 : t + (max (i + 1 - K) 1) = (min (i + 1 + K) p.length) + 1 := (by omega); rw [ht1] at hbw; first | exact hbw.fin2 rfl rfl (by omega) rfl | exact hbw.fin rfl rfl (by omega)) | (exfalso; omega)), (by first | omega | (exfalso; omega))⟩ (by omega)).sub ⟨rfl, rfl, rfl, rfl, rfl, rfl, rfl, trivial⟩
                      | false =>
                        replace hb8 := of_decide_eq_false hb8.symm
                        refine r_cond_f rfl ?_
                        refine r_skip ?_
                        refine r_inBlock ?_
                        refine r_region ?_
                        refine OL.q (Q1.addI (((i + 1 : Nat) : Int)) rfl rfl (by omega)) rfl rfl ?_
                        refine OL.q (Q1.move rfl) rfl rfl ?_
                        refine OL.nil ?_
                        exact (ih2 _ _ _ ⟨(row2 : List Int), (i + 1 : Nat), rfl, rfl, hS7, (by first | (have ht1 : t + (max (i + 1 - K) 1) = (min (i + 1 + K) p.length) + 1 := (by omega); rw [ht1] at hbw; first | exact hbw.fin2 rfl rfl (by omega) rfl | exact hbw.fin rfl rfl (by omega)) | (exfalso; omega)), (by first | omega | (exfalso; omega))⟩ (by omega)).sub ⟨rfl, rfl, rfl, rfl, rfl, rfl, rfl, trivial⟩
                | false =>
                  replace hb6 := ne_of_beq_false hb6.symm
                  refine r_cond_f rfl ?_
                  refine r_skip ?_
                  refine r_seq ?_
                  refine r_seq ?_
                  refine r_region ?_
                  refine OL.q (Q1.move rfl) rfl rfl ?_
                  refine OL.q (Q1.move rfl) rfl rfl ?_
                  refine OL.q (Q1.subI (((((min (i + 1 + K) p.length) : Nat) : Int) - ((((max (i + 1 - K) 1) : Nat) : Int)))) rfl rfl (by omega)) rfl rfl ?_
                  refine OL.q (Q1.addI ((((((min (i + 1 + K) p.length) : Nat) : Int) - ((((max (i + 1 - K) 1) : Nat) : Int))) + 1)) rfl rfl (by omega)) rfl rfl ?_
                  rw [show (((((min (i + 1 + K) p.length) : Nat) : Int) - ((((max (i + 1 - K) 1) : Nat) : Int))) + 1) = (((min (i + 1 + K) p.length) + 1 - (max (i + 1 - K) 1) : Nat) : Int) from by omega]
                  refine OL.q (Q1.move rfl) rfl rfl ?_
                  refine OL.nil ?_
                  refine r_block ?_
                  refine r_loop (I := fun m E W => ∃ (row2 : List Int) (was : Int) (t : Nat), E = [(0, v_q), (1, v_p), (2, .int .i64 (((K : Nat) : Int))), (8, .int .i64 (((K : Int) + 1))), (9, v1), (11, .int .i64 (((i : Nat) : Int))), (12, .int .i64 ((((max (i + 1 - K) 1) : Nat) : Int))), (13, .int .i64 ((((min (i + 1 + K) p.length) : Nat) : Int))), (14, .int .i64 was), (64, .int .i64 (((q.length : Nat) : Int))), (65, .int .i64 (((i : Nat) : Int))), (101, .int .i64 ((((min (i + 1 + K) p.length) + 1 - (max (i + 1 - K) 1) : Nat) : Int))), (102, .int .i64 (((t : Nat) : Int)))] ∧ m = (min (i + 1 + K) p.length) + 1 - t ∧ St (fun _ => False) (fun _ => False) w0 W [accR Ik.encI 3 1 v1 row2] ∧ (BandW q p K row2 i (max (i + 1 - K) 1) (t + (max (i + 1 - K) 1))) ∧ (was = cap K (dT q p i (t + (max (i + 1 - K) 1) - 1))) ∧ (t + (max (i + 1 - K) 1) ≤ (min (i + 1 + K) p.length) + 1)) ?_ ?_
                  · refine ⟨_, _, ⟨((row1.set ((max (i + 1 - K) 1) - 1) (((K : Int) + 1))) : List Int), (x1 : Int), (0 : Nat), rfl, rfl, hS5, (by (rw [Nat.zero_add]; first | exact BandW.start1 hbd rfl (by omega) (by omega) (by omega) | exact BandW.start2 hbd rfl (by omega) (by omega) (by omega))), (by (rw [Nat.zero_add]; exact was_at hbd hx1 (by omega) (by omega) (by omega))), (by omega)⟩, ⟨rfl, rfl, rfl, rfl, rfl, rfl, rfl, rfl, rfl, rfl, rfl, rfl, rfl, trivial⟩⟩
                  · rintro _ _ w5 ⟨row2, was, t, rfl, rfl, hS6, hbw, hwas, htl⟩ ih3
                    have hl2 := hbw.len
                    refine r_seq ?_
                    refine r_region ?_
                    refine OL.qb (Q1.lt rfl rfl) rfl rfl ?_
                    intro b8 hb7
                    refine OL.nil ?_
                    refine r_seq ?_
                    cases b8 with
                    | true =>
                      replace hb7 := of_decide_eq_true hb7.symm
                      refine r_cond_t rfl ?_
                      refine r_skip ?_
                      refine r_seq ?_
                      refine r_block ?_
                      refine r_seq ?_
                      refine r_region ?_
                      refine OL.q (Q1.move rfl) rfl rfl ?_
                      refine OL.q (Q1.assign rfl) rfl rfl ?_
                      refine OL.nil ?_
                      refine r_seq ?_
                      refine r_region ?_
                      refine OL.q (Q1.move rfl) rfl rfl ?_
                      refine OL.q (Q1.move rfl) rfl rfl ?_
                      refine OL.q (Q1.addI (((t + ((max (i + 1 - K) 1)) : Nat) : Int)) rfl rfl (by omega)) rfl rfl ?_
                      refine OL.q (Q1.assign rfl) rfl rfl ?_
                      refine OL.nil ?_
                      refine r_seq ?_
                      refine r_region ?_
                      refine OL.q (Q1.move rfl) rfl rfl ?_
                      refine OL.q (Q1.assign rfl) rfl rfl ?_
                      refine OL.nil ?_
                      refine r_seq ?_
                      refine r_seq ?_
                      refine r_draw1 (fun i => false) 10 (fun w' => Mod (Mg 0) w5 w') mixed (by kernel_rfl) ?_
                      intro w6 hm3
                      have hS7 := hS6.ext hm3
                      have hCw6 : Mod (Mg 0) w5 w6 := Mod.ofExt hm3
                      refine ⟨hCw6, ?_⟩
                      rw [show List.range' 0 (Array.size _) = [0, 1, 2, 3, 4, 5, 6, 7, 8, 9] from rfl]
                      refine OD.q rfl rfl (Q1.move rfl) rfl rfl ?_
                      refine OD.q rfl rfl (Q1.move rfl) rfl rfl ?_
                      have f5 := hS6.out h_q (fun _ _ h => h)
                      obtain ⟨x3, b9, o2, hx3, hr4, hl5, hw2⟩ := Sl.atF (P := Try.prog) f5 Try.underlying74 ti21 encRn_len (k := .i64) (n := ((i : Nat) : Int)) (i) (by omega) (by first | assumption | omega)
                      refine OD.q rfl rfl (Q1.indexAddr rfl rfl hr4) rfl rfl ?_
                      refine OD.q rfl rfl (Q1.load1 ti21 rfl (fun _ hc => hw2.keepG hc (Nat.succ_ne_zero _))) rfl rfl ?_
                      refine OD.q rfl rfl (Q1.move rfl) rfl rfl ?_
                      refine OD.q rfl rfl (Q1.move rfl) rfl rfl ?_
                      refine OD.q rfl rfl (Q1.subI ((((t + ((max (i + 1 - K) 1)) : Nat) : Int) - 1)) rfl rfl (by omega)) rfl rfl ?_
                      have f6 := hS6.out h_p (fun _ _ h => h)
                      obtain ⟨x4, b10, o3, hx4, hr5, hl6, hw3⟩ := Sl.atF (P := Try.prog) f6 Try.underlying74 ti21 encRn_len (k := .i64) (n := (((t + ((max (i + 1 - K) 1)) : Nat) : Int) - 1)) ((t + ((max (i + 1 - K) 1)) - 1)) (by omega) (by first | assumption | omega)
                      refine OD.q rfl rfl (Q1.indexAddr rfl rfl hr5) rfl rfl ?_
                      refine OD.q rfl rfl (Q1.load1 ti21 rfl (fun _ hc => hw3.keepG hc (Nat.succ_ne_zero _))) rfl rfl ?_
                      refine OD.qb rfl rfl (Q1.ne rfl rfl) rfl rfl ?_
                      intro b11 hb8
                      refine OD.nil ?_
                      cases b11 with
                      | true =>
                        replace hb8 := bne_iff_ne.1 hb8.symm
                        refine r_cond_t rfl ?_
                        refine r_region ?_
                        refine OL.q (Q1.move rfl) rfl rfl ?_
                        have hwr := hwas ▸ cap_rng (q := q) (p := p) (K := K) (i := i) (c := t + (max (i + 1 - K) 1) - 1)
                        refine OL.q (Q1.addI ((was + 1)) rfl rfl (by omega)) rfl rfl ?_
                        refine OL.q (Q1.assign rfl) rfl rfl ?_
                        refine OL.nil ?_
                        refine r_seq ?_
                        refine r_region ?_
                        refine OL.q (Q1.move rfl) rfl rfl ?_
                        refine OL.q (Q1.move rfl) rfl rfl ?_
                        obtain ⟨g4, f7, hl7, k3⟩ := hS7.accK (i := 0) rfl
                        obtain ⟨x5, b12, o4, hx5, hr6, hl8, hw4⟩ := Sl.atF (P := Try.prog) f7.sl Try.underlying55 ti3 Ik.encI_len (k := .i64) (n := ((t + ((max (i + 1 - K) 1)) : Nat) : Int)) (t + ((max (i + 1 - K) 1))) (by omega) (by first | assumption | omega)
                        refine OL.q (Q1.indexAddr rfl rfl hr6) rfl rfl ?_
                        refine OL.q (Q1.load1 ti3 rfl (fun _ e => e ▸ hw4)) rfl rfl ?_
                        have har := hbw.old (t + (max (i + 1 - K) 1)) (Nat.le_refl _) (by omega) (by omega)
                        rw [hx5] at har
                        have har2 := Option.some.inj har ▸ cap_rng (q := q) (p := p) (K := K) (i := i) (c := t + (max (i + 1 - K) 1))
                        refine OL.q (Q1.assign rfl) rfl rfl ?_
                        refine OL.nil ?_
                        refine r_region ?_
                        refine OL.q (Q1.move rfl) rfl rfl ?_
                        refine OL.q (Q1.move rfl) rfl rfl ?_
                        refine OL.q (Q1.move rfl) rfl rfl ?_
                        refine OL.q (Q1.addI ((x5 + 1)) rfl rfl (by omega)) rfl rfl ?_
                        refine OL.q (Q1.move rfl) rfl rfl ?_
                        refine OL.q (Q1.move rfl) rfl rfl ?_
                        refine OL.q (Q1.subI ((((t + ((max (i + 1 - K) 1)) : Nat) : Int) - 1)) rfl rfl (by omega)) rfl rfl ?_
                        obtain ⟨x6, b13, o5, hx6, hr7, hl9, hw5⟩ := Sl.atF (P := Try.prog) f7.sl Try.underlying55 ti3 Ik.encI_len (k := .i64) (n := (((t + ((max (i + 1 - K) 1)) : Nat) : Int) - 1)) ((t + ((max (i + 1 - K) 1)) - 1)) (by omega) (by first | assumption | omega)
                        refine OL.q (Q1.indexAddr rfl rfl hr7) rfl rfl ?_
                        refine OL.q (Q1.load1 ti3 rfl (fun _ e => e ▸ hw5)) rfl rfl ?_
                        obtain ⟨⟨ha0, ha1⟩, hb0, hb1_⟩ := hbw.rng (by omega) (by omega) (by omega) (by omega) hx5 hx6
                        have hstep := hbw.step (u := (was + 1)) rfl (by omega) (by omega) (by omega) hx3 hx4 hx5 hx6 hwas (by first | rw [if_neg (by assumption)] | rw [if_pos (by assumption)])
                        refine OL.q (Q1.addI ((x6 + 1)) rfl rfl (by omega)) rfl rfl ?_
                        refine OL.q (Q1.move rfl) rfl rfl ?_
                        refine OL.q (Q1.move rfl) rfl rfl ?_
                        refine OL.q (Q1.min4 rfl rfl rfl rfl) rfl rfl ?_
                        obtain ⟨hr8, x7, hx7⟩ := Acc.at (P := Try.prog) f7 Try.underlying55 ti3 (k := .i64) (n := ((t + ((max (i + 1 - K) 1)) : Nat) : Int)) (t + ((max (i + 1 - K) 1))) (by omega) (by first | assumption | omega | (simp; done))
                        obtain rfl : x5 = x7 := Option.some.inj (hx5.symm.trans hx7)
                        refine OL.q (Q1.indexAddr rfl rfl hr8) rfl rfl ?_
                        refine OL.act rfl rfl (AW.storeA f7 Ik.encI_len (i := (t + ((max (i + 1 - K) 1)))) (o := 0) hx7 ((min ((min ((min ((x5 + 1)) ((x6 + 1)))) ((was + 1)))) (((K : Int) + 1)))) ti3 rfl (by first | omega | rfl) rfl rfl rfl rfl (by decide) (by first | rfl | simp [Ik.encI]) ?_)
                        intro w7 hm4 hz3 ha3
                        have hl10 : (row2.set (t + ((max (i + 1 - K) 1))) ((min ((min ((min ((x5 + 1)) ((x6 + 1)))) ((was + 1)))) (((K : Int) + 1))))).length = row2.length := List.length_set
                        have hS8 : St (fun _ => False) (fun _ => False) w0 w7 [accR Ik.encI 3 1 v1 ((row2.set (t + ((max (i + 1 - K) 1))) ((min ((min ((min ((x5 + 1)) ((x6 + 1)))) ((was + 1)))) (((K : Int) + 1))))))] := k3 _ _ _ _ hm4 ha3 (.inl rfl)
                        refine OL.nil ?_
                        refine r_inBlock ?_
                        refine r_region ?_
                        refine OL.q (Q1.addI (((t + 1 : Nat) : Int)) rfl rfl (by omega)) rfl rfl ?_
                        refine OL.q (Q1.move rfl) rfl rfl ?_
                        refine OL.nil ?_
                        exact (ih3 _ _ _ ⟨((row2.set (t + ((max (i + 1 - K) 1))) ((min ((min ((min ((x5 + 1)) ((x6 + 1)))) ((was + 1)))) (((K : Int) + 1))))) : List Int), (x5 : Int), (t + 1 : Nat), rfl, rfl, hS8, (by first | (rw [show t + 1 + (max (i + 1 - K) 1) = t + (max (i + 1 - K) 1) + 1 from by omega]; exact hstep.1) | (exfalso; omega)), (by first | (rw [show t + 1 + (max (i + 1 - K) 1) - 1 = t + (max (i + 1 - K) 1) from by omega]; exact hstep.2) | (exfalso; omega)), (by first | omega | (exfalso; omega))⟩ (by omega)).sub ⟨rfl, rfl, rfl, rfl, rfl, rfl, rfl, rfl, rfl, rfl, rfl, rfl, rfl, trivial⟩
                      | false =>
                        replace hb8 := bne_eq_false_iff_eq.1 hb8.symm
                        refine r_cond_f rfl ?_
                        refine r_skip ?_
                        refine r_seq ?_
                        refine r_region ?_
                        refine OL.q (Q1.move rfl) rfl rfl ?_
                        refine OL.q (Q1.move rfl) rfl rfl ?_
                        obtain ⟨g4, f7, hl7, k3⟩ := hS7.accK (i := 0) rfl
                        obtain ⟨x5, b12, o4, hx5, hr6, hl8, hw4⟩ := Sl.atF (P := Try.prog) f7.sl Try.underlying55 ti3 Ik.encI_len (k := .i64) (n := ((t + ((max (i + 1 - K) 1)) : Nat) : Int)) (t + ((max (i + 1 - K) 1))) (by omega) (by first | assumption | omega)
                        refine OL.q (Q1.indexAddr rfl rfl hr6) rfl rfl ?_
                        refine OL.q (Q1.load1 ti3 rfl (fun _ e => e ▸ hw4)) rfl rfl ?_
                        have har := hbw.old (t + (max (i + 1 - K) 1)) (Nat.le_refl _) (by omega) (by omega)
                        rw [hx5] at har
                        have har2 := Option.some.inj har ▸ cap_rng (q := q) (p := p) (K := K) (i := i) (c := t + (max (i + 1 - K) 1))
                        refine OL.q (Q1.assign rfl) rfl rfl ?_
                        refine OL.nil ?_
                        refine r_region ?_
                        refine OL.q (Q1.move rfl) rfl rfl ?_
                        refine OL.q (Q1.move rfl) rfl rfl ?_
                        refine OL.q (Q1.move rfl) rfl rfl ?_
                        refine OL.q (Q1.addI ((x5 + 1)) rfl rfl (by omega)) rfl rfl ?_
                        refine OL.q (Q1.move rfl) rfl rfl ?_
                        refine OL.q (Q1.move rfl) rfl rfl ?_
                        refine OL.q (Q1.subI ((((t + ((max (i + 1 - K) 1)) : Nat) : Int) - 1)) rfl rfl (by omega)) rfl rfl ?_
                        obtain ⟨x6, b13, o5, hx6, hr7, hl9, hw5⟩ := Sl.atF (P := Try.prog) f7.sl Try.underlying55 ti3 Ik.encI_len (k := .i64) (n := (((t + ((max (i + 1 - K) 1)) : Nat) : Int) - 1)) ((t + ((max (i + 1 - K) 1)) - 1)) (by omega) (by first | assumption | omega)
                        refine OL.q (Q1.indexAddr rfl rfl hr7) rfl rfl ?_
                        refine OL.q (Q1.load1 ti3 rfl (fun _ e => e ▸ hw5)) rfl rfl ?_
                        obtain ⟨⟨ha0, ha1⟩, hb0, hb1_⟩ := hbw.rng (by omega) (by omega) (by omega) (by omega) hx5 hx6
                        have hstep := hbw.step (u := was) rfl (by omega) (by omega) (by omega) hx3 hx4 hx5 hx6 hwas (by first | rw [if_neg (by assumption)] | rw [if_pos (by assumption)])
                        refine OL.q (Q1.addI ((x6 + 1)) rfl rfl (by omega)) rfl rfl ?_
                        refine OL.q (Q1.move rfl) rfl rfl ?_
                        refine OL.q (Q1.move rfl) rfl rfl ?_
                        refine OL.q (Q1.min4 rfl rfl rfl rfl) rfl rfl ?_
                        obtain ⟨hr8, x7, hx7⟩ := Acc.at (P := Try.prog) f7 Try.underlying55 ti3 (k := .i64) (n := ((t + ((max (i + 1 - K) 1)) : Nat) : Int)) (t + ((max (i + 1 - K) 1))) (by omega) (by first | assumption | omega | (simp; done))
                        obtain rfl : x5 = x7 := Option.some.inj (hx5.symm.trans hx7)
                        refine OL.q (Q1.indexAddr rfl rfl hr8) rfl rfl ?_
                        refine OL.act rfl rfl (AW.storeA f7 Ik.encI_len (i := (t + ((max (i + 1 - K) 1)))) (o := 0) hx7 ((min ((min ((min ((x5 + 1)) ((x6 + 1)))) was)) (((K : Int) + 1)))) ti3 rfl (by first | omega | rfl) rfl rfl rfl rfl (by decide) (by first | rfl | simp [Ik.encI]) ?_)
                        intro w7 hm4 hz3 ha3
                        have hl10 : (row2.set (t + ((max (i + 1 - K) 1))) ((min ((min ((min ((x5 + 1)) ((x6 + 1)))) was)) (((K : Int) + 1))))).length = row2.length := List.length_set
                        have hS8 : St (fun _ => False) (fun _ => False) w0 w7 [accR Ik.encI 3 1 v1 ((row2.set (t + ((max (i + 1 - K) 1))) ((min ((min ((min ((x5 + 1)) ((x6 + 1)))) was)) (((K : Int) + 1))))))] := k3 _ _ _ _ hm4 ha3 (.inl rfl)
                        refine OL.nil ?_
                        refine r_inBlock ?_
                        refine r_region ?_
                        refine OL.q (Q1.addI (((t + 1 : Nat) : Int)) rfl rfl (by omega)) rfl rfl ?_
                        refine OL.q (Q1.move rfl) rfl rfl ?_
                        refine OL.nil ?_
                        exact (ih3 _ _ _ ⟨((row2.set (t + ((max (i + 1 - K) 1))) ((min ((min ((min ((x5 + 1)) ((x6 + 1)))) was)) (((K : Int) + 1))))) : List Int), (x5 : Int), (t + 1 : Nat), rfl, rfl, hS8, (by first | (rw [show t + 1 + (max (i + 1 - K) 1) = t + (max (i + 1 - K) 1) + 1 from by omega]; exact hstep.1) | (exfalso; omega)), (by first | (rw [show t + 1 + (max (i + 1 - K) 1) - 1 = t + (max (i + 1 - K) 1) from by omega]; exact hstep.2) | (exfalso; omega)), (by first | omega | (exfalso; omega))⟩ (by omega)).sub ⟨rfl, rfl, rfl, rfl, rfl, rfl, rfl, rfl, rfl, rfl, rfl, rfl, rfl, trivial⟩
                    | false =>
                      replace hb7 := of_decide_eq_false hb7.symm
                      refine r_cond_f rfl ?_
                      refine r_exit rfl ?_
                      refine r_seq ?_
                      refine r_region ?_
                      refine OL.q (Q1.move rfl) rfl rfl ?_
                      refine OL.q (Q1.move rfl) rfl rfl ?_
                      have f5 := hS6.out h_p (fun _ _ h => h)
                      refine OL.q (Q1.lenSl Try.underlying74 (f5) rfl) rfl rfl ?_
                      refine OL.qb (Q1.lt rfl rfl) rfl rfl ?_
                      intro b9 hb8
                      refine OL.nil ?_
                      cases b9 with
                      | true =>
                        replace hb8 := of_decide_eq_true hb8.symm
                        refine r_cond_t rfl ?_
                        refine r_region ?_
                        refine OL.q (Q1.move rfl) rfl rfl ?_
                        refine OL.q (Q1.move rfl) rfl rfl ?_
                        refine OL.q (Q1.addI (((((min (i + 1 + K) p.length)) + 1 : Nat) : Int)) rfl rfl (by omega)) rfl rfl ?_
                        refine OL.q (Q1.move rfl) rfl rfl ?_
                        obtain ⟨g4, f6, hl5, k3⟩ := hS6.accK (i := 0) rfl
                        obtain ⟨hr4, x3, hx3⟩ := Acc.at (P := Try.prog) f6 Try.underlying55 ti3 (k := .i64) (n := ((((min (i + 1 + K) p.length)) + 1 : Nat) : Int)) (((min (i + 1 + K) p.length)) + 1) (by omega) (by first | assumption | omega | (simp; done))
                        refine OL.q (Q1.indexAddr rfl rfl hr4) rfl rfl ?_
                        refine OL.act rfl rfl (AW.storeA f6 Ik.encI_len (i := (((min (i + 1 + K) p.length)) + 1)) (o := 0) hx3 (((K : Int) + 1)) ti3 rfl (by first | omega | rfl) rfl rfl rfl rfl (by decide) (by first | rfl | simp [Ik.encI]) ?_)
                        intro w6 hm3 hz3 ha3
                        have hl6 : (row2.set (((min (i + 1 + K) p.length)) + 1) (((K : Int) + 1))).length = row2.length := List.length_set
                        have hS7 : St (fun _ => False) (fun _ => False) w0 w6 [accR Ik.encI 3 1 v1 ((row2.set (((min (i + 1 + K) p.length)) + 1) (((K : Int) + 1))))] := k3 _ _ _ _ hm3 ha3 (.inl rfl)
                        refine OL.nil ?_
                        refine r_inBlock ?_
                        refine r_region ?_
                        refine OL.q (Q1.addI (((i + 1 : Nat) : Int)) rfl rfl (by omega)) rfl rfl ?_
                        refine OL.q (Q1.move rfl) rfl rfl ?_
                        refine OL.nil ?_
                        exact (ih2 _ _ _ ⟨((row2.set (((min (i + 1 + K) p.length)) + 1) (((K : Int) + 1))) : List Int), (i + 1 : Nat), rfl, rfl, hS7, (by first | (have ht1 : t + (max (i + 1 - K) 1) = (min (i + 1 + K) p.length) + 1 := (by omega); rw [ht1] at hbw; first | exact hbw.fin2 rfl rfl (by omega) rfl | exact hbw.fin rfl rfl (by omega)) | (exfalso; omega)), (by first | omega | (exfalso; omega))⟩ (by omega)).sub ⟨rfl, rfl, rfl, rfl, rfl, rfl, rfl, trivial⟩
                      | false =>
                        replace hb8 := of_decide_eq_false hb8.symm
                        refine r_cond_f rfl ?_
                        refine r_skip ?_
                        refine r_inBlock ?_
                        refine r_region ?_
                        refine OL.q (Q1.addI (((i + 1 : Nat) : Int)) rfl rfl (by omega)) rfl rfl ?_
                        refine OL.q (Q1.move rfl) rfl rfl ?_
                        refine OL.nil ?_
                        exact (ih2 _ _ _ ⟨(row2 : List Int), (i + 1 : Nat), rfl, rfl, hS6, (by first | (have ht1 : t + (max (i + 1 - K) 1) = (min (i + 1 + K) p.length) + 1 := (by omega); rw [ht1] at hbw; first | exact hbw.fin2 rfl rfl (by omega) rfl | exact hbw.fin rfl rfl (by omega)) | (exfalso; omega)), (by first | omega | (exfalso; omega))⟩ (by omega)).sub ⟨rfl, rfl, rfl, rfl, rfl, rfl, rfl, trivial⟩
              | false =>
                replace hb5 := of_decide_eq_false hb5.symm
                refine r_cond_f rfl ?_
                refine r_exit rfl ?_
                refine r_seq ?_
                refine r_region ?_
                refine OL.q (Q1.move rfl) rfl rfl ?_
                have hil0 : i = q.length := by omega
                refine OL.q (Q1.move rfl) rfl rfl ?_
                have f3 := hS4.out h_p (fun _ _ h => h)
                refine OL.q (Q1.lenSl Try.underlying74 (f3) rfl) rfl rfl ?_
                obtain ⟨g3, f4, hl2, k2⟩ := hS4.accK (i := 0) rfl
                obtain ⟨x1, b6, o1, hx1, hr2, hl3, hw1⟩ := Sl.atF (P := Try.prog) f4.sl Try.underlying55 ti3 Ik.encI_len (k := .i64) (n := ((p.length : Nat) : Int)) (p.length) (by omega) (by first | assumption | omega)
                refine OL.q (Q1.indexAddr rfl rfl hr2) rfl rfl ?_
                refine OL.q (Q1.load1 ti3 rfl (fun _ e => e ▸ hw1)) rfl rfl ?_
                refine OL.q (Q1.assign rfl) rfl rfl ?_
                refine OL.nil ?_
                refine r_seq ?_
                refine r_seq ?_
                refine r_region ?_
                refine OL.q (Q1.move rfl) rfl rfl ?_
                refine OL.q (Q1.move rfl) rfl rfl ?_
                refine OL.qb (Q1.gt rfl rfl) rfl rfl ?_
                intro b7 hb6
                refine OL.nil ?_
                cases b7 with
                | true =>
                  replace hb6 := of_decide_eq_true hb6.symm
                  refine r_cond_t rfl ?_
                  refine r_seq ?_
                  refine r_region ?_
                  refine OL.q (Q1.assign rfl) rfl rfl ?_
                  refine OL.q (Q1.assign rfl) rfl rfl ?_
                  refine OL.nil ?_
                  refine r_ret2 Try.func67 rfl rfl rfl ?_
                  exact Ret.mk ⟨_, _, rfl, (congrArg (Value.int .i64) (by first | (rw [within_far (by omega)]; done) | (rw [within_end (hil0 ▸ hbd) hK (by omega) (by omega) hx1, if_pos (by omega)]; done) | (rw [within_end (hil0 ▸ hbd) hK (by omega) (by omega) hx1, if_neg (by omega)]; done) | (exfalso; omega))), ⟨_, (by first | (rw [within_far (by omega)]; done) | (rw [within_end (hil0 ▸ hbd) hK (by omega) (by omega) hx1, if_pos (by omega)]; done) | (rw [within_end (hil0 ▸ hbd) hK (by omega) (by omega) hx1, if_neg (by omega)]; done) | (exfalso; omega)), rfl⟩, hS4.mod⟩
                | false =>
                  replace hb6 := of_decide_eq_false hb6.symm
                  refine r_cond_f rfl ?_
                  refine r_skip ?_
                  refine r_seq ?_
                  refine r_region ?_
                  refine OL.q (Q1.move rfl) rfl rfl ?_
                  refine OL.q (Q1.assign rfl) rfl rfl ?_
                  refine OL.q (Q1.assign rfl) rfl rfl ?_
                  refine OL.nil ?_
                  refine r_ret2 Try.func67 rfl rfl rfl ?_
                  exact Ret.mk ⟨_, _, rfl, (congrArg (Value.int .i64) (by first | (rw [within_far (by omega)]; done) | (rw [within_end (hil0 ▸ hbd) hK (by omega) (by omega) hx1, if_pos (by omega)]; done) | (rw [within_end (hil0 ▸ hbd) hK (by omega) (by omega) hx1, if_neg (by omega)]; done) | (exfalso; omega))), ⟨_, (by first | (rw [within_far (by omega)]; done) | (rw [within_end (hil0 ▸ hbd) hK (by omega) (by omega) hx1, if_pos (by omega)]; done) | (rw [within_end (hil0 ▸ hbd) hK (by omega) (by omega) hx1, if_neg (by omega)]; done) | (exfalso; omega)), rfl⟩, hS4.mod⟩
set_option maxRecDepth 20000 in
set_option maxHeartbeats 4000000 in
theorem near_c {w0 : World}  (s : Str) (w : Str) (k : Int) (h_k : I64 k) (hl_s : s.length ≤ 100000) (hl_w : w.length ≤ 100000) :
    Calls Try.prog 46 #[strV s, strV w, .int .i64 k] w0 (Ret fun rv w1 => ∃ u0 u1, rv = .tuple #[u0, u1] ∧ u0 = .int .i64 ((nearB s w k).1) ∧ (∃ rb : Bool, rb = ((nearB s w k).2) ∧ u1 = .bool rb) ∧ Ext w0 w1) := by
  have hrs := runesM_len s
  have hrw := runesM_len w
  have hS0 := St.start0 w0
  refine calls_enter Try.func46 rfl Try.ntmps46 rfl ?_
  refine r_seq ?_
  refine r_region ?_
  refine OL.q (Q1.assign rfl) rfl rfl ?_
  refine OL.q (Q1.assign rfl) rfl rfl ?_
  refine OL.nil ?_
  refine r_seq ?_
  refine r_region ?_
  refine OL.q (Q1.move rfl) rfl rfl ?_
  refine OL.act rfl rfl (AW.callF cl53 rfl (trunes_c (w0 := w0)  s (by first | assumption | omega | (simp; done))) ?_)
  rintro _ w1 ⟨v1, _, rfl, h1, ⟨b1, hb1, rfl⟩, hm1⟩
  have hS1 := hS0.ext hm1
  have hS2 : St (fun _ => False) (fun _ => False) w0 w1 [slR encRn [(v1, (Ml.runesM s))]] := hS0.newSl hm1 h1
  have hle_1 := h1.le
  have := Ml.runesM_len s
  refine OL.q (Q1.move rfl) rfl rfl ?_
  refine OL.q (Q1.extract rfl rfl) rfl rfl ?_
  refine OL.q (Q1.extract rfl rfl) rfl rfl ?_
  refine OL.q (Q1.assign rfl) rfl rfl ?_
  refine OL.q (Q1.assign rfl) rfl rfl ?_
  refine OL.nil ?_
  refine r_seq ?_
  refine r_region ?_
  refine OL.q (Q1.move rfl) rfl rfl ?_
  refine OL.act rfl rfl (AW.callF cl53 rfl (trunes_c (w0 := w1)  w (by first | assumption | omega | (simp; done))) ?_)
  rintro _ w2 ⟨v2, _, rfl, h2, ⟨b2, hb2, rfl⟩, hm2⟩
  have hS3 := hS2.ext hm2
  have hS4 : St (fun _ => False) (fun _ => False) w0 w2 [slR encRn [(v1, (Ml.runesM s))], slR encRn [(v2, (Ml.runesM w))]] := hS2.newSl hm2 h2
  have hle_2 := h2.le
  have := Ml.runesM_len w
  refine OL.q (Q1.move rfl) rfl rfl ?_
  refine OL.q (Q1.extract rfl rfl) rfl rfl ?_
  refine OL.q (Q1.extract rfl rfl) rfl rfl ?_
  refine OL.q (Q1.assign rfl) rfl rfl ?_
  refine OL.q (Q1.assign rfl) rfl rfl ?_
  refine OL.nil ?_
  refine r_seq ?_
  refine r_seq ?_
  refine r_region ?_
  refine OL.q (Q1.move rfl) rfl rfl ?_
  cases b1 with
  | true =>
    replace hb1 := hb1.symm
    refine OL.q (Q1.not rfl) rfl rfl ?_
    refine OL.q (Q1.move rfl) rfl rfl ?_
    refine OL.q (Q1.move rfl) rfl rfl ?_
    cases b2 with
    | true =>
      replace hb2 := hb2.symm
      refine OL.q (Q1.not rfl) rfl rfl ?_
      refine OL.q (Q1.pick_f rfl rfl) rfl rfl ?_
      refine OL.nil ?_
      refine r_cond_f rfl ?_
      refine r_skip ?_
      refine r_seq ?_
      refine r_region ?_
      refine OL.q (Q1.move rfl) rfl rfl ?_
      refine OL.q (Q1.move rfl) rfl rfl ?_
      refine OL.q (Q1.move rfl) rfl rfl ?_
      have f1 := hS4.sl (i := 0) (k := 0) rfl rfl
      have f2 := hS4.sl (i := 1) (k := 0) rfl rfl
      refine OL.act rfl rfl (AW.callF cl67 rfl (within_c (w0 := w2) (q := (Ml.runesM s)) (p := (Ml.runesM w)) (k) f1 f2 (by first | omega | assumption) (by first | assumption | omega) (by first | assumption | omega)) ?_)
      rintro _ w3 ⟨_, _, rfl, rfl, ⟨b3, hb3, rfl⟩, hm3⟩
      have hS5 := hS4.ext hm3
      refine OL.q (Q1.extract rfl rfl) rfl rfl ?_
      refine OL.q (Q1.extract rfl rfl) rfl rfl ?_
      refine OL.q (Q1.assign rfl) rfl rfl ?_
      refine OL.q (Q1.assign rfl) rfl rfl ?_
      refine OL.nil ?_
      refine r_ret2 Try.func46 rfl rfl rfl ?_
      exact Ret.mk ⟨_, _, rfl, (congrArg (Value.int .i64) (by first | (rw [near_no (by first | (left; assumption) | (right; assumption))]; done) | (rw [near_no (by first | (left; assumption) | (right; assumption))]; rfl) | (rw [near_yes (by assumption) (by assumption)]; done) | (rw [near_yes (by assumption) (by assumption)]; assumption) | (exfalso; omega))), ⟨_, (by first | (rw [near_no (by first | (left; assumption) | (right; assumption))]; done) | (rw [near_no (by first | (left; assumption) | (right; assumption))]; rfl) | (rw [near_yes (by assumption) (by assumption)]; done) | (rw [near_yes (by assumption) (by assumption)]; assumption) | (exfalso; omega)), rfl⟩, hS5.mod⟩
    | false =>
      replace hb2 := hb2.symm
      refine OL.q (Q1.not rfl) rfl rfl ?_
      refine OL.q (Q1.pick_f rfl rfl) rfl rfl ?_
      refine OL.nil ?_
      refine r_cond_t rfl ?_
      refine r_seq ?_
      refine r_region ?_
      refine OL.q (Q1.assign rfl) rfl rfl ?_
      refine OL.q (Q1.assign rfl) rfl rfl ?_
      refine OL.nil ?_
      refine r_ret2 Try.func46 rfl rfl rfl ?_
      exact Ret.mk ⟨_, _, rfl, (congrArg (Value.int .i64) (by first | (rw [near_no (by first | (left; assumption) | (right; assumption))]; done) | (rw [near_no (by first | (left; assumption) | (right; assumption))]; rfl) | (rw [near_yes (by assumption) (by assumption)]; done) | (rw [near_yes (by assumption) (by assumption)]; assumption) | (exfalso; omega))), ⟨_, (by first | (rw [near_no (by first | (left; assumption) | (right; assumption))]; done) | (rw [near_no (by first | (left; assumption) | (right; assumption))]; rfl) | (rw [near_yes (by assumption) (by assumption)]; done) | (rw [near_yes (by assumption) (by assumption)]; assumption) | (exfalso; omega)), rfl⟩, hS4.mod⟩
  | false =>
    replace hb1 := hb1.symm
    refine OL.q (Q1.not rfl) rfl rfl ?_
    refine OL.q (Q1.move rfl) rfl rfl ?_
    refine OL.sk rfl rfl ?_
    refine OL.sk rfl rfl ?_
    refine OL.q (Q1.pick_t rfl rfl) rfl rfl ?_
    refine OL.nil ?_
    refine r_cond_t rfl ?_
    refine r_seq ?_
    refine r_region ?_
    refine OL.q (Q1.assign rfl) rfl rfl ?_
    refine OL.q (Q1.assign rfl) rfl rfl ?_
    refine OL.nil ?_
    refine r_ret2 Try.func46 rfl rfl rfl ?_
    exact Ret.mk ⟨_, _, rfl, (congrArg (Value.int .i64) (by first | (rw [near_no (by first | (left; assumption) | (right; assumption))]; done) | (rw [near_no (by first | (left; assumption) | (right; assumption))]; rfl) | (rw [near_yes (by assumption) (by assumption)]; done) | (rw [near_yes (by assumption) (by assumption)]; assumption) | (exfalso; omega))), ⟨_, (by first | (rw [near_no (by first | (left; assumption) | (right; assumption))]; done) | (rw [near_no (by first | (left; assumption) | (right; assumption))]; rfl) | (rw [near_yes (by assumption) (by assumption)]; done) | (rw [near_yes (by assumption) (by assumption)]; assumption) | (exfalso; omega)), rfl⟩, hS4.mod⟩
set_option maxRecDepth 20000 in
set_option maxHeartbeats 4000000 in
theorem cloneIt_c {w0 : World}  {v_s : Value} {s : List Itm} (h_s : Sl encItm w0 (Iv 0 w0.heap.size) v_s s) (hln : s.length ≤ 1000000) :
    Calls Try.prog 68 #[v_s] w0 (Ret fun rv w1 => (∃ gr, Acc encItm 24 2 w1 gr rv (s) ∧ (gr = 0 ∨ w0.heap.size < gr)) ∧ Ext w0 w1) := by
  have hE0 : Ext w0 w0 := Mod.refl _ _
  have hle1 := h_s.le
  refine calls_enter Try.func68 rfl Try.ntmps68 rfl ?_
  refine r_seq ?_
  refine r_region ?_
  refine OL.q (Q1.assign rfl) rfl rfl ?_
  refine OL.nil ?_
  refine r_seq ?_
  refine r_seq ?_
  refine r_region ?_
  refine OL.q (Q1.move rfl) rfl rfl ?_
  obtain ⟨ad1, cp1, hv1, hz1⟩ := Sl.isNil (h_s)
  subst hv1
  refine OL.qb (Q1.eqNilSl Try.underlying31 rfl rfl) rfl rfl ?_
  intro b1 hb1
  refine OL.nil ?_
  cases b1 with
  | true =>
    replace hb1 := hb1.symm
    replace hz1 := hz1 hb1
    refine r_cond_t rfl ?_
    refine r_seq ?_
    refine r_region ?_
    refine OL.q (Q1.assign rfl) rfl rfl ?_
    refine OL.nil ?_
    refine r_ret1 Try.func68 rfl rfl ?_
    exact Ret.mk ⟨⟨0, Acc.cast Acc.nil (by first | (symm; assumption) | simp | (exfalso; omega)), .inl rfl⟩, hE0⟩
  | false =>
    replace hb1 := hb1.symm
    refine r_cond_f rfl ?_
    refine r_skip ?_
    refine r_seq ?_
    refine r_region ?_
    refine OL.act rfl rfl (AW.buildSlice [] Try.underlying31 ti24 rfl rfl rfl (by decide) ?_)
    intro w1 b2 hm1 hb2 hz2 hk1
    have f1 := h_s.ext hm1
    have hE1 := hE0.ext hm1
    have hs1 := hm1.size
    have hl1 := Acc.of_blk (enc := encItm) hk1 ([] : List Itm) 0 rfl encItm_len rfl (by unfold maxLen; omega)
    refine OL.q (Q1.move rfl) rfl rfl ?_
    have hl2 := hl1.lt
    refine OL.act rfl rfl (AW.append hl1 Try.underlying31 ti24 rfl encItm_len encItm_one rfl rfl (f1) (by first | omega | (simp only [List.length_append, List.length_cons, List.length_nil]; omega) | (simp; omega)) (by unfold maxLen; first | omega | (simp only [List.length_append, List.length_cons, List.length_nil]; omega) | (simp; omega)) ?_)
    intro v1 g1 w2 ha1 hm2 hg1 hz3
    have hl3 := hl1.lt
    have f2 := f1.keepG hm2 (by omega)
    have hE2 := Ext.thenG hE1 hm2 (by omega)
    have hs2 := hm2.size
    refine OL.q (Q1.assign rfl) rfl rfl ?_
    refine OL.nil ?_
    refine r_ret1 Try.func68 rfl rfl ?_
    exact Ret.mk ⟨⟨_, Acc.cast ha1 (by first | (symm; assumption) | simp | (exfalso; omega)), by omega⟩, hE2⟩
set_option maxRecDepth 20000 in
set_option maxHeartbeats 4000000 in
theorem rsort_c {w0 : World} {v_l : Value} {l : List Itm} (h_l : Sl encItm w0 (Iv 0 w0.heap.size) v_l l) (hll : l.length ≤ 100000) :
    Calls Try.prog 47 #[v_l] w0 (Ret fun rv w1 => ∃ (l' : List Itm) (gr : Nat), Acc encItm 24 2 w1 gr rv l' ∧ (gr = 0 ∨ w0.heap.size < gr) ∧ l'.Perm l ∧ Srt l' 0 l.length ∧ Ext w0 w1) := by
  have hle_l := h_l.le
  have hS0 := St.start0 w0
  refine calls_enter Try.func47 rfl Try.ntmps47 rfl ?_
  refine r_seq ?_
  refine r_region ?_
  refine OL.q (Q1.assign rfl) rfl rfl ?_
  refine OL.nil ?_
  refine r_seq ?_
  refine r_region ?_
  refine OL.q (Q1.move rfl) rfl rfl ?_
  refine OL.act rfl rfl (AW.callF cl68 rfl (cloneIt_c (w0 := w0) (s := l)  h_l (by first | assumption | omega)) ?_)
  rintro v1 w1 ⟨⟨gr1, h1, hg1⟩, hm1⟩
  have hS1 := hS0.ext hm1
  have hS2 : St (fun _ => False) (fun _ => False) w0 w1 [accR encItm 24 2 v1 ((l))] := hS0.newAcc hm1 h1 hg1
  clear hg1
  have hle_1 := h1.le
  refine OL.q (Q1.assign rfl) rfl rfl ?_
  refine OL.nil ?_
  refine r_seq ?_
  refine r_region ?_
  refine OL.q (Q1.move rfl) rfl rfl ?_
  obtain ⟨Fy1, hAy1, hFy1, hky1⟩ := hS2.act (i := 0) rfl
  refine OL.act rfl rfl (AW.callF cl69 rfl (sstab_c (w0 := w1)  hAy1 (fun b hb => (hFy1 b hb).2) (by omega) ) ?_)
  rintro _ w2 ⟨rfl, hm2, ly1, hpo1, F1, hA1, hF1⟩
  have hS3 : St (fun _ => False) (fun _ => False) w0 w2 [accR encItm 24 2 v1 ly1] := hky1 _ _ _ hm2 hA1 hF1
  clear hky1 hA1
  refine OL.nil ?_
  refine r_seq ?_
  refine r_region ?_
  refine OL.q (Q1.move rfl) rfl rfl ?_
  refine OL.q (Q1.assign rfl) rfl rfl ?_
  refine OL.nil ?_
  refine r_ret1 Try.func47 rfl rfl ?_
  obtain ⟨g1, ha1, hg2⟩ := hS3.accOut (i := 0) rfl
  exact Ret.mk ⟨_, _, ha1, hg2, hpo1.1, hpo1.2, hS3.mod⟩
set_option maxRecDepth 20000 in
set_option maxHeartbeats 4000000 in
theorem rall_c {w0 : World}  {v_words : Value} {words : List Str} (s : Str) (k : Int) (h_words : Sl encS w0 (Iv 0 w0.heap.size) v_words words) (h_k : I64 k) (hnd : words.Nodup) (hl_words : words.length ≤ 100000) (hwl : ∀ w ∈ words, w.length ≤ 100000) (hl_s : s.length ≤ 100000) :
    Calls Try.prog 30 #[v_words, strV s, .int .i64 k] w0 (Ret fun rv w1 => (∃ gr, Acc encItm 24 2 w1 gr rv (refAll words s k) ∧ (gr = 0 ∨ w0.heap.size < gr)) ∧ Ext w0 w1) := by
  have hle_words := h_words.le
  have hS0 := St.start0 w0
  refine calls_enter Try.func30 rfl Try.ntmps30 rfl ?_
  refine r_seq ?_
  refine r_region ?_
  refine OL.q (Q1.assign rfl) rfl rfl ?_
  refine OL.nil ?_
  refine r_seq ?_
  refine r_region ?_
  refine OL.q (Q1.assign rfl) rfl rfl ?_
  refine OL.nil ?_
  refine r_seq ?_
  refine r_seq ?_
  refine r_region ?_
  refine OL.q (Q1.move rfl) rfl rfl ?_
  refine OL.q (Q1.lenSl Try.underlying22 (h_words) rfl) rfl rfl ?_
  refine OL.q (Q1.move rfl) rfl rfl ?_
  refine OL.nil ?_
  refine r_block ?_
  have hS2 : St (fun _ => False) (fun _ => False) w0 w0 [accR encItm 24 2 (.slice none 0 0) []] := hS0.newAcc (Mod.refl _ _) Acc.nil (.inl rfl)
  refine r_loop (I := fun m E W => ∃ (v_l : Value) (l : List Itm) (i : Nat), E = [(1, strV s), (2, .int .i64 k), (7, v_l), (12, v_words), (13, .int .i64 (((words.length : Nat) : Int))), (14, .int .i64 (((i : Nat) : Int)))] ∧ m = words.length - i ∧ St (fun _ => False) (fun _ => False) w0 W [accR encItm 24 2 v_l l] ∧ (l = nearL (words.take i) s k) ∧ (l.length ≤ i) ∧ (i ≤ words.length)) ?_ ?_
  · refine ⟨_, _, ⟨(.slice none 0 0 : Value), ([] : List Itm), (0 : Nat), rfl, rfl, hS2, (by rfl), (by exact Nat.zero_le _), (by omega)⟩, ⟨rfl, rfl, rfl, rfl, rfl, rfl, trivial⟩⟩
  · rintro _ _ w1 ⟨v_l, l, i, rfl, rfl, hS1, hl, hln, hil⟩ ih1
    refine r_seq ?_
    refine r_region ?_
    refine OL.qb (Q1.lt rfl rfl) rfl rfl ?_
    intro b1 hb1
    refine OL.nil ?_
    refine r_seq ?_
    cases b1 with
    | true =>
      replace hb1 := of_decide_eq_true hb1.symm
      refine r_cond_t rfl ?_
      refine r_skip ?_
      refine r_seq ?_
      refine r_block ?_
      refine r_seq ?_
      refine r_region ?_
      have f1 := hS1.out h_words (fun _ _ h => h)
      obtain ⟨x1, b2, o1, hx1, hr1, hl1, hw1⟩ := Sl.atF (P := Try.prog) f1 Try.underlying22 ti9 encS_len (k := .i64) (n := ((i : Nat) : Int)) (i) (by omega) (by first | assumption | omega)
      refine OL.q (Q1.indexAddr rfl rfl hr1) rfl rfl ?_
      refine OL.q (Q1.load1 ti9 rfl (fun _ e => e ▸ hw1)) rfl rfl ?_
      have hxl := hwl _ (List.mem_of_getElem? hx1)
      refine OL.q (Q1.assign rfl) rfl rfl ?_
      refine OL.nil ?_
      refine r_seq ?_
      refine r_region ?_
      refine OL.q (Q1.move rfl) rfl rfl ?_
      refine OL.q (Q1.move rfl) rfl rfl ?_
      refine OL.q (Q1.move rfl) rfl rfl ?_
      refine OL.act rfl rfl (AW.callF cl46 rfl (near_c (w0 := w1)  s x1 (k) (by first | omega | assumption) (by first | assumption | omega) (by first | assumption | omega)) ?_)
      rintro _ w2 ⟨_, _, rfl, rfl, ⟨b3, hb2, rfl⟩, hm1⟩
      have hS3 := hS1.ext hm1
      refine OL.q (Q1.move rfl) rfl rfl ?_
      refine OL.q (Q1.extract rfl rfl) rfl rfl ?_
      refine OL.q (Q1.extract rfl rfl) rfl rfl ?_
      refine OL.q (Q1.assign rfl) rfl rfl ?_
      refine OL.q (Q1.assign rfl) rfl rfl ?_
      refine OL.nil ?_
      refine r_seq ?_
      refine r_region ?_
      refine OL.q (Q1.move rfl) rfl rfl ?_
      refine OL.nil ?_
      cases b3 with
      | true =>
        replace hb2 := hb2.symm
        refine r_cond_t rfl ?_
        refine r_region ?_
        refine OL.q (Q1.move rfl) rfl rfl ?_
        refine OL.q (Q1.move rfl) rfl rfl ?_
        refine OL.q (Q1.move rfl) rfl rfl ?_
        refine OL.q (Q1.build (vs := #[(0, (.int .i64 (((nearB s x1 k).1)) : Value)), (1, strV x1)]) (v := .agg #[.int .i64 (((nearB s x1 k).1)), strV x1]) rfl (fun _ => by kernel_rfl)) rfl rfl ?_
        refine OL.act rfl rfl (AW.buildSlice [(.agg #[.int .i64 (((nearB s x1 k).1)), strV x1] : Value)] Try.underlying31 ti24 rfl rfl rfl (by decide) ?_)
        intro w3 b4 hm2 hb3 hz1 hk1
        have hS4 := hS3.ext hm2
        have hl2 := Sl.of_blk (enc := encItm) hk1 ([(Itm.mk (((nearB s x1 k).1)) x1)] : List Itm) 1 rfl rfl (by unfold maxLen; omega)
        have hS5 : St (fun _ => False) (fun _ => False) w0 w3 [accR encItm 24 2 v_l l, slR encItm [((.slice (some ⟨b4, 0, none⟩) 1 1), [(Itm.mk (((nearB s x1 k).1)) x1)])]] := hS3.newSlB hm2 hb3 hz1 hl2
        obtain ⟨g2, f2, hl3, k1⟩ := hS5.accK (i := 0) rfl
        have f3 := hS5.sl (i := 1) (k := 0) rfl rfl
        refine OL.act rfl rfl (AW.append f2 Try.underlying31 ti24 rfl encItm_len encItm_one rfl rfl (f3) (by first | omega | (simp only [List.length_append, List.length_cons, List.length_nil]; omega) | (simp; omega)) (by unfold maxLen; first | omega | (simp only [List.length_append, List.length_cons, List.length_nil]; omega) | (simp; omega)) ?_)
        intro v1 g1 w4 ha1 hm3 hg1 hz2
        have hS6 : St (fun _ => False) (fun _ => False) w0 w4 [accR encItm 24 2 v1 ((l ++ [(Itm.mk (((nearB s x1 k).1)) x1)])), slR encItm [((.slice (some ⟨b4, 0, none⟩) 1 1), [(Itm.mk (((nearB s x1 k).1)) x1)])]] := k1 _ _ _ _ hm3 ha1 hg1
        clear hg1
        refine OL.q (Q1.assign rfl) rfl rfl ?_
        refine OL.nil ?_
        refine r_inBlock ?_
        refine r_region ?_
        refine OL.q (Q1.addI (((i + 1 : Nat) : Int)) rfl rfl (by omega)) rfl rfl ?_
        refine OL.q (Q1.move rfl) rfl rfl ?_
        refine OL.nil ?_
        have hS7 : St (fun _ => False) (fun _ => False) w0 w4 [accR encItm 24 2 v1 ((l ++ [(Itm.mk (((nearB s x1 k).1)) x1)]))] := hS6.sel [0] (by rfl) (by decide)
        exact (ih1 _ _ _ ⟨(v1 : Value), ((l ++ [(Itm.mk (((nearB s x1 k).1)) x1)]) : List Itm), (i + 1 : Nat), rfl, rfl, hS7, (by first | exact nearL_yes hl hx1 (by assumption) | exact nearL_no hl hx1 (by assumption) | (exfalso; omega)), (by first | omega | (simp only [List.length_append, List.length_cons, List.length_nil]; omega) | (exfalso; omega)), (by first | omega | (exfalso; omega))⟩ (by omega)).sub ⟨rfl, rfl, rfl, rfl, rfl, rfl, trivial⟩
      | false =>
        replace hb2 := hb2.symm
        refine r_cond_f rfl ?_
        refine r_skip ?_
        refine r_inBlock ?_
        refine r_region ?_
        refine OL.q (Q1.addI (((i + 1 : Nat) : Int)) rfl rfl (by omega)) rfl rfl ?_
        refine OL.q (Q1.move rfl) rfl rfl ?_
        refine OL.nil ?_
        exact (ih1 _ _ _ ⟨(v_l : Value), (l : List Itm), (i + 1 : Nat), rfl, rfl, hS3, (by first | exact nearL_yes hl hx1 (by assumption) | exact nearL_no hl hx1 (by assumption) | (exfalso; omega)), (by first | omega | (simp only [List.length_append, List.length_cons, List.length_nil]; omega) | (exfalso; omega)), (by first | omega | (exfalso; omega))⟩ (by omega)).sub ⟨rfl, rfl, rfl, rfl, rfl, rfl, trivial⟩
    | false =>
      replace hb1 := of_decide_eq_false hb1.symm
      refine r_cond_f rfl ?_
      refine r_exit rfl ?_
      refine r_seq ?_
      refine r_region ?_
      refine OL.q (Q1.move rfl) rfl rfl ?_
      obtain ⟨g2, f1, hl1, k1⟩ := hS1.accK (i := 0) rfl
      refine OL.act rfl rfl (AW.callF cl47 rfl (rsort_c (w0 := w1) (l := l) (f1.sl.iv (Nat.zero_le _) f1.lt) (by omega)) ?_)
      rintro v1 w2 ⟨lz1, g1, ha1, hg1, hpe1, hso1, hm1⟩
      have hS3 := hS1.ext hm1
      have hS4 : St (fun _ => False) (fun _ => False) w0 w2 [accR encItm 24 2 v_l l, accR encItm 24 2 v1 lz1] := hS1.newAcc hm1 ha1 hg1
      clear hg1
      refine OL.q (Q1.assign rfl) rfl rfl ?_
      refine OL.nil ?_
      refine r_ret1 Try.func30 rfl rfl ?_
      obtain ⟨g3, ha2, hg2⟩ := hS4.accOut (i := 1) rfl
      exact Ret.mk ⟨⟨_, Acc.cast ha2 (by first | (rw [List.take_of_length_le (by omega)] at hl; subst hl; exact (all_eq hnd hpe1 hso1)) | (exfalso; omega)), hg2⟩, hS4.mod⟩
end Go.Proofs
