/-
  The walk through the law DiskOnce.
-/
import Derived.Test.YtajedfbogchkcaaWAwakeD
import Derived.Test.YtajedfbogchkcaaWShared
set_option linter.unusedVariables false
set_option linter.unusedSimpArgs false
namespace Go.Proofs
open Go.Ik Go.Ml
set_option maxRecDepth 20000 in
set_option maxHeartbeats 4000000 in
theorem DiskOnce_c {w0 : World}  {v_ats : Value} {ats : List Int} {v_xs : Value} {xs : List Int} (h_ats : Sl Ik.encI w0 (Iv 0 w0.heap.size) v_ats ats) (h_xs : Sl Ik.encI w0 (Iv 0 w0.heap.size) v_xs xs) (hao : ∀ y ∈ ats, I64 y) (hxo : ∀ y ∈ xs, I64 y) :
    Calls Try.prog 11 #[v_ats, v_xs] w0 (Ret fun rv w1 => (∃ rb : Bool, rb = true ∧ rv = .bool rb) ∧ Ext w0 w1) := by
  have hle_ats := h_ats.le
  have hle_xs := h_xs.le
  have hS0 := St.start0 w0
  refine calls_enter Try.func11 rfl Try.ntmps11 rfl ?_
  refine r_seq ?_
  refine r_region ?_
  refine OL.q (Q1.assign rfl) rfl rfl ?_
  refine OL.nil ?_
  refine r_seq ?_
  refine r_seq ?_
  refine r_region ?_
  refine OL.q (Q1.move rfl) rfl rfl ?_
  refine OL.q (Q1.lenSl Try.underlying55 (h_ats) rfl) rfl rfl ?_
  refine OL.qb (Q1.gt rfl rfl) rfl rfl ?_
  intro b1 hb1
  refine OL.q (Q1.move rfl) rfl rfl ?_
  cases b1 with
  | true =>
    replace hb1 := of_decide_eq_true hb1.symm
    refine OL.sk rfl rfl ?_
    refine OL.sk rfl rfl ?_
    refine OL.sk rfl rfl ?_
    refine OL.sk rfl rfl ?_
    refine OL.sk rfl rfl ?_
    refine OL.q (Q1.pick_t rfl rfl) rfl rfl ?_
    refine OL.nil ?_
    refine r_cond_t rfl ?_
    refine r_seq ?_
    refine r_region ?_
    refine OL.act rfl rfl (AW.callF cl55 rfl (awake14_c (w0 := w0)   ) ?_)
    rintro _ w1 ⟨⟨_, rfl, rfl⟩, hm1⟩
    have hS1 := hS0.ext hm1
    refine OL.q (Q1.assign rfl) rfl rfl ?_
    refine OL.nil ?_
    refine r_ret1 Try.func11 rfl rfl ?_
    exact Ret.mk ⟨⟨_, (by rfl), rfl⟩, hS1.mod⟩
  | false =>
    replace hb1 := of_decide_eq_false hb1.symm
    refine OL.q (Q1.move rfl) rfl rfl ?_
    refine OL.q (Q1.lenSl Try.underlying55 (h_xs) rfl) rfl rfl ?_
    refine OL.q (Q1.move rfl) rfl rfl ?_
    refine OL.q (Q1.lenSl Try.underlying55 (h_ats) rfl) rfl rfl ?_
    refine OL.qb (Q1.lt rfl rfl) rfl rfl ?_
    intro b2 hb2
    refine OL.q (Q1.pick_f rfl rfl) rfl rfl ?_
    refine OL.nil ?_
    cases b2 with
    | true =>
      replace hb2 := of_decide_eq_true hb2.symm
      refine r_cond_t rfl ?_
      refine r_seq ?_
      refine r_region ?_
      refine OL.act rfl rfl (AW.callF cl55 rfl (awake14_c (w0 := w0)   ) ?_)
      rintro _ w1 ⟨⟨_, rfl, rfl⟩, hm1⟩
      have hS1 := hS0.ext hm1
      refine OL.q (Q1.assign rfl) rfl rfl ?_
      refine OL.nil ?_
      refine r_ret1 Try.func11 rfl rfl ?_
      exact Ret.mk ⟨⟨_, (by rfl), rfl⟩, hS1.mod⟩
    | false =>
      replace hb2 := of_decide_eq_false hb2.symm
      refine r_cond_f rfl ?_
      refine r_skip ?_
      refine r_seq ?_
      refine r_region ?_
      refine OL.act rfl rfl (AW.callF cl57 rfl (small_c (w0 := w0)) ?_)
      rintro _ w1 ⟨vw1, vc1, rfl, hw_1, hc_1, hm1⟩
      replace hw_1 := hw_1.iv (Nat.zero_le _) (Nat.le_refl _)
      replace hc_1 := hc_1.iv (Nat.zero_le _) (Nat.le_refl _)
      have hS1 := hS0.ext hm1
      refine OL.act rfl rfl (AW.callF cl56 rfl (dnew_c (w0 := w1) (c := smallC) (1) hw_1 hc_1 (by first | assumption | exact Ml.Cfg.ok_of (by decide +kernel)) (by first | assumption | (unfold I64; omega) | (unfold I64; decide)) (by first | assumption | omega | decide)) ?_)
      rintro _ w2 ⟨hm2, hd1⟩
      rcases hd1 with ⟨hmd1, rfl⟩ | ⟨hmd1, bd1, F1, rfl, hA1, hF1⟩
      · exact absurd (hmd1.symm.trans smallC_may) (by decide)
      · skip
        rw [oneD_new] at hA1
        have hS2 := hS1.ext hm2
        have hS3 : St (fun _ => False) (fun _ => False) w0 w2 [dkK 139 136 5 bd1 0 ((oneD rightS))] := hS1.new hm2 hA1 (fun b hb => ⟨(hF1 b hb).2, (hF1 b hb).1⟩)
        refine OL.q (Q1.move rfl) rfl rfl ?_
        refine OL.q (Q1.extract rfl rfl) rfl rfl ?_
        refine OL.q (Q1.extract rfl rfl) rfl rfl ?_
        refine OL.q (Q1.assign rfl) rfl rfl ?_
        refine OL.q (Q1.assign rfl) rfl rfl ?_
        refine OL.nil ?_
        refine r_seq ?_
        refine r_seq ?_
        refine r_region ?_
        refine OL.q (Q1.move rfl) rfl rfl ?_
        refine OL.qb (Q1.ne rfl rfl) rfl rfl ?_
        intro b3 hb3
        obtain rfl : b3 = false := hb3.trans (by rfl)
        refine OL.q (Q1.move rfl) rfl rfl ?_
        refine OL.q (Q1.move rfl) rfl rfl ?_
        refine OL.q (Q1.eqNil Try.underlying67 rfl rfl) rfl rfl ?_
        refine OL.q (Q1.pick_f rfl rfl) rfl rfl ?_
        refine OL.nil ?_
        refine r_cond_f rfl ?_
        refine r_skip ?_
        refine r_seq ?_
        refine r_region ?_
        refine OL.q (Q1.move rfl) rfl rfl ?_
        obtain ⟨Fy1, hAy1, hFy1, hky1⟩ := hS3.act (i := 0) rfl
        refine OL.act rfl rfl (AW.callF cl49 rfl (dread_c (w0 := w2) (0) (by first | assumption | (unfold I64; omega) | (unfold I64; decide)) hAy1 (fun b hb => (hFy1 b hb).2) (oneD_ok rfl)) ?_)
        rintro _ w3 ⟨v1, rfl, ⟨g1, ha1, hg1⟩, hm3⟩
        replace ha1 := Acc.cast ha1 ((oneD_get rightS).2.1)
        rw [(oneD_get rightS).1]
        have hS4 := hS3.ext hm3
        have hS5 : St (fun _ => False) (fun _ => False) w0 w3 [dkK 139 136 5 bd1 0 ((oneD rightS)), accR encB 5 1 v1 rightS] := hS3.newAcc hm3 ha1 hg1
        clear hg1
        have hle_1 := ha1.le
        refine OL.q (Q1.move rfl) rfl rfl ?_
        refine OL.q (Q1.extract rfl rfl) rfl rfl ?_
        refine OL.q (Q1.extract rfl rfl) rfl rfl ?_
        refine OL.q (Q1.assign rfl) rfl rfl ?_
        refine OL.q (Q1.assign rfl) rfl rfl ?_
        refine OL.nil ?_
        refine r_seq ?_
        refine r_seq ?_
        refine r_region ?_
        refine OL.q (Q1.assign rfl) rfl rfl ?_
        refine OL.nil ?_
        refine r_block ?_
        have hS7 : St (fun _ => False) (fun _ => False) w0 w3 [accR encB 5 1 v1 rightS, dkK 139 136 5 bd1 0 ((oneD rightS))] := hS5.sel [1, 0] (by rfl) (by decide)
        refine r_loop (I := fun m E W => ∃ (i : Nat) (n : List UInt8), E = [(0, v_ats), (1, v_xs), (5, ptr bd1 0), (7, v1), (9, .int .i64 (((i : Nat) : Int)))] ∧ m = ats.length - i ∧ St (fun _ => False) (fun _ => False) w0 W [accR encB 5 1 v1 rightS, dkK 139 136 5 bd1 0 ((oneD n))] ∧ (n.length = rightS.length)) ?_ ?_
        · refine ⟨_, _, ⟨(0 : Nat), (rightS : List UInt8), rfl, rfl, hS7, (by rfl)⟩, ⟨rfl, rfl, rfl, rfl, rfl, trivial⟩⟩
        · rintro _ _ w4 ⟨i, n, rfl, rfl, hS6, hnl⟩ ih1
          refine r_seq ?_
          refine r_seq ?_
          refine r_region ?_
          refine OL.q (Q1.move rfl) rfl rfl ?_
          refine OL.q (Q1.move rfl) rfl rfl ?_
          have f3 := hS6.out h_ats (fun _ _ h => h)
          refine OL.q (Q1.lenSl Try.underlying55 (f3) rfl) rfl rfl ?_
          refine OL.qb (Q1.lt rfl rfl) rfl rfl ?_
          intro b4 hb4
          refine OL.nil ?_
          cases b4 with
          | true =>
            replace hb4 := of_decide_eq_true hb4.symm
            refine r_cond_t rfl ?_
            refine r_skip ?_
            refine r_seq ?_
            refine r_block ?_
            refine r_seq ?_
            refine r_seq ?_
            obtain ⟨x1, b5, o1, hx1, hr1, hl1, hw1⟩ := Sl.atF (P := Try.prog) f3 Try.underlying55 ti3 Ik.encI_len (k := .i64) (n := i) (i) (by omega) (by first | assumption | omega)
            have f4 := hS6.out h_xs (fun _ _ h => h)
            obtain ⟨x2, b6, o2, hx2, hr2, hl2, hw2⟩ := Sl.atF (P := Try.prog) f4 Try.underlying55 ti3 Ik.encI_len (k := .i64) (n := i) (i) (by omega) (by first | assumption | omega)
            refine r_draw1 (fun i => Nat.beq i 9) 11 (fun w' => Row w' b5 o1 (Ik.encI x1) ∧ Row w' b6 o2 (Ik.encI x2)) mixed (by kernel_rfl) ?_
            intro w5 hm4
            have hS8 := hS6.ext hm4
            have f5 := hS8.out h_ats (fun _ _ h => h)
            have f6 := hS8.out h_xs (fun _ _ h => h)
            refine ⟨⟨(Sl.rowAt f5 Try.underlying55 ti3 Ik.encI_len i (by omega) hx1 hr1), (Sl.rowAt f6 Try.underlying55 ti3 Ik.encI_len i (by omega) hx2 hr2)⟩, ?_⟩
            rw [show List.range' 0 (Array.size _) = [0, 1, 2, 3, 4, 5, 6, 7, 8, 9, 10] from rfl]
            refine OD.q rfl rfl (Q1.move rfl) rfl rfl ?_
            refine OD.q rfl rfl (Q1.move rfl) rfl rfl ?_
            refine OD.q rfl rfl (Q1.move rfl) rfl rfl ?_
            refine OD.q rfl rfl (Q1.indexAddr rfl rfl hr1) rfl rfl ?_
            refine OD.q rfl rfl (Q1.load1 ti3 rfl (fun _ hc => hc.1)) rfl rfl ?_
            refine OD.q rfl rfl (Q1.move rfl) rfl rfl ?_
            refine OD.q rfl rfl (Q1.move rfl) rfl rfl ?_
            refine OD.q rfl rfl (Q1.indexAddr rfl rfl hr2) rfl rfl ?_
            refine OD.q rfl rfl (Q1.load1 ti3 rfl (fun _ hc => hc.2)) rfl rfl ?_
            obtain ⟨Fy2, hAy2, hFy2, hky2⟩ := hS8.act (i := 1) rfl
            refine OD.act rfl rfl rfl rfl (AW.callF cl50 rfl (drot_c (w0 := w5) (0) (x1) (x2) (by first | assumption | (unfold I64; omega) | (unfold I64; decide)) hAy2 (fun b hb => (hFy2 b hb).2) (oneD_ok hnl)) ?_)
            rintro _ w6 ⟨rfl, hm5, F2, hA2, hF2⟩
            rw [(oneD_get n).1]
            have hS9 : St (fun _ => False) (fun _ => False) w0 w6 [accR encB 5 1 v1 rightS, dkK 139 136 5 bd1 0 ((dkRot ((oneD n)) 0 x1 x2))] := hky2 _ _ _ hm5 hA2 hF2
            clear hky2 hA2
            have f7 := hS9.out h_ats (fun _ _ h => h)
            have f8 := hS9.out h_xs (fun _ _ h => h)
            refine ⟨.inr ⟨(Sl.rowAt f7 Try.underlying55 ti3 Ik.encI_len i (by omega) hx1 hr1), (Sl.rowAt f8 Try.underlying55 ti3 Ik.encI_len i (by omega) hx2 hr2)⟩, ?_⟩
            have hS10 : St (fun _ => False) (fun _ => False) w0 w6 [accR encB 5 1 v1 rightS, dkK 139 136 5 bd1 0 ((oneD (turnB rightS x1 x2)))] := hS9.imp (i := 1) rfl (fun F_ h_ => h_)
            refine OD.qb rfl rfl (Q1.ne rfl rfl) rfl rfl ?_
            intro b7 hb5
            obtain rfl : b7 = false := hb5.trans (by rfl)
            refine OD.nil ?_
            refine r_cond_f rfl ?_
            refine r_skip ?_
            refine r_seq ?_
            refine r_region ?_
            refine OL.q (Q1.move rfl) rfl rfl ?_
            obtain ⟨Fy3, hAy3, hFy3, hky3⟩ := hS10.act (i := 1) rfl
            refine OL.act rfl rfl (AW.callF cl49 rfl (dread_c (w0 := w6) (0) (by first | assumption | (unfold I64; omega) | (unfold I64; decide)) hAy3 (fun b hb => (hFy3 b hb).2) (oneD_ok (turnB_len _ _ _))) ?_)
            rintro _ w7 ⟨v2, rfl, ⟨g2, ha2, hg2⟩, hm6⟩
            replace ha2 := Acc.cast ha2 ((oneD_get (turnB rightS x1 x2)).2.1)
            rw [(oneD_get (turnB rightS x1 x2)).1]
            have hS11 := hS10.ext hm6
            have hS12 : St (fun _ => False) (fun _ => False) w0 w7 [accR encB 5 1 v1 rightS, dkK 139 136 5 bd1 0 ((oneD (turnB rightS x1 x2))), accR encB 5 1 v2 ((turnB rightS x1 x2))] := hS10.newAcc hm6 ha2 hg2
            clear hg2
            have hle_2 := ha2.le
            refine OL.q (Q1.move rfl) rfl rfl ?_
            refine OL.q (Q1.extract rfl rfl) rfl rfl ?_
            refine OL.q (Q1.extract rfl rfl) rfl rfl ?_
            refine OL.q (Q1.assign rfl) rfl rfl ?_
            refine OL.q (Q1.assign rfl) rfl rfl ?_
            refine OL.nil ?_
            refine r_seq ?_
            refine r_seq ?_
            refine r_region ?_
            refine OL.q (Q1.move rfl) rfl rfl ?_
            have htl := turnB_len rightS x1 x2
            have hrl := rightS_len
            obtain ⟨g3, f9, hl3, k1⟩ := hS12.accK (i := 2) rfl
            refine OL.q (Q1.lenSl Try.underlying25 (f9.sl) rfl) rfl rfl ?_
            refine OL.q (Q1.move rfl) rfl rfl ?_
            obtain ⟨g4, f10, hl4, k2⟩ := hS12.accK (i := 0) rfl
            refine OL.q (Q1.lenSl Try.underlying25 (f10.sl) rfl) rfl rfl ?_
            refine OL.qb (Q1.ne rfl rfl) rfl rfl ?_
            intro b8 hb6
            obtain rfl : b8 = false := hb6.trans (by exact bne_eq_false_iff_eq.2 (by omega))
            refine OL.q (Q1.move rfl) rfl rfl ?_
            refine OL.q (Q1.move rfl) rfl rfl ?_
            refine OL.q (Q1.lenSl Try.underlying25 (f9.sl) rfl) rfl rfl ?_
            refine OL.qb (Q1.eq rfl rfl) rfl rfl ?_
            intro b9 hb7
            obtain rfl : b9 = false := hb7.trans (by exact beq_eq_false_iff_ne.2 (by omega))
            refine OL.q (Q1.pick_f rfl rfl) rfl rfl ?_
            refine OL.nil ?_
            refine r_cond_f rfl ?_
            refine r_skip ?_
            refine r_seq ?_
            refine r_region ?_
            refine OL.q (Q1.move rfl) rfl rfl ?_
            refine OL.q (Q1.move rfl) rfl rfl ?_
            have f11 := hS12.out h_ats (fun _ _ h => h)
            obtain ⟨x3, b10, o3, hx3, hr3, hl5, hw3⟩ := Sl.atF (P := Try.prog) f11 Try.underlying55 ti3 Ik.encI_len (k := .i64) (n := ((i : Nat) : Int)) (i) (by omega) (by first | assumption | omega)
            obtain rfl : x1 = x3 := Option.some.inj (hx1.symm.trans hx3)
            refine OL.q (Q1.indexAddr rfl rfl hr3) rfl rfl ?_
            refine OL.q (Q1.load1 ti3 rfl (fun _ e => e ▸ hw3)) rfl rfl ?_
            have hx1i := hao _ (List.mem_of_getElem? hx1)
            refine OL.q (Q1.move rfl) rfl rfl ?_
            refine OL.q (Q1.lenSl Try.underlying25 (f9.sl) rfl) rfl rfl ?_
            refine OL.act rfl rfl (AW.callF cl58 rfl (low_c (w0 := w7)  (x1) (((((turnB rightS x1 x2)).length : Nat) : Int)) (by first | omega | assumption) (by first | omega | assumption) (by omega)) ?_)
            rintro _ w8 ⟨rfl, hm7, hp1⟩
            have hS13 := hS12.ext hm7
            refine OL.q (Q1.assign rfl) rfl rfl ?_
            refine OL.nil ?_
            refine r_seq ?_
            refine r_region ?_
            refine OL.q (Q1.assign rfl) rfl rfl ?_
            refine OL.nil ?_
            refine r_block ?_
            have hS15 : St (fun _ => False) (fun _ => False) w0 w8 [accR encB 5 1 v1 rightS, accR encB 5 1 v2 ((turnB rightS x1 x2)), dkK 139 136 5 bd1 0 ((oneD (turnB rightS x1 x2)))] := hS13.sel [0, 2, 1] (by rfl) (by decide)
            refine r_loop (I := fun m E W => ∃ (j : Nat), E = [(0, v_ats), (1, v_xs), (5, ptr bd1 0), (7, v1), (9, .int .i64 (((i : Nat) : Int))), (10, v2), (12, .int .i64 ((Ml.lowM x1 (((((turnB rightS x1 x2)).length : Nat) : Int))))), (13, .int .i64 (((j : Nat) : Int)))] ∧ m = rightS.length - j ∧ St (fun _ => False) (fun _ => False) w0 W [accR encB 5 1 v1 rightS, accR encB 5 1 v2 ((turnB rightS x1 x2)), dkK 139 136 5 bd1 0 ((oneD (turnB rightS x1 x2)))]) ?_ ?_
            · refine ⟨_, _, ⟨(0 : Nat), rfl, rfl, hS15⟩, ⟨rfl, rfl, rfl, rfl, rfl, rfl, rfl, rfl, trivial⟩⟩
            · rintro _ _ w9 ⟨j, rfl, rfl, hS14⟩ ih2
              refine r_seq ?_
              refine r_seq ?_
              refine r_region ?_
              refine OL.q (Q1.move rfl) rfl rfl ?_
              have hrl := rightS_len
              refine OL.q (Q1.move rfl) rfl rfl ?_
              obtain ⟨g5, f12, hl6, k3⟩ := hS14.accK (i := 1) rfl
              refine OL.q (Q1.lenSl Try.underlying25 (f12.sl) rfl) rfl rfl ?_
              refine OL.qb (Q1.lt rfl rfl) rfl rfl ?_
              intro b11 hb8
              refine OL.nil ?_
              cases b11 with
              | true =>
                replace hb8 := of_decide_eq_true hb8.symm
                refine r_cond_t rfl ?_
                refine r_skip ?_
                refine r_seq ?_
                refine r_block ?_
                refine r_seq ?_
                refine r_draw1 (fun i => false) 13 (fun w' => Mod (Mg 0) w9 w') mixed (by kernel_rfl) ?_
                intro w10 hm8
                have hS16 := hS14.ext hm8
                have hCw10 : Mod (Mg 0) w9 w10 := Mod.ofExt hm8
                refine ⟨hCw10, ?_⟩
                rw [show List.range' 0 (Array.size _) = [0, 1, 2, 3, 4, 5, 6, 7, 8, 9, 10, 11, 12] from rfl]
                refine OD.q rfl rfl (Q1.move rfl) rfl rfl ?_
                refine OD.q rfl rfl (Q1.move rfl) rfl rfl ?_
                obtain ⟨x4, b12, o4, hx4, hr4, hl7, hw4⟩ := Sl.atF (P := Try.prog) f12.sl Try.underlying25 ti5 encB_len (k := .i64) (n := ((j : Nat) : Int)) (j) (by omega) (by first | assumption | omega)
                refine OD.q rfl rfl (Q1.indexAddr rfl rfl hr4) rfl rfl ?_
                refine OD.q rfl rfl (Q1.load1 ti5 rfl (fun _ hc => hw4.keepG hc (Nat.succ_ne_zero _))) rfl rfl ?_
                refine OD.q rfl rfl (Q1.move rfl) rfl rfl ?_
                refine OD.q rfl rfl (Q1.move rfl) rfl rfl ?_
                obtain ⟨g6, f13, hl8, k4⟩ := hS14.accK (i := 0) rfl
                obtain ⟨x5, b13, o5, hx5, hr5, hl9, hw5⟩ := Sl.atF (P := Try.prog) f13.sl Try.underlying25 ti5 encB_len (k := .i64) (n := ((j : Nat) : Int)) (j) (by omega) (by first | assumption | omega)
                refine OD.q rfl rfl (Q1.indexAddr rfl rfl hr5) rfl rfl ?_
                refine OD.q rfl rfl (Q1.load1 ti5 rfl (fun _ hc => hw5.keepG hc (Nat.succ_ne_zero _))) rfl rfl ?_
                refine OD.qb rfl rfl (Q1.ne rfl rfl) rfl rfl ?_
                intro b14 hb9
                refine OD.q rfl rfl (Q1.move rfl) rfl rfl ?_
                refine OD.q rfl rfl (Q1.move rfl) rfl rfl ?_
                refine OD.qb rfl rfl (Q1.eq rfl rfl) rfl rfl ?_
                intro b15 hb10
                refine OD.qb rfl rfl (Q1.neB Try.underlying4 rfl rfl) rfl rfl ?_
                intro b16 hb11
                obtain rfl : b16 = false := hb11.trans (by exact turn_bool (by rw [rightS_len]; decide) (by assumption) (by assumption) (by assumption) (by assumption))
                refine OD.nil ?_
                refine r_cond_f rfl ?_
                refine r_skip ?_
                refine r_inBlock ?_
                refine r_region ?_
                refine OL.q (Q1.move rfl) rfl rfl ?_
                refine OL.q (Q1.addI (((j + 1 : Nat) : Int)) rfl rfl (by omega)) rfl rfl ?_
                refine OL.q (Q1.assign rfl) rfl rfl ?_
                refine OL.nil ?_
                exact (ih2 _ _ _ ⟨(j + 1 : Nat), rfl, rfl, hS16⟩ (by omega)).sub ⟨rfl, rfl, rfl, rfl, rfl, rfl, rfl, rfl, trivial⟩
              | false =>
                replace hb8 := of_decide_eq_false hb8.symm
                refine r_cond_f rfl ?_
                refine r_exit rfl ?_
                refine r_inBlock ?_
                refine r_region ?_
                refine OL.q (Q1.move rfl) rfl rfl ?_
                refine OL.q (Q1.addI (((i + 1 : Nat) : Int)) rfl rfl (by omega)) rfl rfl ?_
                refine OL.q (Q1.assign rfl) rfl rfl ?_
                refine OL.nil ?_
                have hS16 : St (fun _ => False) (fun _ => False) w0 w9 [accR encB 5 1 v1 rightS, dkK 139 136 5 bd1 0 ((oneD (turnB rightS x1 x2)))] := hS14.sel [0, 2] (by rfl) (by decide)
                exact (ih1 _ _ _ ⟨(i + 1 : Nat), ((turnB rightS x1 x2) : List UInt8), rfl, rfl, hS16, (by first | exact turnB_len _ _ _ | (exfalso; omega))⟩ (by omega)).sub ⟨rfl, rfl, rfl, rfl, rfl, trivial⟩
          | false =>
            replace hb4 := of_decide_eq_false hb4.symm
            refine r_cond_f rfl ?_
            refine r_exit rfl ?_
            refine r_seq ?_
            refine r_region ?_
            refine OL.q (Q1.move rfl) rfl rfl ?_
            obtain ⟨Fy2, hAy2, hFy2, hky2⟩ := hS6.act (i := 1) rfl
            refine OL.act rfl rfl (AW.callF cl51 rfl (dmend_c (w0 := w4) (0) (by first | assumption | (unfold I64; omega) | (unfold I64; decide)) hAy2 (fun b hb => (hFy2 b hb).2) (oneD_ok hnl)) ?_)
            rintro _ w5 ⟨rfl, hm4, F2, hA2, hF2⟩
            rw [(oneD_get n).1]
            have hS8 : St (fun _ => False) (fun _ => False) w0 w5 [accR encB 5 1 v1 rightS, dkK 139 136 5 bd1 0 ((dkMend ((oneD n)) 0))] := hky2 _ _ _ hm4 hA2 hF2
            clear hky2 hA2
            have hS9 : St (fun _ => False) (fun _ => False) w0 w5 [accR encB 5 1 v1 rightS, dkK 139 136 5 bd1 0 ((oneD rightS))] := hS8.imp (i := 1) rfl (fun F_ h_ => h_)
            refine OL.nil ?_
            refine r_seq ?_
            refine r_region ?_
            refine OL.q (Q1.move rfl) rfl rfl ?_
            obtain ⟨Fy3, hAy3, hFy3, hky3⟩ := hS9.act (i := 1) rfl
            refine OL.act rfl rfl (AW.callF cl49 rfl (dread_c (w0 := w5) (0) (by first | assumption | (unfold I64; omega) | (unfold I64; decide)) hAy3 (fun b hb => (hFy3 b hb).2) (oneD_ok rfl)) ?_)
            rintro _ w6 ⟨v2, rfl, ⟨g2, ha2, hg2⟩, hm5⟩
            replace ha2 := Acc.cast ha2 ((oneD_get rightS).2.1)
            rw [(oneD_get rightS).1]
            have hS10 := hS9.ext hm5
            have hS11 : St (fun _ => False) (fun _ => False) w0 w6 [accR encB 5 1 v1 rightS, dkK 139 136 5 bd1 0 ((oneD rightS)), accR encB 5 1 v2 rightS] := hS9.newAcc hm5 ha2 hg2
            clear hg2
            have hle_2 := ha2.le
            refine OL.q (Q1.move rfl) rfl rfl ?_
            refine OL.q (Q1.extract rfl rfl) rfl rfl ?_
            refine OL.q (Q1.extract rfl rfl) rfl rfl ?_
            refine OL.q (Q1.assign rfl) rfl rfl ?_
            refine OL.q (Q1.assign rfl) rfl rfl ?_
            refine OL.nil ?_
            refine r_seq ?_
            refine r_region ?_
            refine OL.q (Q1.move rfl) rfl rfl ?_
            refine OL.q (Q1.move rfl) rfl rfl ?_
            obtain ⟨g3, f4, hl1, k1⟩ := hS11.accK (i := 2) rfl
            obtain ⟨g4, f5, hl2, k2⟩ := hS11.accK (i := 0) rfl
            refine OL.act rfl rfl (AW.callF cl17 rfl (sameB_c (w0 := w6) (a := rightS) (b := rightS)  (f4.sl.iv (Nat.zero_le _) f4.lt) (f5.sl.iv (Nat.zero_le _) f5.lt)) ?_)
            rintro _ w7 ⟨⟨b5, hb5, rfl⟩, hm6⟩
            have hS12 := hS11.ext hm6
            obtain rfl : b5 = true := hb5.trans (by exact decide_eq_true rfl)
            refine OL.q (Q1.move rfl) rfl rfl ?_
            refine OL.act rfl rfl (AW.callF cl55 rfl (awake14_c (w0 := w7)   ) ?_)
            rintro _ w8 ⟨⟨_, rfl, rfl⟩, hm7⟩
            have hS13 := hS12.ext hm7
            refine OL.q (Q1.pick_t rfl rfl) rfl rfl ?_
            refine OL.q (Q1.assign rfl) rfl rfl ?_
            refine OL.nil ?_
            refine r_ret1 Try.func11 rfl rfl ?_
            exact Ret.mk ⟨⟨_, (by rfl), rfl⟩, hS13.mod⟩
end Go.Proofs
