/-
  Walks through Parse and what the statements compare.
-/
import Derived.Test.YtnikbecfjbjbbaaDoorWReader
set_option linter.unusedVariables false
set_option linter.unusedSimpArgs false
namespace Go.Proofs
open Go.Ik Go.Ml
set_option maxRecDepth 20000 in
set_option maxHeartbeats 4000000 in
theorem parse_c {w0 : World} (s : Str) (hs : s.length ≤ 1000000) (hG : GS w0) :
    Calls Tryd.prog 13 #[strV s] w0 (Ret fun rv w1 => ∃ v1 v2 v3 : Value, rv = .tuple #[.agg #[v1, v2, .int .i64 (parseM s).cfg.workers, .int .i64 (parseM s).cfg.copies, .int .i64 (parseM s).cfg.slots, .int .i64 (parseM s).cfg.batch, .int .i64 (parseM s).cfg.lease, .int .i64 (parseM s).cfg.hedge, .int .i64 (parseM s).cfg.first, .int .i64 (parseM s).cfg.cap, .int .i64 (parseM s).cfg.jitter, .int .i64 (parseM s).cfg.net], v3, .int .i64 (parseM s).at_, .int .i64 (parseM s).err] ∧ Ext w0 w1 ∧ ∃ F2, (boxR (R := fun _ => False) [accR encS 9 1 v1 (parseM s).cfg.words, accR encKey 72 2 v2 (parseM s).cfg.cuts, accR encEvt 50 7 v3 (parseM s).es]).p F2 w1 ∧ ∀ b, F2 b → w0.heap.size ≤ b ∧ b < w1.heap.size) := by
  have hFg : ∀ b, b = gB ∨ b = gS ∨ b = gR → ¬ (fun _ : Nat => False) b := fun _ _ h => h
  have hS0 := St.start0 w0
  refine calls_enter Tryd.func13 rfl Tryd.ntmps13 rfl ?_
  refine r_seq ?_
  refine r_region ?_
  refine OL.act rfl rfl (AW.alloc ti30 ?_)
  intro w1 b1 hm1 hb1 hz1 hk1
  have hS1 := hS0.ext hm1
  have hS2 : St (fun _ => False) (fun _ => False) w0 w1 [bkR b1 [.slice none 0 0, .slice none 0 0, .int .i64 0, .int .i64 0, .int .i64 0, .int .i64 0, .int .i64 0, .int .i64 0, .int .i64 0, .int .i64 0, .int .i64 0, .int .i64 0] 30] := hS0.newBk hm1 hb1 hk1
  refine OL.q (Q1.assign rfl) rfl rfl ?_
  refine OL.q (Q1.assign rfl) rfl rfl ?_
  refine OL.q (Q1.assign rfl) rfl rfl ?_
  refine OL.nil ?_
  refine r_seq ?_
  refine r_seq ?_
  refine r_region ?_
  refine OL.q (Q1.move rfl) rfl rfl ?_
  refine OL.q (Q1.lenS Tryd.underlying9 rfl) rfl rfl ?_
  refine OL.qb (Q1.gt rfl rfl) rfl rfl ?_
  intro b2 hb2
  refine OL.nil ?_
  cases b2 with
  | true =>
    replace hb2 := of_decide_eq_true hb2.symm
    refine r_cond_t rfl ?_
    refine r_seq ?_
    refine r_region ?_
    refine OL.q (Q1.build (vs := #[]) (v := .agg #[.slice none 0 0, .slice none 0 0, .int .i64 0, .int .i64 0, .int .i64 0, .int .i64 0, .int .i64 0, .int .i64 0, .int .i64 0, .int .i64 0, .int .i64 0, .int .i64 0]) rfl (fun _ => by kernel_rfl)) rfl rfl ?_
    have f1 := hS2.bk (i := 0) rfl
    refine OL.act rfl rfl (AW.store ti30 rfl rfl rfl rfl rfl f1 (Nat.le_of_ble_eq_true rfl) ?_)
    intro w2 hm2 hz2 hk2
    have hS3 : St (fun _ => False) (fun _ => False) w0 w2 [bkR b1 [.slice none 0 0, .slice none 0 0, .int .i64 0, .int .i64 0, .int .i64 0, .int .i64 0, .int .i64 0, .int .i64 0, .int .i64 0, .int .i64 0, .int .i64 0, .int .i64 0] 30] := hS2.bkK (i := 0) rfl hm2 hk2
    refine OL.q (Q1.assign rfl) rfl rfl ?_
    refine OL.q (Q1.assign rfl) rfl rfl ?_
    refine OL.q (Q1.assign rfl) rfl rfl ?_
    refine OL.nil ?_
    have f2 := hS3.bk (i := 0) rfl
    refine r_retC4 Tryd.func13 rfl rfl ti30 f2.row rfl rfl rfl rfl ?_
    have hS4 : St (fun _ => False) (fun _ => False) w0 w2 [bkR b1 [.slice none 0 0, .slice none 0 0, .int .i64 0, .int .i64 0, .int .i64 0, .int .i64 0, .int .i64 0, .int .i64 0, .int .i64 0, .int .i64 0, .int .i64 0, .int .i64 0] 30, accR encS 9 1 (.slice none 0 0) []] := hS3.newAcc (Mod.refl _ _) Acc.nil (.inl rfl)
    have hS5 : St (fun _ => False) (fun _ => False) w0 w2 [bkR b1 [.slice none 0 0, .slice none 0 0, .int .i64 0, .int .i64 0, .int .i64 0, .int .i64 0, .int .i64 0, .int .i64 0, .int .i64 0, .int .i64 0, .int .i64 0, .int .i64 0] 30, accR encS 9 1 (.slice none 0 0) [], accR encKey 72 2 (.slice none 0 0) []] := hS4.newAcc (Mod.refl _ _) Acc.nil (.inl rfl)
    have hS6 : St (fun _ => False) (fun _ => False) w0 w2 [bkR b1 [.slice none 0 0, .slice none 0 0, .int .i64 0, .int .i64 0, .int .i64 0, .int .i64 0, .int .i64 0, .int .i64 0, .int .i64 0, .int .i64 0, .int .i64 0, .int .i64 0] 30, accR encS 9 1 (.slice none 0 0) [], accR encKey 72 2 (.slice none 0 0) [], accR encEvt 50 7 (.slice none 0 0) []] := hS5.newAcc (Mod.refl _ _) Acc.nil (.inl rfl)
    have hS7 : St (fun _ => False) (fun _ => False) w0 w2 [accR encS 9 1 (.slice none 0 0) [], accR encKey 72 2 (.slice none 0 0) [], accR encEvt 50 7 (.slice none 0 0) []] := hS6.sel [1, 2, 3] (by rfl) (by decide)
    obtain ⟨hmF, F2r, hAr, hFr⟩ := (St.close (L1 := []) hS7).fin
    have hmm : parseM s = ⟨cfg0, [], 0, 3⟩ := by unfold parseM; rw [if_pos (by omega)]
    rw [hmm]
    exact Ret.mk ⟨_, _, _, rfl, hmF, F2r, hAr, fun b hb => ⟨(hFr b hb).2.elim (fun h => h.elim) id, (hFr b hb).1⟩⟩
  | false =>
    replace hb2 := of_decide_eq_false hb2.symm
    refine r_cond_f rfl ?_
    refine r_skip ?_
    refine r_seq ?_
    refine r_region ?_
    refine OL.q (Q1.build (vs := #[]) (v := .agg #[.slice none 0 0, .slice none 0 0, .int .i64 0, .int .i64 0, .int .i64 0, .int .i64 0, .int .i64 0, .int .i64 0, .int .i64 0, .int .i64 0, .int .i64 0, .int .i64 0, .slice none 0 0]) rfl (fun _ => by kernel_rfl)) rfl rfl ?_
    refine OL.act rfl rfl (AW.box [.slice none 0 0, .slice none 0 0, .int .i64 0, .int .i64 0, .int .i64 0, .int .i64 0, .int .i64 0, .int .i64 0, .int .i64 0, .int .i64 0, .int .i64 0, .int .i64 0, .slice none 0 0] rfl rfl ?_)
    intro w2 b3 hm2 hb3 hz2 hk2
    have hS3 := hS2.ext hm2
    have hS4 : St (fun _ => False) (fun _ => False) w0 w2 [bkR b1 [.slice none 0 0, .slice none 0 0, .int .i64 0, .int .i64 0, .int .i64 0, .int .i64 0, .int .i64 0, .int .i64 0, .int .i64 0, .int .i64 0, .int .i64 0, .int .i64 0] 30, bkR b3 [.slice none 0 0, .slice none 0 0, .int .i64 0, .int .i64 0, .int .i64 0, .int .i64 0, .int .i64 0, .int .i64 0, .int .i64 0, .int .i64 0, .int .i64 0, .int .i64 0, .slice none 0 0] 66] := hS2.newBk hm2 hb3 hk2
    refine OL.q (Q1.assign rfl) rfl rfl ?_
    have hS5 : St (fun _ => False) (fun _ => False) w0 w2 [bkR b1 [.slice none 0 0, .slice none 0 0, .int .i64 0, .int .i64 0, .int .i64 0, .int .i64 0, .int .i64 0, .int .i64 0, .int .i64 0, .int .i64 0, .int .i64 0, .int .i64 0] 30, bkR b3 [.slice none 0 0, .slice none 0 0, .int .i64 0, .int .i64 0, .int .i64 0, .int .i64 0, .int .i64 0, .int .i64 0, .int .i64 0, .int .i64 0, .int .i64 0, .int .i64 0, .slice none 0 0] 66, accR encS 9 1 (.slice none 0 0) []] := hS4.newAcc (Mod.refl _ _) Acc.nil (.inl rfl)
    have hS6 : St (fun _ => False) (fun _ => False) w0 w2 [bkR b1 [.slice none 0 0, .slice none 0 0, .int .i64 0, .int .i64 0, .int .i64 0, .int .i64 0, .int .i64 0, .int .i64 0, .int .i64 0, .int .i64 0, .int .i64 0, .int .i64 0] 30, bkR b3 [.slice none 0 0, .slice none 0 0, .int .i64 0, .int .i64 0, .int .i64 0, .int .i64 0, .int .i64 0, .int .i64 0, .int .i64 0, .int .i64 0, .int .i64 0, .int .i64 0, .slice none 0 0] 66, accR encS 9 1 (.slice none 0 0) [], accR encKey 72 2 (.slice none 0 0) []] := hS5.newAcc (Mod.refl _ _) Acc.nil (.inl rfl)
    have hS7 : St (fun _ => False) (fun _ => False) w0 w2 [bkR b1 [.slice none 0 0, .slice none 0 0, .int .i64 0, .int .i64 0, .int .i64 0, .int .i64 0, .int .i64 0, .int .i64 0, .int .i64 0, .int .i64 0, .int .i64 0, .int .i64 0] 30, bkR b3 [.slice none 0 0, .slice none 0 0, .int .i64 0, .int .i64 0, .int .i64 0, .int .i64 0, .int .i64 0, .int .i64 0, .int .i64 0, .int .i64 0, .int .i64 0, .int .i64 0, .slice none 0 0] 66, accR encS 9 1 (.slice none 0 0) [], accR encKey 72 2 (.slice none 0 0) [], accR encEvt 50 7 (.slice none 0 0) []] := hS6.newAcc (Mod.refl _ _) Acc.nil (.inl rfl)
    have hS8 : St (fun _ => False) (fun _ => False) w0 w2 [bkR b1 [.slice none 0 0, .slice none 0 0, .int .i64 0, .int .i64 0, .int .i64 0, .int .i64 0, .int .i64 0, .int .i64 0, .int .i64 0, .int .i64 0, .int .i64 0, .int .i64 0] 30, boxR [bkR b3 [.slice none 0 0, .slice none 0 0, .int .i64 0, .int .i64 0, .int .i64 0, .int .i64 0, .int .i64 0, .int .i64 0, .int .i64 0, .int .i64 0, .int .i64 0, .int .i64 0, .slice none 0 0] 66, accR encS 9 1 (.slice none 0 0) [], accR encKey 72 2 (.slice none 0 0) [], accR encEvt 50 7 (.slice none 0 0) []]] := St.close (L1 := [bkR b1 [.slice none 0 0, .slice none 0 0, .int .i64 0, .int .i64 0, .int .i64 0, .int .i64 0, .int .i64 0, .int .i64 0, .int .i64 0, .int .i64 0, .int .i64 0, .int .i64 0] 30]) hS7
    have hS9 : St (fun _ => False) (fun _ => False) w0 w2 [bkR b1 [.slice none 0 0, .slice none 0 0, .int .i64 0, .int .i64 0, .int .i64 0, .int .i64 0, .int .i64 0, .int .i64 0, .int .i64 0, .int .i64 0, .int .i64 0, .int .i64 0] 30, scR 66 9 72 50 b3 ((RdS.mk (Cfg.mk [] [] 0 0 0 0 0 0 0 0 0 0) []))] := hS8.exi (A := (fun v : Value × Value × Value => boxR [bkR b3 [v.1, v.2.1, .int .i64 0, .int .i64 0, .int .i64 0, .int .i64 0, .int .i64 0, .int .i64 0, .int .i64 0, .int .i64 0, .int .i64 0, .int .i64 0, v.2.2] 66, accR encS 9 1 v.1 [], accR encKey 72 2 v.2.1 [], accR encEvt 50 7 v.2.2 []])) ((.slice none 0 0 : Value), (.slice none 0 0 : Value), (.slice none 0 0 : Value)) (i := 1) rfl
    change St (fun _ => False) (fun _ => False) w0 w2 [bkR b1 [.slice none 0 0, .slice none 0 0, .int .i64 0, .int .i64 0, .int .i64 0, .int .i64 0, .int .i64 0, .int .i64 0, .int .i64 0, .int .i64 0, .int .i64 0, .int .i64 0] 30, scR 66 9 72 50 b3 rd0] at hS9
    refine OL.nil ?_
    refine r_seq ?_
    refine r_seq ?_
    refine r_region ?_
    refine OL.q (Q1.assign rfl) rfl rfl ?_
    refine OL.nil ?_
    refine r_block ?_
    refine r_loop (I := fun m E W => ∃ (t : Str) (c3 : Int) (c4 : Int) (c5 : Int) (c6 : Int) (c7 : Int) (c8 : Int) (c9 : Int) (c10 : Int) (c11 : Int) (c12 : Int) (k : Nat) (sr : RdS), E = [(0, strV t), (2, ptr b1 0), (6, ptr b3 0), (7, .int .i64 (((k : Nat) : Int)))] ∧ m = t.length ∧ St (fun _ => False) (fun _ => False) w0 W [bkR b1 [.slice none 0 0, .slice none 0 0, .int .i64 c3, .int .i64 c4, .int .i64 c5, .int .i64 c6, .int .i64 c7, .int .i64 c8, .int .i64 c9, .int .i64 c10, .int .i64 c11, .int .i64 c12] 30, scR 66 9 72 50 b3 sr] ∧ (parseL 1 rd0 (linesM s) = parseL k sr (linesM t)) ∧ (RdB sr k) ∧ (k + t.length ≤ s.length + 1) ∧ (1 ≤ k)) ?_ ?_
    · refine ⟨_, _, ⟨(s : Str), (0 : Int), (0 : Int), (0 : Int), (0 : Int), (0 : Int), (0 : Int), (0 : Int), (0 : Int), (0 : Int), (0 : Int), (1 : Nat), (rd0 : RdS), rfl, rfl, hS9, (by rfl), (by exact ⟨Nat.zero_le _, Nat.zero_le _, Nat.zero_le _⟩), (by omega), (by omega)⟩, ⟨rfl, rfl, rfl, rfl, trivial⟩⟩
    · rintro _ _ w3 ⟨t, c3, c4, c5, c6, c7, c8, c9, c10, c11, c12, k, sr, rfl, rfl, hS10, hP, hB, hkt, hk1⟩ ih1
      refine r_seq ?_
      refine r_seq ?_
      refine r_region ?_
      refine OL.q (Q1.move rfl) rfl rfl ?_
      refine OL.qb (Q1.neS rfl rfl) rfl rfl ?_
      intro b4 hb4
      refine OL.nil ?_
      cases b4 with
      | true =>
        replace hb4 := nbeq_t hb4
        refine r_cond_t rfl ?_
        refine r_skip ?_
        refine r_seq ?_
        refine r_block ?_
        refine r_seq ?_
        refine r_region ?_
        refine OL.q (Q1.move rfl) rfl rfl ?_
        refine OL.act rfl rfl (AW.callF cl28 rfl (stcut_c (w0 := w3)  t (10 : UInt8) (by first | assumption | omega)) ?_)
        rintro _ w4 ⟨_, _, _, rfl, rfl, rfl, ⟨b5, hb5, rfl⟩, hm3⟩
        have hS11 := hS10.ext hm3
        obtain ⟨hc1, hc2, hc3⟩ := cut_len (c := 10) (s := t)
        have hc3 := hc3 (by assumption)
        refine OL.q (Q1.move rfl) rfl rfl ?_
        refine OL.q (Q1.extract rfl rfl) rfl rfl ?_
        refine OL.q (Q1.extract rfl rfl) rfl rfl ?_
        refine OL.q (Q1.extract rfl rfl) rfl rfl ?_
        refine OL.q (Q1.assign rfl) rfl rfl ?_
        refine OL.q (Q1.assign rfl) rfl rfl ?_
        refine OL.q (Q1.assign rfl) rfl rfl ?_
        refine OL.nil ?_
        refine r_seq ?_
        refine r_seq ?_
        refine r_region ?_
        refine OL.q (Q1.move rfl) rfl rfl ?_
        refine OL.q (Q1.move rfl) rfl rfl ?_
        obtain ⟨Fy1, hAy1, hFy1, hky1⟩ := hS11.act (i := 1) rfl
        refine OL.act rfl rfl (AW.callF cl29 rfl (rline_c (w0 := w4) (((cutM ((10 : UInt8)) t).1)) hAy1 (fun b hb => (hFy1 b hb).2) (hG.keep hgp hS11.mod hFg) (glob_no hG hgp hFg hFy1) (hB.mono (by omega)) (by omega)) ?_)
        rintro _ w5 ⟨rb1, hrb1, rfl, hm4, F1, hA1, hF1⟩
        have hS12 : St (fun _ => False) (fun _ => False) w0 w5 [bkR b1 [.slice none 0 0, .slice none 0 0, .int .i64 c3, .int .i64 c4, .int .i64 c5, .int .i64 c6, .int .i64 c7, .int .i64 c8, .int .i64 c9, .int .i64 c10, .int .i64 c11, .int .i64 c12] 30, scR 66 9 72 50 b3 (((lineM sr (((cutM ((10 : UInt8)) t).1))).getD sr))] := hky1 _ _ _ hm4 hA1 hF1
        clear hky1 hA1
        cases rb1 with
        | true =>
          replace hrb1 := hrb1.symm
          refine OL.q (Q1.not rfl) rfl rfl ?_
          refine OL.nil ?_
          refine r_cond_f rfl ?_
          refine r_skip ?_
          refine r_region ?_
          refine OL.q (Q1.move rfl) rfl rfl ?_
          refine OL.q (Q1.assign rfl) rfl rfl ?_
          refine OL.nil ?_
          refine r_inBlock ?_
          refine r_region ?_
          refine OL.q (Q1.move rfl) rfl rfl ?_
          refine OL.q (Q1.addI (((k + 1 : Nat) : Int)) rfl rfl (by omega)) rfl rfl ?_
          refine OL.q (Q1.assign rfl) rfl rfl ?_
          refine OL.nil ?_
          exact (ih1 _ _ _ ⟨(((cutM ((10 : UInt8)) t).2) : Str), (c3 : Int), (c4 : Int), (c5 : Int), (c6 : Int), (c7 : Int), (c8 : Int), (c9 : Int), (c10 : Int), (c11 : Int), (c12 : Int), (k + 1 : Nat), (((lineM sr (((cutM ((10 : UInt8)) t).1))).getD sr) : RdS), rfl, rfl, hS12, (by first | rw [hP]; exact parse_step (by assumption) (by assumption) | (exfalso; omega)), (by first | exact line_b2 hB (by assumption) | (exfalso; omega)), (by first | omega | (exfalso; omega)), (by first | omega | (exfalso; omega))⟩ (by omega)).sub ⟨rfl, rfl, rfl, rfl, trivial⟩
        | false =>
          replace hrb1 := hrb1.symm
          refine OL.q (Q1.not rfl) rfl rfl ?_
          refine OL.nil ?_
          refine r_cond_t rfl ?_
          refine r_seq ?_
          refine r_region ?_
          refine OL.q (Q1.build (vs := #[]) (v := .agg #[.slice none 0 0, .slice none 0 0, .int .i64 0, .int .i64 0, .int .i64 0, .int .i64 0, .int .i64 0, .int .i64 0, .int .i64 0, .int .i64 0, .int .i64 0, .int .i64 0]) rfl (fun _ => by kernel_rfl)) rfl rfl ?_
          refine OL.q (Q1.move rfl) rfl rfl ?_
          have f1 := hS12.bk (i := 0) rfl
          refine OL.act rfl rfl (AW.store ti30 rfl rfl rfl rfl rfl f1 (Nat.le_of_ble_eq_true rfl) ?_)
          intro w6 hm5 hz3 hk3
          have hS13 : St (fun _ => False) (fun _ => False) w0 w6 [bkR b1 [.slice none 0 0, .slice none 0 0, .int .i64 0, .int .i64 0, .int .i64 0, .int .i64 0, .int .i64 0, .int .i64 0, .int .i64 0, .int .i64 0, .int .i64 0, .int .i64 0] 30, scR 66 9 72 50 b3 (((lineM sr (((cutM ((10 : UInt8)) t).1))).getD sr))] := hS12.bkK (i := 0) rfl hm5 hk3
          refine OL.q (Q1.assign rfl) rfl rfl ?_
          refine OL.q (Q1.assign rfl) rfl rfl ?_
          refine OL.q (Q1.assign rfl) rfl rfl ?_
          refine OL.nil ?_
          have f2 := hS13.bk (i := 0) rfl
          refine r_retC4 Tryd.func13 rfl rfl ti30 f2.row rfl rfl rfl rfl ?_
          have hS14 : St (fun _ => False) (fun _ => False) w0 w6 [bkR b1 [.slice none 0 0, .slice none 0 0, .int .i64 0, .int .i64 0, .int .i64 0, .int .i64 0, .int .i64 0, .int .i64 0, .int .i64 0, .int .i64 0, .int .i64 0, .int .i64 0] 30, scR 66 9 72 50 b3 (((lineM sr (((cutM ((10 : UInt8)) t).1))).getD sr)), accR encS 9 1 (.slice none 0 0) []] := hS13.newAcc (Mod.refl _ _) Acc.nil (.inl rfl)
          have hS15 : St (fun _ => False) (fun _ => False) w0 w6 [bkR b1 [.slice none 0 0, .slice none 0 0, .int .i64 0, .int .i64 0, .int .i64 0, .int .i64 0, .int .i64 0, .int .i64 0, .int .i64 0, .int .i64 0, .int .i64 0, .int .i64 0] 30, scR 66 9 72 50 b3 (((lineM sr (((cutM ((10 : UInt8)) t).1))).getD sr)), accR encS 9 1 (.slice none 0 0) [], accR encKey 72 2 (.slice none 0 0) []] := hS14.newAcc (Mod.refl _ _) Acc.nil (.inl rfl)
          have hS16 : St (fun _ => False) (fun _ => False) w0 w6 [bkR b1 [.slice none 0 0, .slice none 0 0, .int .i64 0, .int .i64 0, .int .i64 0, .int .i64 0, .int .i64 0, .int .i64 0, .int .i64 0, .int .i64 0, .int .i64 0, .int .i64 0] 30, scR 66 9 72 50 b3 (((lineM sr (((cutM ((10 : UInt8)) t).1))).getD sr)), accR encS 9 1 (.slice none 0 0) [], accR encKey 72 2 (.slice none 0 0) [], accR encEvt 50 7 (.slice none 0 0) []] := hS15.newAcc (Mod.refl _ _) Acc.nil (.inl rfl)
          have hS17 : St (fun _ => False) (fun _ => False) w0 w6 [accR encS 9 1 (.slice none 0 0) [], accR encKey 72 2 (.slice none 0 0) [], accR encEvt 50 7 (.slice none 0 0) []] := hS16.sel [2, 3, 4] (by rfl) (by decide)
          obtain ⟨hmF, F2r, hAr, hFr⟩ := (St.close (L1 := []) hS17).fin
          have hmm : parseM s = ⟨cfg0, [], (k : Int), 11⟩ := by unfold parseM; rw [if_neg (by omega), hP]; exact parse_stop (by assumption) (by assumption)
          rw [hmm]
          exact Ret.mk ⟨_, _, _, rfl, hmF, F2r, hAr, fun b hb => ⟨(hFr b hb).2.elim (fun h => h.elim) id, (hFr b hb).1⟩⟩
      | false =>
        replace hb4 := nbeq_f hb4
        refine r_cond_f rfl ?_
        refine r_exit rfl ?_
        refine r_seq ?_
        obtain ⟨⟨va1, vb1, vc1⟩, hS11⟩ := hS10.exo (i := 1) rfl
        change St (fun _ => False) (fun _ => False) w0 w3 [bkR b1 [.slice none 0 0, .slice none 0 0, .int .i64 c3, .int .i64 c4, .int .i64 c5, .int .i64 c6, .int .i64 c7, .int .i64 c8, .int .i64 c9, .int .i64 c10, .int .i64 c11, .int .i64 c12] 30, boxR [bkR b3 [va1, vb1, .int .i64 sr.cfg.workers, .int .i64 sr.cfg.copies, .int .i64 sr.cfg.slots, .int .i64 sr.cfg.batch, .int .i64 sr.cfg.lease, .int .i64 sr.cfg.hedge, .int .i64 sr.cfg.first, .int .i64 sr.cfg.cap, .int .i64 sr.cfg.jitter, .int .i64 sr.cfg.net, vc1] 66, accR encS 9 1 va1 sr.cfg.words, accR encKey 72 2 vb1 sr.cfg.cuts, accR encEvt 50 7 vc1 sr.es]] at hS11
        have hS12 : St (fun _ => False) (fun _ => False) w0 w3 [bkR b1 [.slice none 0 0, .slice none 0 0, .int .i64 c3, .int .i64 c4, .int .i64 c5, .int .i64 c6, .int .i64 c7, .int .i64 c8, .int .i64 c9, .int .i64 c10, .int .i64 c11, .int .i64 c12] 30, bkR b3 [va1, vb1, .int .i64 sr.cfg.workers, .int .i64 sr.cfg.copies, .int .i64 sr.cfg.slots, .int .i64 sr.cfg.batch, .int .i64 sr.cfg.lease, .int .i64 sr.cfg.hedge, .int .i64 sr.cfg.first, .int .i64 sr.cfg.cap, .int .i64 sr.cfg.jitter, .int .i64 sr.cfg.net, vc1] 66, accR encS 9 1 va1 sr.cfg.words, accR encKey 72 2 vb1 sr.cfg.cuts, accR encEvt 50 7 vc1 sr.es] := St.open (L1 := [bkR b1 [.slice none 0 0, .slice none 0 0, .int .i64 c3, .int .i64 c4, .int .i64 c5, .int .i64 c6, .int .i64 c7, .int .i64 c8, .int .i64 c9, .int .i64 c10, .int .i64 c11, .int .i64 c12] 30]) hS11
        obtain ⟨g1, f1, hl1, k1⟩ := hS12.accK (i := 2) rfl
        obtain ⟨ad1, cp1, hv1⟩ := f1.shape
        subst hv1
        obtain ⟨g2, f2, hl2, k2⟩ := hS12.accK (i := 3) rfl
        obtain ⟨ad2, cp2, hv2⟩ := f2.shape
        subst hv2
        obtain ⟨g3, f3, hl3, k3⟩ := hS12.accK (i := 4) rfl
        obtain ⟨ad3, cp3, hv3⟩ := f3.shape
        subst hv3
        refine r_draw1 (fun i => Nat.beq i 8) 12 (fun w' => Bk w' b3 [(.slice ad1 sr.cfg.words.length cp1), (.slice ad2 sr.cfg.cuts.length cp2), .int .i64 sr.cfg.workers, .int .i64 sr.cfg.copies, .int .i64 sr.cfg.slots, .int .i64 sr.cfg.batch, .int .i64 sr.cfg.lease, .int .i64 sr.cfg.hedge, .int .i64 sr.cfg.first, .int .i64 sr.cfg.cap, .int .i64 sr.cfg.jitter, .int .i64 sr.cfg.net, (.slice ad3 sr.es.length cp3)] 66) mixed (by kernel_rfl) ?_
        intro w4 hm3
        have hS13 := hS12.ext hm3
        have f4 := hS13.bk (i := 1) rfl
        refine ⟨f4, ?_⟩
        rw [show List.range' 0 (Array.size _) = [0, 1, 2, 3, 4, 5, 6, 7, 8, 9, 10, 11] from rfl]
        refine OD.q rfl rfl (Q1.move rfl) rfl rfl ?_
        refine OD.q rfl rfl (Q1.nilCheckP rfl) rfl rfl ?_
        refine OD.q rfl rfl (Q1.fieldAddr fl66_0 rfl) rfl rfl ?_
        have f5 := hS12.bk (i := 1) rfl
        refine OD.q rfl rfl (Q1.loadN ti30 rfl (fun _ hc => (hc.part 0 12 (Nat.le_of_ble_eq_true rfl))) rfl) rfl rfl ?_
        refine OD.q rfl rfl (Q1.move rfl) rfl rfl ?_
        refine OD.q rfl rfl (Q1.nilCheckP rfl) rfl rfl ?_
        refine OD.q rfl rfl (Q1.fieldAddr fl66_1 rfl) rfl rfl ?_
        refine OD.q rfl rfl (Q1.load1 ti31 rfl (fun _ hc => (hc.cell 12 _ rfl))) rfl rfl ?_
        have f6 := hS13.bk (i := 0) rfl
        refine OD.act rfl rfl rfl rfl (AW.store ti30 rfl rfl rfl rfl rfl f6 (Nat.le_of_ble_eq_true rfl) ?_)
        intro w5 hm4 hz3 hk3
        have hS14 : St (fun _ => False) (fun _ => False) w0 w5 [bkR b1 [(.slice ad1 sr.cfg.words.length cp1), (.slice ad2 sr.cfg.cuts.length cp2), .int .i64 sr.cfg.workers, .int .i64 sr.cfg.copies, .int .i64 sr.cfg.slots, .int .i64 sr.cfg.batch, .int .i64 sr.cfg.lease, .int .i64 sr.cfg.hedge, .int .i64 sr.cfg.first, .int .i64 sr.cfg.cap, .int .i64 sr.cfg.jitter, .int .i64 sr.cfg.net] 30, bkR b3 [(.slice ad1 sr.cfg.words.length cp1), (.slice ad2 sr.cfg.cuts.length cp2), .int .i64 sr.cfg.workers, .int .i64 sr.cfg.copies, .int .i64 sr.cfg.slots, .int .i64 sr.cfg.batch, .int .i64 sr.cfg.lease, .int .i64 sr.cfg.hedge, .int .i64 sr.cfg.first, .int .i64 sr.cfg.cap, .int .i64 sr.cfg.jitter, .int .i64 sr.cfg.net, (.slice ad3 sr.es.length cp3)] 66, accR encS 9 1 ((.slice ad1 sr.cfg.words.length cp1)) sr.cfg.words, accR encKey 72 2 ((.slice ad2 sr.cfg.cuts.length cp2)) sr.cfg.cuts, accR encEvt 50 7 ((.slice ad3 sr.es.length cp3)) sr.es] := hS13.bkK (i := 0) rfl hm4 hk3
        have f7 := hS14.bk (i := 1) rfl
        refine ⟨.inr f7, ?_⟩
        refine OD.q rfl rfl (Q1.assign rfl) rfl rfl ?_
        refine OD.q rfl rfl (Q1.assign rfl) rfl rfl ?_
        refine OD.q rfl rfl (Q1.assign rfl) rfl rfl ?_
        refine OD.nil ?_
        have f8 := hS14.bk (i := 0) rfl
        refine r_retC4 Tryd.func13 rfl rfl ti30 f8.row rfl rfl rfl rfl ?_
        have hS15 : St (fun _ => False) (fun _ => False) w0 w5 [accR encS 9 1 ((.slice ad1 sr.cfg.words.length cp1)) sr.cfg.words, accR encKey 72 2 ((.slice ad2 sr.cfg.cuts.length cp2)) sr.cfg.cuts, accR encEvt 50 7 ((.slice ad3 sr.es.length cp3)) sr.es] := hS14.sel [2, 3, 4] (by rfl) (by decide)
        obtain ⟨hmF, F2r, hAr, hFr⟩ := (St.close (L1 := []) hS15).fin
        have hmm : parseM s = ⟨sr.cfg, sr.es, 0, 0⟩ := by unfold parseM; rw [if_neg (by omega), hP]; exact parse_end (by first | assumption | (simpa using (by assumption)))
        rw [hmm]
        exact Ret.mk ⟨_, _, _, rfl, hmF, F2r, hAr, fun b hb => ⟨(hFr b hb).2.elim (fun h => h.elim) id, (hFr b hb).1⟩⟩
set_option maxRecDepth 20000 in
set_option maxHeartbeats 4000000 in
theorem sameT_c {w0 : World}  {v_a : Value} {a : List Str} {v_b : Value} {b : List Str} (h_a : Sl encS w0 (Iv 0 w0.heap.size) v_a a) (h_b : Sl encS w0 (Iv 0 w0.heap.size) v_b b) :
    Calls Tryd.prog 21 #[v_a, v_b] w0 (Ret fun rv w1 => (∃ rb : Bool, rb = (decide (a = b)) ∧ rv = .bool rb) ∧ Ext w0 w1) := by
  have hE0 : Ext w0 w0 := Mod.refl _ _
  have hle1 := h_a.le
  have hle2 := h_b.le
  refine calls_enter Tryd.func21 rfl Tryd.ntmps21 rfl ?_
  refine r_seq ?_
  refine r_region ?_
  refine OL.q (Q1.assign rfl) rfl rfl ?_
  refine OL.nil ?_
  refine r_seq ?_
  refine r_seq ?_
  refine r_region ?_
  refine OL.q (Q1.move rfl) rfl rfl ?_
  refine OL.q (Q1.lenSl Tryd.underlying27 (h_a) rfl) rfl rfl ?_
  refine OL.q (Q1.move rfl) rfl rfl ?_
  refine OL.q (Q1.lenSl Tryd.underlying27 (h_b) rfl) rfl rfl ?_
  refine OL.qb (Q1.ne rfl rfl) rfl rfl ?_
  intro b1 hb1
  refine OL.nil ?_
  cases b1 with
  | true =>
    replace hb1 := bne_iff_ne.1 hb1.symm
    refine r_cond_t rfl ?_
    refine r_seq ?_
    refine r_region ?_
    refine OL.q (Q1.assign rfl) rfl rfl ?_
    refine OL.nil ?_
    refine r_ret1 Tryd.func21 rfl rfl ?_
    exact Ret.mk ⟨⟨_, (by first | (have e := Ml.same_not hx1 hx2 (by assumption); simp [e]) | (have e := Ml.same_all hi (by omega) (by omega); simp [e]) | (have e : a ≠ b := (fun e => absurd (congrArg List.length e) (by omega)); simp [e]) | (exfalso; omega)), rfl⟩, hE0⟩
  | false =>
    replace hb1 := bne_eq_false_iff_eq.1 hb1.symm
    refine r_cond_f rfl ?_
    refine r_skip ?_
    refine r_seq ?_
    refine r_seq ?_
    refine r_region ?_
    refine OL.q (Q1.assign rfl) rfl rfl ?_
    refine OL.nil ?_
    refine r_block ?_
    refine r_loop (I := fun m E W => ∃ (k : Nat), E = [(0, v_a), (1, v_b), (5, .int .i64 (((k : Nat) : Int)))] ∧ m = a.length - k ∧ Ext w0 W ∧ w0.heap.size ≤ W.heap.size ∧ Sl encS W (Iv 0 w0.heap.size) v_a a ∧ Sl encS W (Iv 0 w0.heap.size) v_b b ∧ (a.take k = b.take k)) ?_ ?_
    · refine ⟨_, _, ⟨(0 : Nat), rfl, rfl, hE0, Nat.le_refl _, h_a, h_b, (by rfl)⟩, ⟨rfl, rfl, rfl, trivial⟩⟩
    · rintro _ _ w1 ⟨k, rfl, rfl, hE1, hs1, f1, f2, hi⟩ ih1
      refine r_seq ?_
      refine r_seq ?_
      refine r_region ?_
      refine OL.q (Q1.move rfl) rfl rfl ?_
      refine OL.q (Q1.move rfl) rfl rfl ?_
      refine OL.q (Q1.lenSl Tryd.underlying27 (f1) rfl) rfl rfl ?_
      refine OL.qb (Q1.lt rfl rfl) rfl rfl ?_
      intro b2 hb2
      refine OL.nil ?_
      cases b2 with
      | true =>
        replace hb2 := of_decide_eq_true hb2.symm
        refine r_cond_t rfl ?_
        refine r_skip ?_
        refine r_seq ?_
        refine r_block ?_
        refine r_seq ?_
        refine r_draw1 (fun i => false) 9 (fun w' => Mod (Mg 0) w1 w') mixed (by kernel_rfl) ?_
        intro w2 hm1
        have f3 := f1.ext hm1
        have f4 := f2.ext hm1
        have hE2 := hE1.ext hm1
        have hs2 := hm1.size
        have hCw2 : Mod (Mg 0) w1 w2 := Mod.ofExt hm1
        refine ⟨hCw2, ?_⟩
        rw [show List.range' 0 (Array.size _) = [0, 1, 2, 3, 4, 5, 6, 7, 8] from rfl]
        refine OD.q rfl rfl (Q1.move rfl) rfl rfl ?_
        refine OD.q rfl rfl (Q1.move rfl) rfl rfl ?_
        obtain ⟨x1, b3, o1, hx1, hr1, hl1, hu1, hw1⟩ := Sl.at' (P := Tryd.prog) f1 Tryd.underlying27 ti9 encS_len (k := .i64) (n := ((k : Nat) : Int)) (k) (by omega) (by first | assumption | omega)
        refine OD.q rfl rfl (Q1.indexAddr rfl rfl hr1) rfl rfl ?_
        refine OD.q rfl rfl (Q1.load1 ti9 rfl (fun _ hc => hw1.keepG hc (by omega))) rfl rfl ?_
        refine OD.q rfl rfl (Q1.move rfl) rfl rfl ?_
        refine OD.q rfl rfl (Q1.move rfl) rfl rfl ?_
        obtain ⟨x2, b4, o2, hx2, hr2, hl2, hu2, hw2⟩ := Sl.at' (P := Tryd.prog) f2 Tryd.underlying27 ti9 encS_len (k := .i64) (n := ((k : Nat) : Int)) (k) (by omega) (by first | assumption | omega)
        refine OD.q rfl rfl (Q1.indexAddr rfl rfl hr2) rfl rfl ?_
        refine OD.q rfl rfl (Q1.load1 ti9 rfl (fun _ hc => hw2.keepG hc (by omega))) rfl rfl ?_
        refine OD.qb rfl rfl (Q1.neS rfl rfl) rfl rfl ?_
        intro b5 hb3
        refine OD.nil ?_
        cases b5 with
        | true =>
          replace hb3 := nbeq_t hb3
          refine r_cond_t rfl ?_
          refine r_seq ?_
          refine r_region ?_
          refine OL.q (Q1.assign rfl) rfl rfl ?_
          refine OL.nil ?_
          refine r_ret1 Tryd.func21 rfl rfl ?_
          exact Ret.mk ⟨⟨_, (by first | (have e := Ml.same_not hx1 hx2 (by assumption); simp [e]) | (have e := Ml.same_all hi (by omega) (by omega); simp [e]) | (have e : a ≠ b := (fun e => absurd (congrArg List.length e) (by omega)); simp [e]) | (exfalso; omega)), rfl⟩, hE2⟩
        | false =>
          replace hb3 := nbeq_f hb3
          refine r_cond_f rfl ?_
          refine r_skip ?_
          refine r_inBlock ?_
          refine r_region ?_
          refine OL.q (Q1.move rfl) rfl rfl ?_
          refine OL.q (Q1.addI (((k + 1 : Nat) : Int)) rfl rfl (by omega)) rfl rfl ?_
          refine OL.q (Q1.assign rfl) rfl rfl ?_
          refine OL.nil ?_
          exact (ih1 _ _ _ ⟨(k + 1 : Nat), rfl, rfl, hE2, (by omega), f3, f4, (by first | exact Ml.same_take hi hx1 hx2 (by assumption) | (exfalso; omega))⟩ (by omega)).sub ⟨rfl, rfl, rfl, trivial⟩
      | false =>
        replace hb2 := of_decide_eq_false hb2.symm
        refine r_cond_f rfl ?_
        refine r_exit rfl ?_
        refine r_seq ?_
        refine r_region ?_
        refine OL.q (Q1.assign rfl) rfl rfl ?_
        refine OL.nil ?_
        refine r_ret1 Tryd.func21 rfl rfl ?_
        exact Ret.mk ⟨⟨_, (by first | (have e := Ml.same_not hx1 hx2 (by assumption); simp [e]) | (have e := Ml.same_all hi (by omega) (by omega); simp [e]) | (have e : a ≠ b := (fun e => absurd (congrArg List.length e) (by omega)); simp [e]) | (exfalso; omega)), rfl⟩, hE1⟩
set_option maxRecDepth 20000 in
set_option maxHeartbeats 4000000 in
theorem sameK_c {w0 : World}  {v_a : Value} {a : List Key} {v_b : Value} {b : List Key} (h_a : Sl encKey w0 (Iv 0 w0.heap.size) v_a a) (h_b : Sl encKey w0 (Iv 0 w0.heap.size) v_b b) :
    Calls Tryd.prog 30 #[v_a, v_b] w0 (Ret fun rv w1 => (∃ rb : Bool, rb = (decide (a = b)) ∧ rv = .bool rb) ∧ Ext w0 w1) := by
  have hE0 : Ext w0 w0 := Mod.refl _ _
  have hle1 := h_a.le
  have hle2 := h_b.le
  refine calls_enter Tryd.func30 rfl Tryd.ntmps30 rfl ?_
  refine r_seq ?_
  refine r_region ?_
  refine OL.q (Q1.assign rfl) rfl rfl ?_
  refine OL.nil ?_
  refine r_seq ?_
  refine r_seq ?_
  refine r_region ?_
  refine OL.q (Q1.move rfl) rfl rfl ?_
  refine OL.q (Q1.lenSl Tryd.underlying28 (h_a) rfl) rfl rfl ?_
  refine OL.q (Q1.move rfl) rfl rfl ?_
  refine OL.q (Q1.lenSl Tryd.underlying28 (h_b) rfl) rfl rfl ?_
  refine OL.qb (Q1.ne rfl rfl) rfl rfl ?_
  intro b1 hb1
  refine OL.nil ?_
  cases b1 with
  | true =>
    replace hb1 := bne_iff_ne.1 hb1.symm
    refine r_cond_t rfl ?_
    refine r_seq ?_
    refine r_region ?_
    refine OL.q (Q1.assign rfl) rfl rfl ?_
    refine OL.nil ?_
    refine r_ret1 Tryd.func30 rfl rfl ?_
    exact Ret.mk ⟨⟨_, (by first | (have e := Ml.same_not hx1 hx2 (by assumption); simp [e]) | (have e := Ml.same_all hi (by omega) (by omega); simp [e]) | (have e : a ≠ b := (fun e => absurd (congrArg List.length e) (by omega)); simp [e]) | (exfalso; omega)), rfl⟩, hE0⟩
  | false =>
    replace hb1 := bne_eq_false_iff_eq.1 hb1.symm
    refine r_cond_f rfl ?_
    refine r_skip ?_
    refine r_seq ?_
    refine r_seq ?_
    refine r_region ?_
    refine OL.q (Q1.assign rfl) rfl rfl ?_
    refine OL.nil ?_
    refine r_block ?_
    refine r_loop (I := fun m E W => ∃ (k : Nat), E = [(0, v_a), (1, v_b), (5, .int .i64 (((k : Nat) : Int)))] ∧ m = a.length - k ∧ Ext w0 W ∧ w0.heap.size ≤ W.heap.size ∧ Sl encKey W (Iv 0 w0.heap.size) v_a a ∧ Sl encKey W (Iv 0 w0.heap.size) v_b b ∧ (a.take k = b.take k)) ?_ ?_
    · refine ⟨_, _, ⟨(0 : Nat), rfl, rfl, hE0, Nat.le_refl _, h_a, h_b, (by rfl)⟩, ⟨rfl, rfl, rfl, trivial⟩⟩
    · rintro _ _ w1 ⟨k, rfl, rfl, hE1, hs1, f1, f2, hi⟩ ih1
      refine r_seq ?_
      refine r_seq ?_
      refine r_region ?_
      refine OL.q (Q1.move rfl) rfl rfl ?_
      refine OL.q (Q1.move rfl) rfl rfl ?_
      refine OL.q (Q1.lenSl Tryd.underlying28 (f1) rfl) rfl rfl ?_
      refine OL.qb (Q1.lt rfl rfl) rfl rfl ?_
      intro b2 hb2
      refine OL.nil ?_
      cases b2 with
      | true =>
        replace hb2 := of_decide_eq_true hb2.symm
        refine r_cond_t rfl ?_
        refine r_skip ?_
        refine r_seq ?_
        refine r_block ?_
        refine r_seq ?_
        refine r_draw1 (fun i => false) 9 (fun w' => Mod (Mg 0) w1 w') mixed (by kernel_rfl) ?_
        intro w2 hm1
        have f3 := f1.ext hm1
        have f4 := f2.ext hm1
        have hE2 := hE1.ext hm1
        have hs2 := hm1.size
        have hCw2 : Mod (Mg 0) w1 w2 := Mod.ofExt hm1
        refine ⟨hCw2, ?_⟩
        rw [show List.range' 0 (Array.size _) = [0, 1, 2, 3, 4, 5, 6, 7, 8] from rfl]
        refine OD.q rfl rfl (Q1.move rfl) rfl rfl ?_
        refine OD.q rfl rfl (Q1.move rfl) rfl rfl ?_
        obtain ⟨x1, b3, o1, hx1, hr1, hl1, hu1, hw1⟩ := Sl.at' (P := Tryd.prog) f1 Tryd.underlying28 ti72 encKey_len (k := .i64) (n := ((k : Nat) : Int)) (k) (by omega) (by first | assumption | omega)
        refine OD.q rfl rfl (Q1.indexAddr rfl rfl hr1) rfl rfl ?_
        refine OD.q rfl rfl (Q1.loadN ti72 rfl (fun _ hc => hw1.keepG hc (by omega)) rfl) rfl rfl ?_
        refine OD.q rfl rfl (Q1.move rfl) rfl rfl ?_
        refine OD.q rfl rfl (Q1.move rfl) rfl rfl ?_
        obtain ⟨x2, b4, o2, hx2, hr2, hl2, hu2, hw2⟩ := Sl.at' (P := Tryd.prog) f2 Tryd.underlying28 ti72 encKey_len (k := .i64) (n := ((k : Nat) : Int)) (k) (by omega) (by first | assumption | omega)
        refine OD.q rfl rfl (Q1.indexAddr rfl rfl hr2) rfl rfl ?_
        refine OD.q rfl rfl (Q1.loadN ti72 rfl (fun _ hc => hw2.keepG hc (by omega)) rfl) rfl rfl ?_
        refine OD.qb rfl rfl (Q1.neStruct (by kernel_rfl) (eqS72 x1 x2) rfl rfl) rfl rfl ?_
        intro b5 hb3
        refine OD.nil ?_
        cases b5 with
        | true =>
          replace hb3 := ndec_t hb3
          refine r_cond_t rfl ?_
          refine r_seq ?_
          refine r_region ?_
          refine OL.q (Q1.assign rfl) rfl rfl ?_
          refine OL.nil ?_
          refine r_ret1 Tryd.func30 rfl rfl ?_
          exact Ret.mk ⟨⟨_, (by first | (have e := Ml.same_not hx1 hx2 (by assumption); simp [e]) | (have e := Ml.same_all hi (by omega) (by omega); simp [e]) | (have e : a ≠ b := (fun e => absurd (congrArg List.length e) (by omega)); simp [e]) | (exfalso; omega)), rfl⟩, hE2⟩
        | false =>
          replace hb3 := ndec_f hb3
          refine r_cond_f rfl ?_
          refine r_skip ?_
          refine r_inBlock ?_
          refine r_region ?_
          refine OL.q (Q1.move rfl) rfl rfl ?_
          refine OL.q (Q1.addI (((k + 1 : Nat) : Int)) rfl rfl (by omega)) rfl rfl ?_
          refine OL.q (Q1.assign rfl) rfl rfl ?_
          refine OL.nil ?_
          exact (ih1 _ _ _ ⟨(k + 1 : Nat), rfl, rfl, hE2, (by omega), f3, f4, (by first | exact Ml.same_take hi hx1 hx2 (by assumption) | (exfalso; omega))⟩ (by omega)).sub ⟨rfl, rfl, rfl, trivial⟩
      | false =>
        replace hb2 := of_decide_eq_false hb2.symm
        refine r_cond_f rfl ?_
        refine r_exit rfl ?_
        refine r_seq ?_
        refine r_region ?_
        refine OL.q (Q1.assign rfl) rfl rfl ?_
        refine OL.nil ?_
        refine r_ret1 Tryd.func30 rfl rfl ?_
        exact Ret.mk ⟨⟨_, (by first | (have e := Ml.same_not hx1 hx2 (by assumption); simp [e]) | (have e := Ml.same_all hi (by omega) (by omega); simp [e]) | (have e : a ≠ b := (fun e => absurd (congrArg List.length e) (by omega)); simp [e]) | (exfalso; omega)), rfl⟩, hE1⟩
set_option maxRecDepth 20000 in
set_option maxHeartbeats 4000000 in
theorem sameE_c {w0 : World}  {v_a : Value} {a : List Evt} {v_b : Value} {b : List Evt} (h_a : Sl encEvt w0 (Iv 0 w0.heap.size) v_a a) (h_b : Sl encEvt w0 (Iv 0 w0.heap.size) v_b b) :
    Calls Tryd.prog 20 #[v_a, v_b] w0 (Ret fun rv w1 => (∃ rb : Bool, rb = (decide (a = b)) ∧ rv = .bool rb) ∧ Ext w0 w1) := by
  have hE0 : Ext w0 w0 := Mod.refl _ _
  have hle1 := h_a.le
  have hle2 := h_b.le
  refine calls_enter Tryd.func20 rfl Tryd.ntmps20 rfl ?_
  refine r_seq ?_
  refine r_region ?_
  refine OL.q (Q1.assign rfl) rfl rfl ?_
  refine OL.nil ?_
  refine r_seq ?_
  refine r_seq ?_
  refine r_region ?_
  refine OL.q (Q1.move rfl) rfl rfl ?_
  refine OL.q (Q1.lenSl Tryd.underlying31 (h_a) rfl) rfl rfl ?_
  refine OL.q (Q1.move rfl) rfl rfl ?_
  refine OL.q (Q1.lenSl Tryd.underlying31 (h_b) rfl) rfl rfl ?_
  refine OL.qb (Q1.ne rfl rfl) rfl rfl ?_
  intro b1 hb1
  refine OL.nil ?_
  cases b1 with
  | true =>
    replace hb1 := bne_iff_ne.1 hb1.symm
    refine r_cond_t rfl ?_
    refine r_seq ?_
    refine r_region ?_
    refine OL.q (Q1.assign rfl) rfl rfl ?_
    refine OL.nil ?_
    refine r_ret1 Tryd.func20 rfl rfl ?_
    exact Ret.mk ⟨⟨_, (by first | (have e := Ml.same_not hx1 hx2 (by assumption); simp [e]) | (have e := Ml.same_all hi (by omega) (by omega); simp [e]) | (have e : a ≠ b := (fun e => absurd (congrArg List.length e) (by omega)); simp [e]) | (exfalso; omega)), rfl⟩, hE0⟩
  | false =>
    replace hb1 := bne_eq_false_iff_eq.1 hb1.symm
    refine r_cond_f rfl ?_
    refine r_skip ?_
    refine r_seq ?_
    refine r_seq ?_
    refine r_region ?_
    refine OL.q (Q1.assign rfl) rfl rfl ?_
    refine OL.nil ?_
    refine r_block ?_
    refine r_loop (I := fun m E W => ∃ (k : Nat), E = [(0, v_a), (1, v_b), (5, .int .i64 (((k : Nat) : Int)))] ∧ m = a.length - k ∧ Ext w0 W ∧ w0.heap.size ≤ W.heap.size ∧ Sl encEvt W (Iv 0 w0.heap.size) v_a a ∧ Sl encEvt W (Iv 0 w0.heap.size) v_b b ∧ (a.take k = b.take k)) ?_ ?_
    · refine ⟨_, _, ⟨(0 : Nat), rfl, rfl, hE0, Nat.le_refl _, h_a, h_b, (by rfl)⟩, ⟨rfl, rfl, rfl, trivial⟩⟩
    · rintro _ _ w1 ⟨k, rfl, rfl, hE1, hs1, f1, f2, hi⟩ ih1
      refine r_seq ?_
      refine r_seq ?_
      refine r_region ?_
      refine OL.q (Q1.move rfl) rfl rfl ?_
      refine OL.q (Q1.move rfl) rfl rfl ?_
      refine OL.q (Q1.lenSl Tryd.underlying31 (f1) rfl) rfl rfl ?_
      refine OL.qb (Q1.lt rfl rfl) rfl rfl ?_
      intro b2 hb2
      refine OL.nil ?_
      cases b2 with
      | true =>
        replace hb2 := of_decide_eq_true hb2.symm
        refine r_cond_t rfl ?_
        refine r_skip ?_
        refine r_seq ?_
        refine r_block ?_
        refine r_seq ?_
        refine r_draw1 (fun i => false) 9 (fun w' => Mod (Mg 0) w1 w') mixed (by kernel_rfl) ?_
        intro w2 hm1
        have f3 := f1.ext hm1
        have f4 := f2.ext hm1
        have hE2 := hE1.ext hm1
        have hs2 := hm1.size
        have hCw2 : Mod (Mg 0) w1 w2 := Mod.ofExt hm1
        refine ⟨hCw2, ?_⟩
        rw [show List.range' 0 (Array.size _) = [0, 1, 2, 3, 4, 5, 6, 7, 8] from rfl]
        refine OD.q rfl rfl (Q1.move rfl) rfl rfl ?_
        refine OD.q rfl rfl (Q1.move rfl) rfl rfl ?_
        obtain ⟨x1, b3, o1, hx1, hr1, hl1, hu1, hw1⟩ := Sl.at' (P := Tryd.prog) f1 Tryd.underlying31 ti50 encEvt_len (k := .i64) (n := ((k : Nat) : Int)) (k) (by omega) (by first | assumption | omega)
        refine OD.q rfl rfl (Q1.indexAddr rfl rfl hr1) rfl rfl ?_
        refine OD.q rfl rfl (Q1.loadN ti50 rfl (fun _ hc => hw1.keepG hc (by omega)) rfl) rfl rfl ?_
        refine OD.q rfl rfl (Q1.move rfl) rfl rfl ?_
        refine OD.q rfl rfl (Q1.move rfl) rfl rfl ?_
        obtain ⟨x2, b4, o2, hx2, hr2, hl2, hu2, hw2⟩ := Sl.at' (P := Tryd.prog) f2 Tryd.underlying31 ti50 encEvt_len (k := .i64) (n := ((k : Nat) : Int)) (k) (by omega) (by first | assumption | omega)
        refine OD.q rfl rfl (Q1.indexAddr rfl rfl hr2) rfl rfl ?_
        refine OD.q rfl rfl (Q1.loadN ti50 rfl (fun _ hc => hw2.keepG hc (by omega)) rfl) rfl rfl ?_
        refine OD.qb rfl rfl (Q1.neStruct (by kernel_rfl) (eqS50 x1 x2) rfl rfl) rfl rfl ?_
        intro b5 hb3
        refine OD.nil ?_
        cases b5 with
        | true =>
          replace hb3 := ndec_t hb3
          refine r_cond_t rfl ?_
          refine r_seq ?_
          refine r_region ?_
          refine OL.q (Q1.assign rfl) rfl rfl ?_
          refine OL.nil ?_
          refine r_ret1 Tryd.func20 rfl rfl ?_
          exact Ret.mk ⟨⟨_, (by first | (have e := Ml.same_not hx1 hx2 (by assumption); simp [e]) | (have e := Ml.same_all hi (by omega) (by omega); simp [e]) | (have e : a ≠ b := (fun e => absurd (congrArg List.length e) (by omega)); simp [e]) | (exfalso; omega)), rfl⟩, hE2⟩
        | false =>
          replace hb3 := ndec_f hb3
          refine r_cond_f rfl ?_
          refine r_skip ?_
          refine r_inBlock ?_
          refine r_region ?_
          refine OL.q (Q1.move rfl) rfl rfl ?_
          refine OL.q (Q1.addI (((k + 1 : Nat) : Int)) rfl rfl (by omega)) rfl rfl ?_
          refine OL.q (Q1.assign rfl) rfl rfl ?_
          refine OL.nil ?_
          exact (ih1 _ _ _ ⟨(k + 1 : Nat), rfl, rfl, hE2, (by omega), f3, f4, (by first | exact Ml.same_take hi hx1 hx2 (by assumption) | (exfalso; omega))⟩ (by omega)).sub ⟨rfl, rfl, rfl, trivial⟩
      | false =>
        replace hb2 := of_decide_eq_false hb2.symm
        refine r_cond_f rfl ?_
        refine r_exit rfl ?_
        refine r_seq ?_
        refine r_region ?_
        refine OL.q (Q1.assign rfl) rfl rfl ?_
        refine OL.nil ?_
        refine r_ret1 Tryd.func20 rfl rfl ?_
        exact Ret.mk ⟨⟨_, (by first | (have e := Ml.same_not hx1 hx2 (by assumption); simp [e]) | (have e := Ml.same_all hi (by omega) (by omega); simp [e]) | (have e : a ≠ b := (fun e => absurd (congrArg List.length e) (by omega)); simp [e]) | (exfalso; omega)), rfl⟩, hE1⟩
set_option maxRecDepth 20000 in
set_option maxHeartbeats 4000000 in
theorem sameC_c {w0 : World}  {c : Cfg} {v_c_words : Value} {v_c_cuts : Value} {d : Cfg} {v_d_words : Value} {v_d_cuts : Value} (h_c_words : Sl encS w0 (Iv 0 w0.heap.size) v_c_words c.words) (h_c_cuts : Sl encKey w0 (Iv 0 w0.heap.size) v_c_cuts c.cuts) (h_d_words : Sl encS w0 (Iv 0 w0.heap.size) v_d_words d.words) (h_d_cuts : Sl encKey w0 (Iv 0 w0.heap.size) v_d_cuts d.cuts) :
    Calls Tryd.prog 14 #[.agg #[v_c_words, v_c_cuts, .int .i64 c.workers, .int .i64 c.copies, .int .i64 c.slots, .int .i64 c.batch, .int .i64 c.lease, .int .i64 c.hedge, .int .i64 c.first, .int .i64 c.cap, .int .i64 c.jitter, .int .i64 c.net], .agg #[v_d_words, v_d_cuts, .int .i64 d.workers, .int .i64 d.copies, .int .i64 d.slots, .int .i64 d.batch, .int .i64 d.lease, .int .i64 d.hedge, .int .i64 d.first, .int .i64 d.cap, .int .i64 d.jitter, .int .i64 d.net]] w0 (Ret fun rv w1 => (∃ rb : Bool, rb = (decide (c = d)) ∧ rv = .bool rb) ∧ Ext w0 w1) := by
  have hle_c_words := h_c_words.le
  have hle_c_cuts := h_c_cuts.le
  have hle_d_words := h_d_words.le
  have hle_d_cuts := h_d_cuts.le
  have hS0 := St.start0 w0
  refine calls_enter Tryd.func14 rfl Tryd.ntmps14 rfl ?_
  refine r_seq ?_
  refine r_region ?_
  refine OL.act rfl rfl (AW.box [v_c_words, v_c_cuts, .int .i64 c.workers, .int .i64 c.copies, .int .i64 c.slots, .int .i64 c.batch, .int .i64 c.lease, .int .i64 c.hedge, .int .i64 c.first, .int .i64 c.cap, .int .i64 c.jitter, .int .i64 c.net] rfl rfl ?_)
  intro w1 b1 hm1 hb1 hz1 hk1
  have hS1 := hS0.ext hm1
  have hS2 : St (fun _ => False) (fun _ => False) w0 w1 [bkR b1 [v_c_words, v_c_cuts, .int .i64 c.workers, .int .i64 c.copies, .int .i64 c.slots, .int .i64 c.batch, .int .i64 c.lease, .int .i64 c.hedge, .int .i64 c.first, .int .i64 c.cap, .int .i64 c.jitter, .int .i64 c.net] 30] := hS0.newBk hm1 hb1 hk1
  refine OL.act rfl rfl (AW.box [v_d_words, v_d_cuts, .int .i64 d.workers, .int .i64 d.copies, .int .i64 d.slots, .int .i64 d.batch, .int .i64 d.lease, .int .i64 d.hedge, .int .i64 d.first, .int .i64 d.cap, .int .i64 d.jitter, .int .i64 d.net] rfl rfl ?_)
  intro w2 b2 hm2 hb2 hz2 hk2
  have hS3 := hS2.ext hm2
  have hS4 : St (fun _ => False) (fun _ => False) w0 w2 [bkR b1 [v_c_words, v_c_cuts, .int .i64 c.workers, .int .i64 c.copies, .int .i64 c.slots, .int .i64 c.batch, .int .i64 c.lease, .int .i64 c.hedge, .int .i64 c.first, .int .i64 c.cap, .int .i64 c.jitter, .int .i64 c.net] 30, bkR b2 [v_d_words, v_d_cuts, .int .i64 d.workers, .int .i64 d.copies, .int .i64 d.slots, .int .i64 d.batch, .int .i64 d.lease, .int .i64 d.hedge, .int .i64 d.first, .int .i64 d.cap, .int .i64 d.jitter, .int .i64 d.net] 30] := hS2.newBk hm2 hb2 hk2
  refine OL.q (Q1.assign rfl) rfl rfl ?_
  refine OL.nil ?_
  refine r_seq ?_
  refine r_region ?_
  refine OL.q (Q1.fieldAddr fl30_2 rfl) rfl rfl ?_
  have f1 := hS4.bk (i := 0) rfl
  refine OL.q (Q1.load1 ti3 rfl (fun _ e => e ▸ (f1.cell 2 _ rfl))) rfl rfl ?_
  refine OL.q (Q1.fieldAddr fl30_2 rfl) rfl rfl ?_
  have f2 := hS4.bk (i := 1) rfl
  refine OL.q (Q1.load1 ti3 rfl (fun _ e => e ▸ (f2.cell 2 _ rfl))) rfl rfl ?_
  refine OL.qb (Q1.eq rfl rfl) rfl rfl ?_
  intro b3 hb3
  refine OL.q (Q1.move rfl) rfl rfl ?_
  cases b3 with
  | true =>
    replace hb3 := eq_of_beq hb3.symm
    refine OL.q (Q1.fieldAddr fl30_3 rfl) rfl rfl ?_
    refine OL.q (Q1.load1 ti3 rfl (fun _ e => e ▸ (f1.cell 3 _ rfl))) rfl rfl ?_
    refine OL.q (Q1.fieldAddr fl30_3 rfl) rfl rfl ?_
    refine OL.q (Q1.load1 ti3 rfl (fun _ e => e ▸ (f2.cell 3 _ rfl))) rfl rfl ?_
    refine OL.qb (Q1.eq rfl rfl) rfl rfl ?_
    intro b4 hb4
    refine OL.q (Q1.pick_t rfl rfl) rfl rfl ?_
    refine OL.q (Q1.move rfl) rfl rfl ?_
    cases b4 with
    | true =>
      replace hb4 := eq_of_beq hb4.symm
      refine OL.q (Q1.fieldAddr fl30_4 rfl) rfl rfl ?_
      refine OL.q (Q1.load1 ti3 rfl (fun _ e => e ▸ (f1.cell 4 _ rfl))) rfl rfl ?_
      refine OL.q (Q1.fieldAddr fl30_4 rfl) rfl rfl ?_
      refine OL.q (Q1.load1 ti3 rfl (fun _ e => e ▸ (f2.cell 4 _ rfl))) rfl rfl ?_
      refine OL.qb (Q1.eq rfl rfl) rfl rfl ?_
      intro b5 hb5
      refine OL.q (Q1.pick_t rfl rfl) rfl rfl ?_
      refine OL.q (Q1.move rfl) rfl rfl ?_
      cases b5 with
      | true =>
        replace hb5 := eq_of_beq hb5.symm
        refine OL.q (Q1.fieldAddr fl30_5 rfl) rfl rfl ?_
        refine OL.q (Q1.load1 ti3 rfl (fun _ e => e ▸ (f1.cell 5 _ rfl))) rfl rfl ?_
        refine OL.q (Q1.fieldAddr fl30_5 rfl) rfl rfl ?_
        refine OL.q (Q1.load1 ti3 rfl (fun _ e => e ▸ (f2.cell 5 _ rfl))) rfl rfl ?_
        refine OL.qb (Q1.eq rfl rfl) rfl rfl ?_
        intro b6 hb6
        refine OL.q (Q1.pick_t rfl rfl) rfl rfl ?_
        refine OL.q (Q1.move rfl) rfl rfl ?_
        cases b6 with
        | true =>
          replace hb6 := eq_of_beq hb6.symm
          refine OL.q (Q1.fieldAddr fl30_6 rfl) rfl rfl ?_
          refine OL.q (Q1.load1 ti3 rfl (fun _ e => e ▸ (f1.cell 6 _ rfl))) rfl rfl ?_
          refine OL.q (Q1.fieldAddr fl30_6 rfl) rfl rfl ?_
          refine OL.q (Q1.load1 ti3 rfl (fun _ e => e ▸ (f2.cell 6 _ rfl))) rfl rfl ?_
          refine OL.qb (Q1.eq rfl rfl) rfl rfl ?_
          intro b7 hb7
          refine OL.q (Q1.pick_t rfl rfl) rfl rfl ?_
          refine OL.q (Q1.assign rfl) rfl rfl ?_
          refine OL.nil ?_
          refine r_seq ?_
          refine r_region ?_
          refine OL.q (Q1.fieldAddr fl30_7 rfl) rfl rfl ?_
          refine OL.q (Q1.load1 ti3 rfl (fun _ e => e ▸ (f1.cell 7 _ rfl))) rfl rfl ?_
          refine OL.q (Q1.fieldAddr fl30_7 rfl) rfl rfl ?_
          refine OL.q (Q1.load1 ti3 rfl (fun _ e => e ▸ (f2.cell 7 _ rfl))) rfl rfl ?_
          refine OL.qb (Q1.eq rfl rfl) rfl rfl ?_
          intro b8 hb8
          refine OL.q (Q1.move rfl) rfl rfl ?_
          cases b8 with
          | true =>
            replace hb8 := eq_of_beq hb8.symm
            refine OL.q (Q1.fieldAddr fl30_8 rfl) rfl rfl ?_
            refine OL.q (Q1.load1 ti3 rfl (fun _ e => e ▸ (f1.cell 8 _ rfl))) rfl rfl ?_
            refine OL.q (Q1.fieldAddr fl30_8 rfl) rfl rfl ?_
            refine OL.q (Q1.load1 ti3 rfl (fun _ e => e ▸ (f2.cell 8 _ rfl))) rfl rfl ?_
            refine OL.qb (Q1.eq rfl rfl) rfl rfl ?_
            intro b9 hb9
            refine OL.q (Q1.pick_t rfl rfl) rfl rfl ?_
            refine OL.q (Q1.move rfl) rfl rfl ?_
            cases b9 with
            | true =>
              replace hb9 := eq_of_beq hb9.symm
              refine OL.q (Q1.fieldAddr fl30_9 rfl) rfl rfl ?_
              refine OL.q (Q1.load1 ti3 rfl (fun _ e => e ▸ (f1.cell 9 _ rfl))) rfl rfl ?_
              refine OL.q (Q1.fieldAddr fl30_9 rfl) rfl rfl ?_
              refine OL.q (Q1.load1 ti3 rfl (fun _ e => e ▸ (f2.cell 9 _ rfl))) rfl rfl ?_
              refine OL.qb (Q1.eq rfl rfl) rfl rfl ?_
              intro b10 hb10
              refine OL.q (Q1.pick_t rfl rfl) rfl rfl ?_
              refine OL.q (Q1.move rfl) rfl rfl ?_
              cases b10 with
              | true =>
                replace hb10 := eq_of_beq hb10.symm
                refine OL.q (Q1.fieldAddr fl30_10 rfl) rfl rfl ?_
                refine OL.q (Q1.load1 ti3 rfl (fun _ e => e ▸ (f1.cell 10 _ rfl))) rfl rfl ?_
                refine OL.q (Q1.fieldAddr fl30_10 rfl) rfl rfl ?_
                refine OL.q (Q1.load1 ti3 rfl (fun _ e => e ▸ (f2.cell 10 _ rfl))) rfl rfl ?_
                refine OL.qb (Q1.eq rfl rfl) rfl rfl ?_
                intro b11 hb11
                refine OL.q (Q1.pick_t rfl rfl) rfl rfl ?_
                refine OL.q (Q1.move rfl) rfl rfl ?_
                cases b11 with
                | true =>
                  replace hb11 := eq_of_beq hb11.symm
                  refine OL.q (Q1.fieldAddr fl30_11 rfl) rfl rfl ?_
                  refine OL.q (Q1.load1 ti3 rfl (fun _ e => e ▸ (f1.cell 11 _ rfl))) rfl rfl ?_
                  refine OL.q (Q1.fieldAddr fl30_11 rfl) rfl rfl ?_
                  refine OL.q (Q1.load1 ti3 rfl (fun _ e => e ▸ (f2.cell 11 _ rfl))) rfl rfl ?_
                  refine OL.qb (Q1.eq rfl rfl) rfl rfl ?_
                  intro b12 hb12
                  refine OL.q (Q1.pick_t rfl rfl) rfl rfl ?_
                  refine OL.q (Q1.assign rfl) rfl rfl ?_
                  refine OL.nil ?_
                  refine r_seq ?_
                  refine r_region ?_
                  refine OL.q (Q1.move rfl) rfl rfl ?_
                  refine OL.q (Q1.move rfl) rfl rfl ?_
                  cases b7 with
                  | true =>
                    replace hb7 := eq_of_beq hb7.symm
                    refine OL.q (Q1.move rfl) rfl rfl ?_
                    refine OL.q (Q1.pick_t rfl rfl) rfl rfl ?_
                    refine OL.q (Q1.move rfl) rfl rfl ?_
                    cases b12 with
                    | true =>
                      replace hb12 := eq_of_beq hb12.symm
                      refine OL.q (Q1.fieldAddr fl30_0 rfl) rfl rfl ?_
                      refine OL.q (Q1.load1 ti27 rfl (fun _ e => e ▸ (f1.cell 0 _ rfl))) rfl rfl ?_
                      refine OL.q (Q1.fieldAddr fl30_0 rfl) rfl rfl ?_
                      refine OL.q (Q1.load1 ti27 rfl (fun _ e => e ▸ (f2.cell 0 _ rfl))) rfl rfl ?_
                      have f3 := hS4.out h_c_words (fun _ _ h => h)
                      have f4 := hS4.out h_d_words (fun _ _ h => h)
                      refine OL.act rfl rfl (AW.callF cl21 rfl (sameT_c (w0 := w2) (a := c.words) (b := d.words)  (f3.iv (Nat.zero_le _) hS4.mod.size) (f4.iv (Nat.zero_le _) hS4.mod.size)) ?_)
                      rintro _ w3 ⟨⟨b13, hb13, rfl⟩, hm3⟩
                      have hS5 := hS4.ext hm3
                      refine OL.q (Q1.pick_t rfl rfl) rfl rfl ?_
                      refine OL.q (Q1.move rfl) rfl rfl ?_
                      cases b13 with
                      | true =>
                        replace hb13 := hb13.symm
                        refine OL.q (Q1.fieldAddr fl30_1 rfl) rfl rfl ?_
                        have f5 := hS5.bk (i := 0) rfl
                        refine OL.q (Q1.load1 ti28 rfl (fun _ e => e ▸ (f5.cell 1 _ rfl))) rfl rfl ?_
                        refine OL.q (Q1.fieldAddr fl30_1 rfl) rfl rfl ?_
                        have f6 := hS5.bk (i := 1) rfl
                        refine OL.q (Q1.load1 ti28 rfl (fun _ e => e ▸ (f6.cell 1 _ rfl))) rfl rfl ?_
                        have f7 := hS5.out h_c_cuts (fun _ _ h => h)
                        have f8 := hS5.out h_d_cuts (fun _ _ h => h)
                        refine OL.act rfl rfl (AW.callF cl30 rfl (sameK_c (w0 := w3) (a := c.cuts) (b := d.cuts)  (f7.iv (Nat.zero_le _) hS5.mod.size) (f8.iv (Nat.zero_le _) hS5.mod.size)) ?_)
                        rintro _ w4 ⟨⟨b14, hb14, rfl⟩, hm4⟩
                        have hS6 := hS5.ext hm4
                        refine OL.q (Q1.pick_t rfl rfl) rfl rfl ?_
                        refine OL.q (Q1.assign rfl) rfl rfl ?_
                        refine OL.nil ?_
                        refine r_ret1 Tryd.func14 rfl rfl ?_
                        exact Ret.mk ⟨⟨_, (by first | exact cfg_same (by assumption) (by assumption) (by assumption) (by assumption) (by assumption) (by assumption) (by assumption) (by assumption) (by assumption) (by assumption) (by assumption) (by assumption) | exact (decide_eq_false (fun e => absurd (congrArg Cfg.words e) (of_decide_eq_false (by assumption)))).symm | exact (decide_eq_false (fun e => absurd (congrArg Cfg.workers e) (by assumption))).symm | exact (decide_eq_false (fun e => absurd (congrArg Cfg.copies e) (by assumption))).symm | exact (decide_eq_false (fun e => absurd (congrArg Cfg.slots e) (by assumption))).symm | exact (decide_eq_false (fun e => absurd (congrArg Cfg.batch e) (by assumption))).symm | exact (decide_eq_false (fun e => absurd (congrArg Cfg.lease e) (by assumption))).symm | exact (decide_eq_false (fun e => absurd (congrArg Cfg.hedge e) (by assumption))).symm | exact (decide_eq_false (fun e => absurd (congrArg Cfg.first e) (by assumption))).symm | exact (decide_eq_false (fun e => absurd (congrArg Cfg.cap e) (by assumption))).symm | exact (decide_eq_false (fun e => absurd (congrArg Cfg.jitter e) (by assumption))).symm | exact (decide_eq_false (fun e => absurd (congrArg Cfg.net e) (by assumption))).symm | (exfalso; omega)), rfl⟩, hS6.mod⟩
                      | false =>
                        replace hb13 := hb13.symm
                        refine OL.sk rfl rfl ?_
                        refine OL.sk rfl rfl ?_
                        refine OL.sk rfl rfl ?_
                        refine OL.sk rfl rfl ?_
                        refine OL.sk rfl rfl ?_
                        refine OL.q (Q1.pick_f rfl rfl) rfl rfl ?_
                        refine OL.q (Q1.assign rfl) rfl rfl ?_
                        refine OL.nil ?_
                        refine r_ret1 Tryd.func14 rfl rfl ?_
                        exact Ret.mk ⟨⟨_, (by first | exact cfg_same (by assumption) (by assumption) (by assumption) (by assumption) (by assumption) (by assumption) (by assumption) (by assumption) (by assumption) (by assumption) (by assumption) (by assumption) | exact (decide_eq_false (fun e => absurd (congrArg Cfg.words e) (of_decide_eq_false (by assumption)))).symm | exact (decide_eq_false (fun e => absurd (congrArg Cfg.workers e) (by assumption))).symm | exact (decide_eq_false (fun e => absurd (congrArg Cfg.copies e) (by assumption))).symm | exact (decide_eq_false (fun e => absurd (congrArg Cfg.slots e) (by assumption))).symm | exact (decide_eq_false (fun e => absurd (congrArg Cfg.batch e) (by assumption))).symm | exact (decide_eq_false (fun e => absurd (congrArg Cfg.lease e) (by assumption))).symm | exact (decide_eq_false (fun e => absurd (congrArg Cfg.hedge e) (by assumption))).symm | exact (decide_eq_false (fun e => absurd (congrArg Cfg.first e) (by assumption))).symm | exact (decide_eq_false (fun e => absurd (congrArg Cfg.cap e) (by assumption))).symm | exact (decide_eq_false (fun e => absurd (congrArg Cfg.jitter e) (by assumption))).symm | exact (decide_eq_false (fun e => absurd (congrArg Cfg.net e) (by assumption))).symm | (exfalso; omega)), rfl⟩, hS5.mod⟩
                    | false =>
                      replace hb12 := ne_of_beq_false hb12.symm
                      refine OL.sk rfl rfl ?_
                      refine OL.sk rfl rfl ?_
                      refine OL.sk rfl rfl ?_
                      refine OL.sk rfl rfl ?_
                      refine OL.sk rfl rfl ?_
                      refine OL.q (Q1.pick_f rfl rfl) rfl rfl ?_
                      refine OL.q (Q1.move rfl) rfl rfl ?_
                      refine OL.sk rfl rfl ?_
                      refine OL.sk rfl rfl ?_
                      refine OL.sk rfl rfl ?_
                      refine OL.sk rfl rfl ?_
                      refine OL.sk rfl rfl ?_
                      refine OL.q (Q1.pick_f rfl rfl) rfl rfl ?_
                      refine OL.q (Q1.assign rfl) rfl rfl ?_
                      refine OL.nil ?_
                      refine r_ret1 Tryd.func14 rfl rfl ?_
                      exact Ret.mk ⟨⟨_, (by first | exact cfg_same (by assumption) (by assumption) (by assumption) (by assumption) (by assumption) (by assumption) (by assumption) (by assumption) (by assumption) (by assumption) (by assumption) (by assumption) | exact (decide_eq_false (fun e => absurd (congrArg Cfg.words e) (of_decide_eq_false (by assumption)))).symm | exact (decide_eq_false (fun e => absurd (congrArg Cfg.workers e) (by assumption))).symm | exact (decide_eq_false (fun e => absurd (congrArg Cfg.copies e) (by assumption))).symm | exact (decide_eq_false (fun e => absurd (congrArg Cfg.slots e) (by assumption))).symm | exact (decide_eq_false (fun e => absurd (congrArg Cfg.batch e) (by assumption))).symm | exact (decide_eq_false (fun e => absurd (congrArg Cfg.lease e) (by assumption))).symm | exact (decide_eq_false (fun e => absurd (congrArg Cfg.hedge e) (by assumption))).symm | exact (decide_eq_false (fun e => absurd (congrArg Cfg.first e) (by assumption))).symm | exact (decide_eq_false (fun e => absurd (congrArg Cfg.cap e) (by assumption))).symm | exact (decide_eq_false (fun e => absurd (congrArg Cfg.jitter e) (by assumption))).symm | exact (decide_eq_false (fun e => absurd (congrArg Cfg.net e) (by assumption))).symm | (exfalso; omega)), rfl⟩, hS4.mod⟩
                  | false =>
                    replace hb7 := ne_of_beq_false hb7.symm
                    refine OL.sk rfl rfl ?_
                    refine OL.q (Q1.pick_f rfl rfl) rfl rfl ?_
                    refine OL.q (Q1.move rfl) rfl rfl ?_
                    refine OL.sk rfl rfl ?_
                    refine OL.sk rfl rfl ?_
                    refine OL.sk rfl rfl ?_
                    refine OL.sk rfl rfl ?_
                    refine OL.sk rfl rfl ?_
                    refine OL.q (Q1.pick_f rfl rfl) rfl rfl ?_
                    refine OL.q (Q1.move rfl) rfl rfl ?_
                    refine OL.sk rfl rfl ?_
                    refine OL.sk rfl rfl ?_
                    refine OL.sk rfl rfl ?_
                    refine OL.sk rfl rfl ?_
                    refine OL.sk rfl rfl ?_
                    refine OL.q (Q1.pick_f rfl rfl) rfl rfl ?_
                    refine OL.q (Q1.assign rfl) rfl rfl ?_
                    refine OL.nil ?_
                    refine r_ret1 Tryd.func14 rfl rfl ?_
                    exact Ret.mk ⟨⟨_, (by first | exact cfg_same (by assumption) (by assumption) (by assumption) (by assumption) (by assumption) (by assumption) (by assumption) (by assumption) (by assumption) (by assumption) (by assumption) (by assumption) | exact (decide_eq_false (fun e => absurd (congrArg Cfg.words e) (of_decide_eq_false (by assumption)))).symm | exact (decide_eq_false (fun e => absurd (congrArg Cfg.workers e) (by assumption))).symm | exact (decide_eq_false (fun e => absurd (congrArg Cfg.copies e) (by assumption))).symm | exact (decide_eq_false (fun e => absurd (congrArg Cfg.slots e) (by assumption))).symm | exact (decide_eq_false (fun e => absurd (congrArg Cfg.batch e) (by assumption))).symm | exact (decide_eq_false (fun e => absurd (congrArg Cfg.lease e) (by assumption))).symm | exact (decide_eq_false (fun e => absurd (congrArg Cfg.hedge e) (by assumption))).symm | exact (decide_eq_false (fun e => absurd (congrArg Cfg.first e) (by assumption))).symm | exact (decide_eq_false (fun e => absurd (congrArg Cfg.cap e) (by assumption))).symm | exact (decide_eq_false (fun e => absurd (congrArg Cfg.jitter e) (by assumption))).symm | exact (decide_eq_false (fun e => absurd (congrArg Cfg.net e) (by assumption))).symm | (exfalso; omega)), rfl⟩, hS4.mod⟩
                | false =>
                  replace hb11 := ne_of_beq_false hb11.symm
                  refine OL.sk rfl rfl ?_
                  refine OL.sk rfl rfl ?_
                  refine OL.sk rfl rfl ?_
                  refine OL.sk rfl rfl ?_
                  refine OL.sk rfl rfl ?_
                  refine OL.q (Q1.pick_f rfl rfl) rfl rfl ?_
                  refine OL.q (Q1.assign rfl) rfl rfl ?_
                  refine OL.nil ?_
                  refine r_seq ?_
                  refine r_region ?_
                  refine OL.q (Q1.move rfl) rfl rfl ?_
                  refine OL.q (Q1.move rfl) rfl rfl ?_
                  cases b7 with
                  | true =>
                    replace hb7 := eq_of_beq hb7.symm
                    refine OL.q (Q1.move rfl) rfl rfl ?_
                    refine OL.q (Q1.pick_t rfl rfl) rfl rfl ?_
                    refine OL.q (Q1.move rfl) rfl rfl ?_
                    refine OL.sk rfl rfl ?_
                    refine OL.sk rfl rfl ?_
                    refine OL.sk rfl rfl ?_
                    refine OL.sk rfl rfl ?_
                    refine OL.sk rfl rfl ?_
                    refine OL.q (Q1.pick_f rfl rfl) rfl rfl ?_
                    refine OL.q (Q1.move rfl) rfl rfl ?_
                    refine OL.sk rfl rfl ?_
                    refine OL.sk rfl rfl ?_
                    refine OL.sk rfl rfl ?_
                    refine OL.sk rfl rfl ?_
                    refine OL.sk rfl rfl ?_
                    refine OL.q (Q1.pick_f rfl rfl) rfl rfl ?_
                    refine OL.q (Q1.assign rfl) rfl rfl ?_
                    refine OL.nil ?_
                    refine r_ret1 Tryd.func14 rfl rfl ?_
                    exact Ret.mk ⟨⟨_, (by first | exact cfg_same (by assumption) (by assumption) (by assumption) (by assumption) (by assumption) (by assumption) (by assumption) (by assumption) (by assumption) (by assumption) (by assumption) (by assumption) | exact (decide_eq_false (fun e => absurd (congrArg Cfg.words e) (of_decide_eq_false (by assumption)))).symm | exact (decide_eq_false (fun e => absurd (congrArg Cfg.workers e) (by assumption))).symm | exact (decide_eq_false (fun e => absurd (congrArg Cfg.copies e) (by assumption))).symm | exact (decide_eq_false (fun e => absurd (congrArg Cfg.slots e) (by assumption))).symm | exact (decide_eq_false (fun e => absurd (congrArg Cfg.batch e) (by assumption))).symm | exact (decide_eq_false (fun e => absurd (congrArg Cfg.lease e) (by assumption))).symm | exact (decide_eq_false (fun e => absurd (congrArg Cfg.hedge e) (by assumption))).symm | exact (decide_eq_false (fun e => absurd (congrArg Cfg.first e) (by assumption))).symm | exact (decide_eq_false (fun e => absurd (congrArg Cfg.cap e) (by assumption))).symm | exact (decide_eq_false (fun e => absurd (congrArg Cfg.jitter e) (by assumption))).symm | exact (decide_eq_false (fun e => absurd (congrArg Cfg.net e) (by assumption))).symm | (exfalso; omega)), rfl⟩, hS4.mod⟩
                  | false =>
                    replace hb7 := ne_of_beq_false hb7.symm
                    refine OL.sk rfl rfl ?_
                    refine OL.q (Q1.pick_f rfl rfl) rfl rfl ?_
                    refine OL.q (Q1.move rfl) rfl rfl ?_
                    refine OL.sk rfl rfl ?_
                    refine OL.sk rfl rfl ?_
                    refine OL.sk rfl rfl ?_
                    refine OL.sk rfl rfl ?_
                    refine OL.sk rfl rfl ?_
                    refine OL.q (Q1.pick_f rfl rfl) rfl rfl ?_
                    refine OL.q (Q1.move rfl) rfl rfl ?_
                    refine OL.sk rfl rfl ?_
                    refine OL.sk rfl rfl ?_
                    refine OL.sk rfl rfl ?_
                    refine OL.sk rfl rfl ?_
                    refine OL.sk rfl rfl ?_
                    refine OL.q (Q1.pick_f rfl rfl) rfl rfl ?_
                    refine OL.q (Q1.assign rfl) rfl rfl ?_
                    refine OL.nil ?_
                    refine r_ret1 Tryd.func14 rfl rfl ?_
                    exact Ret.mk ⟨⟨_, (by first | exact cfg_same (by assumption) (by assumption) (by assumption) (by assumption) (by assumption) (by assumption) (by assumption) (by assumption) (by assumption) (by assumption) (by assumption) (by assumption) | exact (decide_eq_false (fun e => absurd (congrArg Cfg.words e) (of_decide_eq_false (by assumption)))).symm | exact (decide_eq_false (fun e => absurd (congrArg Cfg.workers e) (by assumption))).symm | exact (decide_eq_false (fun e => absurd (congrArg Cfg.copies e) (by assumption))).symm | exact (decide_eq_false (fun e => absurd (congrArg Cfg.slots e) (by assumption))).symm | exact (decide_eq_false (fun e => absurd (congrArg Cfg.batch e) (by assumption))).symm | exact (decide_eq_false (fun e => absurd (congrArg Cfg.lease e) (by assumption))).symm | exact (decide_eq_false (fun e => absurd (congrArg Cfg.hedge e) (by assumption))).symm | exact (decide_eq_false (fun e => absurd (congrArg Cfg.first e) (by assumption))).symm | exact (decide_eq_false (fun e => absurd (congrArg Cfg.cap e) (by assumption))).symm | exact (decide_eq_false (fun e => absurd (congrArg Cfg.jitter e) (by assumption))).symm | exact (decide_eq_false (fun e => absurd (congrArg Cfg.net e) (by assumption))).symm | (exfalso; omega)), rfl⟩, hS4.mod⟩
              | false =>
                replace hb10 := ne_of_beq_false hb10.symm
                refine OL.sk rfl rfl ?_
                refine OL.sk rfl rfl ?_
                refine OL.sk rfl rfl ?_
                refine OL.sk rfl rfl ?_
                refine OL.sk rfl rfl ?_
                refine OL.q (Q1.pick_f rfl rfl) rfl rfl ?_
                refine OL.q (Q1.move rfl) rfl rfl ?_
                refine OL.sk rfl rfl ?_
                refine OL.sk rfl rfl ?_
                refine OL.sk rfl rfl ?_
                refine OL.sk rfl rfl ?_
                refine OL.sk rfl rfl ?_
                refine OL.q (Q1.pick_f rfl rfl) rfl rfl ?_
                refine OL.q (Q1.assign rfl) rfl rfl ?_
                refine OL.nil ?_
                refine r_seq ?_
                refine r_region ?_
                refine OL.q (Q1.move rfl) rfl rfl ?_
                refine OL.q (Q1.move rfl) rfl rfl ?_
                cases b7 with
                | true =>
                  replace hb7 := eq_of_beq hb7.symm
                  refine OL.q (Q1.move rfl) rfl rfl ?_
                  refine OL.q (Q1.pick_t rfl rfl) rfl rfl ?_
                  refine OL.q (Q1.move rfl) rfl rfl ?_
                  refine OL.sk rfl rfl ?_
                  refine OL.sk rfl rfl ?_
                  refine OL.sk rfl rfl ?_
                  refine OL.sk rfl rfl ?_
                  refine OL.sk rfl rfl ?_
                  refine OL.q (Q1.pick_f rfl rfl) rfl rfl ?_
                  refine OL.q (Q1.move rfl) rfl rfl ?_
                  refine OL.sk rfl rfl ?_
                  refine OL.sk rfl rfl ?_
                  refine OL.sk rfl rfl ?_
                  refine OL.sk rfl rfl ?_
                  refine OL.sk rfl rfl ?_
                  refine OL.q (Q1.pick_f rfl rfl) rfl rfl ?_
                  refine OL.q (Q1.assign rfl) rfl rfl ?_
                  refine OL.nil ?_
                  refine r_ret1 Tryd.func14 rfl rfl ?_
                  exact Ret.mk ⟨⟨_, (by first | exact cfg_same (by assumption) (by assumption) (by assumption) (by assumption) (by assumption) (by assumption) (by assumption) (by assumption) (by assumption) (by assumption) (by assumption) (by assumption) | exact (decide_eq_false (fun e => absurd (congrArg Cfg.words e) (of_decide_eq_false (by assumption)))).symm | exact (decide_eq_false (fun e => absurd (congrArg Cfg.workers e) (by assumption))).symm | exact (decide_eq_false (fun e => absurd (congrArg Cfg.copies e) (by assumption))).symm | exact (decide_eq_false (fun e => absurd (congrArg Cfg.slots e) (by assumption))).symm | exact (decide_eq_false (fun e => absurd (congrArg Cfg.batch e) (by assumption))).symm | exact (decide_eq_false (fun e => absurd (congrArg Cfg.lease e) (by assumption))).symm | exact (decide_eq_false (fun e => absurd (congrArg Cfg.hedge e) (by assumption))).symm | exact (decide_eq_false (fun e => absurd (congrArg Cfg.first e) (by assumption))).symm | exact (decide_eq_false (fun e => absurd (congrArg Cfg.cap e) (by assumption))).symm | exact (decide_eq_false (fun e => absurd (congrArg Cfg.jitter e) (by assumption))).symm | exact (decide_eq_false (fun e => absurd (congrArg Cfg.net e) (by assumption))).symm | (exfalso; omega)), rfl⟩, hS4.mod⟩
                | false =>
                  replace hb7 := ne_of_beq_false hb7.symm
                  refine OL.sk rfl rfl ?_
                  refine OL.q (Q1.pick_f rfl rfl) rfl rfl ?_
                  refine OL.q (Q1.move rfl) rfl rfl ?_
                  refine OL.sk rfl rfl ?_
                  refine OL.sk rfl rfl ?_
                  refine OL.sk rfl rfl ?_
                  refine OL.sk rfl rfl ?_
                  refine OL.sk rfl rfl ?_
                  refine OL.q (Q1.pick_f rfl rfl) rfl rfl ?_
                  refine OL.q (Q1.move rfl) rfl rfl ?_
                  refine OL.sk rfl rfl ?_
                  refine OL.sk rfl rfl ?_
                  refine OL.sk rfl rfl ?_
                  refine OL.sk rfl rfl ?_
                  refine OL.sk rfl rfl ?_
                  refine OL.q (Q1.pick_f rfl rfl) rfl rfl ?_
                  refine OL.q (Q1.assign rfl) rfl rfl ?_
                  refine OL.nil ?_
                  refine r_ret1 Tryd.func14 rfl rfl ?_
                  exact Ret.mk ⟨⟨_, (by first | exact cfg_same (by assumption) (by assumption) (by assumption) (by assumption) (by assumption) (by assumption) (by assumption) (by assumption) (by assumption) (by assumption) (by assumption) (by assumption) | exact (decide_eq_false (fun e => absurd (congrArg Cfg.words e) (of_decide_eq_false (by assumption)))).symm | exact (decide_eq_false (fun e => absurd (congrArg Cfg.workers e) (by assumption))).symm | exact (decide_eq_false (fun e => absurd (congrArg Cfg.copies e) (by assumption))).symm | exact (decide_eq_false (fun e => absurd (congrArg Cfg.slots e) (by assumption))).symm | exact (decide_eq_false (fun e => absurd (congrArg Cfg.batch e) (by assumption))).symm | exact (decide_eq_false (fun e => absurd (congrArg Cfg.lease e) (by assumption))).symm | exact (decide_eq_false (fun e => absurd (congrArg Cfg.hedge e) (by assumption))).symm | exact (decide_eq_false (fun e => absurd (congrArg Cfg.first e) (by assumption))).symm | exact (decide_eq_false (fun e => absurd (congrArg Cfg.cap e) (by assumption))).symm | exact (decide_eq_false (fun e => absurd (congrArg Cfg.jitter e) (by assumption))).symm | exact (decide_eq_false (fun e => absurd (congrArg Cfg.net e) (by assumption))).symm | (exfalso; omega)), rfl⟩, hS4.mod⟩
            | false =>
              replace hb9 := ne_of_beq_false hb9.symm
              refine OL.sk rfl rfl ?_
              refine OL.sk rfl rfl ?_
              refine OL.sk rfl rfl ?_
              refine OL.sk rfl rfl ?_
              refine OL.sk rfl rfl ?_
              refine OL.q (Q1.pick_f rfl rfl) rfl rfl ?_
              refine OL.q (Q1.move rfl) rfl rfl ?_
              refine OL.sk rfl rfl ?_
              refine OL.sk rfl rfl ?_
              refine OL.sk rfl rfl ?_
              refine OL.sk rfl rfl ?_
              refine OL.sk rfl rfl ?_
              refine OL.q (Q1.pick_f rfl rfl) rfl rfl ?_
              refine OL.q (Q1.move rfl) rfl rfl ?_
              refine OL.sk rfl rfl ?_
              refine OL.sk rfl rfl ?_
              refine OL.sk rfl rfl ?_
              refine OL.sk rfl rfl ?_
              refine OL.sk rfl rfl ?_
              refine OL.q (Q1.pick_f rfl rfl) rfl rfl ?_
              refine OL.q (Q1.assign rfl) rfl rfl ?_
              refine OL.nil ?_
              refine r_seq ?_
              refine r_region ?_
              refine OL.q (Q1.move rfl) rfl rfl ?_
              refine OL.q (Q1.move rfl) rfl rfl ?_
              cases b7 with
              | true =>
                replace hb7 := eq_of_beq hb7.symm
                refine OL.q (Q1.move rfl) rfl rfl ?_
                refine OL.q (Q1.pick_t rfl rfl) rfl rfl ?_
                refine OL.q (Q1.move rfl) rfl rfl ?_
                refine OL.sk rfl rfl ?_
                refine OL.sk rfl rfl ?_
                refine OL.sk rfl rfl ?_
                refine OL.sk rfl rfl ?_
                refine OL.sk rfl rfl ?_
                refine OL.q (Q1.pick_f rfl rfl) rfl rfl ?_
                refine OL.q (Q1.move rfl) rfl rfl ?_
                refine OL.sk rfl rfl ?_
                refine OL.sk rfl rfl ?_
                refine OL.sk rfl rfl ?_
                refine OL.sk rfl rfl ?_
                refine OL.sk rfl rfl ?_
                refine OL.q (Q1.pick_f rfl rfl) rfl rfl ?_
                refine OL.q (Q1.assign rfl) rfl rfl ?_
                refine OL.nil ?_
                refine r_ret1 Tryd.func14 rfl rfl ?_
                exact Ret.mk ⟨⟨_, (by first | exact cfg_same (by assumption) (by assumption) (by assumption) (by assumption) (by assumption) (by assumption) (by assumption) (by assumption) (by assumption) (by assumption) (by assumption) (by assumption) | exact (decide_eq_false (fun e => absurd (congrArg Cfg.words e) (of_decide_eq_false (by assumption)))).symm | exact (decide_eq_false (fun e => absurd (congrArg Cfg.workers e) (by assumption))).symm | exact (decide_eq_false (fun e => absurd (congrArg Cfg.copies e) (by assumption))).symm | exact (decide_eq_false (fun e => absurd (congrArg Cfg.slots e) (by assumption))).symm | exact (decide_eq_false (fun e => absurd (congrArg Cfg.batch e) (by assumption))).symm | exact (decide_eq_false (fun e => absurd (congrArg Cfg.lease e) (by assumption))).symm | exact (decide_eq_false (fun e => absurd (congrArg Cfg.hedge e) (by assumption))).symm | exact (decide_eq_false (fun e => absurd (congrArg Cfg.first e) (by assumption))).symm | exact (decide_eq_false (fun e => absurd (congrArg Cfg.cap e) (by assumption))).symm | exact (decide_eq_false (fun e => absurd (congrArg Cfg.jitter e) (by assumption))).symm | exact (decide_eq_false (fun e => absurd (congrArg Cfg.net e) (by assumption))).symm | (exfalso; omega)), rfl⟩, hS4.mod⟩
              | false =>
                replace hb7 := ne_of_beq_false hb7.symm
                refine OL.sk rfl rfl ?_
                refine OL.q (Q1.pick_f rfl rfl) rfl rfl ?_
                refine OL.q (Q1.move rfl) rfl rfl ?_
                refine OL.sk rfl rfl ?_
                refine OL.sk rfl rfl ?_
                refine OL.sk rfl rfl ?_
                refine OL.sk rfl rfl ?_
                refine OL.sk rfl rfl ?_
                refine OL.q (Q1.pick_f rfl rfl) rfl rfl ?_
                refine OL.q (Q1.move rfl) rfl rfl ?_
                refine OL.sk rfl rfl ?_
                refine OL.sk rfl rfl ?_
                refine OL.sk rfl rfl ?_
                refine OL.sk rfl rfl ?_
                refine OL.sk rfl rfl ?_
                refine OL.q (Q1.pick_f rfl rfl) rfl rfl ?_
                refine OL.q (Q1.assign rfl) rfl rfl ?_
                refine OL.nil ?_
                refine r_ret1 Tryd.func14 rfl rfl ?_
                exact Ret.mk ⟨⟨_, (by first | exact cfg_same (by assumption) (by assumption) (by assumption) (by assumption) (by assumption) (by assumption) (by assumption) (by assumption) (by assumption) (by assumption) (by assumption) (by assumption) | exact (decide_eq_false (fun e => absurd (congrArg Cfg.words e) (of_decide_eq_false (by assumption)))).symm | exact (decide_eq_false (fun e => absurd (congrArg Cfg.workers e) (by assumption))).symm | exact (decide_eq_false (fun e => absurd (congrArg Cfg.copies e) (by assumption))).symm | exact (decide_eq_false (fun e => absurd (congrArg Cfg.slots e) (by assumption))).symm | exact (decide_eq_false (fun e => absurd (congrArg Cfg.batch e) (by assumption))).symm | exact (decide_eq_false (fun e => absurd (congrArg Cfg.lease e) (by assumption))).symm | exact (decide_eq_false (fun e => absurd (congrArg Cfg.hedge e) (by assumption))).symm | exact (decide_eq_false (fun e => absurd (congrArg Cfg.first e) (by assumption))).symm | exact (decide_eq_false (fun e => absurd (congrArg Cfg.cap e) (by assumption))).symm | exact (decide_eq_false (fun e => absurd (congrArg Cfg.jitter e) (by assumption))).symm | exact (decide_eq_false (fun e => absurd (congrArg Cfg.net e) (by assumption))).symm | (exfalso; omega)), rfl⟩, hS4.mod⟩
          | false =>
            replace hb8 := ne_of_beq_false hb8.symm
            refine OL.sk rfl rfl ?_
            refine OL.sk rfl rfl ?_
            refine OL.sk rfl rfl ?_
            refine OL.sk rfl rfl ?_
            refine OL.sk rfl rfl ?_
            refine OL.q (Q1.pick_f rfl rfl) rfl rfl ?_
            refine OL.q (Q1.move rfl) rfl rfl ?_
            refine OL.sk rfl rfl ?_
            refine OL.sk rfl rfl ?_
            refine OL.sk rfl rfl ?_
            refine OL.sk rfl rfl ?_
            refine OL.sk rfl rfl ?_
            refine OL.q (Q1.pick_f rfl rfl) rfl rfl ?_
            refine OL.q (Q1.move rfl) rfl rfl ?_
            refine OL.sk rfl rfl ?_
            refine OL.sk rfl rfl ?_
            refine OL.sk rfl rfl ?_
            refine OL.sk rfl rfl ?_
            refine OL.sk rfl rfl ?_
            refine OL.q (Q1.pick_f rfl rfl) rfl rfl ?_
            refine OL.q (Q1.move rfl) rfl rfl ?_
            refine OL.sk rfl rfl ?_
            refine OL.sk rfl rfl ?_
            refine OL.sk rfl rfl ?_
            refine OL.sk rfl rfl ?_
            refine OL.sk rfl rfl ?_
            refine OL.q (Q1.pick_f rfl rfl) rfl rfl ?_
            refine OL.q (Q1.assign rfl) rfl rfl ?_
            refine OL.nil ?_
            refine r_seq ?_
            refine r_region ?_
            refine OL.q (Q1.move rfl) rfl rfl ?_
            refine OL.q (Q1.move rfl) rfl rfl ?_
            cases b7 with
            | true =>
              replace hb7 := eq_of_beq hb7.symm
              refine OL.q (Q1.move rfl) rfl rfl ?_
              refine OL.q (Q1.pick_t rfl rfl) rfl rfl ?_
              refine OL.q (Q1.move rfl) rfl rfl ?_
              refine OL.sk rfl rfl ?_
              refine OL.sk rfl rfl ?_
              refine OL.sk rfl rfl ?_
              refine OL.sk rfl rfl ?_
              refine OL.sk rfl rfl ?_
              refine OL.q (Q1.pick_f rfl rfl) rfl rfl ?_
              refine OL.q (Q1.move rfl) rfl rfl ?_
              refine OL.sk rfl rfl ?_
              refine OL.sk rfl rfl ?_
              refine OL.sk rfl rfl ?_
              refine OL.sk rfl rfl ?_
              refine OL.sk rfl rfl ?_
              refine OL.q (Q1.pick_f rfl rfl) rfl rfl ?_
              refine OL.q (Q1.assign rfl) rfl rfl ?_
              refine OL.nil ?_
              refine r_ret1 Tryd.func14 rfl rfl ?_
              exact Ret.mk ⟨⟨_, (by first | exact cfg_same (by assumption) (by assumption) (by assumption) (by assumption) (by assumption) (by assumption) (by assumption) (by assumption) (by assumption) (by assumption) (by assumption) (by assumption) | exact (decide_eq_false (fun e => absurd (congrArg Cfg.words e) (of_decide_eq_false (by assumption)))).symm | exact (decide_eq_false (fun e => absurd (congrArg Cfg.workers e) (by assumption))).symm | exact (decide_eq_false (fun e => absurd (congrArg Cfg.copies e) (by assumption))).symm | exact (decide_eq_false (fun e => absurd (congrArg Cfg.slots e) (by assumption))).symm | exact (decide_eq_false (fun e => absurd (congrArg Cfg.batch e) (by assumption))).symm | exact (decide_eq_false (fun e => absurd (congrArg Cfg.lease e) (by assumption))).symm | exact (decide_eq_false (fun e => absurd (congrArg Cfg.hedge e) (by assumption))).symm | exact (decide_eq_false (fun e => absurd (congrArg Cfg.first e) (by assumption))).symm | exact (decide_eq_false (fun e => absurd (congrArg Cfg.cap e) (by assumption))).symm | exact (decide_eq_false (fun e => absurd (congrArg Cfg.jitter e) (by assumption))).symm | exact (decide_eq_false (fun e => absurd (congrArg Cfg.net e) (by assumption))).symm | (exfalso; omega)), rfl⟩, hS4.mod⟩
            | false =>
              replace hb7 := ne_of_beq_false hb7.symm
              refine OL.sk rfl rfl ?_
              refine OL.q (Q1.pick_f rfl rfl) rfl rfl ?_
              refine OL.q (Q1.move rfl) rfl rfl ?_
              refine OL.sk rfl rfl ?_
              refine OL.sk rfl rfl ?_
              refine OL.sk rfl rfl ?_
              refine OL.sk rfl rfl ?_
              refine OL.sk rfl rfl ?_
              refine OL.q (Q1.pick_f rfl rfl) rfl rfl ?_
              refine OL.q (Q1.move rfl) rfl rfl ?_
              refine OL.sk rfl rfl ?_
              refine OL.sk rfl rfl ?_
              refine OL.sk rfl rfl ?_
              refine OL.sk rfl rfl ?_
              refine OL.sk rfl rfl ?_
              refine OL.q (Q1.pick_f rfl rfl) rfl rfl ?_
              refine OL.q (Q1.assign rfl) rfl rfl ?_
              refine OL.nil ?_
              refine r_ret1 Tryd.func14 rfl rfl ?_
              exact Ret.mk ⟨⟨_, (by first | exact cfg_same (by assumption) (by assumption) (by assumption) (by assumption) (by assumption) (by assumption) (by assumption) (by assumption) (by assumption) (by assumption) (by assumption) (by assumption) | exact (decide_eq_false (fun e => absurd (congrArg Cfg.words e) (of_decide_eq_false (by assumption)))).symm | exact (decide_eq_false (fun e => absurd (congrArg Cfg.workers e) (by assumption))).symm | exact (decide_eq_false (fun e => absurd (congrArg Cfg.copies e) (by assumption))).symm | exact (decide_eq_false (fun e => absurd (congrArg Cfg.slots e) (by assumption))).symm | exact (decide_eq_false (fun e => absurd (congrArg Cfg.batch e) (by assumption))).symm | exact (decide_eq_false (fun e => absurd (congrArg Cfg.lease e) (by assumption))).symm | exact (decide_eq_false (fun e => absurd (congrArg Cfg.hedge e) (by assumption))).symm | exact (decide_eq_false (fun e => absurd (congrArg Cfg.first e) (by assumption))).symm | exact (decide_eq_false (fun e => absurd (congrArg Cfg.cap e) (by assumption))).symm | exact (decide_eq_false (fun e => absurd (congrArg Cfg.jitter e) (by assumption))).symm | exact (decide_eq_false (fun e => absurd (congrArg Cfg.net e) (by assumption))).symm | (exfalso; omega)), rfl⟩, hS4.mod⟩
        | false =>
          replace hb6 := ne_of_beq_false hb6.symm
          refine OL.sk rfl rfl ?_
          refine OL.sk rfl rfl ?_
          refine OL.sk rfl rfl ?_
          refine OL.sk rfl rfl ?_
          refine OL.sk rfl rfl ?_
          refine OL.q (Q1.pick_f rfl rfl) rfl rfl ?_
          refine OL.q (Q1.assign rfl) rfl rfl ?_
          refine OL.nil ?_
          refine r_seq ?_
          refine r_region ?_
          refine OL.q (Q1.fieldAddr fl30_7 rfl) rfl rfl ?_
          refine OL.q (Q1.load1 ti3 rfl (fun _ e => e ▸ (f1.cell 7 _ rfl))) rfl rfl ?_
          refine OL.q (Q1.fieldAddr fl30_7 rfl) rfl rfl ?_
          refine OL.q (Q1.load1 ti3 rfl (fun _ e => e ▸ (f2.cell 7 _ rfl))) rfl rfl ?_
          refine OL.qb (Q1.eq rfl rfl) rfl rfl ?_
          intro b7 hb7
          refine OL.q (Q1.move rfl) rfl rfl ?_
          cases b7 with
          | true =>
            replace hb7 := eq_of_beq hb7.symm
            refine OL.q (Q1.fieldAddr fl30_8 rfl) rfl rfl ?_
            refine OL.q (Q1.load1 ti3 rfl (fun _ e => e ▸ (f1.cell 8 _ rfl))) rfl rfl ?_
            refine OL.q (Q1.fieldAddr fl30_8 rfl) rfl rfl ?_
            refine OL.q (Q1.load1 ti3 rfl (fun _ e => e ▸ (f2.cell 8 _ rfl))) rfl rfl ?_
            refine OL.qb (Q1.eq rfl rfl) rfl rfl ?_
            intro b8 hb8
            refine OL.q (Q1.pick_t rfl rfl) rfl rfl ?_
            refine OL.q (Q1.move rfl) rfl rfl ?_
            cases b8 with
            | true =>
              replace hb8 := eq_of_beq hb8.symm
              refine OL.q (Q1.fieldAddr fl30_9 rfl) rfl rfl ?_
              refine OL.q (Q1.load1 ti3 rfl (fun _ e => e ▸ (f1.cell 9 _ rfl))) rfl rfl ?_
              refine OL.q (Q1.fieldAddr fl30_9 rfl) rfl rfl ?_
              refine OL.q (Q1.load1 ti3 rfl (fun _ e => e ▸ (f2.cell 9 _ rfl))) rfl rfl ?_
              refine OL.qb (Q1.eq rfl rfl) rfl rfl ?_
              intro b9 hb9
              refine OL.q (Q1.pick_t rfl rfl) rfl rfl ?_
              refine OL.q (Q1.move rfl) rfl rfl ?_
              cases b9 with
              | true =>
                replace hb9 := eq_of_beq hb9.symm
                refine OL.q (Q1.fieldAddr fl30_10 rfl) rfl rfl ?_
                refine OL.q (Q1.load1 ti3 rfl (fun _ e => e ▸ (f1.cell 10 _ rfl))) rfl rfl ?_
                refine OL.q (Q1.fieldAddr fl30_10 rfl) rfl rfl ?_
                refine OL.q (Q1.load1 ti3 rfl (fun _ e => e ▸ (f2.cell 10 _ rfl))) rfl rfl ?_
                refine OL.qb (Q1.eq rfl rfl) rfl rfl ?_
                intro b10 hb10
                refine OL.q (Q1.pick_t rfl rfl) rfl rfl ?_
                refine OL.q (Q1.move rfl) rfl rfl ?_
                cases b10 with
                | true =>
                  replace hb10 := eq_of_beq hb10.symm
                  refine OL.q (Q1.fieldAddr fl30_11 rfl) rfl rfl ?_
                  refine OL.q (Q1.load1 ti3 rfl (fun _ e => e ▸ (f1.cell 11 _ rfl))) rfl rfl ?_
                  refine OL.q (Q1.fieldAddr fl30_11 rfl) rfl rfl ?_
                  refine OL.q (Q1.load1 ti3 rfl (fun _ e => e ▸ (f2.cell 11 _ rfl))) rfl rfl ?_
                  refine OL.qb (Q1.eq rfl rfl) rfl rfl ?_
                  intro b11 hb11
                  refine OL.q (Q1.pick_t rfl rfl) rfl rfl ?_
                  refine OL.q (Q1.assign rfl) rfl rfl ?_
                  refine OL.nil ?_
                  refine r_seq ?_
                  refine r_region ?_
                  refine OL.q (Q1.move rfl) rfl rfl ?_
                  refine OL.q (Q1.move rfl) rfl rfl ?_
                  refine OL.sk rfl rfl ?_
                  refine OL.q (Q1.pick_f rfl rfl) rfl rfl ?_
                  refine OL.q (Q1.move rfl) rfl rfl ?_
                  refine OL.sk rfl rfl ?_
                  refine OL.sk rfl rfl ?_
                  refine OL.sk rfl rfl ?_
                  refine OL.sk rfl rfl ?_
                  refine OL.sk rfl rfl ?_
                  refine OL.q (Q1.pick_f rfl rfl) rfl rfl ?_
                  refine OL.q (Q1.move rfl) rfl rfl ?_
                  refine OL.sk rfl rfl ?_
                  refine OL.sk rfl rfl ?_
                  refine OL.sk rfl rfl ?_
                  refine OL.sk rfl rfl ?_
                  refine OL.sk rfl rfl ?_
                  refine OL.q (Q1.pick_f rfl rfl) rfl rfl ?_
                  refine OL.q (Q1.assign rfl) rfl rfl ?_
                  refine OL.nil ?_
                  refine r_ret1 Tryd.func14 rfl rfl ?_
                  exact Ret.mk ⟨⟨_, (by first | exact cfg_same (by assumption) (by assumption) (by assumption) (by assumption) (by assumption) (by assumption) (by assumption) (by assumption) (by assumption) (by assumption) (by assumption) (by assumption) | exact (decide_eq_false (fun e => absurd (congrArg Cfg.words e) (of_decide_eq_false (by assumption)))).symm | exact (decide_eq_false (fun e => absurd (congrArg Cfg.workers e) (by assumption))).symm | exact (decide_eq_false (fun e => absurd (congrArg Cfg.copies e) (by assumption))).symm | exact (decide_eq_false (fun e => absurd (congrArg Cfg.slots e) (by assumption))).symm | exact (decide_eq_false (fun e => absurd (congrArg Cfg.batch e) (by assumption))).symm | exact (decide_eq_false (fun e => absurd (congrArg Cfg.lease e) (by assumption))).symm | exact (decide_eq_false (fun e => absurd (congrArg Cfg.hedge e) (by assumption))).symm | exact (decide_eq_false (fun e => absurd (congrArg Cfg.first e) (by assumption))).symm | exact (decide_eq_false (fun e => absurd (congrArg Cfg.cap e) (by assumption))).symm | exact (decide_eq_false (fun e => absurd (congrArg Cfg.jitter e) (by assumption))).symm | exact (decide_eq_false (fun e => absurd (congrArg Cfg.net e) (by assumption))).symm | (exfalso; omega)), rfl⟩, hS4.mod⟩
                | false =>
                  replace hb10 := ne_of_beq_false hb10.symm
                  refine OL.sk rfl rfl ?_
                  refine OL.sk rfl rfl ?_
                  refine OL.sk rfl rfl ?_
                  refine OL.sk rfl rfl ?_
                  refine OL.sk rfl rfl ?_
                  refine OL.q (Q1.pick_f rfl rfl) rfl rfl ?_
                  refine OL.q (Q1.assign rfl) rfl rfl ?_
                  refine OL.nil ?_
                  refine r_seq ?_
                  refine r_region ?_
                  refine OL.q (Q1.move rfl) rfl rfl ?_
                  refine OL.q (Q1.move rfl) rfl rfl ?_
                  refine OL.sk rfl rfl ?_
                  refine OL.q (Q1.pick_f rfl rfl) rfl rfl ?_
                  refine OL.q (Q1.move rfl) rfl rfl ?_
                  refine OL.sk rfl rfl ?_
                  refine OL.sk rfl rfl ?_
                  refine OL.sk rfl rfl ?_
                  refine OL.sk rfl rfl ?_
                  refine OL.sk rfl rfl ?_
                  refine OL.q (Q1.pick_f rfl rfl) rfl rfl ?_
                  refine OL.q (Q1.move rfl) rfl rfl ?_
                  refine OL.sk rfl rfl ?_
                  refine OL.sk rfl rfl ?_
                  refine OL.sk rfl rfl ?_
                  refine OL.sk rfl rfl ?_
                  refine OL.sk rfl rfl ?_
                  refine OL.q (Q1.pick_f rfl rfl) rfl rfl ?_
                  refine OL.q (Q1.assign rfl) rfl rfl ?_
                  refine OL.nil ?_
                  refine r_ret1 Tryd.func14 rfl rfl ?_
                  exact Ret.mk ⟨⟨_, (by first | exact cfg_same (by assumption) (by assumption) (by assumption) (by assumption) (by assumption) (by assumption) (by assumption) (by assumption) (by assumption) (by assumption) (by assumption) (by assumption) | exact (decide_eq_false (fun e => absurd (congrArg Cfg.words e) (of_decide_eq_false (by assumption)))).symm | exact (decide_eq_false (fun e => absurd (congrArg Cfg.workers e) (by assumption))).symm | exact (decide_eq_false (fun e => absurd (congrArg Cfg.copies e) (by assumption))).symm | exact (decide_eq_false (fun e => absurd (congrArg Cfg.slots e) (by assumption))).symm | exact (decide_eq_false (fun e => absurd (congrArg Cfg.batch e) (by assumption))).symm | exact (decide_eq_false (fun e => absurd (congrArg Cfg.lease e) (by assumption))).symm | exact (decide_eq_false (fun e => absurd (congrArg Cfg.hedge e) (by assumption))).symm | exact (decide_eq_false (fun e => absurd (congrArg Cfg.first e) (by assumption))).symm | exact (decide_eq_false (fun e => absurd (congrArg Cfg.cap e) (by assumption))).symm | exact (decide_eq_false (fun e => absurd (congrArg Cfg.jitter e) (by assumption))).symm | exact (decide_eq_false (fun e => absurd (congrArg Cfg.net e) (by assumption))).symm | (exfalso; omega)), rfl⟩, hS4.mod⟩
              | false =>
                replace hb9 := ne_of_beq_false hb9.symm
                refine OL.sk rfl rfl ?_
                refine OL.sk rfl rfl ?_
                refine OL.sk rfl rfl ?_
                refine OL.sk rfl rfl ?_
                refine OL.sk rfl rfl ?_
                refine OL.q (Q1.pick_f rfl rfl) rfl rfl ?_
                refine OL.q (Q1.move rfl) rfl rfl ?_
                refine OL.sk rfl rfl ?_
                refine OL.sk rfl rfl ?_
                refine OL.sk rfl rfl ?_
                refine OL.sk rfl rfl ?_
                refine OL.sk rfl rfl ?_
                refine OL.q (Q1.pick_f rfl rfl) rfl rfl ?_
                refine OL.q (Q1.assign rfl) rfl rfl ?_
                refine OL.nil ?_
                refine r_seq ?_
                refine r_region ?_
                refine OL.q (Q1.move rfl) rfl rfl ?_
                refine OL.q (Q1.move rfl) rfl rfl ?_
                refine OL.sk rfl rfl ?_
                refine OL.q (Q1.pick_f rfl rfl) rfl rfl ?_
                refine OL.q (Q1.move rfl) rfl rfl ?_
                refine OL.sk rfl rfl ?_
                refine OL.sk rfl rfl ?_
                refine OL.sk rfl rfl ?_
                refine OL.sk rfl rfl ?_
                refine OL.sk rfl rfl ?_
                refine OL.q (Q1.pick_f rfl rfl) rfl rfl ?_
                refine OL.q (Q1.move rfl) rfl rfl ?_
                refine OL.sk rfl rfl ?_
                refine OL.sk rfl rfl ?_
                refine OL.sk rfl rfl ?_
                refine OL.sk rfl rfl ?_
                refine OL.sk rfl rfl ?_
                refine OL.q (Q1.pick_f rfl rfl) rfl rfl ?_
                refine OL.q (Q1.assign rfl) rfl rfl ?_
                refine OL.nil ?_
                refine r_ret1 Tryd.func14 rfl rfl ?_
                exact Ret.mk ⟨⟨_, (by first | exact cfg_same (by assumption) (by assumption) (by assumption) (by assumption) (by assumption) (by assumption) (by assumption) (by assumption) (by assumption) (by assumption) (by assumption) (by assumption) | exact (decide_eq_false (fun e => absurd (congrArg Cfg.words e) (of_decide_eq_false (by assumption)))).symm | exact (decide_eq_false (fun e => absurd (congrArg Cfg.workers e) (by assumption))).symm | exact (decide_eq_false (fun e => absurd (congrArg Cfg.copies e) (by assumption))).symm | exact (decide_eq_false (fun e => absurd (congrArg Cfg.slots e) (by assumption))).symm | exact (decide_eq_false (fun e => absurd (congrArg Cfg.batch e) (by assumption))).symm | exact (decide_eq_false (fun e => absurd (congrArg Cfg.lease e) (by assumption))).symm | exact (decide_eq_false (fun e => absurd (congrArg Cfg.hedge e) (by assumption))).symm | exact (decide_eq_false (fun e => absurd (congrArg Cfg.first e) (by assumption))).symm | exact (decide_eq_false (fun e => absurd (congrArg Cfg.cap e) (by assumption))).symm | exact (decide_eq_false (fun e => absurd (congrArg Cfg.jitter e) (by assumption))).symm | exact (decide_eq_false (fun e => absurd (congrArg Cfg.net e) (by assumption))).symm | (exfalso; omega)), rfl⟩, hS4.mod⟩
            | false =>
              replace hb8 := ne_of_beq_false hb8.symm
              refine OL.sk rfl rfl ?_
              refine OL.sk rfl rfl ?_
              refine OL.sk rfl rfl ?_
              refine OL.sk rfl rfl ?_
              refine OL.sk rfl rfl ?_
              refine OL.q (Q1.pick_f rfl rfl) rfl rfl ?_
              refine OL.q (Q1.move rfl) rfl rfl ?_
              refine OL.sk rfl rfl ?_
              refine OL.sk rfl rfl ?_
              refine OL.sk rfl rfl ?_
              refine OL.sk rfl rfl ?_
              refine OL.sk rfl rfl ?_
              refine OL.q (Q1.pick_f rfl rfl) rfl rfl ?_
              refine OL.q (Q1.move rfl) rfl rfl ?_
              refine OL.sk rfl rfl ?_
              refine OL.sk rfl rfl ?_
              refine OL.sk rfl rfl ?_
              refine OL.sk rfl rfl ?_
              refine OL.sk rfl rfl ?_
              refine OL.q (Q1.pick_f rfl rfl) rfl rfl ?_
              refine OL.q (Q1.assign rfl) rfl rfl ?_
              refine OL.nil ?_
              refine r_seq ?_
              refine r_region ?_
              refine OL.q (Q1.move rfl) rfl rfl ?_
              refine OL.q (Q1.move rfl) rfl rfl ?_
              refine OL.sk rfl rfl ?_
              refine OL.q (Q1.pick_f rfl rfl) rfl rfl ?_
              refine OL.q (Q1.move rfl) rfl rfl ?_
              refine OL.sk rfl rfl ?_
              refine OL.sk rfl rfl ?_
              refine OL.sk rfl rfl ?_
              refine OL.sk rfl rfl ?_
              refine OL.sk rfl rfl ?_
              refine OL.q (Q1.pick_f rfl rfl) rfl rfl ?_
              refine OL.q (Q1.move rfl) rfl rfl ?_
              refine OL.sk rfl rfl ?_
              refine OL.sk rfl rfl ?_
              refine OL.sk rfl rfl ?_
              refine OL.sk rfl rfl ?_
              refine OL.sk rfl rfl ?_
              refine OL.q (Q1.pick_f rfl rfl) rfl rfl ?_
              refine OL.q (Q1.assign rfl) rfl rfl ?_
              refine OL.nil ?_
              refine r_ret1 Tryd.func14 rfl rfl ?_
              exact Ret.mk ⟨⟨_, (by first | exact cfg_same (by assumption) (by assumption) (by assumption) (by assumption) (by assumption) (by assumption) (by assumption) (by assumption) (by assumption) (by assumption) (by assumption) (by assumption) | exact (decide_eq_false (fun e => absurd (congrArg Cfg.words e) (of_decide_eq_false (by assumption)))).symm | exact (decide_eq_false (fun e => absurd (congrArg Cfg.workers e) (by assumption))).symm | exact (decide_eq_false (fun e => absurd (congrArg Cfg.copies e) (by assumption))).symm | exact (decide_eq_false (fun e => absurd (congrArg Cfg.slots e) (by assumption))).symm | exact (decide_eq_false (fun e => absurd (congrArg Cfg.batch e) (by assumption))).symm | exact (decide_eq_false (fun e => absurd (congrArg Cfg.lease e) (by assumption))).symm | exact (decide_eq_false (fun e => absurd (congrArg Cfg.hedge e) (by assumption))).symm | exact (decide_eq_false (fun e => absurd (congrArg Cfg.first e) (by assumption))).symm | exact (decide_eq_false (fun e => absurd (congrArg Cfg.cap e) (by assumption))).symm | exact (decide_eq_false (fun e => absurd (congrArg Cfg.jitter e) (by assumption))).symm | exact (decide_eq_false (fun e => absurd (congrArg Cfg.net e) (by assumption))).symm | (exfalso; omega)), rfl⟩, hS4.mod⟩
          | false =>
            replace hb7 := ne_of_beq_false hb7.symm
            refine OL.sk rfl rfl ?_
            refine OL.sk rfl rfl ?_
            refine OL.sk rfl rfl ?_
            refine OL.sk rfl rfl ?_
            refine OL.sk rfl rfl ?_
            refine OL.q (Q1.pick_f rfl rfl) rfl rfl ?_
            refine OL.q (Q1.move rfl) rfl rfl ?_
            refine OL.sk rfl rfl ?_
            refine OL.sk rfl rfl ?_
            refine OL.sk rfl rfl ?_
            refine OL.sk rfl rfl ?_
            refine OL.sk rfl rfl ?_
            refine OL.q (Q1.pick_f rfl rfl) rfl rfl ?_
            refine OL.q (Q1.move rfl) rfl rfl ?_
            refine OL.sk rfl rfl ?_
            refine OL.sk rfl rfl ?_
            refine OL.sk rfl rfl ?_
            refine OL.sk rfl rfl ?_
            refine OL.sk rfl rfl ?_
            refine OL.q (Q1.pick_f rfl rfl) rfl rfl ?_
            refine OL.q (Q1.move rfl) rfl rfl ?_
            refine OL.sk rfl rfl ?_
            refine OL.sk rfl rfl ?_
            refine OL.sk rfl rfl ?_
            refine OL.sk rfl rfl ?_
            refine OL.sk rfl rfl ?_
            refine OL.q (Q1.pick_f rfl rfl) rfl rfl ?_
            refine OL.q (Q1.assign rfl) rfl rfl ?_
            refine OL.nil ?_
            refine r_seq ?_
            refine r_region ?_
            refine OL.q (Q1.move rfl) rfl rfl ?_
            refine OL.q (Q1.move rfl) rfl rfl ?_
            refine OL.sk rfl rfl ?_
            refine OL.q (Q1.pick_f rfl rfl) rfl rfl ?_
            refine OL.q (Q1.move rfl) rfl rfl ?_
            refine OL.sk rfl rfl ?_
            refine OL.sk rfl rfl ?_
            refine OL.sk rfl rfl ?_
            refine OL.sk rfl rfl ?_
            refine OL.sk rfl rfl ?_
            refine OL.q (Q1.pick_f rfl rfl) rfl rfl ?_
            refine OL.q (Q1.move rfl) rfl rfl ?_
            refine OL.sk rfl rfl ?_
            refine OL.sk rfl rfl ?_
            refine OL.sk rfl rfl ?_
            refine OL.sk rfl rfl ?_
            refine OL.sk rfl rfl ?_
            refine OL.q (Q1.pick_f rfl rfl) rfl rfl ?_
            refine OL.q (Q1.assign rfl) rfl rfl ?_
            refine OL.nil ?_
            refine r_ret1 Tryd.func14 rfl rfl ?_
            exact Ret.mk ⟨⟨_, (by first | exact cfg_same (by assumption) (by assumption) (by assumption) (by assumption) (by assumption) (by assumption) (by assumption) (by assumption) (by assumption) (by assumption) (by assumption) (by assumption) | exact (decide_eq_false (fun e => absurd (congrArg Cfg.words e) (of_decide_eq_false (by assumption)))).symm | exact (decide_eq_false (fun e => absurd (congrArg Cfg.workers e) (by assumption))).symm | exact (decide_eq_false (fun e => absurd (congrArg Cfg.copies e) (by assumption))).symm | exact (decide_eq_false (fun e => absurd (congrArg Cfg.slots e) (by assumption))).symm | exact (decide_eq_false (fun e => absurd (congrArg Cfg.batch e) (by assumption))).symm | exact (decide_eq_false (fun e => absurd (congrArg Cfg.lease e) (by assumption))).symm | exact (decide_eq_false (fun e => absurd (congrArg Cfg.hedge e) (by assumption))).symm | exact (decide_eq_false (fun e => absurd (congrArg Cfg.first e) (by assumption))).symm | exact (decide_eq_false (fun e => absurd (congrArg Cfg.cap e) (by assumption))).symm | exact (decide_eq_false (fun e => absurd (congrArg Cfg.jitter e) (by assumption))).symm | exact (decide_eq_false (fun e => absurd (congrArg Cfg.net e) (by assumption))).symm | (exfalso; omega)), rfl⟩, hS4.mod⟩
      | false =>
        replace hb5 := ne_of_beq_false hb5.symm
        refine OL.sk rfl rfl ?_
        refine OL.sk rfl rfl ?_
        refine OL.sk rfl rfl ?_
        refine OL.sk rfl rfl ?_
        refine OL.sk rfl rfl ?_
        refine OL.q (Q1.pick_f rfl rfl) rfl rfl ?_
        refine OL.q (Q1.move rfl) rfl rfl ?_
        refine OL.sk rfl rfl ?_
        refine OL.sk rfl rfl ?_
        refine OL.sk rfl rfl ?_
        refine OL.sk rfl rfl ?_
        refine OL.sk rfl rfl ?_
        refine OL.q (Q1.pick_f rfl rfl) rfl rfl ?_
        refine OL.q (Q1.assign rfl) rfl rfl ?_
        refine OL.nil ?_
        refine r_seq ?_
        refine r_region ?_
        refine OL.q (Q1.fieldAddr fl30_7 rfl) rfl rfl ?_
        refine OL.q (Q1.load1 ti3 rfl (fun _ e => e ▸ (f1.cell 7 _ rfl))) rfl rfl ?_
        refine OL.q (Q1.fieldAddr fl30_7 rfl) rfl rfl ?_
        refine OL.q (Q1.load1 ti3 rfl (fun _ e => e ▸ (f2.cell 7 _ rfl))) rfl rfl ?_
        refine OL.qb (Q1.eq rfl rfl) rfl rfl ?_
        intro b6 hb6
        refine OL.q (Q1.move rfl) rfl rfl ?_
        cases b6 with
        | true =>
          replace hb6 := eq_of_beq hb6.symm
          refine OL.q (Q1.fieldAddr fl30_8 rfl) rfl rfl ?_
          refine OL.q (Q1.load1 ti3 rfl (fun _ e => e ▸ (f1.cell 8 _ rfl))) rfl rfl ?_
          refine OL.q (Q1.fieldAddr fl30_8 rfl) rfl rfl ?_
          refine OL.q (Q1.load1 ti3 rfl (fun _ e => e ▸ (f2.cell 8 _ rfl))) rfl rfl ?_
          refine OL.qb (Q1.eq rfl rfl) rfl rfl ?_
          intro b7 hb7
          refine OL.q (Q1.pick_t rfl rfl) rfl rfl ?_
          refine OL.q (Q1.move rfl) rfl rfl ?_
          cases b7 with
          | true =>
            replace hb7 := eq_of_beq hb7.symm
            refine OL.q (Q1.fieldAddr fl30_9 rfl) rfl rfl ?_
            refine OL.q (Q1.load1 ti3 rfl (fun _ e => e ▸ (f1.cell 9 _ rfl))) rfl rfl ?_
            refine OL.q (Q1.fieldAddr fl30_9 rfl) rfl rfl ?_
            refine OL.q (Q1.load1 ti3 rfl (fun _ e => e ▸ (f2.cell 9 _ rfl))) rfl rfl ?_
            refine OL.qb (Q1.eq rfl rfl) rfl rfl ?_
            intro b8 hb8
            refine OL.q (Q1.pick_t rfl rfl) rfl rfl ?_
            refine OL.q (Q1.move rfl) rfl rfl ?_
            cases b8 with
            | true =>
              replace hb8 := eq_of_beq hb8.symm
              refine OL.q (Q1.fieldAddr fl30_10 rfl) rfl rfl ?_
              refine OL.q (Q1.load1 ti3 rfl (fun _ e => e ▸ (f1.cell 10 _ rfl))) rfl rfl ?_
              refine OL.q (Q1.fieldAddr fl30_10 rfl) rfl rfl ?_
              refine OL.q (Q1.load1 ti3 rfl (fun _ e => e ▸ (f2.cell 10 _ rfl))) rfl rfl ?_
              refine OL.qb (Q1.eq rfl rfl) rfl rfl ?_
              intro b9 hb9
              refine OL.q (Q1.pick_t rfl rfl) rfl rfl ?_
              refine OL.q (Q1.move rfl) rfl rfl ?_
              cases b9 with
              | true =>
                replace hb9 := eq_of_beq hb9.symm
                refine OL.q (Q1.fieldAddr fl30_11 rfl) rfl rfl ?_
                refine OL.q (Q1.load1 ti3 rfl (fun _ e => e ▸ (f1.cell 11 _ rfl))) rfl rfl ?_
                refine OL.q (Q1.fieldAddr fl30_11 rfl) rfl rfl ?_
                refine OL.q (Q1.load1 ti3 rfl (fun _ e => e ▸ (f2.cell 11 _ rfl))) rfl rfl ?_
                refine OL.qb (Q1.eq rfl rfl) rfl rfl ?_
                intro b10 hb10
                refine OL.q (Q1.pick_t rfl rfl) rfl rfl ?_
                refine OL.q (Q1.assign rfl) rfl rfl ?_
                refine OL.nil ?_
                refine r_seq ?_
                refine r_region ?_
                refine OL.q (Q1.move rfl) rfl rfl ?_
                refine OL.q (Q1.move rfl) rfl rfl ?_
                refine OL.sk rfl rfl ?_
                refine OL.q (Q1.pick_f rfl rfl) rfl rfl ?_
                refine OL.q (Q1.move rfl) rfl rfl ?_
                refine OL.sk rfl rfl ?_
                refine OL.sk rfl rfl ?_
                refine OL.sk rfl rfl ?_
                refine OL.sk rfl rfl ?_
                refine OL.sk rfl rfl ?_
                refine OL.q (Q1.pick_f rfl rfl) rfl rfl ?_
                refine OL.q (Q1.move rfl) rfl rfl ?_
                refine OL.sk rfl rfl ?_
                refine OL.sk rfl rfl ?_
                refine OL.sk rfl rfl ?_
                refine OL.sk rfl rfl ?_
                refine OL.sk rfl rfl ?_
                refine OL.q (Q1.pick_f rfl rfl) rfl rfl ?_
                refine OL.q (Q1.assign rfl) rfl rfl ?_
                refine OL.nil ?_
                refine r_ret1 Tryd.func14 rfl rfl ?_
                exact Ret.mk ⟨⟨_, (by first | exact cfg_same (by assumption) (by assumption) (by assumption) (by assumption) (by assumption) (by assumption) (by assumption) (by assumption) (by assumption) (by assumption) (by assumption) (by assumption) | exact (decide_eq_false (fun e => absurd (congrArg Cfg.words e) (of_decide_eq_false (by assumption)))).symm | exact (decide_eq_false (fun e => absurd (congrArg Cfg.workers e) (by assumption))).symm | exact (decide_eq_false (fun e => absurd (congrArg Cfg.copies e) (by assumption))).symm | exact (decide_eq_false (fun e => absurd (congrArg Cfg.slots e) (by assumption))).symm | exact (decide_eq_false (fun e => absurd (congrArg Cfg.batch e) (by assumption))).symm | exact (decide_eq_false (fun e => absurd (congrArg Cfg.lease e) (by assumption))).symm | exact (decide_eq_false (fun e => absurd (congrArg Cfg.hedge e) (by assumption))).symm | exact (decide_eq_false (fun e => absurd (congrArg Cfg.first e) (by assumption))).symm | exact (decide_eq_false (fun e => absurd (congrArg Cfg.cap e) (by assumption))).symm | exact (decide_eq_false (fun e => absurd (congrArg Cfg.jitter e) (by assumption))).symm | exact (decide_eq_false (fun e => absurd (congrArg Cfg.net e) (by assumption))).symm | (exfalso; omega)), rfl⟩, hS4.mod⟩
              | false =>
                replace hb9 := ne_of_beq_false hb9.symm
                refine OL.sk rfl rfl ?_
                refine OL.sk rfl rfl ?_
                refine OL.sk rfl rfl ?_
                refine OL.sk rfl rfl ?_
                refine OL.sk rfl rfl ?_
                refine OL.q (Q1.pick_f rfl rfl) rfl rfl ?_
                refine OL.q (Q1.assign rfl) rfl rfl ?_
                refine OL.nil ?_
                refine r_seq ?_
                refine r_region ?_
                refine OL.q (Q1.move rfl) rfl rfl ?_
                refine OL.q (Q1.move rfl) rfl rfl ?_
                refine OL.sk rfl rfl ?_
                refine OL.q (Q1.pick_f rfl rfl) rfl rfl ?_
                refine OL.q (Q1.move rfl) rfl rfl ?_
                refine OL.sk rfl rfl ?_
                refine OL.sk rfl rfl ?_
                refine OL.sk rfl rfl ?_
                refine OL.sk rfl rfl ?_
                refine OL.sk rfl rfl ?_
                refine OL.q (Q1.pick_f rfl rfl) rfl rfl ?_
                refine OL.q (Q1.move rfl) rfl rfl ?_
                refine OL.sk rfl rfl ?_
                refine OL.sk rfl rfl ?_
                refine OL.sk rfl rfl ?_
                refine OL.sk rfl rfl ?_
                refine OL.sk rfl rfl ?_
                refine OL.q (Q1.pick_f rfl rfl) rfl rfl ?_
                refine OL.q (Q1.assign rfl) rfl rfl ?_
                refine OL.nil ?_
                refine r_ret1 Tryd.func14 rfl rfl ?_
                exact Ret.mk ⟨⟨_, (by first | exact cfg_same (by assumption) (by assumption) (by assumption) (by assumption) (by assumption) (by assumption) (by assumption) (by assumption) (by assumption) (by assumption) (by assumption) (by assumption) | exact (decide_eq_false (fun e => absurd (congrArg Cfg.words e) (of_decide_eq_false (by assumption)))).symm | exact (decide_eq_false (fun e => absurd (congrArg Cfg.workers e) (by assumption))).symm | exact (decide_eq_false (fun e => absurd (congrArg Cfg.copies e) (by assumption))).symm | exact (decide_eq_false (fun e => absurd (congrArg Cfg.slots e) (by assumption))).symm | exact (decide_eq_false (fun e => absurd (congrArg Cfg.batch e) (by assumption))).symm | exact (decide_eq_false (fun e => absurd (congrArg Cfg.lease e) (by assumption))).symm | exact (decide_eq_false (fun e => absurd (congrArg Cfg.hedge e) (by assumption))).symm | exact (decide_eq_false (fun e => absurd (congrArg Cfg.first e) (by assumption))).symm | exact (decide_eq_false (fun e => absurd (congrArg Cfg.cap e) (by assumption))).symm | exact (decide_eq_false (fun e => absurd (congrArg Cfg.jitter e) (by assumption))).symm | exact (decide_eq_false (fun e => absurd (congrArg Cfg.net e) (by assumption))).symm | (exfalso; omega)), rfl⟩, hS4.mod⟩
            | false =>
              replace hb8 := ne_of_beq_false hb8.symm
              refine OL.sk rfl rfl ?_
              refine OL.sk rfl rfl ?_
              refine OL.sk rfl rfl ?_
              refine OL.sk rfl rfl ?_
              refine OL.sk rfl rfl ?_
              refine OL.q (Q1.pick_f rfl rfl) rfl rfl ?_
              refine OL.q (Q1.move rfl) rfl rfl ?_
              refine OL.sk rfl rfl ?_
              refine OL.sk rfl rfl ?_
              refine OL.sk rfl rfl ?_
              refine OL.sk rfl rfl ?_
              refine OL.sk rfl rfl ?_
              refine OL.q (Q1.pick_f rfl rfl) rfl rfl ?_
              refine OL.q (Q1.assign rfl) rfl rfl ?_
              refine OL.nil ?_
              refine r_seq ?_
              refine r_region ?_
              refine OL.q (Q1.move rfl) rfl rfl ?_
              refine OL.q (Q1.move rfl) rfl rfl ?_
              refine OL.sk rfl rfl ?_
              refine OL.q (Q1.pick_f rfl rfl) rfl rfl ?_
              refine OL.q (Q1.move rfl) rfl rfl ?_
              refine OL.sk rfl rfl ?_
              refine OL.sk rfl rfl ?_
              refine OL.sk rfl rfl ?_
              refine OL.sk rfl rfl ?_
              refine OL.sk rfl rfl ?_
              refine OL.q (Q1.pick_f rfl rfl) rfl rfl ?_
              refine OL.q (Q1.move rfl) rfl rfl ?_
              refine OL.sk rfl rfl ?_
              refine OL.sk rfl rfl ?_
              refine OL.sk rfl rfl ?_
              refine OL.sk rfl rfl ?_
              refine OL.sk rfl rfl ?_
              refine OL.q (Q1.pick_f rfl rfl) rfl rfl ?_
              refine OL.q (Q1.assign rfl) rfl rfl ?_
              refine OL.nil ?_
              refine r_ret1 Tryd.func14 rfl rfl ?_
              exact Ret.mk ⟨⟨_, (by first | exact cfg_same (by assumption) (by assumption) (by assumption) (by assumption) (by assumption) (by assumption) (by assumption) (by assumption) (by assumption) (by assumption) (by assumption) (by assumption) | exact (decide_eq_false (fun e => absurd (congrArg Cfg.words e) (of_decide_eq_false (by assumption)))).symm | exact (decide_eq_false (fun e => absurd (congrArg Cfg.workers e) (by assumption))).symm | exact (decide_eq_false (fun e => absurd (congrArg Cfg.copies e) (by assumption))).symm | exact (decide_eq_false (fun e => absurd (congrArg Cfg.slots e) (by assumption))).symm | exact (decide_eq_false (fun e => absurd (congrArg Cfg.batch e) (by assumption))).symm | exact (decide_eq_false (fun e => absurd (congrArg Cfg.lease e) (by assumption))).symm | exact (decide_eq_false (fun e => absurd (congrArg Cfg.hedge e) (by assumption))).symm | exact (decide_eq_false (fun e => absurd (congrArg Cfg.first e) (by assumption))).symm | exact (decide_eq_false (fun e => absurd (congrArg Cfg.cap e) (by assumption))).symm | exact (decide_eq_false (fun e => absurd (congrArg Cfg.jitter e) (by assumption))).symm | exact (decide_eq_false (fun e => absurd (congrArg Cfg.net e) (by assumption))).symm | (exfalso; omega)), rfl⟩, hS4.mod⟩
          | false =>
            replace hb7 := ne_of_beq_false hb7.symm
            refine OL.sk rfl rfl ?_
            refine OL.sk rfl rfl ?_
            refine OL.sk rfl rfl ?_
            refine OL.sk rfl rfl ?_
            refine OL.sk rfl rfl ?_
            refine OL.q (Q1.pick_f rfl rfl) rfl rfl ?_
            refine OL.q (Q1.move rfl) rfl rfl ?_
            refine OL.sk rfl rfl ?_
            refine OL.sk rfl rfl ?_
            refine OL.sk rfl rfl ?_
            refine OL.sk rfl rfl ?_
            refine OL.sk rfl rfl ?_
            refine OL.q (Q1.pick_f rfl rfl) rfl rfl ?_
            refine OL.q (Q1.move rfl) rfl rfl ?_
            refine OL.sk rfl rfl ?_
            refine OL.sk rfl rfl ?_
            refine OL.sk rfl rfl ?_
            refine OL.sk rfl rfl ?_
            refine OL.sk rfl rfl ?_
            refine OL.q (Q1.pick_f rfl rfl) rfl rfl ?_
            refine OL.q (Q1.assign rfl) rfl rfl ?_
            refine OL.nil ?_
            refine r_seq ?_
            refine r_region ?_
            refine OL.q (Q1.move rfl) rfl rfl ?_
            refine OL.q (Q1.move rfl) rfl rfl ?_
            refine OL.sk rfl rfl ?_
            refine OL.q (Q1.pick_f rfl rfl) rfl rfl ?_
            refine OL.q (Q1.move rfl) rfl rfl ?_
            refine OL.sk rfl rfl ?_
            refine OL.sk rfl rfl ?_
            refine OL.sk rfl rfl ?_
            refine OL.sk rfl rfl ?_
            refine OL.sk rfl rfl ?_
            refine OL.q (Q1.pick_f rfl rfl) rfl rfl ?_
            refine OL.q (Q1.move rfl) rfl rfl ?_
            refine OL.sk rfl rfl ?_
            refine OL.sk rfl rfl ?_
            refine OL.sk rfl rfl ?_
            refine OL.sk rfl rfl ?_
            refine OL.sk rfl rfl ?_
            refine OL.q (Q1.pick_f rfl rfl) rfl rfl ?_
            refine OL.q (Q1.assign rfl) rfl rfl ?_
            refine OL.nil ?_
            refine r_ret1 Tryd.func14 rfl rfl ?_
            exact Ret.mk ⟨⟨_, (by first | exact cfg_same (by assumption) (by assumption) (by assumption) (by assumption) (by assumption) (by assumption) (by assumption) (by assumption) (by assumption) (by assumption) (by assumption) (by assumption) | exact (decide_eq_false (fun e => absurd (congrArg Cfg.words e) (of_decide_eq_false (by assumption)))).symm | exact (decide_eq_false (fun e => absurd (congrArg Cfg.workers e) (by assumption))).symm | exact (decide_eq_false (fun e => absurd (congrArg Cfg.copies e) (by assumption))).symm | exact (decide_eq_false (fun e => absurd (congrArg Cfg.slots e) (by assumption))).symm | exact (decide_eq_false (fun e => absurd (congrArg Cfg.batch e) (by assumption))).symm | exact (decide_eq_false (fun e => absurd (congrArg Cfg.lease e) (by assumption))).symm | exact (decide_eq_false (fun e => absurd (congrArg Cfg.hedge e) (by assumption))).symm | exact (decide_eq_false (fun e => absurd (congrArg Cfg.first e) (by assumption))).symm | exact (decide_eq_false (fun e => absurd (congrArg Cfg.cap e) (by assumption))).symm | exact (decide_eq_false (fun e => absurd (congrArg Cfg.jitter e) (by assumption))).symm | exact (decide_eq_false (fun e => absurd (congrArg Cfg.net e) (by assumption))).symm | (exfalso; omega)), rfl⟩, hS4.mod⟩
        | false =>
          replace hb6 := ne_of_beq_false hb6.symm
          refine OL.sk rfl rfl ?_
          refine OL.sk rfl rfl ?_
          refine OL.sk rfl rfl ?_
          refine OL.sk rfl rfl ?_
          refine OL.sk rfl rfl ?_
          refine OL.q (Q1.pick_f rfl rfl) rfl rfl ?_
          refine OL.q (Q1.move rfl) rfl rfl ?_
          refine OL.sk rfl rfl ?_
          refine OL.sk rfl rfl ?_
          refine OL.sk rfl rfl ?_
          refine OL.sk rfl rfl ?_
          refine OL.sk rfl rfl ?_
          refine OL.q (Q1.pick_f rfl rfl) rfl rfl ?_
          refine OL.q (Q1.move rfl) rfl rfl ?_
          refine OL.sk rfl rfl ?_
          refine OL.sk rfl rfl ?_
          refine OL.sk rfl rfl ?_
          refine OL.sk rfl rfl ?_
          refine OL.sk rfl rfl ?_
          refine OL.q (Q1.pick_f rfl rfl) rfl rfl ?_
          refine OL.q (Q1.move rfl) rfl rfl ?_
          refine OL.sk rfl rfl ?_
          refine OL.sk rfl rfl ?_
          refine OL.sk rfl rfl ?_
          refine OL.sk rfl rfl ?_
          refine OL.sk rfl rfl ?_
          refine OL.q (Q1.pick_f rfl rfl) rfl rfl ?_
          refine OL.q (Q1.assign rfl) rfl rfl ?_
          refine OL.nil ?_
          refine r_seq ?_
          refine r_region ?_
          refine OL.q (Q1.move rfl) rfl rfl ?_
          refine OL.q (Q1.move rfl) rfl rfl ?_
          refine OL.sk rfl rfl ?_
          refine OL.q (Q1.pick_f rfl rfl) rfl rfl ?_
          refine OL.q (Q1.move rfl) rfl rfl ?_
          refine OL.sk rfl rfl ?_
          refine OL.sk rfl rfl ?_
          refine OL.sk rfl rfl ?_
          refine OL.sk rfl rfl ?_
          refine OL.sk rfl rfl ?_
          refine OL.q (Q1.pick_f rfl rfl) rfl rfl ?_
          refine OL.q (Q1.move rfl) rfl rfl ?_
          refine OL.sk rfl rfl ?_
          refine OL.sk rfl rfl ?_
          refine OL.sk rfl rfl ?_
          refine OL.sk rfl rfl ?_
          refine OL.sk rfl rfl ?_
          refine OL.q (Q1.pick_f rfl rfl) rfl rfl ?_
          refine OL.q (Q1.assign rfl) rfl rfl ?_
          refine OL.nil ?_
          refine r_ret1 Tryd.func14 rfl rfl ?_
          exact Ret.mk ⟨⟨_, (by first | exact cfg_same (by assumption) (by assumption) (by assumption) (by assumption) (by assumption) (by assumption) (by assumption) (by assumption) (by assumption) (by assumption) (by assumption) (by assumption) | exact (decide_eq_false (fun e => absurd (congrArg Cfg.words e) (of_decide_eq_false (by assumption)))).symm | exact (decide_eq_false (fun e => absurd (congrArg Cfg.workers e) (by assumption))).symm | exact (decide_eq_false (fun e => absurd (congrArg Cfg.copies e) (by assumption))).symm | exact (decide_eq_false (fun e => absurd (congrArg Cfg.slots e) (by assumption))).symm | exact (decide_eq_false (fun e => absurd (congrArg Cfg.batch e) (by assumption))).symm | exact (decide_eq_false (fun e => absurd (congrArg Cfg.lease e) (by assumption))).symm | exact (decide_eq_false (fun e => absurd (congrArg Cfg.hedge e) (by assumption))).symm | exact (decide_eq_false (fun e => absurd (congrArg Cfg.first e) (by assumption))).symm | exact (decide_eq_false (fun e => absurd (congrArg Cfg.cap e) (by assumption))).symm | exact (decide_eq_false (fun e => absurd (congrArg Cfg.jitter e) (by assumption))).symm | exact (decide_eq_false (fun e => absurd (congrArg Cfg.net e) (by assumption))).symm | (exfalso; omega)), rfl⟩, hS4.mod⟩
    | false =>
      replace hb4 := ne_of_beq_false hb4.symm
      refine OL.sk rfl rfl ?_
      refine OL.sk rfl rfl ?_
      refine OL.sk rfl rfl ?_
      refine OL.sk rfl rfl ?_
      refine OL.sk rfl rfl ?_
      refine OL.q (Q1.pick_f rfl rfl) rfl rfl ?_
      refine OL.q (Q1.move rfl) rfl rfl ?_
      refine OL.sk rfl rfl ?_
      refine OL.sk rfl rfl ?_
      refine OL.sk rfl rfl ?_
      refine OL.sk rfl rfl ?_
      refine OL.sk rfl rfl ?_
      refine OL.q (Q1.pick_f rfl rfl) rfl rfl ?_
      refine OL.q (Q1.move rfl) rfl rfl ?_
      refine OL.sk rfl rfl ?_
      refine OL.sk rfl rfl ?_
      refine OL.sk rfl rfl ?_
      refine OL.sk rfl rfl ?_
      refine OL.sk rfl rfl ?_
      refine OL.q (Q1.pick_f rfl rfl) rfl rfl ?_
      refine OL.q (Q1.assign rfl) rfl rfl ?_
      refine OL.nil ?_
      refine r_seq ?_
      refine r_region ?_
      refine OL.q (Q1.fieldAddr fl30_7 rfl) rfl rfl ?_
      refine OL.q (Q1.load1 ti3 rfl (fun _ e => e ▸ (f1.cell 7 _ rfl))) rfl rfl ?_
      refine OL.q (Q1.fieldAddr fl30_7 rfl) rfl rfl ?_
      refine OL.q (Q1.load1 ti3 rfl (fun _ e => e ▸ (f2.cell 7 _ rfl))) rfl rfl ?_
      refine OL.qb (Q1.eq rfl rfl) rfl rfl ?_
      intro b5 hb5
      refine OL.q (Q1.move rfl) rfl rfl ?_
      cases b5 with
      | true =>
        replace hb5 := eq_of_beq hb5.symm
        refine OL.q (Q1.fieldAddr fl30_8 rfl) rfl rfl ?_
        refine OL.q (Q1.load1 ti3 rfl (fun _ e => e ▸ (f1.cell 8 _ rfl))) rfl rfl ?_
        refine OL.q (Q1.fieldAddr fl30_8 rfl) rfl rfl ?_
        refine OL.q (Q1.load1 ti3 rfl (fun _ e => e ▸ (f2.cell 8 _ rfl))) rfl rfl ?_
        refine OL.qb (Q1.eq rfl rfl) rfl rfl ?_
        intro b6 hb6
        refine OL.q (Q1.pick_t rfl rfl) rfl rfl ?_
        refine OL.q (Q1.move rfl) rfl rfl ?_
        cases b6 with
        | true =>
          replace hb6 := eq_of_beq hb6.symm
          refine OL.q (Q1.fieldAddr fl30_9 rfl) rfl rfl ?_
          refine OL.q (Q1.load1 ti3 rfl (fun _ e => e ▸ (f1.cell 9 _ rfl))) rfl rfl ?_
          refine OL.q (Q1.fieldAddr fl30_9 rfl) rfl rfl ?_
          refine OL.q (Q1.load1 ti3 rfl (fun _ e => e ▸ (f2.cell 9 _ rfl))) rfl rfl ?_
          refine OL.qb (Q1.eq rfl rfl) rfl rfl ?_
          intro b7 hb7
          refine OL.q (Q1.pick_t rfl rfl) rfl rfl ?_
          refine OL.q (Q1.move rfl) rfl rfl ?_
          cases b7 with
          | true =>
            replace hb7 := eq_of_beq hb7.symm
            refine OL.q (Q1.fieldAddr fl30_10 rfl) rfl rfl ?_
            refine OL.q (Q1.load1 ti3 rfl (fun _ e => e ▸ (f1.cell 10 _ rfl))) rfl rfl ?_
            refine OL.q (Q1.fieldAddr fl30_10 rfl) rfl rfl ?_
            refine OL.q (Q1.load1 ti3 rfl (fun _ e => e ▸ (f2.cell 10 _ rfl))) rfl rfl ?_
            refine OL.qb (Q1.eq rfl rfl) rfl rfl ?_
            intro b8 hb8
            refine OL.q (Q1.pick_t rfl rfl) rfl rfl ?_
            refine OL.q (Q1.move rfl) rfl rfl ?_
            cases b8 with
            | true =>
              replace hb8 := eq_of_beq hb8.symm
              refine OL.q (Q1.fieldAddr fl30_11 rfl) rfl rfl ?_
              refine OL.q (Q1.load1 ti3 rfl (fun _ e => e ▸ (f1.cell 11 _ rfl))) rfl rfl ?_
              refine OL.q (Q1.fieldAddr fl30_11 rfl) rfl rfl ?_
              refine OL.q (Q1.load1 ti3 rfl (fun _ e => e ▸ (f2.cell 11 _ rfl))) rfl rfl ?_
              refine OL.qb (Q1.eq rfl rfl) rfl rfl ?_
              intro b9 hb9
              refine OL.q (Q1.pick_t rfl rfl) rfl rfl ?_
              refine OL.q (Q1.assign rfl) rfl rfl ?_
              refine OL.nil ?_
              refine r_seq ?_
              refine r_region ?_
              refine OL.q (Q1.move rfl) rfl rfl ?_
              refine OL.q (Q1.move rfl) rfl rfl ?_
              refine OL.sk rfl rfl ?_
              refine OL.q (Q1.pick_f rfl rfl) rfl rfl ?_
              refine OL.q (Q1.move rfl) rfl rfl ?_
              refine OL.sk rfl rfl ?_
              refine OL.sk rfl rfl ?_
              refine OL.sk rfl rfl ?_
              refine OL.sk rfl rfl ?_
              refine OL.sk rfl rfl ?_
              refine OL.q (Q1.pick_f rfl rfl) rfl rfl ?_
              refine OL.q (Q1.move rfl) rfl rfl ?_
              refine OL.sk rfl rfl ?_
              refine OL.sk rfl rfl ?_
              refine OL.sk rfl rfl ?_
              refine OL.sk rfl rfl ?_
              refine OL.sk rfl rfl ?_
              refine OL.q (Q1.pick_f rfl rfl) rfl rfl ?_
              refine OL.q (Q1.assign rfl) rfl rfl ?_
              refine OL.nil ?_
              refine r_ret1 Tryd.func14 rfl rfl ?_
              exact Ret.mk ⟨⟨_, (by first | exact cfg_same (by assumption) (by assumption) (by assumption) (by assumption) (by assumption) (by assumption) (by assumption) (by assumption) (by assumption) (by assumption) (by assumption) (by assumption) | exact (decide_eq_false (fun e => absurd (congrArg Cfg.words e) (of_decide_eq_false (by assumption)))).symm | exact (decide_eq_false (fun e => absurd (congrArg Cfg.workers e) (by assumption))).symm | exact (decide_eq_false (fun e => absurd (congrArg Cfg.copies e) (by assumption))).symm | exact (decide_eq_false (fun e => absurd (congrArg Cfg.slots e) (by assumption))).symm | exact (decide_eq_false (fun e => absurd (congrArg Cfg.batch e) (by assumption))).symm | exact (decide_eq_false (fun e => absurd (congrArg Cfg.lease e) (by assumption))).symm | exact (decide_eq_false (fun e => absurd (congrArg Cfg.hedge e) (by assumption))).symm | exact (decide_eq_false (fun e => absurd (congrArg Cfg.first e) (by assumption))).symm | exact (decide_eq_false (fun e => absurd (congrArg Cfg.cap e) (by assumption))).symm | exact (decide_eq_false (fun e => absurd (congrArg Cfg.jitter e) (by assumption))).symm | exact (decide_eq_false (fun e => absurd (congrArg Cfg.net e) (by assumption))).symm | (exfalso; omega)), rfl⟩, hS4.mod⟩
            | false =>
              replace hb8 := ne_of_beq_false hb8.symm
              refine OL.sk rfl rfl ?_
              refine OL.sk rfl rfl ?_
              refine OL.sk rfl rfl ?_
              refine OL.sk rfl rfl ?_
              refine OL.sk rfl rfl ?_
              refine OL.q (Q1.pick_f rfl rfl) rfl rfl ?_
              refine OL.q (Q1.assign rfl) rfl rfl ?_
              refine OL.nil ?_
              refine r_seq ?_
              refine r_region ?_
              refine OL.q (Q1.move rfl) rfl rfl ?_
              refine OL.q (Q1.move rfl) rfl rfl ?_
              refine OL.sk rfl rfl ?_
              refine OL.q (Q1.pick_f rfl rfl) rfl rfl ?_
              refine OL.q (Q1.move rfl) rfl rfl ?_
              refine OL.sk rfl rfl ?_
              refine OL.sk rfl rfl ?_
              refine OL.sk rfl rfl ?_
              refine OL.sk rfl rfl ?_
              refine OL.sk rfl rfl ?_
              refine OL.q (Q1.pick_f rfl rfl) rfl rfl ?_
              refine OL.q (Q1.move rfl) rfl rfl ?_
              refine OL.sk rfl rfl ?_
              refine OL.sk rfl rfl ?_
              refine OL.sk rfl rfl ?_
              refine OL.sk rfl rfl ?_
              refine OL.sk rfl rfl ?_
              refine OL.q (Q1.pick_f rfl rfl) rfl rfl ?_
              refine OL.q (Q1.assign rfl) rfl rfl ?_
              refine OL.nil ?_
              refine r_ret1 Tryd.func14 rfl rfl ?_
              exact Ret.mk ⟨⟨_, (by first | exact cfg_same (by assumption) (by assumption) (by assumption) (by assumption) (by assumption) (by assumption) (by assumption) (by assumption) (by assumption) (by assumption) (by assumption) (by assumption) | exact (decide_eq_false (fun e => absurd (congrArg Cfg.words e) (of_decide_eq_false (by assumption)))).symm | exact (decide_eq_false (fun e => absurd (congrArg Cfg.workers e) (by assumption))).symm | exact (decide_eq_false (fun e => absurd (congrArg Cfg.copies e) (by assumption))).symm | exact (decide_eq_false (fun e => absurd (congrArg Cfg.slots e) (by assumption))).symm | exact (decide_eq_false (fun e => absurd (congrArg Cfg.batch e) (by assumption))).symm | exact (decide_eq_false (fun e => absurd (congrArg Cfg.lease e) (by assumption))).symm | exact (decide_eq_false (fun e => absurd (congrArg Cfg.hedge e) (by assumption))).symm | exact (decide_eq_false (fun e => absurd (congrArg Cfg.first e) (by assumption))).symm | exact (decide_eq_false (fun e => absurd (congrArg Cfg.cap e) (by assumption))).symm | exact (decide_eq_false (fun e => absurd (congrArg Cfg.jitter e) (by assumption))).symm | exact (decide_eq_false (fun e => absurd (congrArg Cfg.net e) (by assumption))).symm | (exfalso; omega)), rfl⟩, hS4.mod⟩
          | false =>
            replace hb7 := ne_of_beq_false hb7.symm
            refine OL.sk rfl rfl ?_
            refine OL.sk rfl rfl ?_
            refine OL.sk rfl rfl ?_
            refine OL.sk rfl rfl ?_
            refine OL.sk rfl rfl ?_
            refine OL.q (Q1.pick_f rfl rfl) rfl rfl ?_
            refine OL.q (Q1.move rfl) rfl rfl ?_
            refine OL.sk rfl rfl ?_
            refine OL.sk rfl rfl ?_
            refine OL.sk rfl rfl ?_
            refine OL.sk rfl rfl ?_
            refine OL.sk rfl rfl ?_
            refine OL.q (Q1.pick_f rfl rfl) rfl rfl ?_
            refine OL.q (Q1.assign rfl) rfl rfl ?_
            refine OL.nil ?_
            refine r_seq ?_
            refine r_region ?_
            refine OL.q (Q1.move rfl) rfl rfl ?_
            refine OL.q (Q1.move rfl) rfl rfl ?_
            refine OL.sk rfl rfl ?_
            refine OL.q (Q1.pick_f rfl rfl) rfl rfl ?_
            refine OL.q (Q1.move rfl) rfl rfl ?_
            refine OL.sk rfl rfl ?_
            refine OL.sk rfl rfl ?_
            refine OL.sk rfl rfl ?_
            refine OL.sk rfl rfl ?_
            refine OL.sk rfl rfl ?_
            refine OL.q (Q1.pick_f rfl rfl) rfl rfl ?_
            refine OL.q (Q1.move rfl) rfl rfl ?_
            refine OL.sk rfl rfl ?_
            refine OL.sk rfl rfl ?_
            refine OL.sk rfl rfl ?_
            refine OL.sk rfl rfl ?_
            refine OL.sk rfl rfl ?_
            refine OL.q (Q1.pick_f rfl rfl) rfl rfl ?_
            refine OL.q (Q1.assign rfl) rfl rfl ?_
            refine OL.nil ?_
            refine r_ret1 Tryd.func14 rfl rfl ?_
            exact Ret.mk ⟨⟨_, (by first | exact cfg_same (by assumption) (by assumption) (by assumption) (by assumption) (by assumption) (by assumption) (by assumption) (by assumption) (by assumption) (by assumption) (by assumption) (by assumption) | exact (decide_eq_false (fun e => absurd (congrArg Cfg.words e) (of_decide_eq_false (by assumption)))).symm | exact (decide_eq_false (fun e => absurd (congrArg Cfg.workers e) (by assumption))).symm | exact (decide_eq_false (fun e => absurd (congrArg Cfg.copies e) (by assumption))).symm | exact (decide_eq_false (fun e => absurd (congrArg Cfg.slots e) (by assumption))).symm | exact (decide_eq_false (fun e => absurd (congrArg Cfg.batch e) (by assumption))).symm | exact (decide_eq_false (fun e => absurd (congrArg Cfg.lease e) (by assumption))).symm | exact (decide_eq_false (fun e => absurd (congrArg Cfg.hedge e) (by assumption))).symm | exact (decide_eq_false (fun e => absurd (congrArg Cfg.first e) (by assumption))).symm | exact (decide_eq_false (fun e => absurd (congrArg Cfg.cap e) (by assumption))).symm | exact (decide_eq_false (fun e => absurd (congrArg Cfg.jitter e) (by assumption))).symm | exact (decide_eq_false (fun e => absurd (congrArg Cfg.net e) (by assumption))).symm | (exfalso; omega)), rfl⟩, hS4.mod⟩
        | false =>
          replace hb6 := ne_of_beq_false hb6.symm
          refine OL.sk rfl rfl ?_
          refine OL.sk rfl rfl ?_
          refine OL.sk rfl rfl ?_
          refine OL.sk rfl rfl ?_
          refine OL.sk rfl rfl ?_
          refine OL.q (Q1.pick_f rfl rfl) rfl rfl ?_
          refine OL.q (Q1.move rfl) rfl rfl ?_
          refine OL.sk rfl rfl ?_
          refine OL.sk rfl rfl ?_
          refine OL.sk rfl rfl ?_
          refine OL.sk rfl rfl ?_
          refine OL.sk rfl rfl ?_
          refine OL.q (Q1.pick_f rfl rfl) rfl rfl ?_
          refine OL.q (Q1.move rfl) rfl rfl ?_
          refine OL.sk rfl rfl ?_
          refine OL.sk rfl rfl ?_
          refine OL.sk rfl rfl ?_
          refine OL.sk rfl rfl ?_
          refine OL.sk rfl rfl ?_
          refine OL.q (Q1.pick_f rfl rfl) rfl rfl ?_
          refine OL.q (Q1.assign rfl) rfl rfl ?_
          refine OL.nil ?_
          refine r_seq ?_
          refine r_region ?_
          refine OL.q (Q1.move rfl) rfl rfl ?_
          refine OL.q (Q1.move rfl) rfl rfl ?_
          refine OL.sk rfl rfl ?_
          refine OL.q (Q1.pick_f rfl rfl) rfl rfl ?_
          refine OL.q (Q1.move rfl) rfl rfl ?_
          refine OL.sk rfl rfl ?_
          refine OL.sk rfl rfl ?_
          refine OL.sk rfl rfl ?_
          refine OL.sk rfl rfl ?_
          refine OL.sk rfl rfl ?_
          refine OL.q (Q1.pick_f rfl rfl) rfl rfl ?_
          refine OL.q (Q1.move rfl) rfl rfl ?_
          refine OL.sk rfl rfl ?_
          refine OL.sk rfl rfl ?_
          refine OL.sk rfl rfl ?_
          refine OL.sk rfl rfl ?_
          refine OL.sk rfl rfl ?_
          refine OL.q (Q1.pick_f rfl rfl) rfl rfl ?_
          refine OL.q (Q1.assign rfl) rfl rfl ?_
          refine OL.nil ?_
          refine r_ret1 Tryd.func14 rfl rfl ?_
          exact Ret.mk ⟨⟨_, (by first | exact cfg_same (by assumption) (by assumption) (by assumption) (by assumption) (by assumption) (by assumption) (by assumption) (by assumption) (by assumption) (by assumption) (by assumption) (by assumption) | exact (decide_eq_false (fun e => absurd (congrArg Cfg.words e) (of_decide_eq_false (by assumption)))).symm | exact (decide_eq_false (fun e => absurd (congrArg Cfg.workers e) (by assumption))).symm | exact (decide_eq_false (fun e => absurd (congrArg Cfg.copies e) (by assumption))).symm | exact (decide_eq_false (fun e => absurd (congrArg Cfg.slots e) (by assumption))).symm | exact (decide_eq_false (fun e => absurd (congrArg Cfg.batch e) (by assumption))).symm | exact (decide_eq_false (fun e => absurd (congrArg Cfg.lease e) (by assumption))).symm | exact (decide_eq_false (fun e => absurd (congrArg Cfg.hedge e) (by assumption))).symm | exact (decide_eq_false (fun e => absurd (congrArg Cfg.first e) (by assumption))).symm | exact (decide_eq_false (fun e => absurd (congrArg Cfg.cap e) (by assumption))).symm | exact (decide_eq_false (fun e => absurd (congrArg Cfg.jitter e) (by assumption))).symm | exact (decide_eq_false (fun e => absurd (congrArg Cfg.net e) (by assumption))).symm | (exfalso; omega)), rfl⟩, hS4.mod⟩
      | false =>
        replace hb5 := ne_of_beq_false hb5.symm
        refine OL.sk rfl rfl ?_
        refine OL.sk rfl rfl ?_
        refine OL.sk rfl rfl ?_
        refine OL.sk rfl rfl ?_
        refine OL.sk rfl rfl ?_
        refine OL.q (Q1.pick_f rfl rfl) rfl rfl ?_
        refine OL.q (Q1.move rfl) rfl rfl ?_
        refine OL.sk rfl rfl ?_
        refine OL.sk rfl rfl ?_
        refine OL.sk rfl rfl ?_
        refine OL.sk rfl rfl ?_
        refine OL.sk rfl rfl ?_
        refine OL.q (Q1.pick_f rfl rfl) rfl rfl ?_
        refine OL.q (Q1.move rfl) rfl rfl ?_
        refine OL.sk rfl rfl ?_
        refine OL.sk rfl rfl ?_
        refine OL.sk rfl rfl ?_
        refine OL.sk rfl rfl ?_
        refine OL.sk rfl rfl ?_
        refine OL.q (Q1.pick_f rfl rfl) rfl rfl ?_
        refine OL.q (Q1.move rfl) rfl rfl ?_
        refine OL.sk rfl rfl ?_
        refine OL.sk rfl rfl ?_
        refine OL.sk rfl rfl ?_
        refine OL.sk rfl rfl ?_
        refine OL.sk rfl rfl ?_
        refine OL.q (Q1.pick_f rfl rfl) rfl rfl ?_
        refine OL.q (Q1.assign rfl) rfl rfl ?_
        refine OL.nil ?_
        refine r_seq ?_
        refine r_region ?_
        refine OL.q (Q1.move rfl) rfl rfl ?_
        refine OL.q (Q1.move rfl) rfl rfl ?_
        refine OL.sk rfl rfl ?_
        refine OL.q (Q1.pick_f rfl rfl) rfl rfl ?_
        refine OL.q (Q1.move rfl) rfl rfl ?_
        refine OL.sk rfl rfl ?_
        refine OL.sk rfl rfl ?_
        refine OL.sk rfl rfl ?_
        refine OL.sk rfl rfl ?_
        refine OL.sk rfl rfl ?_
        refine OL.q (Q1.pick_f rfl rfl) rfl rfl ?_
        refine OL.q (Q1.move rfl) rfl rfl ?_
        refine OL.sk rfl rfl ?_
        refine OL.sk rfl rfl ?_
        refine OL.sk rfl rfl ?_
        refine OL.sk rfl rfl ?_
        refine OL.sk rfl rfl ?_
        refine OL.q (Q1.pick_f rfl rfl) rfl rfl ?_
        refine OL.q (Q1.assign rfl) rfl rfl ?_
        refine OL.nil ?_
        refine r_ret1 Tryd.func14 rfl rfl ?_
        exact Ret.mk ⟨⟨_, (by first | exact cfg_same (by assumption) (by assumption) (by assumption) (by assumption) (by assumption) (by assumption) (by assumption) (by assumption) (by assumption) (by assumption) (by assumption) (by assumption) | exact (decide_eq_false (fun e => absurd (congrArg Cfg.words e) (of_decide_eq_false (by assumption)))).symm | exact (decide_eq_false (fun e => absurd (congrArg Cfg.workers e) (by assumption))).symm | exact (decide_eq_false (fun e => absurd (congrArg Cfg.copies e) (by assumption))).symm | exact (decide_eq_false (fun e => absurd (congrArg Cfg.slots e) (by assumption))).symm | exact (decide_eq_false (fun e => absurd (congrArg Cfg.batch e) (by assumption))).symm | exact (decide_eq_false (fun e => absurd (congrArg Cfg.lease e) (by assumption))).symm | exact (decide_eq_false (fun e => absurd (congrArg Cfg.hedge e) (by assumption))).symm | exact (decide_eq_false (fun e => absurd (congrArg Cfg.first e) (by assumption))).symm | exact (decide_eq_false (fun e => absurd (congrArg Cfg.cap e) (by assumption))).symm | exact (decide_eq_false (fun e => absurd (congrArg Cfg.jitter e) (by assumption))).symm | exact (decide_eq_false (fun e => absurd (congrArg Cfg.net e) (by assumption))).symm | (exfalso; omega)), rfl⟩, hS4.mod⟩
  | false =>
    replace hb3 := ne_of_beq_false hb3.symm
    refine OL.sk rfl rfl ?_
    refine OL.sk rfl rfl ?_
    refine OL.sk rfl rfl ?_
    refine OL.sk rfl rfl ?_
    refine OL.sk rfl rfl ?_
    refine OL.q (Q1.pick_f rfl rfl) rfl rfl ?_
    refine OL.q (Q1.move rfl) rfl rfl ?_
    refine OL.sk rfl rfl ?_
    refine OL.sk rfl rfl ?_
    refine OL.sk rfl rfl ?_
    refine OL.sk rfl rfl ?_
    refine OL.sk rfl rfl ?_
    refine OL.q (Q1.pick_f rfl rfl) rfl rfl ?_
    refine OL.q (Q1.move rfl) rfl rfl ?_
    refine OL.sk rfl rfl ?_
    refine OL.sk rfl rfl ?_
    refine OL.sk rfl rfl ?_
    refine OL.sk rfl rfl ?_
    refine OL.sk rfl rfl ?_
    refine OL.q (Q1.pick_f rfl rfl) rfl rfl ?_
    refine OL.q (Q1.move rfl) rfl rfl ?_
    refine OL.sk rfl rfl ?_
    refine OL.sk rfl rfl ?_
    refine OL.sk rfl rfl ?_
    refine OL.sk rfl rfl ?_
    refine OL.sk rfl rfl ?_
    refine OL.q (Q1.pick_f rfl rfl) rfl rfl ?_
    refine OL.q (Q1.assign rfl) rfl rfl ?_
    refine OL.nil ?_
    refine r_seq ?_
    refine r_region ?_
    refine OL.q (Q1.fieldAddr fl30_7 rfl) rfl rfl ?_
    refine OL.q (Q1.load1 ti3 rfl (fun _ e => e ▸ (f1.cell 7 _ rfl))) rfl rfl ?_
    refine OL.q (Q1.fieldAddr fl30_7 rfl) rfl rfl ?_
    refine OL.q (Q1.load1 ti3 rfl (fun _ e => e ▸ (f2.cell 7 _ rfl))) rfl rfl ?_
    refine OL.qb (Q1.eq rfl rfl) rfl rfl ?_
    intro b4 hb4
    refine OL.q (Q1.move rfl) rfl rfl ?_
    cases b4 with
    | true =>
      replace hb4 := eq_of_beq hb4.symm
      refine OL.q (Q1.fieldAddr fl30_8 rfl) rfl rfl ?_
      refine OL.q (Q1.load1 ti3 rfl (fun _ e => e ▸ (f1.cell 8 _ rfl))) rfl rfl ?_
      refine OL.q (Q1.fieldAddr fl30_8 rfl) rfl rfl ?_
      refine OL.q (Q1.load1 ti3 rfl (fun _ e => e ▸ (f2.cell 8 _ rfl))) rfl rfl ?_
      refine OL.qb (Q1.eq rfl rfl) rfl rfl ?_
      intro b5 hb5
      refine OL.q (Q1.pick_t rfl rfl) rfl rfl ?_
      refine OL.q (Q1.move rfl) rfl rfl ?_
      cases b5 with
      | true =>
        replace hb5 := eq_of_beq hb5.symm
        refine OL.q (Q1.fieldAddr fl30_9 rfl) rfl rfl ?_
        refine OL.q (Q1.load1 ti3 rfl (fun _ e => e ▸ (f1.cell 9 _ rfl))) rfl rfl ?_
        refine OL.q (Q1.fieldAddr fl30_9 rfl) rfl rfl ?_
        refine OL.q (Q1.load1 ti3 rfl (fun _ e => e ▸ (f2.cell 9 _ rfl))) rfl rfl ?_
        refine OL.qb (Q1.eq rfl rfl) rfl rfl ?_
        intro b6 hb6
        refine OL.q (Q1.pick_t rfl rfl) rfl rfl ?_
        refine OL.q (Q1.move rfl) rfl rfl ?_
        cases b6 with
        | true =>
          replace hb6 := eq_of_beq hb6.symm
          refine OL.q (Q1.fieldAddr fl30_10 rfl) rfl rfl ?_
          refine OL.q (Q1.load1 ti3 rfl (fun _ e => e ▸ (f1.cell 10 _ rfl))) rfl rfl ?_
          refine OL.q (Q1.fieldAddr fl30_10 rfl) rfl rfl ?_
          refine OL.q (Q1.load1 ti3 rfl (fun _ e => e ▸ (f2.cell 10 _ rfl))) rfl rfl ?_
          refine OL.qb (Q1.eq rfl rfl) rfl rfl ?_
          intro b7 hb7
          refine OL.q (Q1.pick_t rfl rfl) rfl rfl ?_
          refine OL.q (Q1.move rfl) rfl rfl ?_
          cases b7 with
          | true =>
            replace hb7 := eq_of_beq hb7.symm
            refine OL.q (Q1.fieldAddr fl30_11 rfl) rfl rfl ?_
            refine OL.q (Q1.load1 ti3 rfl (fun _ e => e ▸ (f1.cell 11 _ rfl))) rfl rfl ?_
            refine OL.q (Q1.fieldAddr fl30_11 rfl) rfl rfl ?_
            refine OL.q (Q1.load1 ti3 rfl (fun _ e => e ▸ (f2.cell 11 _ rfl))) rfl rfl ?_
            refine OL.qb (Q1.eq rfl rfl) rfl rfl ?_
            intro b8 hb8
            refine OL.q (Q1.pick_t rfl rfl) rfl rfl ?_
            refine OL.q (Q1.assign rfl) rfl rfl ?_
            refine OL.nil ?_
            refine r_seq ?_
            refine r_region ?_
            refine OL.q (Q1.move rfl) rfl rfl ?_
            refine OL.q (Q1.move rfl) rfl rfl ?_
            refine OL.sk rfl rfl ?_
            refine OL.q (Q1.pick_f rfl rfl) rfl rfl ?_
            refine OL.q (Q1.move rfl) rfl rfl ?_
            refine OL.sk rfl rfl ?_
            refine OL.sk rfl rfl ?_
            refine OL.sk rfl rfl ?_
            refine OL.sk rfl rfl ?_
            refine OL.sk rfl rfl ?_
            refine OL.q (Q1.pick_f rfl rfl) rfl rfl ?_
            refine OL.q (Q1.move rfl) rfl rfl ?_
            refine OL.sk rfl rfl ?_
            refine OL.sk rfl rfl ?_
            refine OL.sk rfl rfl ?_
            refine OL.sk rfl rfl ?_
            refine OL.sk rfl rfl ?_
            refine OL.q (Q1.pick_f rfl rfl) rfl rfl ?_
            refine OL.q (Q1.assign rfl) rfl rfl ?_
            refine OL.nil ?_
            refine r_ret1 Tryd.func14 rfl rfl ?_
            exact Ret.mk ⟨⟨_, (by first | exact cfg_same (by assumption) (by assumption) (by assumption) (by assumption) (by assumption) (by assumption) (by assumption) (by assumption) (by assumption) (by assumption) (by assumption) (by assumption) | exact (decide_eq_false (fun e => absurd (congrArg Cfg.words e) (of_decide_eq_false (by assumption)))).symm | exact (decide_eq_false (fun e => absurd (congrArg Cfg.workers e) (by assumption))).symm | exact (decide_eq_false (fun e => absurd (congrArg Cfg.copies e) (by assumption))).symm | exact (decide_eq_false (fun e => absurd (congrArg Cfg.slots e) (by assumption))).symm | exact (decide_eq_false (fun e => absurd (congrArg Cfg.batch e) (by assumption))).symm | exact (decide_eq_false (fun e => absurd (congrArg Cfg.lease e) (by assumption))).symm | exact (decide_eq_false (fun e => absurd (congrArg Cfg.hedge e) (by assumption))).symm | exact (decide_eq_false (fun e => absurd (congrArg Cfg.first e) (by assumption))).symm | exact (decide_eq_false (fun e => absurd (congrArg Cfg.cap e) (by assumption))).symm | exact (decide_eq_false (fun e => absurd (congrArg Cfg.jitter e) (by assumption))).symm | exact (decide_eq_false (fun e => absurd (congrArg Cfg.net e) (by assumption))).symm | (exfalso; omega)), rfl⟩, hS4.mod⟩
          | false =>
            replace hb7 := ne_of_beq_false hb7.symm
            refine OL.sk rfl rfl ?_
            refine OL.sk rfl rfl ?_
            refine OL.sk rfl rfl ?_
            refine OL.sk rfl rfl ?_
            refine OL.sk rfl rfl ?_
            refine OL.q (Q1.pick_f rfl rfl) rfl rfl ?_
            refine OL.q (Q1.assign rfl) rfl rfl ?_
            refine OL.nil ?_
            refine r_seq ?_
            refine r_region ?_
            refine OL.q (Q1.move rfl) rfl rfl ?_
            refine OL.q (Q1.move rfl) rfl rfl ?_
            refine OL.sk rfl rfl ?_
            refine OL.q (Q1.pick_f rfl rfl) rfl rfl ?_
            refine OL.q (Q1.move rfl) rfl rfl ?_
            refine OL.sk rfl rfl ?_
            refine OL.sk rfl rfl ?_
            refine OL.sk rfl rfl ?_
            refine OL.sk rfl rfl ?_
            refine OL.sk rfl rfl ?_
            refine OL.q (Q1.pick_f rfl rfl) rfl rfl ?_
            refine OL.q (Q1.move rfl) rfl rfl ?_
            refine OL.sk rfl rfl ?_
            refine OL.sk rfl rfl ?_
            refine OL.sk rfl rfl ?_
            refine OL.sk rfl rfl ?_
            refine OL.sk rfl rfl ?_
            refine OL.q (Q1.pick_f rfl rfl) rfl rfl ?_
            refine OL.q (Q1.assign rfl) rfl rfl ?_
            refine OL.nil ?_
            refine r_ret1 Tryd.func14 rfl rfl ?_
            exact Ret.mk ⟨⟨_, (by first | exact cfg_same (by assumption) (by assumption) (by assumption) (by assumption) (by assumption) (by assumption) (by assumption) (by assumption) (by assumption) (by assumption) (by assumption) (by assumption) | exact (decide_eq_false (fun e => absurd (congrArg Cfg.words e) (of_decide_eq_false (by assumption)))).symm | exact (decide_eq_false (fun e => absurd (congrArg Cfg.workers e) (by assumption))).symm | exact (decide_eq_false (fun e => absurd (congrArg Cfg.copies e) (by assumption))).symm | exact (decide_eq_false (fun e => absurd (congrArg Cfg.slots e) (by assumption))).symm | exact (decide_eq_false (fun e => absurd (congrArg Cfg.batch e) (by assumption))).symm | exact (decide_eq_false (fun e => absurd (congrArg Cfg.lease e) (by assumption))).symm | exact (decide_eq_false (fun e => absurd (congrArg Cfg.hedge e) (by assumption))).symm | exact (decide_eq_false (fun e => absurd (congrArg Cfg.first e) (by assumption))).symm | exact (decide_eq_false (fun e => absurd (congrArg Cfg.cap e) (by assumption))).symm | exact (decide_eq_false (fun e => absurd (congrArg Cfg.jitter e) (by assumption))).symm | exact (decide_eq_false (fun e => absurd (congrArg Cfg.net e) (by assumption))).symm | (exfalso; omega)), rfl⟩, hS4.mod⟩
        | false =>
          replace hb6 := ne_of_beq_false hb6.symm
          refine OL.sk rfl rfl ?_
          refine OL.sk rfl rfl ?_
          refine OL.sk rfl rfl ?_
          refine OL.sk rfl rfl ?_
          refine OL.sk rfl rfl ?_
          refine OL.q (Q1.pick_f rfl rfl) rfl rfl ?_
          refine OL.q (Q1.move rfl) rfl rfl ?_
          refine OL.sk rfl rfl ?_
          refine OL.sk rfl rfl ?_
          refine OL.sk rfl rfl ?_
          refine OL.sk rfl rfl ?_
          refine OL.sk rfl rfl ?_
          refine OL.q (Q1.pick_f rfl rfl) rfl rfl ?_
          refine OL.q (Q1.assign rfl) rfl rfl ?_
          refine OL.nil ?_
          refine r_seq ?_
          refine r_region ?_
          refine OL.q (Q1.move rfl) rfl rfl ?_
          refine OL.q (Q1.move rfl) rfl rfl ?_
          refine OL.sk rfl rfl ?_
          refine OL.q (Q1.pick_f rfl rfl) rfl rfl ?_
          refine OL.q (Q1.move rfl) rfl rfl ?_
          refine OL.sk rfl rfl ?_
          refine OL.sk rfl rfl ?_
          refine OL.sk rfl rfl ?_
          refine OL.sk rfl rfl ?_
          refine OL.sk rfl rfl ?_
          refine OL.q (Q1.pick_f rfl rfl) rfl rfl ?_
          refine OL.q (Q1.move rfl) rfl rfl ?_
          refine OL.sk rfl rfl ?_
          refine OL.sk rfl rfl ?_
          refine OL.sk rfl rfl ?_
          refine OL.sk rfl rfl ?_
          refine OL.sk rfl rfl ?_
          refine OL.q (Q1.pick_f rfl rfl) rfl rfl ?_
          refine OL.q (Q1.assign rfl) rfl rfl ?_
          refine OL.nil ?_
          refine r_ret1 Tryd.func14 rfl rfl ?_
          exact Ret.mk ⟨⟨_, (by first | exact cfg_same (by assumption) (by assumption) (by assumption) (by assumption) (by assumption) (by assumption) (by assumption) (by assumption) (by assumption) (by assumption) (by assumption) (by assumption) | exact (decide_eq_false (fun e => absurd (congrArg Cfg.words e) (of_decide_eq_false (by assumption)))).symm | exact (decide_eq_false (fun e => absurd (congrArg Cfg.workers e) (by assumption))).symm | exact (decide_eq_false (fun e => absurd (congrArg Cfg.copies e) (by assumption))).symm | exact (decide_eq_false (fun e => absurd (congrArg Cfg.slots e) (by assumption))).symm | exact (decide_eq_false (fun e => absurd (congrArg Cfg.batch e) (by assumption))).symm | exact (decide_eq_false (fun e => absurd (congrArg Cfg.lease e) (by assumption))).symm | exact (decide_eq_false (fun e => absurd (congrArg Cfg.hedge e) (by assumption))).symm | exact (decide_eq_false (fun e => absurd (congrArg Cfg.first e) (by assumption))).symm | exact (decide_eq_false (fun e => absurd (congrArg Cfg.cap e) (by assumption))).symm | exact (decide_eq_false (fun e => absurd (congrArg Cfg.jitter e) (by assumption))).symm | exact (decide_eq_false (fun e => absurd (congrArg Cfg.net e) (by assumption))).symm | (exfalso; omega)), rfl⟩, hS4.mod⟩
      | false =>
        replace hb5 := ne_of_beq_false hb5.symm
        refine OL.sk rfl rfl ?_
        refine OL.sk rfl rfl ?_
        refine OL.sk rfl rfl ?_
        refine OL.sk rfl rfl ?_
        refine OL.sk rfl rfl ?_
        refine OL.q (Q1.pick_f rfl rfl) rfl rfl ?_
        refine OL.q (Q1.move rfl) rfl rfl ?_
        refine OL.sk rfl rfl ?_
        refine OL.sk rfl rfl ?_
        refine OL.sk rfl rfl ?_
        refine OL.sk rfl rfl ?_
        refine OL.sk rfl rfl ?_
        refine OL.q (Q1.pick_f rfl rfl) rfl rfl ?_
        refine OL.q (Q1.move rfl) rfl rfl ?_
        refine OL.sk rfl rfl ?_
        refine OL.sk rfl rfl ?_
        refine OL.sk rfl rfl ?_
        refine OL.sk rfl rfl ?_
        refine OL.sk rfl rfl ?_
        refine OL.q (Q1.pick_f rfl rfl) rfl rfl ?_
        refine OL.q (Q1.assign rfl) rfl rfl ?_
        refine OL.nil ?_
        refine r_seq ?_
        refine r_region ?_
        refine OL.q (Q1.move rfl) rfl rfl ?_
        refine OL.q (Q1.move rfl) rfl rfl ?_
        refine OL.sk rfl rfl ?_
        refine OL.q (Q1.pick_f rfl rfl) rfl rfl ?_
        refine OL.q (Q1.move rfl) rfl rfl ?_
        refine OL.sk rfl rfl ?_
        refine OL.sk rfl rfl ?_
        refine OL.sk rfl rfl ?_
        refine OL.sk rfl rfl ?_
        refine OL.sk rfl rfl ?_
        refine OL.q (Q1.pick_f rfl rfl) rfl rfl ?_
        refine OL.q (Q1.move rfl) rfl rfl ?_
        refine OL.sk rfl rfl ?_
        refine OL.sk rfl rfl ?_
        refine OL.sk rfl rfl ?_
        refine OL.sk rfl rfl ?_
        refine OL.sk rfl rfl ?_
        refine OL.q (Q1.pick_f rfl rfl) rfl rfl ?_
        refine OL.q (Q1.assign rfl) rfl rfl ?_
        refine OL.nil ?_
        refine r_ret1 Tryd.func14 rfl rfl ?_
        exact Ret.mk ⟨⟨_, (by first | exact cfg_same (by assumption) (by assumption) (by assumption) (by assumption) (by assumption) (by assumption) (by assumption) (by assumption) (by assumption) (by assumption) (by assumption) (by assumption) | exact (decide_eq_false (fun e => absurd (congrArg Cfg.words e) (of_decide_eq_false (by assumption)))).symm | exact (decide_eq_false (fun e => absurd (congrArg Cfg.workers e) (by assumption))).symm | exact (decide_eq_false (fun e => absurd (congrArg Cfg.copies e) (by assumption))).symm | exact (decide_eq_false (fun e => absurd (congrArg Cfg.slots e) (by assumption))).symm | exact (decide_eq_false (fun e => absurd (congrArg Cfg.batch e) (by assumption))).symm | exact (decide_eq_false (fun e => absurd (congrArg Cfg.lease e) (by assumption))).symm | exact (decide_eq_false (fun e => absurd (congrArg Cfg.hedge e) (by assumption))).symm | exact (decide_eq_false (fun e => absurd (congrArg Cfg.first e) (by assumption))).symm | exact (decide_eq_false (fun e => absurd (congrArg Cfg.cap e) (by assumption))).symm | exact (decide_eq_false (fun e => absurd (congrArg Cfg.jitter e) (by assumption))).symm | exact (decide_eq_false (fun e => absurd (congrArg Cfg.net e) (by assumption))).symm | (exfalso; omega)), rfl⟩, hS4.mod⟩
    | false =>
      replace hb4 := ne_of_beq_false hb4.symm
      refine OL.sk rfl rfl ?_
      refine OL.sk rfl rfl ?_
      refine OL.sk rfl rfl ?_
      refine OL.sk rfl rfl ?_
      refine OL.sk rfl rfl ?_
      refine OL.q (Q1.pick_f rfl rfl) rfl rfl ?_
      refine OL.q (Q1.move rfl) rfl rfl ?_
      refine OL.sk rfl rfl ?_
      refine OL.sk rfl rfl ?_
      refine OL.sk rfl rfl ?_
      refine OL.sk rfl rfl ?_
      refine OL.sk rfl rfl ?_
      refine OL.q (Q1.pick_f rfl rfl) rfl rfl ?_
      refine OL.q (Q1.move rfl) rfl rfl ?_
      refine OL.sk rfl rfl ?_
      refine OL.sk rfl rfl ?_
      refine OL.sk rfl rfl ?_
      refine OL.sk rfl rfl ?_
      refine OL.sk rfl rfl ?_
      refine OL.q (Q1.pick_f rfl rfl) rfl rfl ?_
      refine OL.q (Q1.move rfl) rfl rfl ?_
      refine OL.sk rfl rfl ?_
      refine OL.sk rfl rfl ?_
      refine OL.sk rfl rfl ?_
      refine OL.sk rfl rfl ?_
      refine OL.sk rfl rfl ?_
      refine OL.q (Q1.pick_f rfl rfl) rfl rfl ?_
      refine OL.q (Q1.assign rfl) rfl rfl ?_
      refine OL.nil ?_
      refine r_seq ?_
      refine r_region ?_
      refine OL.q (Q1.move rfl) rfl rfl ?_
      refine OL.q (Q1.move rfl) rfl rfl ?_
      refine OL.sk rfl rfl ?_
      refine OL.q (Q1.pick_f rfl rfl) rfl rfl ?_
      refine OL.q (Q1.move rfl) rfl rfl ?_
      refine OL.sk rfl rfl ?_
      refine OL.sk rfl rfl ?_
      refine OL.sk rfl rfl ?_
      refine OL.sk rfl rfl ?_
      refine OL.sk rfl rfl ?_
      refine OL.q (Q1.pick_f rfl rfl) rfl rfl ?_
      refine OL.q (Q1.move rfl) rfl rfl ?_
      refine OL.sk rfl rfl ?_
      refine OL.sk rfl rfl ?_
      refine OL.sk rfl rfl ?_
      refine OL.sk rfl rfl ?_
      refine OL.sk rfl rfl ?_
      refine OL.q (Q1.pick_f rfl rfl) rfl rfl ?_
      refine OL.q (Q1.assign rfl) rfl rfl ?_
      refine OL.nil ?_
      refine r_ret1 Tryd.func14 rfl rfl ?_
      exact Ret.mk ⟨⟨_, (by first | exact cfg_same (by assumption) (by assumption) (by assumption) (by assumption) (by assumption) (by assumption) (by assumption) (by assumption) (by assumption) (by assumption) (by assumption) (by assumption) | exact (decide_eq_false (fun e => absurd (congrArg Cfg.words e) (of_decide_eq_false (by assumption)))).symm | exact (decide_eq_false (fun e => absurd (congrArg Cfg.workers e) (by assumption))).symm | exact (decide_eq_false (fun e => absurd (congrArg Cfg.copies e) (by assumption))).symm | exact (decide_eq_false (fun e => absurd (congrArg Cfg.slots e) (by assumption))).symm | exact (decide_eq_false (fun e => absurd (congrArg Cfg.batch e) (by assumption))).symm | exact (decide_eq_false (fun e => absurd (congrArg Cfg.lease e) (by assumption))).symm | exact (decide_eq_false (fun e => absurd (congrArg Cfg.hedge e) (by assumption))).symm | exact (decide_eq_false (fun e => absurd (congrArg Cfg.first e) (by assumption))).symm | exact (decide_eq_false (fun e => absurd (congrArg Cfg.cap e) (by assumption))).symm | exact (decide_eq_false (fun e => absurd (congrArg Cfg.jitter e) (by assumption))).symm | exact (decide_eq_false (fun e => absurd (congrArg Cfg.net e) (by assumption))).symm | (exfalso; omega)), rfl⟩, hS4.mod⟩
set_option maxRecDepth 20000 in
set_option maxHeartbeats 4000000 in
theorem greatT_c {w0 : World}  {v_l : Value} {l : List Str} (h_l : Sl encS w0 (Iv 0 w0.heap.size) v_l l) :
    Calls Tryd.prog 31 #[v_l] w0 (Ret fun rv w1 => (∃ rb : Bool, rb = (Ml.greatT l) ∧ rv = .bool rb) ∧ Ext w0 w1) := by
  have hE0 : Ext w0 w0 := Mod.refl _ _
  have hle1 := h_l.le
  refine calls_enter Tryd.func31 rfl Tryd.ntmps31 rfl ?_
  refine r_seq ?_
  refine r_region ?_
  refine OL.q (Q1.assign rfl) rfl rfl ?_
  refine OL.nil ?_
  refine r_seq ?_
  refine r_seq ?_
  refine r_region ?_
  refine OL.q (Q1.assign rfl) rfl rfl ?_
  refine OL.nil ?_
  refine r_block ?_
  refine r_loop (I := fun m E W => ∃ (k : Nat), E = [(0, v_l), (3, .int .i64 (((k : Nat) : Int)))] ∧ m = l.length - k ∧ Ext w0 W ∧ w0.heap.size ≤ W.heap.size ∧ Sl encS W (Iv 0 w0.heap.size) v_l l ∧ ((l.take k).any (fun s => decide (s.length > 100)) = false)) ?_ ?_
  · refine ⟨_, _, ⟨(0 : Nat), rfl, rfl, hE0, Nat.le_refl _, h_l, (by rfl)⟩, ⟨rfl, rfl, trivial⟩⟩
  · rintro _ _ w1 ⟨k, rfl, rfl, hE1, hs1, f1, hi⟩ ih1
    refine r_seq ?_
    refine r_seq ?_
    refine r_region ?_
    refine OL.q (Q1.move rfl) rfl rfl ?_
    refine OL.q (Q1.move rfl) rfl rfl ?_
    refine OL.q (Q1.lenSl Tryd.underlying27 (f1) rfl) rfl rfl ?_
    refine OL.qb (Q1.lt rfl rfl) rfl rfl ?_
    intro b1 hb1
    refine OL.q (Q1.move rfl) rfl rfl ?_
    cases b1 with
    | true =>
      replace hb1 := of_decide_eq_true hb1.symm
      refine OL.q (Q1.move rfl) rfl rfl ?_
      refine OL.q (Q1.lenSl Tryd.underlying27 (f1) rfl) rfl rfl ?_
      refine OL.qb (Q1.le rfl rfl) rfl rfl ?_
      intro b2 hb2
      refine OL.q (Q1.pick_t rfl rfl) rfl rfl ?_
      refine OL.nil ?_
      cases b2 with
      | true =>
        replace hb2 := of_decide_eq_true hb2.symm
        refine r_cond_t rfl ?_
        refine r_skip ?_
        refine r_seq ?_
        refine r_block ?_
        refine r_seq ?_
        refine r_region ?_
        refine OL.q (Q1.move rfl) rfl rfl ?_
        refine OL.q (Q1.move rfl) rfl rfl ?_
        obtain ⟨x1, b3, o1, hx1, hr1, hl1, hu1, hw1⟩ := Sl.at' (P := Tryd.prog) f1 Tryd.underlying27 ti9 encS_len (k := .i64) (n := ((k : Nat) : Int)) (k) (by omega) (by first | assumption | omega)
        refine OL.q (Q1.indexAddr rfl rfl hr1) rfl rfl ?_
        refine OL.q (Q1.load1 ti9 rfl (fun _ e => e ▸ hw1)) rfl rfl ?_
        refine OL.q (Q1.lenS Tryd.underlying9 rfl) rfl rfl ?_
        refine OL.qb (Q1.gt rfl rfl) rfl rfl ?_
        intro b4 hb3
        refine OL.nil ?_
        cases b4 with
        | true =>
          replace hb3 := of_decide_eq_true hb3.symm
          refine r_cond_t rfl ?_
          refine r_seq ?_
          refine r_region ?_
          refine OL.q (Q1.assign rfl) rfl rfl ?_
          refine OL.nil ?_
          refine r_ret1 Tryd.func31 rfl rfl ?_
          exact Ret.mk ⟨⟨_, (by first | exact Ml.greatT_long hx1 (by omega) | exact Ml.greatT_end hi (by omega) (by assumption) | (exfalso; omega)), rfl⟩, hE1⟩
        | false =>
          replace hb3 := of_decide_eq_false hb3.symm
          refine r_cond_f rfl ?_
          refine r_skip ?_
          refine r_inBlock ?_
          refine r_region ?_
          refine OL.q (Q1.move rfl) rfl rfl ?_
          refine OL.q (Q1.addI (((k + 1 : Nat) : Int)) rfl rfl (by omega)) rfl rfl ?_
          refine OL.q (Q1.assign rfl) rfl rfl ?_
          refine OL.nil ?_
          exact (ih1 _ _ _ ⟨(k + 1 : Nat), rfl, rfl, hE1, (by omega), f1, (by first | exact Ml.any_take_no hi hx1 (decide_eq_false (by omega)) | (exfalso; omega))⟩ (by omega)).sub ⟨rfl, rfl, trivial⟩
      | false =>
        replace hb2 := of_decide_eq_false hb2.symm
        refine r_cond_f rfl ?_
        refine r_exit rfl ?_
        refine r_seq ?_
        refine r_region ?_
        refine OL.q (Q1.move rfl) rfl rfl ?_
        refine OL.q (Q1.lenSl Tryd.underlying27 (f1) rfl) rfl rfl ?_
        refine OL.qb (Q1.gt rfl rfl) rfl rfl ?_
        intro b3 hb3
        refine OL.q (Q1.assign rfl) rfl rfl ?_
        refine OL.nil ?_
        refine r_ret1 Tryd.func31 rfl rfl ?_
        exact Ret.mk ⟨⟨_, (by first | exact Ml.greatT_long hx1 (by omega) | exact Ml.greatT_end hi (by omega) (by assumption) | (exfalso; omega)), rfl⟩, hE1⟩
    | false =>
      replace hb1 := of_decide_eq_false hb1.symm
      refine OL.sk rfl rfl ?_
      refine OL.sk rfl rfl ?_
      refine OL.sk rfl rfl ?_
      refine OL.q (Q1.pick_f rfl rfl) rfl rfl ?_
      refine OL.nil ?_
      refine r_cond_f rfl ?_
      refine r_exit rfl ?_
      refine r_seq ?_
      refine r_region ?_
      refine OL.q (Q1.move rfl) rfl rfl ?_
      refine OL.q (Q1.lenSl Tryd.underlying27 (f1) rfl) rfl rfl ?_
      refine OL.qb (Q1.gt rfl rfl) rfl rfl ?_
      intro b2 hb2
      refine OL.q (Q1.assign rfl) rfl rfl ?_
      refine OL.nil ?_
      refine r_ret1 Tryd.func31 rfl rfl ?_
      exact Ret.mk ⟨⟨_, (by first | exact Ml.greatT_long hx1 (by omega) | exact Ml.greatT_end hi (by omega) (by assumption) | (exfalso; omega)), rfl⟩, hE1⟩
set_option maxRecDepth 20000 in
set_option maxHeartbeats 4000000 in
theorem greatC_c {w0 : World}  {c : Cfg} {v_c_words : Value} {v_c_cuts : Value} (h_c_words : Sl encS w0 (Iv 0 w0.heap.size) v_c_words c.words) (h_c_cuts : Sl encKey w0 (Iv 0 w0.heap.size) v_c_cuts c.cuts) :
    Calls Tryd.prog 15 #[.agg #[v_c_words, v_c_cuts, .int .i64 c.workers, .int .i64 c.copies, .int .i64 c.slots, .int .i64 c.batch, .int .i64 c.lease, .int .i64 c.hedge, .int .i64 c.first, .int .i64 c.cap, .int .i64 c.jitter, .int .i64 c.net]] w0 (Ret fun rv w1 => (∃ rb : Bool, rb = (Ml.greatC c) ∧ rv = .bool rb) ∧ Ext w0 w1) := by
  have hE0 : Ext w0 w0 := Mod.refl _ _
  have hle1 := h_c_words.le
  have hle2 := h_c_cuts.le
  refine calls_enter Tryd.func15 rfl Tryd.ntmps15 rfl ?_
  refine r_seq ?_
  refine r_region ?_
  refine OL.act rfl rfl (AW.box [v_c_words, v_c_cuts, .int .i64 c.workers, .int .i64 c.copies, .int .i64 c.slots, .int .i64 c.batch, .int .i64 c.lease, .int .i64 c.hedge, .int .i64 c.first, .int .i64 c.cap, .int .i64 c.jitter, .int .i64 c.net] rfl rfl ?_)
  intro w1 b1 hm1 hb1 hz1 hk1
  have f1 := h_c_words.ext hm1
  have f2 := h_c_cuts.ext hm1
  have hE1 := hE0.ext hm1
  have hs1 := hm1.size
  refine OL.q (Q1.assign rfl) rfl rfl ?_
  refine OL.nil ?_
  refine r_seq ?_
  refine r_seq ?_
  refine r_region ?_
  refine OL.q (Q1.assign rfl) rfl rfl ?_
  refine OL.nil ?_
  refine r_block ?_
  refine r_loop (I := fun m E W => ∃ (k : Nat), E = [(1, ptr b1 0), (3, .int .i64 (((k : Nat) : Int)))] ∧ m = c.cuts.length - k ∧ Ext w0 W ∧ w1.heap.size ≤ W.heap.size ∧ Bk W b1 [v_c_words, v_c_cuts, .int .i64 c.workers, .int .i64 c.copies, .int .i64 c.slots, .int .i64 c.batch, .int .i64 c.lease, .int .i64 c.hedge, .int .i64 c.first, .int .i64 c.cap, .int .i64 c.jitter, .int .i64 c.net] 30 ∧ Sl encS W (Iv 0 w0.heap.size) v_c_words c.words ∧ Sl encKey W (Iv 0 w0.heap.size) v_c_cuts c.cuts ∧ ((c.cuts.take k).any (fun s => decide (s.text.length > 100)) = false)) ?_ ?_
  · refine ⟨_, _, ⟨(0 : Nat), rfl, rfl, hE1, Nat.le_refl _, hk1, f1, f2, (by rfl)⟩, ⟨rfl, rfl, trivial⟩⟩
  · rintro _ _ w2 ⟨k, rfl, rfl, hE2, hs2, f3, f4, f5, hi⟩ ih1
    refine r_seq ?_
    refine r_seq ?_
    refine r_region ?_
    refine OL.q (Q1.move rfl) rfl rfl ?_
    refine OL.q (Q1.fieldAddr fl30_1 rfl) rfl rfl ?_
    refine OL.q (Q1.load1 ti28 rfl (fun _ e => e ▸ (f3.cell 1 _ rfl))) rfl rfl ?_
    refine OL.q (Q1.lenSl Tryd.underlying28 (f5) rfl) rfl rfl ?_
    refine OL.qb (Q1.lt rfl rfl) rfl rfl ?_
    intro b2 hb2
    refine OL.q (Q1.move rfl) rfl rfl ?_
    cases b2 with
    | true =>
      replace hb2 := of_decide_eq_true hb2.symm
      refine OL.q (Q1.fieldAddr fl30_1 rfl) rfl rfl ?_
      refine OL.q (Q1.load1 ti28 rfl (fun _ e => e ▸ (f3.cell 1 _ rfl))) rfl rfl ?_
      refine OL.q (Q1.lenSl Tryd.underlying28 (f5) rfl) rfl rfl ?_
      refine OL.qb (Q1.le rfl rfl) rfl rfl ?_
      intro b3 hb3
      refine OL.q (Q1.pick_t rfl rfl) rfl rfl ?_
      refine OL.nil ?_
      cases b3 with
      | true =>
        replace hb3 := of_decide_eq_true hb3.symm
        refine r_cond_t rfl ?_
        refine r_skip ?_
        refine r_seq ?_
        refine r_block ?_
        refine r_seq ?_
        refine r_region ?_
        refine OL.q (Q1.fieldAddr fl30_1 rfl) rfl rfl ?_
        refine OL.q (Q1.load1 ti28 rfl (fun _ e => e ▸ (f3.cell 1 _ rfl))) rfl rfl ?_
        refine OL.q (Q1.move rfl) rfl rfl ?_
        obtain ⟨x1, b4, o1, hx1, hr1, hl1, hu1, hw1⟩ := Sl.at' (P := Tryd.prog) f5 Tryd.underlying28 ti72 encKey_len (k := .i64) (n := ((k : Nat) : Int)) (k) (by omega) (by first | assumption | omega)
        refine OL.q (Q1.indexAddr rfl rfl hr1) rfl rfl ?_
        refine OL.q (Q1.fieldAddr fl72_1 rfl) rfl rfl ?_
        have hr2 := hw1.sub 1 1 (Nat.le_of_ble_eq_true rfl)
        refine OL.q (Q1.load1 ti9 rfl (fun _ e => e ▸ hr2)) rfl rfl ?_
        refine OL.q (Q1.lenS Tryd.underlying9 rfl) rfl rfl ?_
        refine OL.qb (Q1.gt rfl rfl) rfl rfl ?_
        intro b5 hb4
        refine OL.nil ?_
        cases b5 with
        | true =>
          replace hb4 := of_decide_eq_true hb4.symm
          refine r_cond_t rfl ?_
          refine r_seq ?_
          refine r_region ?_
          refine OL.q (Q1.assign rfl) rfl rfl ?_
          refine OL.nil ?_
          refine r_ret1 Tryd.func15 rfl rfl ?_
          exact Ret.mk ⟨⟨_, (by first | exact Ml.greatC_cut hx1 (by omega) | exact Ml.greatC_words (by assumption) | exact Ml.greatC_no hi (by omega) (by assumption) (by assumption) | (exfalso; omega)), rfl⟩, hE2⟩
        | false =>
          replace hb4 := of_decide_eq_false hb4.symm
          refine r_cond_f rfl ?_
          refine r_skip ?_
          refine r_inBlock ?_
          refine r_region ?_
          refine OL.q (Q1.move rfl) rfl rfl ?_
          refine OL.q (Q1.addI (((k + 1 : Nat) : Int)) rfl rfl (by omega)) rfl rfl ?_
          refine OL.q (Q1.assign rfl) rfl rfl ?_
          refine OL.nil ?_
          exact (ih1 _ _ _ ⟨(k + 1 : Nat), rfl, rfl, hE2, (by omega), f3, f4, f5, (by first | exact Ml.any_take_no hi hx1 (decide_eq_false (by omega)) | (exfalso; omega))⟩ (by omega)).sub ⟨rfl, rfl, trivial⟩
      | false =>
        replace hb3 := of_decide_eq_false hb3.symm
        refine r_cond_f rfl ?_
        refine r_exit rfl ?_
        refine r_seq ?_
        refine r_region ?_
        refine OL.q (Q1.fieldAddr fl30_0 rfl) rfl rfl ?_
        refine OL.q (Q1.load1 ti27 rfl (fun _ e => e ▸ (f3.cell 0 _ rfl))) rfl rfl ?_
        refine OL.act rfl rfl (AW.callF cl31 rfl (greatT_c (w0 := w2) (l := c.words)  ((f4).iv (Nat.zero_le _) (by omega))) ?_)
        rintro _ w3 ⟨⟨b4, hb4, rfl⟩, hm2⟩
        have f6 := f3.ext hm2
        have f7 := f4.ext hm2
        have f8 := f5.ext hm2
        have hE3 := hE2.ext hm2
        have hs3 := hm2.size
        refine OL.q (Q1.move rfl) rfl rfl ?_
        cases b4 with
        | true =>
          replace hb4 := hb4.symm
          refine OL.sk rfl rfl ?_
          refine OL.sk rfl rfl ?_
          refine OL.sk rfl rfl ?_
          refine OL.sk rfl rfl ?_
          refine OL.q (Q1.pick_t rfl rfl) rfl rfl ?_
          refine OL.q (Q1.assign rfl) rfl rfl ?_
          refine OL.nil ?_
          refine r_ret1 Tryd.func15 rfl rfl ?_
          exact Ret.mk ⟨⟨_, (by first | exact Ml.greatC_cut hx1 (by omega) | exact Ml.greatC_words (by assumption) | exact Ml.greatC_no hi (by omega) (by assumption) (by assumption) | (exfalso; omega)), rfl⟩, hE3⟩
        | false =>
          replace hb4 := hb4.symm
          refine OL.q (Q1.fieldAddr fl30_1 rfl) rfl rfl ?_
          refine OL.q (Q1.load1 ti28 rfl (fun _ e => e ▸ (f6.cell 1 _ rfl))) rfl rfl ?_
          refine OL.q (Q1.lenSl Tryd.underlying28 (f8) rfl) rfl rfl ?_
          refine OL.qb (Q1.gt rfl rfl) rfl rfl ?_
          intro b5 hb5
          refine OL.q (Q1.pick_f rfl rfl) rfl rfl ?_
          refine OL.q (Q1.assign rfl) rfl rfl ?_
          refine OL.nil ?_
          refine r_ret1 Tryd.func15 rfl rfl ?_
          exact Ret.mk ⟨⟨_, (by first | exact Ml.greatC_cut hx1 (by omega) | exact Ml.greatC_words (by assumption) | exact Ml.greatC_no hi (by omega) (by assumption) (by assumption) | (exfalso; omega)), rfl⟩, hE3⟩
    | false =>
      replace hb2 := of_decide_eq_false hb2.symm
      refine OL.sk rfl rfl ?_
      refine OL.sk rfl rfl ?_
      refine OL.sk rfl rfl ?_
      refine OL.sk rfl rfl ?_
      refine OL.q (Q1.pick_f rfl rfl) rfl rfl ?_
      refine OL.nil ?_
      refine r_cond_f rfl ?_
      refine r_exit rfl ?_
      refine r_seq ?_
      refine r_region ?_
      refine OL.q (Q1.fieldAddr fl30_0 rfl) rfl rfl ?_
      refine OL.q (Q1.load1 ti27 rfl (fun _ e => e ▸ (f3.cell 0 _ rfl))) rfl rfl ?_
      refine OL.act rfl rfl (AW.callF cl31 rfl (greatT_c (w0 := w2) (l := c.words)  ((f4).iv (Nat.zero_le _) (by omega))) ?_)
      rintro _ w3 ⟨⟨b3, hb3, rfl⟩, hm2⟩
      have f6 := f3.ext hm2
      have f7 := f4.ext hm2
      have f8 := f5.ext hm2
      have hE3 := hE2.ext hm2
      have hs3 := hm2.size
      refine OL.q (Q1.move rfl) rfl rfl ?_
      cases b3 with
      | true =>
        replace hb3 := hb3.symm
        refine OL.sk rfl rfl ?_
        refine OL.sk rfl rfl ?_
        refine OL.sk rfl rfl ?_
        refine OL.sk rfl rfl ?_
        refine OL.q (Q1.pick_t rfl rfl) rfl rfl ?_
        refine OL.q (Q1.assign rfl) rfl rfl ?_
        refine OL.nil ?_
        refine r_ret1 Tryd.func15 rfl rfl ?_
        exact Ret.mk ⟨⟨_, (by first | exact Ml.greatC_cut hx1 (by omega) | exact Ml.greatC_words (by assumption) | exact Ml.greatC_no hi (by omega) (by assumption) (by assumption) | (exfalso; omega)), rfl⟩, hE3⟩
      | false =>
        replace hb3 := hb3.symm
        refine OL.q (Q1.fieldAddr fl30_1 rfl) rfl rfl ?_
        refine OL.q (Q1.load1 ti28 rfl (fun _ e => e ▸ (f6.cell 1 _ rfl))) rfl rfl ?_
        refine OL.q (Q1.lenSl Tryd.underlying28 (f8) rfl) rfl rfl ?_
        refine OL.qb (Q1.gt rfl rfl) rfl rfl ?_
        intro b4 hb4
        refine OL.q (Q1.pick_f rfl rfl) rfl rfl ?_
        refine OL.q (Q1.assign rfl) rfl rfl ?_
        refine OL.nil ?_
        refine r_ret1 Tryd.func15 rfl rfl ?_
        exact Ret.mk ⟨⟨_, (by first | exact Ml.greatC_cut hx1 (by omega) | exact Ml.greatC_words (by assumption) | exact Ml.greatC_no hi (by omega) (by assumption) (by assumption) | (exfalso; omega)), rfl⟩, hE3⟩
set_option maxRecDepth 20000 in
set_option maxHeartbeats 4000000 in
theorem greatE_c {w0 : World}  {v_es : Value} {es : List Evt} (n : Int) (h_es : Sl encEvt w0 (Iv 0 w0.heap.size) v_es es) (h_n : I64 n) :
    Calls Tryd.prog 16 #[v_es, .int .i64 n] w0 (Ret fun rv w1 => (∃ rb : Bool, rb = (greatE es n) ∧ rv = .bool rb) ∧ Ext w0 w1) := by
  have hE0 : Ext w0 w0 := Mod.refl _ _
  have hle1 := h_es.le
  refine calls_enter Tryd.func16 rfl Tryd.ntmps16 rfl ?_
  refine r_seq ?_
  refine r_region ?_
  refine OL.q (Q1.assign rfl) rfl rfl ?_
  refine OL.nil ?_
  refine r_seq ?_
  refine r_seq ?_
  refine r_region ?_
  refine OL.q (Q1.assign rfl) rfl rfl ?_
  refine OL.nil ?_
  refine r_block ?_
  refine r_loop (I := fun m E W => ∃ (k : Nat), E = [(0, v_es), (1, .int .i64 n), (5, .int .i64 (((k : Nat) : Int)))] ∧ m = es.length - k ∧ Ext w0 W ∧ w0.heap.size ≤ W.heap.size ∧ Sl encEvt W (Iv 0 w0.heap.size) v_es es ∧ ((es.take k).any (fun e => decide (e.q.text.length > 100)) = false)) ?_ ?_
  · refine ⟨_, _, ⟨(0 : Nat), rfl, rfl, hE0, Nat.le_refl _, h_es, (by rfl)⟩, ⟨rfl, rfl, rfl, trivial⟩⟩
  · rintro _ _ w1 ⟨k, rfl, rfl, hE1, hs1, f1, hi⟩ ih1
    refine r_seq ?_
    refine r_seq ?_
    refine r_region ?_
    refine OL.q (Q1.move rfl) rfl rfl ?_
    refine OL.q (Q1.move rfl) rfl rfl ?_
    refine OL.q (Q1.lenSl Tryd.underlying31 (f1) rfl) rfl rfl ?_
    refine OL.qb (Q1.lt rfl rfl) rfl rfl ?_
    intro b1 hb1
    refine OL.q (Q1.move rfl) rfl rfl ?_
    cases b1 with
    | true =>
      replace hb1 := of_decide_eq_true hb1.symm
      refine OL.q (Q1.move rfl) rfl rfl ?_
      refine OL.q (Q1.lenSl Tryd.underlying31 (f1) rfl) rfl rfl ?_
      refine OL.q (Q1.move rfl) rfl rfl ?_
      refine OL.qb (Q1.le rfl rfl) rfl rfl ?_
      intro b2 hb2
      refine OL.q (Q1.pick_t rfl rfl) rfl rfl ?_
      refine OL.nil ?_
      cases b2 with
      | true =>
        replace hb2 := of_decide_eq_true hb2.symm
        refine r_cond_t rfl ?_
        refine r_skip ?_
        refine r_seq ?_
        refine r_block ?_
        refine r_seq ?_
        refine r_region ?_
        refine OL.q (Q1.move rfl) rfl rfl ?_
        refine OL.q (Q1.move rfl) rfl rfl ?_
        obtain ⟨x1, b3, o1, hx1, hr1, hl1, hu1, hw1⟩ := Sl.at' (P := Tryd.prog) f1 Tryd.underlying31 ti50 encEvt_len (k := .i64) (n := ((k : Nat) : Int)) (k) (by omega) (by first | assumption | omega)
        refine OL.q (Q1.indexAddr rfl rfl hr1) rfl rfl ?_
        refine OL.q (Q1.fieldAddr fl50_4 rfl) rfl rfl ?_
        refine OL.q (Q1.fieldAddr fl48_0 rfl) rfl rfl ?_
        have hr2 := hw1.sub 4 1 (Nat.le_of_ble_eq_true rfl)
        refine OL.q (Q1.load1 ti9 rfl (fun _ e => e ▸ hr2)) rfl rfl ?_
        refine OL.q (Q1.lenS Tryd.underlying9 rfl) rfl rfl ?_
        refine OL.qb (Q1.gt rfl rfl) rfl rfl ?_
        intro b4 hb3
        refine OL.nil ?_
        cases b4 with
        | true =>
          replace hb3 := of_decide_eq_true hb3.symm
          refine r_cond_t rfl ?_
          refine r_seq ?_
          refine r_region ?_
          refine OL.q (Q1.assign rfl) rfl rfl ?_
          refine OL.nil ?_
          refine r_ret1 Tryd.func16 rfl rfl ?_
          exact Ret.mk ⟨⟨_, (by first | exact greatE_ev hx1 (by omega) | exact greatE_end hi (by omega) (by assumption) | (exfalso; omega)), rfl⟩, hE1⟩
        | false =>
          replace hb3 := of_decide_eq_false hb3.symm
          refine r_cond_f rfl ?_
          refine r_skip ?_
          refine r_inBlock ?_
          refine r_region ?_
          refine OL.q (Q1.move rfl) rfl rfl ?_
          refine OL.q (Q1.addI (((k + 1 : Nat) : Int)) rfl rfl (by omega)) rfl rfl ?_
          refine OL.q (Q1.assign rfl) rfl rfl ?_
          refine OL.nil ?_
          exact (ih1 _ _ _ ⟨(k + 1 : Nat), rfl, rfl, hE1, (by omega), f1, (by first | exact Ml.any_take_no hi hx1 (decide_eq_false (by omega)) | (exfalso; omega))⟩ (by omega)).sub ⟨rfl, rfl, rfl, trivial⟩
      | false =>
        replace hb2 := of_decide_eq_false hb2.symm
        refine r_cond_f rfl ?_
        refine r_exit rfl ?_
        refine r_seq ?_
        refine r_region ?_
        refine OL.q (Q1.move rfl) rfl rfl ?_
        refine OL.q (Q1.lenSl Tryd.underlying31 (f1) rfl) rfl rfl ?_
        refine OL.q (Q1.move rfl) rfl rfl ?_
        refine OL.qb (Q1.gt rfl rfl) rfl rfl ?_
        intro b3 hb3
        refine OL.q (Q1.assign rfl) rfl rfl ?_
        refine OL.nil ?_
        refine r_ret1 Tryd.func16 rfl rfl ?_
        exact Ret.mk ⟨⟨_, (by first | exact greatE_ev hx1 (by omega) | exact greatE_end hi (by omega) (by assumption) | (exfalso; omega)), rfl⟩, hE1⟩
    | false =>
      replace hb1 := of_decide_eq_false hb1.symm
      refine OL.sk rfl rfl ?_
      refine OL.sk rfl rfl ?_
      refine OL.sk rfl rfl ?_
      refine OL.sk rfl rfl ?_
      refine OL.q (Q1.pick_f rfl rfl) rfl rfl ?_
      refine OL.nil ?_
      refine r_cond_f rfl ?_
      refine r_exit rfl ?_
      refine r_seq ?_
      refine r_region ?_
      refine OL.q (Q1.move rfl) rfl rfl ?_
      refine OL.q (Q1.lenSl Tryd.underlying31 (f1) rfl) rfl rfl ?_
      refine OL.q (Q1.move rfl) rfl rfl ?_
      refine OL.qb (Q1.gt rfl rfl) rfl rfl ?_
      intro b2 hb2
      refine OL.q (Q1.assign rfl) rfl rfl ?_
      refine OL.nil ?_
      refine r_ret1 Tryd.func16 rfl rfl ?_
      exact Ret.mk ⟨⟨_, (by first | exact greatE_ev hx1 (by omega) | exact greatE_end hi (by omega) (by assumption) | (exfalso; omega)), rfl⟩, hE1⟩
end Go.Proofs
