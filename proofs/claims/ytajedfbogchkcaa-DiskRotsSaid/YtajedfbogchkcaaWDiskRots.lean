/-
  The walk through the law DiskRots.
-/
import Derived.Test.YtajedfbogchkcaaWAwakeD
import Derived.Test.YtajedfbogchkcaaWEach
import Derived.Test.YtajedfbogchkcaaWDecode
import Derived.Test.YtajedfbogchkcaaWShared
set_option linter.unusedVariables false
set_option linter.unusedSimpArgs false
namespace Go.Proofs
open Go.Ik Go.Ml
set_option maxRecDepth 20000 in
set_option maxHeartbeats 1000000 in
theorem DiskRots_c {w0 : World}  {c : Cfg} {v_c_words : Value} {v_c_cuts : Value} (worker : Int) (shard : Int) (at_ : Int) (x : Int) (h_c_words : Sl encS w0 (Iv 0 w0.heap.size) v_c_words c.words) (h_c_cuts : Sl encKey w0 (Iv 0 w0.heap.size) v_c_cuts c.cuts) (h_c : Cfg.Ok c) (h_worker : I64 worker) (h_shard : I64 shard) (h_at_ : I64 at_) (h_x : I64 x) :
    Calls Try.prog 12 #[.agg #[v_c_words, v_c_cuts, .int .i64 c.workers, .int .i64 c.copies, .int .i64 c.slots, .int .i64 c.batch, .int .i64 c.lease, .int .i64 c.hedge, .int .i64 c.first, .int .i64 c.cap, .int .i64 c.jitter, .int .i64 c.net], .int .i64 worker, .int .i64 shard, .int .i64 at_, .int .i64 x] w0 (Ret fun rv w1 => (∃ rb : Bool, rb = true ∧ rv = .bool rb) ∧ Ext w0 w1) := by
  have hle_c_words := h_c_words.le
  have hle_c_cuts := h_c_cuts.le
  have hc1 := h_c.workers
  have hc2 := h_c.copies
  have hc3 := h_c.slots
  have hc4 := h_c.batch
  have hc5 := h_c.lease
  have hc6 := h_c.hedge
  have hc7 := h_c.first
  have hc8 := h_c.cap
  have hc9 := h_c.jitter
  have hc10 := h_c.net
  have hS0 := St.start0 w0
  refine calls_enter Try.func12 rfl Try.ntmps12 rfl ?_
  refine r_seq ?_
  refine r_region ?_
  refine OL.act rfl rfl (AW.box [v_c_words, v_c_cuts, .int .i64 c.workers, .int .i64 c.copies, .int .i64 c.slots, .int .i64 c.batch, .int .i64 c.lease, .int .i64 c.hedge, .int .i64 c.first, .int .i64 c.cap, .int .i64 c.jitter, .int .i64 c.net] rfl rfl ?_)
  intro w1 b1 hm1 hb1 hz1 hk1
  have hS1 := hS0.ext hm1
  have hS2 : St (fun _ => False) (fun _ => False) w0 w1 [bkR b1 [v_c_words, v_c_cuts, .int .i64 c.workers, .int .i64 c.copies, .int .i64 c.slots, .int .i64 c.batch, .int .i64 c.lease, .int .i64 c.hedge, .int .i64 c.first, .int .i64 c.cap, .int .i64 c.jitter, .int .i64 c.net] 53] := hS0.newBk hm1 hb1 hk1
  refine OL.q (Q1.assign rfl) rfl rfl ?_
  refine OL.nil ?_
  refine r_seq ?_
  refine r_seq ?_
  refine r_region ?_
  have f1 := hS2.bk (i := 0) rfl
  refine OL.q (Q1.loadN ti53 rfl (fun _ e => e ▸ f1.row) rfl) rfl rfl ?_
  have f2 := hS2.out h_c_words (fun _ _ h => h)
  have f3 := hS2.out h_c_cuts (fun _ _ h => h)
  refine OL.act rfl rfl (AW.callF cl32 rfl (greatC_c (w0 := w1) (c := c)  (f2.iv (Nat.zero_le _) hS2.mod.size) (f3.iv (Nat.zero_le _) hS2.mod.size) (by first | assumption | exact Ml.Cfg.ok_of (by decide +kernel))) ?_)
  rintro _ w2 ⟨⟨b2, hb2, rfl⟩, hm2⟩
  have hS3 := hS2.ext hm2
  refine OL.q (Q1.move rfl) rfl rfl ?_
  cases b2 with
  | true =>
    replace hb2 := hb2.symm
    refine OL.sk rfl rfl ?_
    refine OL.sk rfl rfl ?_
    refine OL.sk rfl rfl ?_
    refine OL.q (Q1.pick_t rfl rfl) rfl rfl ?_
    refine OL.nil ?_
    refine r_cond_t rfl ?_
    refine r_seq ?_
    refine r_region ?_
    refine OL.act rfl rfl (AW.callF cl55 rfl (awake14_c (w0 := w2)   ) ?_)
    rintro _ w3 ⟨⟨_, rfl, rfl⟩, hm3⟩
    have hS4 := hS3.ext hm3
    refine OL.q (Q1.assign rfl) rfl rfl ?_
    refine OL.nil ?_
    refine r_ret1 Try.func12 rfl rfl ?_
    exact Ret.mk ⟨⟨_, (by rfl), rfl⟩, hS4.mod⟩
  | false =>
    replace hb2 := hb2.symm
    have f4 := hS3.bk (i := 0) rfl
    refine OL.q (Q1.loadN ti53 rfl (fun _ e => e ▸ f4.row) rfl) rfl rfl ?_
    have f5 := hS3.out h_c_words (fun _ _ h => h)
    have f6 := hS3.out h_c_cuts (fun _ _ h => h)
    refine OL.act rfl rfl (AW.callF cl39 rfl (may_c (w0 := w2) (c := c)  (f5.iv (Nat.zero_le _) hS3.mod.size) (f6.iv (Nat.zero_le _) hS3.mod.size) (by first | assumption | exact Ml.Cfg.ok_of (by decide +kernel))) ?_)
    rintro _ w3 ⟨⟨b3, hb3, rfl⟩, hm3⟩
    have hS4 := hS3.ext hm3
    cases b3 with
    | true =>
      replace hb3 := hb3.symm
      have := Ml.may_bounds hb3
      refine OL.q (Q1.not rfl) rfl rfl ?_
      refine OL.q (Q1.pick_f rfl rfl) rfl rfl ?_
      refine OL.nil ?_
      refine r_cond_f rfl ?_
      refine r_skip ?_
      refine r_seq ?_
      refine r_region ?_
      refine OL.q (Q1.move rfl) rfl rfl ?_
      have hcs := CfgS.of (by assumption : Ml.greatC c = false)
      have hwl := hcs.wl
      have hcl := hcs.cl
      have hmay : Ml.may c = true := by assumption
      have hbd := Ml.may_bounds hmay
      refine OL.q (Q1.fieldAddr fl53_2 rfl) rfl rfl ?_
      have f7 := hS4.bk (i := 0) rfl
      refine OL.q (Q1.load1 ti3 rfl (fun _ e => e ▸ (f7.cell 2 _ rfl))) rfl rfl ?_
      refine OL.act rfl rfl (AW.callF cl58 rfl (low_c (w0 := w3)  (worker) (c.workers) (by first | omega | assumption) (by first | omega | assumption) (by omega)) ?_)
      rintro _ w4 ⟨rfl, hm4, hp1⟩
      have hS5 := hS4.ext hm4
      refine OL.q (Q1.addI ((1 + ((Ml.lowM worker c.workers)))) rfl rfl (by omega)) rfl rfl ?_
      refine OL.q (Q1.assign rfl) rfl rfl ?_
      obtain ⟨wk, hwk⟩ : ∃ z : Int, z = (1 + ((Ml.lowM worker c.workers))) := ⟨_, rfl⟩
      rw [← hwk]
      have hwk1 : 1 ≤ wk ∧ wk ≤ c.workers := by omega
      have hwki : I64 wk := by unfold I64; omega
      refine OL.nil ?_
      refine r_seq ?_
      refine r_region ?_
      have f8 := hS5.bk (i := 0) rfl
      refine OL.q (Q1.loadN ti53 rfl (fun _ e => e ▸ f8.row) rfl) rfl rfl ?_
      refine OL.q (Q1.move rfl) rfl rfl ?_
      have f9 := hS5.out h_c_words (fun _ _ h => h)
      have f10 := hS5.out h_c_cuts (fun _ _ h => h)
      refine OL.act rfl rfl (AW.callF cl56 rfl (dnew_c (w0 := w4) (c := c) (wk) (f9.iv (Nat.zero_le _) hS5.mod.size) (f10.iv (Nat.zero_le _) hS5.mod.size) (by first | assumption | exact Ml.Cfg.ok_of (by decide +kernel)) (by first | assumption | (unfold I64; omega) | (unfold I64; decide)) (by first | assumption | omega | decide)) ?_)
      rintro _ w5 ⟨hm5, hd1⟩
      rcases hd1 with ⟨hmd1, rfl⟩ | ⟨hmd1, bd1, F1, rfl, hA1, hF1⟩
      · exact absurd (hmd1.symm.trans ((mayD_yes hmay hwk1.1 hwk1.2))) (by decide)
      · skip
        have hS6 := hS5.ext hm5
        have hS7 : St (fun _ => False) (fun _ => False) w0 w5 [bkR b1 [v_c_words, v_c_cuts, .int .i64 c.workers, .int .i64 c.copies, .int .i64 c.slots, .int .i64 c.batch, .int .i64 c.lease, .int .i64 c.hedge, .int .i64 c.first, .int .i64 c.cap, .int .i64 c.jitter, .int .i64 c.net] 53, dkK 139 136 5 bd1 0 ((dkNew c wk))] := hS5.new hm5 hA1 (fun b hb => ⟨(hF1 b hb).2, (hF1 b hb).1⟩)
        refine OL.q (Q1.move rfl) rfl rfl ?_
        refine OL.q (Q1.extract rfl rfl) rfl rfl ?_
        refine OL.q (Q1.extract rfl rfl) rfl rfl ?_
        refine OL.q (Q1.assign rfl) rfl rfl ?_
        refine OL.q (Q1.assign rfl) rfl rfl ?_
        refine OL.nil ?_
        refine r_seq ?_
        refine r_seq ?_
        refine r_region ?_
        refine OL.q (Q1.move rfl) rfl rfl ?_
        refine OL.qb (Q1.ne rfl rfl) rfl rfl ?_
        intro b4 hb4
        obtain rfl : b4 = false := hb4.trans (by rfl)
        refine OL.q (Q1.move rfl) rfl rfl ?_
        refine OL.q (Q1.move rfl) rfl rfl ?_
        refine OL.q (Q1.eqNil Try.underlying67 rfl rfl) rfl rfl ?_
        refine OL.q (Q1.pick_f rfl rfl) rfl rfl ?_
        refine OL.nil ?_
        refine r_cond_f rfl ?_
        refine r_skip ?_
        refine r_seq ?_
        refine r_region ?_
        have f11 := hS7.bk (i := 0) rfl
        refine OL.q (Q1.loadN ti53 rfl (fun _ e => e ▸ f11.row) rfl) rfl rfl ?_
        refine OL.q (Q1.move rfl) rfl rfl ?_
        have f12 := hS7.out h_c_words (fun _ _ h => h)
        have f13 := hS7.out h_c_cuts (fun _ _ h => h)
        refine OL.act rfl rfl (AW.callF cl35 rfl (keeps_c (w0 := w5) (c := c) (wk) (f12.iv (Nat.zero_le _) hS7.mod.size) (f13.iv (Nat.zero_le _) hS7.mod.size) (by first | assumption | exact Ml.Cfg.ok_of (by decide +kernel)) (by first | omega | assumption)) ?_)
        rintro v1 w6 ⟨⟨gr1, h1, hg1⟩, hm6⟩
        have hS8 := hS7.ext hm6
        have hS9 : St (fun _ => False) (fun _ => False) w0 w6 [bkR b1 [v_c_words, v_c_cuts, .int .i64 c.workers, .int .i64 c.copies, .int .i64 c.slots, .int .i64 c.batch, .int .i64 c.lease, .int .i64 c.hedge, .int .i64 c.first, .int .i64 c.cap, .int .i64 c.jitter, .int .i64 c.net] 53, dkK 139 136 5 bd1 0 ((dkNew c wk)), accR Ik.encI 3 1 v1 ((Ml.keepsM c wk))] := hS7.newAcc hm6 h1 hg1
        clear hg1
        have hle_1 := h1.le
        have := keeps_len c wk
        have hkl := keeps_len c wk
        refine OL.q (Q1.assign rfl) rfl rfl ?_
        refine OL.nil ?_
        refine r_seq ?_
        refine r_seq ?_
        refine r_region ?_
        refine OL.q (Q1.move rfl) rfl rfl ?_
        obtain ⟨g1, f14, hl1, k1⟩ := hS9.accK (i := 2) rfl
        refine OL.q (Q1.lenSl Try.underlying55 (f14.sl) rfl) rfl rfl ?_
        refine OL.qb (Q1.eq rfl rfl) rfl rfl ?_
        intro b5 hb5
        refine OL.nil ?_
        cases b5 with
        | true =>
          replace hb5 := eq_of_beq hb5.symm
          refine r_cond_t rfl ?_
          refine r_seq ?_
          refine r_region ?_
          refine OL.q (Q1.move rfl) rfl rfl ?_
          have hk0 : Ml.keepsM c wk = [] := List.eq_nil_of_length_eq_zero (by omega)
          refine OL.q (Q1.move rfl) rfl rfl ?_
          refine OL.act rfl rfl (AW.callF cl58 rfl (low_c (w0 := w6)  (shard) (9) (by first | omega | assumption) (by first | omega | assumption) (by omega)) ?_)
          rintro _ w7 ⟨rfl, hm7, hp2⟩
          have hS10 := hS9.ext hm7
          obtain ⟨Fy1, hAy1, hFy1, hky1⟩ := hS10.act (i := 1) rfl
          refine OL.act rfl rfl (AW.callF cl49 rfl (dread_c (w0 := w7) ((Ml.lowM shard 9)) (by first | assumption | (unfold I64; omega) | (unfold I64; decide)) hAy1 (fun b hb => (hFy1 b hb).2) (dkNew_ok hmay wk)) ?_)
          rintro _ w8 ⟨v2, rfl, ⟨g2, ha1, hg2⟩, hm8⟩
          replace ha1 := Acc.cast ha1 ((get_no (dkNew_none (by rw [hk0]; simp))).2.1)
          rw [(get_no (dkNew_none (by rw [hk0]; simp))).1]
          have hS11 := hS10.ext hm8
          have hS12 : St (fun _ => False) (fun _ => False) w0 w8 [bkR b1 [v_c_words, v_c_cuts, .int .i64 c.workers, .int .i64 c.copies, .int .i64 c.slots, .int .i64 c.batch, .int .i64 c.lease, .int .i64 c.hedge, .int .i64 c.first, .int .i64 c.cap, .int .i64 c.jitter, .int .i64 c.net] 53, dkK 139 136 5 bd1 0 ((dkNew c wk)), accR Ik.encI 3 1 v1 ((Ml.keepsM c wk)), accR encB 5 1 v2 []] := hS10.newAcc hm8 ha1 hg2
          clear hg2
          have hle_2 := ha1.le
          refine OL.q (Q1.move rfl) rfl rfl ?_
          refine OL.q (Q1.extract rfl rfl) rfl rfl ?_
          refine OL.q (Q1.extract rfl rfl) rfl rfl ?_
          refine OL.q (Q1.assign rfl) rfl rfl ?_
          refine OL.q (Q1.assign rfl) rfl rfl ?_
          refine OL.nil ?_
          refine r_seq ?_
          refine r_region ?_
          refine OL.q (Q1.move rfl) rfl rfl ?_
          refine OL.qb (Q1.eq rfl rfl) rfl rfl ?_
          intro b6 hb6
          obtain rfl : b6 = true := hb6.trans (by rfl)
          refine OL.q (Q1.move rfl) rfl rfl ?_
          refine OL.act rfl rfl (AW.callF cl55 rfl (awake14_c (w0 := w8)   ) ?_)
          rintro _ w9 ⟨⟨_, rfl, rfl⟩, hm9⟩
          have hS13 := hS12.ext hm9
          refine OL.q (Q1.pick_t rfl rfl) rfl rfl ?_
          refine OL.q (Q1.assign rfl) rfl rfl ?_
          refine OL.nil ?_
          refine r_ret1 Try.func12 rfl rfl ?_
          exact Ret.mk ⟨⟨_, (by rfl), rfl⟩, hS13.mod⟩
        | false =>
          replace hb5 := ne_of_beq_false hb5.symm
          refine r_cond_f rfl ?_
          refine r_skip ?_
          refine r_seq ?_
          refine r_region ?_
          refine OL.q (Q1.move rfl) rfl rfl ?_
          refine OL.q (Q1.move rfl) rfl rfl ?_
          refine OL.q (Q1.move rfl) rfl rfl ?_
          refine OL.q (Q1.lenSl Try.underlying55 (f14.sl) rfl) rfl rfl ?_
          refine OL.act rfl rfl (AW.callF cl58 rfl (low_c (w0 := w6)  (shard) (((((Ml.keepsM c wk)).length : Nat) : Int)) (by first | omega | assumption) (by first | omega | assumption) (by omega)) ?_)
          rintro _ w7 ⟨rfl, hm7, hp2⟩
          have hS10 := hS9.ext hm7
          obtain ⟨g2, f15, hl2, k2⟩ := hS10.accK (i := 2) rfl
          obtain ⟨x1, b6, o1, hx1, hr1, hl3, hw1⟩ := Sl.atF (P := Try.prog) f15.sl Try.underlying55 ti3 Ik.encI_len (k := .i64) (n := (Ml.lowM shard (((((Ml.keepsM c wk)).length : Nat) : Int)))) (((Ml.lowM shard (((((Ml.keepsM c wk)).length : Nat) : Int)))).toNat) (by omega) (by first | assumption | omega)
          refine OL.q (Q1.indexAddr rfl rfl hr1) rfl rfl ?_
          refine OL.q (Q1.load1 ti3 rfl (fun _ e => e ▸ hw1)) rfl rfl ?_
          refine OL.q (Q1.assign rfl) rfl rfl ?_
          have hsx1 := List.mem_of_getElem? hx1
          have hsrx1 := keeps_range hsx1
          have hshlx1 := Ml.shards_le c
          have hix1 : I64 x1 := by unfold I64; omega
          obtain ⟨hsi1x1, hsi2x1⟩ := shard_img hmay hsrx1.1 hsrx1.2
          have hgx1 := shard_good hmay x1
          have hilx1 := imgM_len (Ml.wordsM c x1)
          have hwlx1 := shard_words_le (c := c) x1
          have hgokx1 := gok_of hgx1
          obtain ⟨hr0, hr1, hr2, hr3⟩ := rot_read hmay hsx1 at_ x
          rw [hsi1x1] at hr2
          have htl := turnB_len (imgM (Ml.wordsM c x1)) at_ x
          refine OL.nil ?_
          refine r_seq ?_
          refine r_seq ?_
          refine r_region ?_
          refine OL.q (Q1.move rfl) rfl rfl ?_
          refine OL.q (Q1.move rfl) rfl rfl ?_
          refine OL.q (Q1.move rfl) rfl rfl ?_
          refine OL.q (Q1.move rfl) rfl rfl ?_
          obtain ⟨Fy1, hAy1, hFy1, hky1⟩ := hS10.act (i := 1) rfl
          refine OL.act rfl rfl (AW.callF cl50 rfl (drot_c (w0 := w7) (x1) (at_) (x) (by first | assumption | (unfold I64; omega) | (unfold I64; decide)) hAy1 (fun b hb => (hFy1 b hb).2) (dkNew_ok hmay wk)) ?_)
          rintro _ w8 ⟨rfl, hm8, F2, hA2, hF2⟩
          rw [(new_read (List.mem_of_getElem? hx1)).1]
          have hS11 : St (fun _ => False) (fun _ => False) w0 w8 [bkR b1 [v_c_words, v_c_cuts, .int .i64 c.workers, .int .i64 c.copies, .int .i64 c.slots, .int .i64 c.batch, .int .i64 c.lease, .int .i64 c.hedge, .int .i64 c.first, .int .i64 c.cap, .int .i64 c.jitter, .int .i64 c.net] 53, dkK 139 136 5 bd1 0 ((dkRot ((dkNew c wk)) x1 at_ x)), accR Ik.encI 3 1 v1 ((Ml.keepsM c wk))] := hky1 _ _ _ hm8 hA2 hF2
          clear hky1 hA2
          have hS12 : St (fun _ => False) (fun _ => False) w0 w8 [bkR b1 [v_c_words, v_c_cuts, .int .i64 c.workers, .int .i64 c.copies, .int .i64 c.slots, .int .i64 c.batch, .int .i64 c.lease, .int .i64 c.hedge, .int .i64 c.first, .int .i64 c.cap, .int .i64 c.jitter, .int .i64 c.net] 53, dkK 139 136 5 bd1 0 ((dkRot (dkNew c wk) x1 at_ x)), accR Ik.encI 3 1 v1 ((Ml.keepsM c wk))] := hS11.imp (i := 1) rfl (fun F_ h_ => h_)
          refine OL.qb (Q1.ne rfl rfl) rfl rfl ?_
          intro b7 hb6
          obtain rfl : b7 = false := hb6.trans (by rfl)
          refine OL.q (Q1.move rfl) rfl rfl ?_
          refine OL.q (Q1.move rfl) rfl rfl ?_
          refine OL.q (Q1.move rfl) rfl rfl ?_
          obtain ⟨Fy2, hAy2, hFy2, hky2⟩ := hS12.act (i := 1) rfl
          refine OL.act rfl rfl (AW.callF cl52 rfl (drotten_c (w0 := w8) (x1) (by first | assumption | (unfold I64; omega) | (unfold I64; decide)) hAy2 (fun b hb => (hFy2 b hb).2) (DkOk.rot (dkNew_ok hmay wk) _ _ _)) ?_)
          rintro _ w9 ⟨rfl, hm9⟩
          have hS13 := hS12.ext hm9
          rw [hr3]
          refine OL.q (Q1.not rfl) rfl rfl ?_
          refine OL.q (Q1.pick_f rfl rfl) rfl rfl ?_
          refine OL.nil ?_
          refine r_cond_f rfl ?_
          refine r_skip ?_
          refine r_seq ?_
          refine r_region ?_
          refine OL.q (Q1.move rfl) rfl rfl ?_
          refine OL.q (Q1.move rfl) rfl rfl ?_
          obtain ⟨Fy3, hAy3, hFy3, hky3⟩ := hS13.act (i := 1) rfl
          refine OL.act rfl rfl (AW.callF cl49 rfl (dread_c (w0 := w9) (x1) (by first | assumption | (unfold I64; omega) | (unfold I64; decide)) hAy3 (fun b hb => (hFy3 b hb).2) (DkOk.rot (dkNew_ok hmay wk) _ _ _)) ?_)
          rintro _ w10 ⟨v2, rfl, ⟨g3, ha1, hg2⟩, hm10⟩
          replace ha1 := Acc.cast ha1 hr2
          rw [hr1]
          have hS14 := hS13.ext hm10
          have hS15 : St (fun _ => False) (fun _ => False) w0 w10 [bkR b1 [v_c_words, v_c_cuts, .int .i64 c.workers, .int .i64 c.copies, .int .i64 c.slots, .int .i64 c.batch, .int .i64 c.lease, .int .i64 c.hedge, .int .i64 c.first, .int .i64 c.cap, .int .i64 c.jitter, .int .i64 c.net] 53, dkK 139 136 5 bd1 0 ((dkRot (dkNew c wk) x1 at_ x)), accR Ik.encI 3 1 v1 ((Ml.keepsM c wk)), accR encB 5 1 v2 ((turnB (imgM (Ml.wordsM c x1)) at_ x))] := hS13.newAcc hm10 ha1 hg2
          clear hg2
          have hle_2 := ha1.le
          refine OL.q (Q1.move rfl) rfl rfl ?_
          refine OL.q (Q1.extract rfl rfl) rfl rfl ?_
          refine OL.q (Q1.extract rfl rfl) rfl rfl ?_
          refine OL.q (Q1.assign rfl) rfl rfl ?_
          refine OL.q (Q1.assign rfl) rfl rfl ?_
          refine OL.nil ?_
          refine r_seq ?_
          refine r_region ?_
          refine OL.q (Q1.move rfl) rfl rfl ?_
          obtain ⟨g4, f16, hl4, k3⟩ := hS15.accK (i := 3) rfl
          refine OL.act rfl rfl (AW.callF cl22 rfl (decode_c (w0 := w10) (b := (turnB (imgM (Ml.wordsM c x1)) at_ x)) (f16.sl.iv (Nat.zero_le _) f16.lt) (by first | assumption | omega)) ?_)
          rintro _ w11 ⟨vg1, _, rfl, ⟨lo1, hi1, hgr1, hlo1, hhi1⟩, rfl, hm11⟩
          rw [dec_turnB hgx1] at hgr1 ⊢
          dsimp only at hgr1 ⊢
          have hS16 := hS15.ext hm11
          have hS17 : St (fun _ => False) (fun _ => False) w0 w11 [bkR b1 [v_c_words, v_c_cuts, .int .i64 c.workers, .int .i64 c.copies, .int .i64 c.slots, .int .i64 c.batch, .int .i64 c.lease, .int .i64 c.hedge, .int .i64 c.first, .int .i64 c.cap, .int .i64 c.jitter, .int .i64 c.net] 53, dkK 139 136 5 bd1 0 ((dkRot (dkNew c wk) x1 at_ x)), accR Ik.encI 3 1 v1 ((Ml.keepsM c wk)), accR encB 5 1 v2 ((turnB (imgM (Ml.wordsM c x1)) at_ x)), grR vg1 ([] : List GN)] := hS15.newGr hm11 hgr1 hlo1 hhi1
          refine OL.q (Q1.move rfl) rfl rfl ?_
          refine OL.q (Q1.extract rfl rfl) rfl rfl ?_
          refine OL.q (Q1.extract rfl rfl) rfl rfl ?_
          refine OL.q (Q1.assign rfl) rfl rfl ?_
          refine OL.q (Q1.assign rfl) rfl rfl ?_
          refine OL.nil ?_
          refine r_seq ?_
          refine r_seq ?_
          refine r_region ?_
          refine OL.q (Q1.move rfl) rfl rfl ?_
          refine OL.qb (Q1.ne rfl rfl) rfl rfl ?_
          intro b9 hb8
          obtain rfl : b9 = false := hb8.trans (by rfl)
          refine OL.q (Q1.move rfl) rfl rfl ?_
          refine OL.q (Q1.move rfl) rfl rfl ?_
          refine OL.q (Q1.move rfl) rfl rfl ?_
          obtain ⟨Fy4, hAy4, hFy4, hky4⟩ := hS17.act (i := 1) rfl
          refine OL.act rfl rfl (AW.callF cl51 rfl (dmend_c (w0 := w11) (x1) (by first | assumption | (unfold I64; omega) | (unfold I64; decide)) hAy4 (fun b hb => (hFy4 b hb).2) (DkOk.rot (dkNew_ok hmay wk) _ _ _)) ?_)
          rintro _ w12 ⟨rfl, hm12, F3, hA3, hF3⟩
          rw [hr1]
          have hS18 : St (fun _ => False) (fun _ => False) w0 w12 [bkR b1 [v_c_words, v_c_cuts, .int .i64 c.workers, .int .i64 c.copies, .int .i64 c.slots, .int .i64 c.batch, .int .i64 c.lease, .int .i64 c.hedge, .int .i64 c.first, .int .i64 c.cap, .int .i64 c.jitter, .int .i64 c.net] 53, dkK 139 136 5 bd1 0 ((dkMend ((dkRot (dkNew c wk) x1 at_ x)) x1)), accR Ik.encI 3 1 v1 ((Ml.keepsM c wk)), accR encB 5 1 v2 ((turnB (imgM (Ml.wordsM c x1)) at_ x)), grR vg1 ([] : List GN)] := hky4 _ _ _ hm12 hA3 hF3
          clear hky4 hA3
          have hS19 : St (fun _ => False) (fun _ => False) w0 w12 [bkR b1 [v_c_words, v_c_cuts, .int .i64 c.workers, .int .i64 c.copies, .int .i64 c.slots, .int .i64 c.batch, .int .i64 c.lease, .int .i64 c.hedge, .int .i64 c.first, .int .i64 c.cap, .int .i64 c.jitter, .int .i64 c.net] 53, dkK 139 136 5 bd1 0 ((dkNew c wk)), accR Ik.encI 3 1 v1 ((Ml.keepsM c wk)), accR encB 5 1 v2 ((turnB (imgM (Ml.wordsM c x1)) at_ x)), grR vg1 ([] : List GN)] := hS18.imp (i := 1) rfl (fun F_ h_ => (by rw [← dkMend_rot c wk x1 at_ x]; exact h_))
          refine OL.qb (Q1.ne rfl rfl) rfl rfl ?_
          intro b10 hb9
          obtain rfl : b10 = false := hb9.trans (by rfl)
          refine OL.q (Q1.pick_f rfl rfl) rfl rfl ?_
          refine OL.q (Q1.move rfl) rfl rfl ?_
          refine OL.q (Q1.move rfl) rfl rfl ?_
          refine OL.q (Q1.move rfl) rfl rfl ?_
          obtain ⟨Fy5, hAy5, hFy5, hky5⟩ := hS19.act (i := 1) rfl
          refine OL.act rfl rfl (AW.callF cl52 rfl (drotten_c (w0 := w12) (x1) (by first | assumption | (unfold I64; omega) | (unfold I64; decide)) hAy5 (fun b hb => (hFy5 b hb).2) (dkNew_ok hmay wk)) ?_)
          rintro _ w13 ⟨rfl, hm13⟩
          have hS20 := hS19.ext hm13
          rw [(new_read (List.mem_of_getElem? hx1)).2.2]
          refine OL.q (Q1.pick_f rfl rfl) rfl rfl ?_
          refine OL.nil ?_
          refine r_cond_f rfl ?_
          refine r_skip ?_
          refine r_seq ?_
          refine r_seq ?_
          refine r_region ?_
          refine OL.q (Q1.assign rfl) rfl rfl ?_
          refine OL.nil ?_
          refine r_block ?_
          have hS22 : St (fun _ => False) (fun _ => False) w0 w13 [bkR b1 [v_c_words, v_c_cuts, .int .i64 c.workers, .int .i64 c.copies, .int .i64 c.slots, .int .i64 c.batch, .int .i64 c.lease, .int .i64 c.hedge, .int .i64 c.first, .int .i64 c.cap, .int .i64 c.jitter, .int .i64 c.net] 53, accR Ik.encI 3 1 v1 ((Ml.keepsM c wk)), dkK 139 136 5 bd1 0 ((dkNew c wk))] := hS20.sel [0, 2, 1] (by rfl) (by decide)
          refine r_loop (I := fun m E W => ∃ (i : Nat), E = [(5, ptr b1 0), (11, ptr bd1 0), (13, v1), (21, .int .i64 (((i : Nat) : Int)))] ∧ m = (Ml.keepsM c wk).length - i ∧ St (fun _ => False) (fun _ => False) w0 W [bkR b1 [v_c_words, v_c_cuts, .int .i64 c.workers, .int .i64 c.copies, .int .i64 c.slots, .int .i64 c.batch, .int .i64 c.lease, .int .i64 c.hedge, .int .i64 c.first, .int .i64 c.cap, .int .i64 c.jitter, .int .i64 c.net] 53, accR Ik.encI 3 1 v1 ((Ml.keepsM c wk)), dkK 139 136 5 bd1 0 ((dkNew c wk))]) ?_ ?_
          · refine ⟨_, _, ⟨(0 : Nat), rfl, rfl, hS22⟩, ⟨rfl, rfl, rfl, rfl, trivial⟩⟩
          · rintro _ _ w14 ⟨i, rfl, rfl, hS21⟩ ih1
            refine r_seq ?_
            refine r_seq ?_
            refine r_region ?_
            refine OL.q (Q1.move rfl) rfl rfl ?_
            refine OL.q (Q1.move rfl) rfl rfl ?_
            obtain ⟨g5, f17, hl5, k4⟩ := hS21.accK (i := 1) rfl
            refine OL.q (Q1.lenSl Try.underlying55 (f17.sl) rfl) rfl rfl ?_
            refine OL.qb (Q1.lt rfl rfl) rfl rfl ?_
            intro b12 hb11
            refine OL.nil ?_
            cases b12 with
            | true =>
              replace hb11 := of_decide_eq_true hb11.symm
              refine r_cond_t rfl ?_
              refine r_skip ?_
              refine r_seq ?_
              refine r_block ?_
              refine r_seq ?_
              refine r_region ?_
              refine OL.q (Q1.move rfl) rfl rfl ?_
              refine OL.q (Q1.move rfl) rfl rfl ?_
              refine OL.q (Q1.move rfl) rfl rfl ?_
              obtain ⟨x2, b13, o2, hx2, hr2, hl6, hw2⟩ := Sl.atF (P := Try.prog) f17.sl Try.underlying55 ti3 Ik.encI_len (k := .i64) (n := ((i : Nat) : Int)) (i) (by omega) (by first | assumption | omega)
              refine OL.q (Q1.indexAddr rfl rfl hr2) rfl rfl ?_
              refine OL.q (Q1.load1 ti3 rfl (fun _ e => e ▸ hw2)) rfl rfl ?_
              have hsx2 := List.mem_of_getElem? hx2
              have hsrx2 := keeps_range hsx2
              have hshlx2 := Ml.shards_le c
              have hix2 : I64 x2 := by unfold I64; omega
              obtain ⟨hsi1x2, hsi2x2⟩ := shard_img hmay hsrx2.1 hsrx2.2
              have hgx2 := shard_good hmay x2
              have hilx2 := imgM_len (Ml.wordsM c x2)
              have hwlx2 := shard_words_le (c := c) x2
              have hgokx2 := gok_of hgx2
              obtain ⟨Fy6, hAy6, hFy6, hky6⟩ := hS21.act (i := 2) rfl
              refine OL.act rfl rfl (AW.callF cl49 rfl (dread_c (w0 := w14) (x2) (by first | assumption | (unfold I64; omega) | (unfold I64; decide)) hAy6 (fun b hb => (hFy6 b hb).2) (dkNew_ok hmay wk)) ?_)
              rintro _ w15 ⟨v3, rfl, ⟨g6, ha2, hg3⟩, hm14⟩
              replace ha2 := Acc.cast ha2 (((new_read (List.mem_of_getElem? hx2)).2.1.trans (shard_img hmay (keeps_range (List.mem_of_getElem? hx2)).1 (keeps_range (List.mem_of_getElem? hx2)).2).1))
              rw [(new_read (List.mem_of_getElem? hx2)).1]
              have hS23 := hS21.ext hm14
              have hS24 : St (fun _ => False) (fun _ => False) w0 w15 [bkR b1 [v_c_words, v_c_cuts, .int .i64 c.workers, .int .i64 c.copies, .int .i64 c.slots, .int .i64 c.batch, .int .i64 c.lease, .int .i64 c.hedge, .int .i64 c.first, .int .i64 c.cap, .int .i64 c.jitter, .int .i64 c.net] 53, accR Ik.encI 3 1 v1 ((Ml.keepsM c wk)), dkK 139 136 5 bd1 0 ((dkNew c wk)), accR encB 5 1 v3 ((imgM (Ml.wordsM c x2)))] := hS21.newAcc hm14 ha2 hg3
              clear hg3
              have hle_3 := ha2.le
              refine OL.q (Q1.move rfl) rfl rfl ?_
              refine OL.q (Q1.extract rfl rfl) rfl rfl ?_
              refine OL.q (Q1.extract rfl rfl) rfl rfl ?_
              refine OL.q (Q1.assign rfl) rfl rfl ?_
              refine OL.nil ?_
              refine r_seq ?_
              refine r_region ?_
              refine OL.q (Q1.move rfl) rfl rfl ?_
              obtain ⟨g7, f18, hl7, k5⟩ := hS24.accK (i := 3) rfl
              refine OL.act rfl rfl (AW.callF cl22 rfl (decode_c (w0 := w15) (b := (imgM (Ml.wordsM c x2))) (f18.sl.iv (Nat.zero_le _) f18.lt) (by first | assumption | omega)) ?_)
              rintro _ w16 ⟨vg2, _, rfl, ⟨lo2, hi2, hgr2, hlo2, hhi2⟩, rfl, hm15⟩
              rw [dec_img hgx2] at hgr2 ⊢
              dsimp only at hgr2 ⊢
              have hS25 := hS24.ext hm15
              have hS26 : St (fun _ => False) (fun _ => False) w0 w16 [bkR b1 [v_c_words, v_c_cuts, .int .i64 c.workers, .int .i64 c.copies, .int .i64 c.slots, .int .i64 c.batch, .int .i64 c.lease, .int .i64 c.hedge, .int .i64 c.first, .int .i64 c.cap, .int .i64 c.jitter, .int .i64 c.net] 53, accR Ik.encI 3 1 v1 ((Ml.keepsM c wk)), dkK 139 136 5 bd1 0 ((dkNew c wk)), accR encB 5 1 v3 ((imgM (Ml.wordsM c x2))), grR vg2 (gnodes (Ml.wordsM c x2))] := hS24.newGr hm15 hgr2 hlo2 hhi2
              refine OL.q (Q1.move rfl) rfl rfl ?_
              refine OL.q (Q1.extract rfl rfl) rfl rfl ?_
              refine OL.q (Q1.extract rfl rfl) rfl rfl ?_
              refine OL.q (Q1.assign rfl) rfl rfl ?_
              refine OL.q (Q1.assign rfl) rfl rfl ?_
              refine OL.nil ?_
              refine r_seq ?_
              refine r_draw1 (fun i => Nat.beq i 8 || Nat.beq i 14 || Nat.beq i 15) 18 (fun w' => Mod (Mg 0) w16 w') mixed (by kernel_rfl) ?_
              intro w17 hm16
              have hS27 := hS26.ext hm16
              have hCw17 : Mod (Mg 0) w16 w17 := Mod.ofExt hm16
              refine ⟨hCw17, ?_⟩
              rw [show List.range' 0 (Array.size _) = [0, 1, 2, 3, 4, 5, 6, 7, 8, 9, 10, 11, 12, 13, 14, 15, 16, 17] from rfl]
              refine OD.q rfl rfl (Q1.move rfl) rfl rfl ?_
              refine OD.qb rfl rfl (Q1.ne rfl rfl) rfl rfl ?_
              intro b14 hb12
              obtain rfl : b14 = false := hb12.trans (by rfl)
              refine OD.q rfl rfl (Q1.move rfl) rfl rfl ?_
              refine OD.q rfl rfl (Q1.move rfl) rfl rfl ?_
              obtain ⟨lo3, hi3, hgr3, hhi3⟩ := hS27.grAt (i := 4) rfl
              rcases hgr3 with ⟨hv1, hN1⟩ | ⟨b15, _, _, hv1, hN1, _⟩
              · exact absurd hN1 (gnodes_nn hgx2)
              · subst hv1
                refine OD.q rfl rfl (Q1.eqNil Try.underlying33 rfl rfl) rfl rfl ?_
                refine OD.q rfl rfl (Q1.pick_f rfl rfl) rfl rfl ?_
                refine OD.q rfl rfl (Q1.move rfl) rfl rfl ?_
                refine OD.q rfl rfl (Q1.move rfl) rfl rfl ?_
                obtain ⟨lo4, hi4, hgr4, hhi4⟩ := hS27.grAt (i := 4) rfl
                refine OD.act rfl rfl rfl rfl (AW.callF cl28 rfl (words_c (w0 := w17) hgr4 hhi4 (by assumption) (by first | omega | (simp; done))) ?_)
                rintro v4 w18 ⟨⟨g8, ha3, hg4⟩, hm17⟩
                have hS28 := hS27.ext hm17
                have hS29 : St (fun _ => False) (fun _ => False) w0 w18 [bkR b1 [v_c_words, v_c_cuts, .int .i64 c.workers, .int .i64 c.copies, .int .i64 c.slots, .int .i64 c.batch, .int .i64 c.lease, .int .i64 c.hedge, .int .i64 c.first, .int .i64 c.cap, .int .i64 c.jitter, .int .i64 c.net] 53, accR Ik.encI 3 1 v1 ((Ml.keepsM c wk)), dkK 139 136 5 bd1 0 ((dkNew c wk)), accR encB 5 1 v3 ((imgM (Ml.wordsM c x2))), grR (ptr b15 0) (gnodes (Ml.wordsM c x2)), accR encS 9 1 v4 ((Ml.wordsM c x2))] := hS27.newAcc hm17 ha3 hg4
                clear hg4
                have hle_4 := ha3.le
                have hCw18 := hCw17.ext hm17
                refine ⟨.inr hCw18, ?_⟩
                have f19 := hS26.bk (i := 0) rfl
                refine OD.q rfl rfl (Q1.loadN ti53 rfl (fun _ hc => f19.row.keepG hc (Nat.succ_ne_zero _)) rfl) rfl rfl ?_
                refine OD.q rfl rfl (Q1.move rfl) rfl rfl ?_
                refine OD.q rfl rfl (Q1.move rfl) rfl rfl ?_
                obtain ⟨g9, f20, hl8, k6⟩ := hS26.accK (i := 1) rfl
                obtain ⟨x3, b16, o3, hx3, hr3, hl9, hw3⟩ := Sl.atF (P := Try.prog) f20.sl Try.underlying55 ti3 Ik.encI_len (k := .i64) (n := ((i : Nat) : Int)) (i) (by omega) (by first | assumption | omega)
                obtain rfl : x2 = x3 := Option.some.inj (hx2.symm.trans hx3)
                refine OD.q rfl rfl (Q1.indexAddr rfl rfl hr3) rfl rfl ?_
                refine OD.q rfl rfl (Q1.load1 ti3 rfl (fun _ hc => hw3.keepG hc (Nat.succ_ne_zero _))) rfl rfl ?_
                have f21 := hS29.out h_c_words (fun _ _ h => h)
                have f22 := hS29.out h_c_cuts (fun _ _ h => h)
                refine OD.act rfl rfl rfl rfl (AW.callF cl36 rfl (pwords_c (w0 := w18) (c := c) (x2) (f21.iv (Nat.zero_le _) hS29.mod.size) (f22.iv (Nat.zero_le _) hS29.mod.size) (by first | assumption | exact Ml.Cfg.ok_of (by decide +kernel)) (by first | omega | assumption) (by first | assumption | omega)) ?_)
                rintro v5 w19 ⟨⟨gr2, h2, hg5⟩, hm18⟩
                have hS30 := hS29.ext hm18
                have hS31 : St (fun _ => False) (fun _ => False) w0 w19 [bkR b1 [v_c_words, v_c_cuts, .int .i64 c.workers, .int .i64 c.copies, .int .i64 c.slots, .int .i64 c.batch, .int .i64 c.lease, .int .i64 c.hedge, .int .i64 c.first, .int .i64 c.cap, .int .i64 c.jitter, .int .i64 c.net] 53, accR Ik.encI 3 1 v1 ((Ml.keepsM c wk)), dkK 139 136 5 bd1 0 ((dkNew c wk)), accR encB 5 1 v3 ((imgM (Ml.wordsM c x2))), grR (ptr b15 0) (gnodes (Ml.wordsM c x2)), accR encS 9 1 v4 ((Ml.wordsM c x2)), accR encS 9 1 v5 ((Ml.wordsM c x2))] := hS29.newAcc hm18 h2 hg5
                clear hg5
                have hle_5 := h2.le
                have hCw19 := hCw18.ext hm18
                refine ⟨.inr hCw19, ?_⟩
                have := slice_len c.cuts c.words x2
                change (Ml.wordsM c x2).length ≤ _ at this
                obtain ⟨g10, f23, hl10, k7⟩ := hS31.accK (i := 5) rfl
                obtain ⟨g11, f24, hl11, k8⟩ := hS31.accK (i := 6) rfl
                refine OD.act rfl rfl rfl rfl (AW.callF cl27 rfl (sameT_c (w0 := w19) (a := (Ml.wordsM c x2)) (b := (Ml.wordsM c x2))  (f23.sl.iv (Nat.zero_le _) f23.lt) (f24.sl.iv (Nat.zero_le _) f24.lt)) ?_)
                rintro _ w20 ⟨⟨b17, hb13, rfl⟩, hm19⟩
                have hS32 := hS31.ext hm19
                have hCw20 := hCw19.ext hm19
                refine ⟨.inr hCw20, ?_⟩
                obtain rfl : b17 = true := hb13.trans (by exact decide_eq_true rfl)
                refine OD.q rfl rfl (Q1.not rfl) rfl rfl ?_
                refine OD.q rfl rfl (Q1.pick_f rfl rfl) rfl rfl ?_
                refine OD.nil ?_
                refine r_cond_f rfl ?_
                refine r_skip ?_
                refine r_inBlock ?_
                refine r_region ?_
                refine OL.q (Q1.move rfl) rfl rfl ?_
                refine OL.q (Q1.addI (((i + 1 : Nat) : Int)) rfl rfl (by omega)) rfl rfl ?_
                refine OL.q (Q1.assign rfl) rfl rfl ?_
                refine OL.nil ?_
                have hS33 : St (fun _ => False) (fun _ => False) w0 w20 [bkR b1 [v_c_words, v_c_cuts, .int .i64 c.workers, .int .i64 c.copies, .int .i64 c.slots, .int .i64 c.batch, .int .i64 c.lease, .int .i64 c.hedge, .int .i64 c.first, .int .i64 c.cap, .int .i64 c.jitter, .int .i64 c.net] 53, accR Ik.encI 3 1 v1 ((Ml.keepsM c wk)), dkK 139 136 5 bd1 0 ((dkNew c wk))] := hS32.sel [0, 1, 2] (by rfl) (by decide)
                exact (ih1 _ _ _ ⟨(i + 1 : Nat), rfl, rfl, hS33⟩ (by omega)).sub ⟨rfl, rfl, rfl, rfl, trivial⟩
            | false =>
              replace hb11 := of_decide_eq_false hb11.symm
              refine r_cond_f rfl ?_
              refine r_exit rfl ?_
              refine r_seq ?_
              refine r_region ?_
              refine OL.act rfl rfl (AW.callF cl55 rfl (awake14_c (w0 := w14)   ) ?_)
              rintro _ w15 ⟨⟨_, rfl, rfl⟩, hm14⟩
              have hS23 := hS21.ext hm14
              refine OL.q (Q1.assign rfl) rfl rfl ?_
              refine OL.nil ?_
              refine r_ret1 Try.func12 rfl rfl ?_
              exact Ret.mk ⟨⟨_, (by rfl), rfl⟩, hS23.mod⟩
    | false =>
      replace hb3 := hb3.symm
      refine OL.q (Q1.not rfl) rfl rfl ?_
      refine OL.q (Q1.pick_f rfl rfl) rfl rfl ?_
      refine OL.nil ?_
      refine r_cond_t rfl ?_
      refine r_seq ?_
      refine r_region ?_
      refine OL.act rfl rfl (AW.callF cl55 rfl (awake14_c (w0 := w3)   ) ?_)
      rintro _ w4 ⟨⟨_, rfl, rfl⟩, hm4⟩
      have hS5 := hS4.ext hm4
      refine OL.q (Q1.assign rfl) rfl rfl ?_
      refine OL.nil ?_
      refine r_ret1 Try.func12 rfl rfl ?_
      exact Ret.mk ⟨⟨_, (by rfl), rfl⟩, hS5.mod⟩
end Go.Proofs
