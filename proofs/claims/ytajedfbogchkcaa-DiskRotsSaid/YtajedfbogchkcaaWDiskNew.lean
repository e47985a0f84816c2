/-
  The walk through disk.New.
-/
import Derived.Test.YtajedfbogchkcaaWDisk
import Derived.Test.YtajedfbogchkcaaWImage
set_option linter.unusedVariables false
set_option linter.unusedSimpArgs false
namespace Go.Proofs
open Go.Ik Go.Ml
set_option maxRecDepth 20000 in
set_option maxHeartbeats 1000000 in
theorem dnew_c {w0 : World} {c : Cfg} {v_c_words : Value} {v_c_cuts : Value} (worker : Int) (h_c_words : Sl encS w0 (Iv 0 w0.heap.size) v_c_words c.words) (h_c_cuts : Sl encKey w0 (Iv 0 w0.heap.size) v_c_cuts c.cuts) (h_c : Cfg.Ok c) (hw : I64 worker) (hlen : c.words.length ≤ 1000000) :
    Calls Try.prog 56 #[(.agg #[v_c_words, v_c_cuts, .int .i64 c.workers, .int .i64 c.copies, .int .i64 c.slots, .int .i64 c.batch, .int .i64 c.lease, .int .i64 c.hedge, .int .i64 c.first, .int .i64 c.cap, .int .i64 c.jitter, .int .i64 c.net] : Value), .int .i64 worker] w0 (Ret fun rv w1 => Mod (fun _ => False) w0 w1 ∧ (mayD c worker = false ∧ rv = .tuple #[.pointer none, .int .i64 2] ∨ mayD c worker = true ∧ ∃ bd F2, rv = .tuple #[ptr bd 0, .int .i64 0] ∧ (dkK (R := fun _ => False) 139 136 5 bd 0 ((dkNew c worker))).p F2 w1 ∧ ∀ b, F2 b → b < w1.heap.size ∧ w0.heap.size ≤ b)) := by
  have hS0 := St.start0 w0
  have hle1 := h_c_words.le
  have hle2 := h_c_cuts.le
  have hc1 := h_c.workers
  have hc2 := h_c.copies
  have hc3 := h_c.slots
  have hc4 := h_c.batch
  have hc5 := h_c.lease
  have hc6 := h_c.hedge
  have hc7 := h_c.first
  have hc8 := h_c.cap
  have hc9 := h_c.jitter
  have hc10 := h_c.net
  refine calls_enter Try.func56 rfl Try.ntmps56 rfl ?_
  refine r_seq ?_
  refine r_region ?_
  refine OL.act rfl rfl (AW.box [v_c_words, v_c_cuts, .int .i64 c.workers, .int .i64 c.copies, .int .i64 c.slots, .int .i64 c.batch, .int .i64 c.lease, .int .i64 c.hedge, .int .i64 c.first, .int .i64 c.cap, .int .i64 c.jitter, .int .i64 c.net] rfl rfl ?_)
  intro w1 b1 hm1 hb1 hz1 hk1
  have hS1 := hS0.ext hm1
  have hS2 : St (fun _ => False) (fun _ => False) w0 w1 [bkR b1 [v_c_words, v_c_cuts, .int .i64 c.workers, .int .i64 c.copies, .int .i64 c.slots, .int .i64 c.batch, .int .i64 c.lease, .int .i64 c.hedge, .int .i64 c.first, .int .i64 c.cap, .int .i64 c.jitter, .int .i64 c.net] 53] := hS0.newBk hm1 hb1 hk1
  refine OL.q (Q1.assign rfl) rfl rfl ?_
  refine OL.q (Q1.assign rfl) rfl rfl ?_
  refine OL.nil ?_
  refine r_seq ?_
  refine r_seq ?_
  refine r_region ?_
  have f1 := hS2.bk (i := 0) rfl
  refine OL.q (Q1.loadN ti53 rfl (fun _ e => e ▸ f1.row) rfl) rfl rfl ?_
  have f2 := hS2.out h_c_words (fun _ _ h => h)
  have f3 := hS2.out h_c_cuts (fun _ _ h => h)
  refine OL.act rfl rfl (AW.callF cl39 rfl (may_c (w0 := w1) (c := c)  (f2.iv (Nat.zero_le _) hS2.mod.size) (f3.iv (Nat.zero_le _) hS2.mod.size) (by first | assumption | exact Ml.Cfg.ok_of (by decide +kernel))) ?_)
  rintro _ w2 ⟨⟨b2, hb2, rfl⟩, hm2⟩
  have hS3 := hS2.ext hm2
  cases b2 with
  | true =>
    replace hb2 := hb2.symm
    have := Ml.may_bounds hb2
    refine OL.q (Q1.not rfl) rfl rfl ?_
    refine OL.q (Q1.move rfl) rfl rfl ?_
    refine OL.q (Q1.move rfl) rfl rfl ?_
    refine OL.qb (Q1.lt rfl rfl) rfl rfl ?_
    intro b3 hb3
    refine OL.q (Q1.pick_f rfl rfl) rfl rfl ?_
    refine OL.q (Q1.move rfl) rfl rfl ?_
    cases b3 with
    | true =>
      replace hb3 := of_decide_eq_true hb3.symm
      refine OL.sk rfl rfl ?_
      refine OL.sk rfl rfl ?_
      refine OL.sk rfl rfl ?_
      refine OL.sk rfl rfl ?_
      refine OL.q (Q1.pick_t rfl rfl) rfl rfl ?_
      refine OL.nil ?_
      refine r_cond_t rfl ?_
      refine r_seq ?_
      refine r_region ?_
      refine OL.q (Q1.assign rfl) rfl rfl ?_
      refine OL.q (Q1.assign rfl) rfl rfl ?_
      refine OL.nil ?_
      refine r_ret2 Try.func56 rfl rfl rfl ?_
      exact Ret.mk ⟨hS3.mod, .inl ⟨mayD_no (by first | exact .inl (Eq.symm (by assumption)) | exact .inl (by assumption) | exact .inr (by omega)), rfl⟩⟩
    | false =>
      replace hb3 := of_decide_eq_false hb3.symm
      refine OL.q (Q1.move rfl) rfl rfl ?_
      refine OL.q (Q1.fieldAddr fl53_2 rfl) rfl rfl ?_
      have f4 := hS3.bk (i := 0) rfl
      refine OL.q (Q1.load1 ti3 rfl (fun _ e => e ▸ (f4.cell 2 _ rfl))) rfl rfl ?_
      refine OL.qb (Q1.gt rfl rfl) rfl rfl ?_
      intro b4 hb4
      refine OL.q (Q1.pick_f rfl rfl) rfl rfl ?_
      refine OL.nil ?_
      cases b4 with
      | true =>
        replace hb4 := of_decide_eq_true hb4.symm
        refine r_cond_t rfl ?_
        refine r_seq ?_
        refine r_region ?_
        refine OL.q (Q1.assign rfl) rfl rfl ?_
        refine OL.q (Q1.assign rfl) rfl rfl ?_
        refine OL.nil ?_
        refine r_ret2 Try.func56 rfl rfl rfl ?_
        exact Ret.mk ⟨hS3.mod, .inl ⟨mayD_no (by first | exact .inl (Eq.symm (by assumption)) | exact .inl (by assumption) | exact .inr (by omega)), rfl⟩⟩
      | false =>
        replace hb4 := of_decide_eq_false hb4.symm
        refine r_cond_f rfl ?_
        refine r_skip ?_
        refine r_seq ?_
        refine r_region ?_
        refine OL.act rfl rfl (AW.makeMap (key := intV) (val := ptrV) ?_)
        intro w3 b5 hm3 hb5 hz2 hk2
        have hS4 := hS3.ext hm3
        have hS5 : St (fun _ => False) (fun _ => False) w0 w3 [bkR b1 [v_c_words, v_c_cuts, .int .i64 c.workers, .int .i64 c.copies, .int .i64 c.slots, .int .i64 c.batch, .int .i64 c.lease, .int .i64 c.hedge, .int .i64 c.first, .int .i64 c.cap, .int .i64 c.jitter, .int .i64 c.net] 53, mapR intV ptrV b5 []] := hS3.newMap hm3 hb5 hk2
        refine OL.q (Q1.build (vs := #[(0, (.map (some b5) : Value))]) (v := .agg #[.map (some b5), .int .i64 0]) rfl (fun _ => by kernel_rfl)) rfl rfl ?_
        refine OL.act rfl rfl (AW.box [.map (some b5), .int .i64 0] rfl rfl ?_)
        intro w4 b6 hm4 hb6 hz3 hk3
        have hS6 := hS5.ext hm4
        have hS7 : St (fun _ => False) (fun _ => False) w0 w4 [bkR b1 [v_c_words, v_c_cuts, .int .i64 c.workers, .int .i64 c.copies, .int .i64 c.slots, .int .i64 c.batch, .int .i64 c.lease, .int .i64 c.hedge, .int .i64 c.first, .int .i64 c.cap, .int .i64 c.jitter, .int .i64 c.net] 53, mapR intV ptrV b5 [], bkR b6 [.map (some b5), .int .i64 0] 139] := hS5.newBk hm4 hb6 hk3
        refine OL.q (Q1.assign rfl) rfl rfl ?_
        have hkl := keeps_len c worker
        have hS8 : St (fun _ => False) (fun _ => False) w0 w4 [bkR b1 [v_c_words, v_c_cuts, .int .i64 c.workers, .int .i64 c.copies, .int .i64 c.slots, .int .i64 c.batch, .int .i64 c.lease, .int .i64 c.hedge, .int .i64 c.first, .int .i64 c.cap, .int .i64 c.jitter, .int .i64 c.net] 53, bkR b6 [.map (some b5), .int .i64 0] 139, mapR intV ptrV b5 []] := hS7.sel [0, 2, 1] (by rfl) (by decide)
        have hS9 : St (fun _ => False) (fun _ => False) w0 w4 [bkR b1 [v_c_words, v_c_cuts, .int .i64 c.workers, .int .i64 c.copies, .int .i64 c.slots, .int .i64 c.batch, .int .i64 c.lease, .int .i64 c.hedge, .int .i64 c.first, .int .i64 c.cap, .int .i64 c.jitter, .int .i64 c.net] 53, boxR [bkR b6 [.map (some b5), .int .i64 0] 139, mapR intV ptrV b5 []]] := St.close (L1 := [bkR b1 [v_c_words, v_c_cuts, .int .i64 c.workers, .int .i64 c.copies, .int .i64 c.slots, .int .i64 c.batch, .int .i64 c.lease, .int .i64 c.hedge, .int .i64 c.first, .int .i64 c.cap, .int .i64 c.jitter, .int .i64 c.net] 53]) hS8
        have hS10 : St (fun _ => False) (fun _ => False) w0 w4 [bkR b1 [v_c_words, v_c_cuts, .int .i64 c.workers, .int .i64 c.copies, .int .i64 c.slots, .int .i64 c.batch, .int .i64 c.lease, .int .i64 c.hedge, .int .i64 c.first, .int .i64 c.cap, .int .i64 c.jitter, .int .i64 c.net] 53, dkK 139 136 5 b6 0 []] := hS9.imp (i := 1) rfl (fun F_ h_ => dkK_nil h_)
        refine OL.nil ?_
        refine r_seq ?_
        refine r_seq ?_
        refine r_region ?_
        have f5 := hS10.bk (i := 0) rfl
        refine OL.q (Q1.loadN ti53 rfl (fun _ e => e ▸ f5.row) rfl) rfl rfl ?_
        refine OL.q (Q1.move rfl) rfl rfl ?_
        have f6 := hS10.out h_c_words (fun _ _ h => h)
        have f7 := hS10.out h_c_cuts (fun _ _ h => h)
        refine OL.act rfl rfl (AW.callF cl35 rfl (keeps_c (w0 := w4) (c := c) (worker) (f6.iv (Nat.zero_le _) hS10.mod.size) (f7.iv (Nat.zero_le _) hS10.mod.size) (by first | assumption | exact Ml.Cfg.ok_of (by decide +kernel)) (by first | omega | assumption)) ?_)
        rintro v1 w5 ⟨⟨gr1, h1, hg1⟩, hm5⟩
        have hS11 := hS10.ext hm5
        have hS12 : St (fun _ => False) (fun _ => False) w0 w5 [bkR b1 [v_c_words, v_c_cuts, .int .i64 c.workers, .int .i64 c.copies, .int .i64 c.slots, .int .i64 c.batch, .int .i64 c.lease, .int .i64 c.hedge, .int .i64 c.first, .int .i64 c.cap, .int .i64 c.jitter, .int .i64 c.net] 53, dkK 139 136 5 b6 0 [], accR Ik.encI 3 1 v1 ((Ml.keepsM c worker))] := hS10.newAcc hm5 h1 hg1
        clear hg1
        have hle_1 := h1.le
        have := keeps_len c worker
        obtain ⟨g1, f8, hl1, k1⟩ := hS12.accK (i := 2) rfl
        refine OL.q (Q1.lenSl Try.underlying55 (f8.sl) rfl) rfl rfl ?_
        refine OL.q (Q1.move rfl) rfl rfl ?_
        refine OL.nil ?_
        refine r_block ?_
        have hS14 : St (fun _ => False) (fun _ => False) w0 w5 [bkR b1 [v_c_words, v_c_cuts, .int .i64 c.workers, .int .i64 c.copies, .int .i64 c.slots, .int .i64 c.batch, .int .i64 c.lease, .int .i64 c.hedge, .int .i64 c.first, .int .i64 c.cap, .int .i64 c.jitter, .int .i64 c.net] 53, accR Ik.encI 3 1 v1 ((Ml.keepsM c worker)), dkK 139 136 5 b6 0 []] := hS12.sel [0, 2, 1] (by rfl) (by decide)
        refine r_loop (I := fun m E W => ∃ (k : Nat), E = [(2, ptr b1 0), (6, ptr b6 0), (29, v1), (30, .int .i64 (((((Ml.keepsM c worker)).length : Nat) : Int))), (31, .int .i64 (((k : Nat) : Int)))] ∧ m = (keepsM c worker).length - k ∧ St (fun _ => False) (fun _ => False) w0 W [bkR b1 [v_c_words, v_c_cuts, .int .i64 c.workers, .int .i64 c.copies, .int .i64 c.slots, .int .i64 c.batch, .int .i64 c.lease, .int .i64 c.hedge, .int .i64 c.first, .int .i64 c.cap, .int .i64 c.jitter, .int .i64 c.net] 53, accR Ik.encI 3 1 v1 ((Ml.keepsM c worker)), dkK 139 136 5 b6 0 ((((keepsM c worker).take k).map (dkE c)))]) ?_ ?_
        · refine ⟨_, _, ⟨(0 : Nat), rfl, rfl, hS14⟩, ⟨rfl, rfl, rfl, rfl, rfl, trivial⟩⟩
        · rintro _ _ w6 ⟨k, rfl, rfl, hS13⟩ ih1
          refine r_seq ?_
          refine r_region ?_
          refine OL.qb (Q1.lt rfl rfl) rfl rfl ?_
          intro b7 hb7
          refine OL.nil ?_
          refine r_seq ?_
          cases b7 with
          | true =>
            replace hb7 := of_decide_eq_true hb7.symm
            refine r_cond_t rfl ?_
            refine r_skip ?_
            refine r_seq ?_
            refine r_block ?_
            refine r_seq ?_
            refine r_region ?_
            obtain ⟨g2, f9, hl2, k2⟩ := hS13.accK (i := 1) rfl
            obtain ⟨x1, b8, o1, hx1, hr1, hl3, hw1⟩ := Sl.atF (P := Try.prog) f9.sl Try.underlying55 ti3 Ik.encI_len (k := .i64) (n := ((k : Nat) : Int)) (k) (by omega) (by first | assumption | omega)
            refine OL.q (Q1.indexAddr rfl rfl hr1) rfl rfl ?_
            refine OL.q (Q1.load1 ti3 rfl (fun _ e => e ▸ hw1)) rfl rfl ?_
            have hx1r := keeps_range (List.mem_of_getElem? hx1)
            have hshl := Ml.shards_le c
            have hx1i : I64 x1 := by unfold I64; omega
            refine OL.q (Q1.assign rfl) rfl rfl ?_
            refine OL.nil ?_
            refine r_seq ?_
            refine r_region ?_
            have f10 := hS13.bk (i := 0) rfl
            refine OL.q (Q1.loadN ti53 rfl (fun _ e => e ▸ f10.row) rfl) rfl rfl ?_
            refine OL.q (Q1.move rfl) rfl rfl ?_
            have f11 := hS13.out h_c_words (fun _ _ h => h)
            have f12 := hS13.out h_c_cuts (fun _ _ h => h)
            refine OL.act rfl rfl (AW.callF cl37 rfl (pimage_c (w0 := w6) (c := c) (x1) (f11.iv (Nat.zero_le _) hS13.mod.size) (f12.iv (Nat.zero_le _) hS13.mod.size) (by first | assumption | exact Ml.Cfg.ok_of (by decide +kernel)) (by first | omega | assumption) (by first | assumption | omega)) ?_)
            rintro _ w7 ⟨v2, _, rfl, ⟨gr2, h2, hg2⟩, rfl, hm6⟩
            have hS15 := hS13.ext hm6
            have hS16 : St (fun _ => False) (fun _ => False) w0 w7 [bkR b1 [v_c_words, v_c_cuts, .int .i64 c.workers, .int .i64 c.copies, .int .i64 c.slots, .int .i64 c.batch, .int .i64 c.lease, .int .i64 c.hedge, .int .i64 c.first, .int .i64 c.cap, .int .i64 c.jitter, .int .i64 c.net] 53, accR Ik.encI 3 1 v1 ((Ml.keepsM c worker)), dkK 139 136 5 b6 0 ((((keepsM c worker).take k).map (dkE c))), accR encB 5 1 v2 ((imgC c x1))] := hS13.newAcc hm6 h2 hg2
            clear hg2
            have hle_2 := h2.le
            have := imgC_len c x1
            have := errC_rng c x1
            refine OL.q (Q1.move rfl) rfl rfl ?_
            refine OL.q (Q1.extract rfl rfl) rfl rfl ?_
            refine OL.q (Q1.extract rfl rfl) rfl rfl ?_
            refine OL.q (Q1.assign rfl) rfl rfl ?_
            refine OL.q (Q1.assign rfl) rfl rfl ?_
            refine OL.nil ?_
            obtain ⟨Fy1, hAy1, hFy1, hky1⟩ := hS16.act (i := 2) rfl
            obtain ⟨D, bm, hD, hbx⟩ := dkK_op hAy1
            have hS17 : St (fun _ => False) (fun _ => False) w0 w7 [bkR b1 [v_c_words, v_c_cuts, .int .i64 c.workers, .int .i64 c.copies, .int .i64 c.slots, .int .i64 c.batch, .int .i64 c.lease, .int .i64 c.hedge, .int .i64 c.first, .int .i64 c.cap, .int .i64 c.jitter, .int .i64 c.net] 53, accR Ik.encI 3 1 v1 ((Ml.keepsM c worker)), boxR [bkR b6 [.map (some bm), .int .i64 0] 139, mapR intV ptrV bm (D.map fun x => (x.shard, x.ptr)), boxR (D.map (imR 136 5))], accR encB 5 1 v2 ((imgC c x1))] := hky1 _ _ _ (Mod.refl _ _) hbx (fun b hb => ⟨(hFy1 b hb).2, .inl hb⟩)
            clear hky1 hAy1 hbx
            have hS18 : St (fun _ => False) (fun _ => False) w0 w7 [bkR b1 [v_c_words, v_c_cuts, .int .i64 c.workers, .int .i64 c.copies, .int .i64 c.slots, .int .i64 c.batch, .int .i64 c.lease, .int .i64 c.hedge, .int .i64 c.first, .int .i64 c.cap, .int .i64 c.jitter, .int .i64 c.net] 53, accR Ik.encI 3 1 v1 ((Ml.keepsM c worker)), accR encB 5 1 v2 ((imgC c x1)), boxR [bkR b6 [.map (some bm), .int .i64 0] 139, mapR intV ptrV bm (D.map fun x => (x.shard, x.ptr)), boxR (D.map (imR 136 5))]] := hS17.sel [0, 1, 3, 2] (by rfl) (by decide)
            have hS19 : St (fun _ => False) (fun _ => False) w0 w7 [bkR b1 [v_c_words, v_c_cuts, .int .i64 c.workers, .int .i64 c.copies, .int .i64 c.slots, .int .i64 c.batch, .int .i64 c.lease, .int .i64 c.hedge, .int .i64 c.first, .int .i64 c.cap, .int .i64 c.jitter, .int .i64 c.net] 53, accR Ik.encI 3 1 v1 ((Ml.keepsM c worker)), accR encB 5 1 v2 ((imgC c x1)), boxR [bkR b6 [.map (some bm), .int .i64 0] 139, mapR intV ptrV bm (D.map fun x => (x.shard, x.ptr)), boxR (D.map (imR 136 5))]] := hS18
            have hS20 : St (fun _ => False) (fun _ => False) w0 w7 [bkR b1 [v_c_words, v_c_cuts, .int .i64 c.workers, .int .i64 c.copies, .int .i64 c.slots, .int .i64 c.batch, .int .i64 c.lease, .int .i64 c.hedge, .int .i64 c.first, .int .i64 c.cap, .int .i64 c.jitter, .int .i64 c.net] 53, accR Ik.encI 3 1 v1 ((Ml.keepsM c worker)), accR encB 5 1 v2 ((imgC c x1)), bkR b6 [.map (some bm), .int .i64 0] 139, mapR intV ptrV bm ((D.map fun x => (x.shard, x.ptr))), boxR (D.map (imR 136 5))] := St.open (L1 := [bkR b1 [v_c_words, v_c_cuts, .int .i64 c.workers, .int .i64 c.copies, .int .i64 c.slots, .int .i64 c.batch, .int .i64 c.lease, .int .i64 c.hedge, .int .i64 c.first, .int .i64 c.cap, .int .i64 c.jitter, .int .i64 c.net] 53, accR Ik.encI 3 1 v1 ((Ml.keepsM c worker)), accR encB 5 1 v2 ((imgC c x1))]) hS19
            refine r_draw1 (fun i => Nat.beq i 7 || Nat.beq i 9 || Nat.beq i 10) 10 (fun w' => Mod (Mg 0) w7 w') mixed (by kernel_rfl) ?_
            intro w8 hm7
            have hS21 := hS20.ext hm7
            have hCw8 : Mod (Mg 0) w7 w8 := Mod.ofExt hm7
            refine ⟨hCw8, ?_⟩
            rw [show List.range' 0 (Array.size _) = [0, 1, 2, 3, 4, 5, 6, 7, 8, 9, 10] from rfl]
            refine OD.q rfl rfl (Q1.move rfl) rfl rfl ?_
            refine OD.q rfl rfl (Q1.nilCheckP rfl) rfl rfl ?_
            refine OD.q rfl rfl (Q1.fieldAddr fl139_0 rfl) rfl rfl ?_
            have f13 := hS20.bk (i := 3) rfl
            refine OD.q rfl rfl (Q1.load1 ti137 rfl (fun _ hc => (f13.cell 0 _ rfl).keepG hc (Nat.succ_ne_zero _))) rfl rfl ?_
            refine OD.q rfl rfl (Q1.move rfl) rfl rfl ?_
            refine OD.q rfl rfl (Q1.move rfl) rfl rfl ?_
            refine OD.q rfl rfl (Q1.move rfl) rfl rfl ?_
            obtain ⟨g3, f14, hl4, k3⟩ := hS21.accK (i := 2) rfl
            refine OD.act rfl rfl rfl rfl (AW.callF cl90 rfl (cloneB_c (w0 := w8) (s := (imgC c x1))  (f14.sl.iv (Nat.zero_le _) f14.lt) (by first | assumption | omega)) ?_)
            rintro v3 w9 ⟨⟨gr3, h3, hg3⟩, hm8⟩
            have hS22 := hS21.ext hm8
            have hS23 : St (fun _ => False) (fun _ => False) w0 w9 [bkR b1 [v_c_words, v_c_cuts, .int .i64 c.workers, .int .i64 c.copies, .int .i64 c.slots, .int .i64 c.batch, .int .i64 c.lease, .int .i64 c.hedge, .int .i64 c.first, .int .i64 c.cap, .int .i64 c.jitter, .int .i64 c.net] 53, accR Ik.encI 3 1 v1 ((Ml.keepsM c worker)), accR encB 5 1 v2 ((imgC c x1)), bkR b6 [.map (some bm), .int .i64 0] 139, mapR intV ptrV bm ((D.map fun x => (x.shard, x.ptr))), boxR (D.map (imR 136 5)), accR encB 5 1 v3 ((((imgC c x1))))] := hS21.newAcc hm8 h3 hg3
            clear hg3
            have hle_3 := h3.le
            have hCw9 := hCw8.ext hm8
            refine ⟨.inr hCw9, ?_⟩
            obtain ⟨g4, f15, hl5, k4⟩ := hS23.accK (i := 2) rfl
            obtain ⟨ad1, cp1, hv1⟩ := f15.shape
            subst hv1
            obtain ⟨g5, f16, hl6, k5⟩ := hS23.accK (i := 6) rfl
            obtain ⟨ad2, cp2, hv2⟩ := f16.shape
            subst hv2
            refine OD.q rfl rfl (Q1.build (vs := #[(0, (.slice ad1 ((imgC c x1)).length cp1)), (1, (.slice ad2 ((((imgC c x1)))).length cp2))]) (v := .agg #[(.slice ad1 ((imgC c x1)).length cp1), (.slice ad2 ((((imgC c x1)))).length cp2)]) rfl (fun _ => by kernel_rfl)) rfl rfl ?_
            refine OD.act rfl rfl rfl rfl (AW.box [(.slice ad1 ((imgC c x1)).length cp1), (.slice ad2 ((((imgC c x1)))).length cp2)] rfl rfl ?_)
            intro w10 b9 hm9 hb8 hz4 hk4
            have hS24 := hS23.ext hm9
            have hS25 : St (fun _ => False) (fun _ => False) w0 w10 [bkR b1 [v_c_words, v_c_cuts, .int .i64 c.workers, .int .i64 c.copies, .int .i64 c.slots, .int .i64 c.batch, .int .i64 c.lease, .int .i64 c.hedge, .int .i64 c.first, .int .i64 c.cap, .int .i64 c.jitter, .int .i64 c.net] 53, accR Ik.encI 3 1 v1 ((Ml.keepsM c worker)), accR encB 5 1 ((.slice ad1 ((imgC c x1)).length cp1)) ((imgC c x1)), bkR b6 [.map (some bm), .int .i64 0] 139, mapR intV ptrV bm ((D.map fun x => (x.shard, x.ptr))), boxR (D.map (imR 136 5)), accR encB 5 1 ((.slice ad2 ((((imgC c x1)))).length cp2)) ((((imgC c x1)))), bkR b9 [(.slice ad1 ((imgC c x1)).length cp1), (.slice ad2 ((((imgC c x1)))).length cp2)] 136] := hS23.newBk hm9 hb8 hk4
            have hCw10 := hCw9.ext hm9
            refine ⟨.inr hCw10, ?_⟩
            have f17 := hS25.map (i := 4) rfl
            refine OD.act rfl rfl rfl rfl (AW.mapNew (key := intV) (val := ptrV) (u := b9) (keyOk_int Try.underlying3) Try.underlying137 rfl rfl rfl f17 (asc_none (dkE_fresh (keeps_nodup c worker) hx1 hD)) ?_)
            intro w11 hm10 hz5 hk5
            have hS26 : St (fun _ => False) (fun _ => False) w0 w11 [bkR b1 [v_c_words, v_c_cuts, .int .i64 c.workers, .int .i64 c.copies, .int .i64 c.slots, .int .i64 c.batch, .int .i64 c.lease, .int .i64 c.hedge, .int .i64 c.first, .int .i64 c.cap, .int .i64 c.jitter, .int .i64 c.net] 53, accR Ik.encI 3 1 v1 ((Ml.keepsM c worker)), accR encB 5 1 ((.slice ad1 ((imgC c x1)).length cp1)) ((imgC c x1)), bkR b6 [.map (some bm), .int .i64 0] 139, mapR intV ptrV bm (((D.map fun x => (x.shard, x.ptr)) ++ [(x1, b9)])), boxR (D.map (imR 136 5)), accR encB 5 1 ((.slice ad2 ((((imgC c x1)))).length cp2)) ((((imgC c x1)))), bkR b9 [(.slice ad1 ((imgC c x1)).length cp1), (.slice ad2 ((((imgC c x1)))).length cp2)] 136] := hS25.mapK (i := 4) rfl hm10 hk5
            refine ⟨.inl rfl, ?_⟩
            refine OD.nil ?_
            refine r_inBlock ?_
            refine r_region ?_
            have hS27 : St (fun _ => False) (fun _ => False) w0 w11 [bkR b1 [v_c_words, v_c_cuts, .int .i64 c.workers, .int .i64 c.copies, .int .i64 c.slots, .int .i64 c.batch, .int .i64 c.lease, .int .i64 c.hedge, .int .i64 c.first, .int .i64 c.cap, .int .i64 c.jitter, .int .i64 c.net] 53, accR Ik.encI 3 1 v1 ((Ml.keepsM c worker)), bkR b6 [.map (some bm), .int .i64 0] 139, mapR intV ptrV bm (((D.map fun x => (x.shard, x.ptr)) ++ [(x1, b9)])), boxR (D.map (imR 136 5)), bkR b9 [(.slice ad1 ((imgC c x1)).length cp1), (.slice ad2 ((((imgC c x1)))).length cp2)] 136, accR encB 5 1 ((.slice ad1 ((imgC c x1)).length cp1)) ((imgC c x1)), accR encB 5 1 ((.slice ad2 ((((imgC c x1)))).length cp2)) ((((imgC c x1))))] := hS26.sel [0, 1, 3, 4, 5, 7, 2, 6] (by rfl) (by decide)
            have hS28 : St (fun _ => False) (fun _ => False) w0 w11 [bkR b1 [v_c_words, v_c_cuts, .int .i64 c.workers, .int .i64 c.copies, .int .i64 c.slots, .int .i64 c.batch, .int .i64 c.lease, .int .i64 c.hedge, .int .i64 c.first, .int .i64 c.cap, .int .i64 c.jitter, .int .i64 c.net] 53, accR Ik.encI 3 1 v1 ((Ml.keepsM c worker)), bkR b6 [.map (some bm), .int .i64 0] 139, mapR intV ptrV bm (((D.map fun x => (x.shard, x.ptr)) ++ [(x1, b9)])), boxR (D.map (imR 136 5)), boxR [bkR b9 [(.slice ad1 ((imgC c x1)).length cp1), (.slice ad2 ((((imgC c x1)))).length cp2)] 136, accR encB 5 1 ((.slice ad1 ((imgC c x1)).length cp1)) ((imgC c x1)), accR encB 5 1 ((.slice ad2 ((((imgC c x1)))).length cp2)) ((((imgC c x1))))]] := St.close (L1 := [bkR b1 [v_c_words, v_c_cuts, .int .i64 c.workers, .int .i64 c.copies, .int .i64 c.slots, .int .i64 c.batch, .int .i64 c.lease, .int .i64 c.hedge, .int .i64 c.first, .int .i64 c.cap, .int .i64 c.jitter, .int .i64 c.net] 53, accR Ik.encI 3 1 v1 ((Ml.keepsM c worker)), bkR b6 [.map (some bm), .int .i64 0] 139, mapR intV ptrV bm (((D.map fun x => (x.shard, x.ptr)) ++ [(x1, b9)])), boxR (D.map (imR 136 5))]) hS27
            have hS29 : St (fun _ => False) (fun _ => False) w0 w11 [bkR b1 [v_c_words, v_c_cuts, .int .i64 c.workers, .int .i64 c.copies, .int .i64 c.slots, .int .i64 c.batch, .int .i64 c.lease, .int .i64 c.hedge, .int .i64 c.first, .int .i64 c.cap, .int .i64 c.jitter, .int .i64 c.net] 53, accR Ik.encI 3 1 v1 ((Ml.keepsM c worker)), bkR b6 [.map (some bm), .int .i64 0] 139, mapR intV ptrV bm (((D.map fun x => (x.shard, x.ptr)) ++ [(x1, b9)])), boxR (D.map (imR 136 5)), imR 136 5 (DI.mk x1 b9 (imgC c x1) (imgC c x1))] := hS28.exi (A := fun vs : Value × Value => boxR [bkR b9 [vs.1, vs.2] 136, accR encB 5 1 vs.1 (imgC c x1), accR encB 5 1 vs.2 (imgC c x1)]) ((.slice ad1 ((imgC c x1)).length cp1), (.slice ad2 ((((imgC c x1)))).length cp2)) (i := 5) rfl
            have hS30 : St (fun _ => False) (fun _ => False) w0 w11 [bkR b1 [v_c_words, v_c_cuts, .int .i64 c.workers, .int .i64 c.copies, .int .i64 c.slots, .int .i64 c.batch, .int .i64 c.lease, .int .i64 c.hedge, .int .i64 c.first, .int .i64 c.cap, .int .i64 c.jitter, .int .i64 c.net] 53, accR Ik.encI 3 1 v1 ((Ml.keepsM c worker)), boxR [bkR b6 [.map (some bm), .int .i64 0] 139, mapR intV ptrV bm (((D.map fun x => (x.shard, x.ptr)) ++ [(x1, b9)])), boxR (D.map (imR 136 5)), imR 136 5 (DI.mk x1 b9 (imgC c x1) (imgC c x1))]] := St.close (L1 := [bkR b1 [v_c_words, v_c_cuts, .int .i64 c.workers, .int .i64 c.copies, .int .i64 c.slots, .int .i64 c.batch, .int .i64 c.lease, .int .i64 c.hedge, .int .i64 c.first, .int .i64 c.cap, .int .i64 c.jitter, .int .i64 c.net] 53, accR Ik.encI 3 1 v1 ((Ml.keepsM c worker))]) hS29
            have hS31 : St (fun _ => False) (fun _ => False) w0 w11 [bkR b1 [v_c_words, v_c_cuts, .int .i64 c.workers, .int .i64 c.copies, .int .i64 c.slots, .int .i64 c.batch, .int .i64 c.lease, .int .i64 c.hedge, .int .i64 c.first, .int .i64 c.cap, .int .i64 c.jitter, .int .i64 c.net] 53, accR Ik.encI 3 1 v1 ((Ml.keepsM c worker)), dkK 139 136 5 b6 0 ((((keepsM c worker).take (k + 1)).map (dkE c)))] := hS30.imp (i := 2) rfl (fun F_ h_ => (by rw [← dkE_step hx1]; exact dkK_push (y := (DI.mk x1 b9 (imgC c x1) (imgC c x1))) hD rfl h_))
            refine OL.q (Q1.addI (((k + 1 : Nat) : Int)) rfl rfl (by omega)) rfl rfl ?_
            refine OL.q (Q1.move rfl) rfl rfl ?_
            refine OL.nil ?_
            exact (ih1 _ _ _ ⟨(k + 1 : Nat), rfl, rfl, hS31⟩ (by omega)).sub ⟨rfl, rfl, rfl, rfl, rfl, trivial⟩
          | false =>
            replace hb7 := of_decide_eq_false hb7.symm
            refine r_cond_f rfl ?_
            refine r_exit rfl ?_
            refine r_seq ?_
            refine r_region ?_
            refine OL.q (Q1.move rfl) rfl rfl ?_
            refine OL.q (Q1.assign rfl) rfl rfl ?_
            refine OL.q (Q1.assign rfl) rfl rfl ?_
            refine OL.nil ?_
            refine r_ret2 Try.func56 rfl rfl rfl ?_
            have hS15 : St (fun _ => False) (fun _ => False) w0 w6 [dkK 139 136 5 b6 0 ((((keepsM c worker).take k).map (dkE c)))] := hS13.sel [2] (by rfl) (by decide)
            have hall : (((keepsM c worker).take k).map (dkE c)) = dkNew c worker := by rw [List.take_of_length_le (by omega)]; rfl
            rw [hall] at hS15
            obtain ⟨hmF, F2r, hAr, hFr⟩ := hS15.fin
            exact Ret.mk ⟨hmF, .inr ⟨mayD_yes (by first | assumption | (symm; assumption)) (by omega) (by omega), _, F2r, rfl, hAr, fun b hb => ⟨(hFr b hb).1, (hFr b hb).2.resolve_left id⟩⟩⟩
  | false =>
    replace hb2 := hb2.symm
    refine OL.q (Q1.not rfl) rfl rfl ?_
    refine OL.q (Q1.move rfl) rfl rfl ?_
    refine OL.sk rfl rfl ?_
    refine OL.sk rfl rfl ?_
    refine OL.q (Q1.pick_t rfl rfl) rfl rfl ?_
    refine OL.q (Q1.move rfl) rfl rfl ?_
    refine OL.sk rfl rfl ?_
    refine OL.sk rfl rfl ?_
    refine OL.sk rfl rfl ?_
    refine OL.sk rfl rfl ?_
    refine OL.q (Q1.pick_t rfl rfl) rfl rfl ?_
    refine OL.nil ?_
    refine r_cond_t rfl ?_
    refine r_seq ?_
    refine r_region ?_
    refine OL.q (Q1.assign rfl) rfl rfl ?_
    refine OL.q (Q1.assign rfl) rfl rfl ?_
    refine OL.nil ?_
    refine r_ret2 Try.func56 rfl rfl rfl ?_
    exact Ret.mk ⟨hS3.mod, .inl ⟨mayD_no (by first | exact .inl (Eq.symm (by assumption)) | exact .inl (by assumption) | exact .inr (by omega)), rfl⟩⟩
end Go.Proofs
