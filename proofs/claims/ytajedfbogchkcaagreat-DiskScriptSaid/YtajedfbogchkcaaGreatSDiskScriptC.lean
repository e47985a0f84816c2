/-
  What the law DiskScript needs, part 3 of 7: theory, and walks through the code.
-/
import Derived.Test.YtajedfbogchkcaaGreatSDiskScriptB
set_option linter.unusedVariables false
set_option linter.unusedSimpArgs false
namespace Go.Proofs
open Go.Ik Go.Ml
set_option maxRecDepth 20000 in
set_option maxHeartbeats 4000000 in
theorem dget_c {w0 : World} {bd bm : Nat} {life : Int} {m : List (Int × Nat)} (s : Int) (hs : I64 s) (hr : Row w0 bd 0 [.map (some bm), .int .i64 life]) (hm : MapO intV ptrV w0 bm m) :
    Calls Tryz.prog 30 #[ptr bd 0, .int .i64 s] w0 (Ret fun rv w1 => rv = (match asc m s with | none => .tuple #[.pointer none, .int .i64 4] | some p => .tuple #[ptr p 0, .int .i64 0]) ∧ Ext w0 w1) := by
  have hS0 := St.start0 w0
  refine calls_enter Tryz.func30 rfl Tryz.ntmps30 rfl ?_
  refine r_seq ?_
  refine r_region ?_
  refine OL.q (Q1.assign rfl) rfl rfl ?_
  refine OL.q (Q1.assign rfl) rfl rfl ?_
  refine OL.nil ?_
  refine r_seq ?_
  refine r_block ?_
  refine r_seq ?_
  refine r_region ?_
  refine OL.q (Q1.move rfl) rfl rfl ?_
  refine OL.q (Q1.eqNil Tryz.underlying29 rfl rfl) rfl rfl ?_
  refine OL.q (Q1.assign rfl) rfl rfl ?_
  refine OL.nil ?_
  refine r_cond_f rfl ?_
  refine r_seq ?_
  refine r_region ?_
  refine OL.q (Q1.move rfl) rfl rfl ?_
  refine OL.q (Q1.nilCheckP rfl) rfl rfl ?_
  refine OL.q (Q1.fieldAddr fl62_0 rfl) rfl rfl ?_
  have hr1 := hr.sub 0 1 (Nat.le_of_ble_eq_true rfl)
  refine OL.q (Q1.load1 ti60 rfl (fun _ e => e ▸ hr1)) rfl rfl ?_
  refine OL.q (Q1.move rfl) rfl rfl ?_
  cases hfi : asc m s with
  | none =>
    refine OL.q (Q1.lookMiss (key := intV) (val := ptrV) (keyOk_int Tryz.underlying3) Tryz.underlying60 Tryz.zeroValue66 rfl rfl (fun _ e => e ▸ hm) hfi) rfl rfl ?_
    refine OL.q (Q1.eqNil Tryz.underlying66 rfl rfl) rfl rfl ?_
    refine OL.q (Q1.assign rfl) rfl rfl ?_
    refine OL.nil ?_
    refine r_cond_t rfl ?_
    refine r_seq ?_
    refine r_region ?_
    refine OL.q (Q1.assign rfl) rfl rfl ?_
    refine OL.q (Q1.assign rfl) rfl rfl ?_
    refine OL.nil ?_
    refine r_ret2 Tryz.func30 rfl rfl rfl ?_
    exact Ret.mk ⟨rfl, hS0.mod⟩
  | some p0 =>
    refine OL.q (Q1.lookHit (key := intV) (val := ptrV) (keyOk_int Tryz.underlying3) Tryz.underlying60 Tryz.zeroValue66 rfl rfl (fun _ e => e ▸ hm) hfi) rfl rfl ?_
    refine OL.q (Q1.eqNil Tryz.underlying66 rfl rfl) rfl rfl ?_
    refine OL.q (Q1.assign rfl) rfl rfl ?_
    refine OL.nil ?_
    refine r_cond_f rfl ?_
    refine r_skip ?_
    refine r_inBlock ?_
    refine r_seq ?_
    refine r_region ?_
    refine OL.q (Q1.move rfl) rfl rfl ?_
    refine OL.q (Q1.nilCheckP rfl) rfl rfl ?_
    refine OL.q (Q1.fieldAddr fl62_0 rfl) rfl rfl ?_
    have hr2 := hr.sub 0 1 (Nat.le_of_ble_eq_true rfl)
    refine OL.q (Q1.load1 ti60 rfl (fun _ e => e ▸ hr2)) rfl rfl ?_
    refine OL.q (Q1.move rfl) rfl rfl ?_
    refine OL.q (Q1.lookHit (key := intV) (val := ptrV) (keyOk_int Tryz.underlying3) Tryz.underlying60 Tryz.zeroValue66 rfl rfl (fun _ e => e ▸ hm) hfi) rfl rfl ?_
    refine OL.q (Q1.assign rfl) rfl rfl ?_
    refine OL.q (Q1.assign rfl) rfl rfl ?_
    refine OL.nil ?_
    refine r_ret2 Tryz.func30 rfl rfl rfl ?_
    exact Ret.mk ⟨rfl, hS0.mod⟩
set_option maxRecDepth 20000 in
set_option maxHeartbeats 4000000 in
theorem imrot_c {w0 : World} {p : Nat} {vg vn : Value} {good now : List UInt8} {G : Nat → Prop} (hr : Row w0 p 0 [vg, vn]) (hg : Sl encB w0 G vg good) (hn : Sl encB w0 G vn now) (hl : now.length = good.length) :
    Calls Tryz.prog 33 #[ptr p 0] w0 (Ret fun rv w1 => rv = .bool (decide (now ≠ good)) ∧ Ext w0 w1) := by
  have hS0 := St.start0 w0
  have hgl := hg.le
  refine calls_enter Tryz.func33 rfl Tryz.ntmps33 rfl ?_
  refine r_seq ?_
  refine r_region ?_
  refine OL.q (Q1.assign rfl) rfl rfl ?_
  refine OL.nil ?_
  refine r_seq ?_
  refine r_seq ?_
  refine r_region ?_
  refine OL.q (Q1.move rfl) rfl rfl ?_
  refine OL.q (Q1.nilCheckP rfl) rfl rfl ?_
  refine OL.q (Q1.fieldAddr fl69_0 rfl) rfl rfl ?_
  have hr1 := hr.sub 0 1 (Nat.le_of_ble_eq_true rfl)
  refine OL.q (Q1.load1 ti47 rfl (fun _ e => e ▸ hr1)) rfl rfl ?_
  refine OL.q (Q1.lenSl Tryz.underlying47 (hg) rfl) rfl rfl ?_
  refine OL.q (Q1.move rfl) rfl rfl ?_
  refine OL.nil ?_
  refine r_block ?_
  refine r_loop (I := fun m E W => ∃ (k : Nat), E = [(0, ptr p 0), (8, .int .i64 (((good.length : Nat) : Int))), (9, .int .i64 (((k : Nat) : Int)))] ∧ m = good.length - k ∧ St (fun _ => False) (fun _ => False) w0 W [] ∧ (good.take k = now.take k)) ?_ ?_
  · refine ⟨_, _, ⟨(0 : Nat), rfl, rfl, hS0, (by rfl)⟩, ⟨rfl, rfl, rfl, trivial⟩⟩
  · rintro _ _ w1 ⟨k, rfl, rfl, hS1, hi⟩ ih1
    refine r_seq ?_
    refine r_region ?_
    refine OL.qb (Q1.lt rfl rfl) rfl rfl ?_
    intro b1 hb1
    refine OL.nil ?_
    refine r_seq ?_
    cases b1 with
    | true =>
      replace hb1 := of_decide_eq_true hb1.symm
      refine r_cond_t rfl ?_
      refine r_skip ?_
      refine r_seq ?_
      refine r_block ?_
      refine r_seq ?_
      refine r_region ?_
      refine OL.q (Q1.move rfl) rfl rfl ?_
      refine OL.q (Q1.assign rfl) rfl rfl ?_
      refine OL.nil ?_
      refine r_seq ?_
      refine r_draw1 (fun i => false) 15 (fun w' => Mod (Mg 0) w1 w') mixed (by kernel_rfl) ?_
      intro w2 hm1
      have hS2 := hS1.ext hm1
      have hCw2 : Mod (Mg 0) w1 w2 := Mod.ofExt hm1
      refine ⟨hCw2, ?_⟩
      rw [show List.range' 0 (Array.size _) = [0, 1, 2, 3, 4, 5, 6, 7, 8, 9, 10, 11, 12, 13, 14] from rfl]
      refine OD.q rfl rfl (Q1.move rfl) rfl rfl ?_
      refine OD.q rfl rfl (Q1.nilCheckP rfl) rfl rfl ?_
      refine OD.q rfl rfl (Q1.fieldAddr fl69_0 rfl) rfl rfl ?_
      have f1 := hr.keep hS1.mod (fun h => h)
      have hr2 := f1.sub 0 1 (Nat.le_of_ble_eq_true rfl)
      refine OD.q rfl rfl (Q1.load1 ti47 rfl (fun _ hc => hr2.keepG hc (Nat.succ_ne_zero _))) rfl rfl ?_
      refine OD.q rfl rfl (Q1.move rfl) rfl rfl ?_
      have f2 := hS1.out hg (fun _ _ h => h)
      obtain ⟨x1, b2, o1, hx1, hr3, hl1, hw1⟩ := Sl.atF (P := Tryz.prog) f2 Tryz.underlying47 ti5 encB_len (k := .i64) (n := ((k : Nat) : Int)) (k) (by omega) (by first | assumption | omega)
      refine OD.q rfl rfl (Q1.indexAddr rfl rfl hr3) rfl rfl ?_
      refine OD.q rfl rfl (Q1.load1 ti5 rfl (fun _ hc => hw1.keepG hc (Nat.succ_ne_zero _))) rfl rfl ?_
      refine OD.q rfl rfl (Q1.move rfl) rfl rfl ?_
      refine OD.q rfl rfl (Q1.nilCheckP rfl) rfl rfl ?_
      refine OD.q rfl rfl (Q1.fieldAddr fl69_1 rfl) rfl rfl ?_
      have hr4 := f1.sub 1 1 (Nat.le_of_ble_eq_true rfl)
      refine OD.q rfl rfl (Q1.load1 ti47 rfl (fun _ hc => hr4.keepG hc (Nat.succ_ne_zero _))) rfl rfl ?_
      refine OD.q rfl rfl (Q1.move rfl) rfl rfl ?_
      have f3 := hS1.out hn (fun _ _ h => h)
      obtain ⟨x2, b3, o2, hx2, hr5, hl2, hw2⟩ := Sl.atF (P := Tryz.prog) f3 Tryz.underlying47 ti5 encB_len (k := .i64) (n := ((k : Nat) : Int)) (k) (by omega) (by first | assumption | omega)
      refine OD.q rfl rfl (Q1.indexAddr rfl rfl hr5) rfl rfl ?_
      refine OD.q rfl rfl (Q1.load1 ti5 rfl (fun _ hc => hw2.keepG hc (Nat.succ_ne_zero _))) rfl rfl ?_
      refine OD.qb rfl rfl (Q1.ne rfl rfl) rfl rfl ?_
      intro b4 hb2
      refine OD.nil ?_
      cases b4 with
      | true =>
        replace hb2 := bne_iff_ne.1 hb2.symm
        refine r_cond_t rfl ?_
        refine r_seq ?_
        refine r_region ?_
        refine OL.q (Q1.assign rfl) rfl rfl ?_
        refine OL.nil ?_
        refine r_ret1 Tryz.func33 rfl rfl ?_
        have e := Ml.same_not hx1 hx2 (fun e => absurd (congrArg UInt8.toNat e) (by omega))
        have hq : decide (now ≠ good) = true := decide_eq_true (fun h => e h.symm)
        exact Ret.mk ⟨congrArg Value.bool hq.symm, hS2.mod⟩
      | false =>
        replace hb2 := bne_eq_false_iff_eq.1 hb2.symm
        refine r_cond_f rfl ?_
        refine r_skip ?_
        refine r_inBlock ?_
        refine r_region ?_
        refine OL.q (Q1.addI (((k + 1 : Nat) : Int)) rfl rfl (by omega)) rfl rfl ?_
        refine OL.q (Q1.move rfl) rfl rfl ?_
        refine OL.nil ?_
        exact (ih1 _ _ _ ⟨(k + 1 : Nat), rfl, rfl, hS2, (by first | exact Ml.same_take hi hx1 hx2 (UInt8.toNat_inj.1 (by omega)) | (exfalso; omega))⟩ (by omega)).sub ⟨rfl, rfl, rfl, trivial⟩
    | false =>
      replace hb1 := of_decide_eq_false hb1.symm
      refine r_cond_f rfl ?_
      refine r_exit rfl ?_
      refine r_seq ?_
      refine r_region ?_
      refine OL.q (Q1.assign rfl) rfl rfl ?_
      refine OL.nil ?_
      refine r_ret1 Tryz.func33 rfl rfl ?_
      have e := Ml.same_all hi (by omega) (by omega)
      have hq : decide (now ≠ good) = false := decide_eq_false (fun h => h e.symm)
      exact Ret.mk ⟨congrArg Value.bool hq.symm, hS1.mod⟩
set_option maxRecDepth 20000 in
set_option maxHeartbeats 4000000 in
theorem dread_c {w0 : World} {F : Nat → Prop} {bd : Nat} {life : Int} {K : List DE} (s : Int) (hs : I64 s) (hA : (dkK (R := fun _ => False) 62 69 5 bd life K).p F w0) (hF : ∀ b, F b → b < w0.heap.size) (hK : DkOk K) :
    Calls Tryz.prog 14 #[ptr bd 0, .int .i64 s] w0 (Ret fun rv w1 => ∃ v, rv = .tuple #[v, .int .i64 (dkErr K s)] ∧ (∃ g, Acc encB 5 1 w1 g v (dkRead K s) ∧ (g = 0 ∨ w0.heap.size < g)) ∧ Ext w0 w1) := by
  have hS0 := St.start0 w0
  obtain ⟨D, bm, hD, hbd, hmp, him⟩ := dkK_in hA
  refine calls_enter Tryz.func14 rfl Tryz.ntmps14 rfl ?_
  refine r_seq ?_
  refine r_region ?_
  refine OL.q (Q1.assign rfl) rfl rfl ?_
  refine OL.q (Q1.assign rfl) rfl rfl ?_
  refine OL.nil ?_
  refine r_seq ?_
  refine r_region ?_
  refine OL.q (Q1.move rfl) rfl rfl ?_
  refine OL.q (Q1.move rfl) rfl rfl ?_
  cases hg : dkGet K s with
  | none =>
    refine OL.act rfl rfl (AW.callF cl30 rfl (dget_c (w0 := w0) s hs (hbd.row.ext hS0.mod) (hmp.ext hS0.mod)) ?_)
    rintro _ w1 ⟨rfl, hm1⟩
    have hS1 := hS0.ext hm1
    rw [dk_miss hD hg]
    dsimp only
    refine OL.q (Q1.move rfl) rfl rfl ?_
    refine OL.q (Q1.extract rfl rfl) rfl rfl ?_
    refine OL.q (Q1.extract rfl rfl) rfl rfl ?_
    refine OL.q (Q1.assign rfl) rfl rfl ?_
    refine OL.q (Q1.assign rfl) rfl rfl ?_
    refine OL.nil ?_
    refine r_seq ?_
    refine r_seq ?_
    refine r_region ?_
    refine OL.q (Q1.move rfl) rfl rfl ?_
    refine OL.qb (Q1.ne rfl rfl) rfl rfl ?_
    intro b1 hb1
    obtain rfl : b1 = true := hb1.trans (by rfl)
    refine OL.nil ?_
    refine r_cond_t rfl ?_
    refine r_seq ?_
    refine r_region ?_
    refine OL.q (Q1.move rfl) rfl rfl ?_
    refine OL.q (Q1.assign rfl) rfl rfl ?_
    refine OL.q (Q1.assign rfl) rfl rfl ?_
    refine OL.nil ?_
    refine r_ret2 Tryz.func14 rfl rfl rfl ?_
    exact Ret.mk ⟨.slice none 0 0, (congrArg (fun z : Int => Value.tuple #[.slice none 0 0, .int .i64 z]) (dk_no hg).1.symm), ⟨0, Acc.cast Acc.nil (dk_no hg).2.1.symm, .inl rfl⟩, hS1.mod⟩
  | some x0 =>
    obtain ⟨k, y, hk, hy, hys, has⟩ := dk_hit hD hg
    refine OL.act rfl rfl (AW.callF cl30 rfl (dget_c (w0 := w0) s hs (hbd.row.ext hS0.mod) (hmp.ext hS0.mod)) ?_)
    rintro _ w1 ⟨rfl, hm1⟩
    have hS1 := hS0.ext hm1
    rw [has]
    dsimp only
    have hyl : 1 ≤ y.good.length ∧ y.good.length ≤ 4000000 ∧ y.now.length = y.good.length := by subst hy; exact hK.2 _ (dkGet_key hg).2
    obtain ⟨vg, vn, hbi, hsg, hsn⟩ := him y (List.mem_of_getElem? hk)
    refine OL.q (Q1.move rfl) rfl rfl ?_
    refine OL.q (Q1.extract rfl rfl) rfl rfl ?_
    refine OL.q (Q1.extract rfl rfl) rfl rfl ?_
    refine OL.q (Q1.assign rfl) rfl rfl ?_
    refine OL.q (Q1.assign rfl) rfl rfl ?_
    refine OL.nil ?_
    refine r_seq ?_
    refine r_seq ?_
    refine r_region ?_
    refine OL.q (Q1.move rfl) rfl rfl ?_
    refine OL.qb (Q1.ne rfl rfl) rfl rfl ?_
    intro b1 hb1
    obtain rfl : b1 = false := hb1.trans (by rfl)
    refine OL.nil ?_
    refine r_cond_f rfl ?_
    refine r_skip ?_
    refine r_seq ?_
    refine r_region ?_
    refine OL.q (Q1.move rfl) rfl rfl ?_
    refine OL.q (Q1.nilCheckP rfl) rfl rfl ?_
    refine OL.q (Q1.fieldAddr fl69_1 rfl) rfl rfl ?_
    have f1 := hbi.row.keep hS1.mod (fun h => h)
    have hr1 := f1.sub 1 1 (Nat.le_of_ble_eq_true rfl)
    refine OL.q (Q1.load1 ti47 rfl (fun _ e => e ▸ hr1)) rfl rfl ?_
    have f2 := hS1.out hsn (fun _ _ h => h)
    refine OL.act rfl rfl (AW.callF cl26 rfl (cloneB_c (w0 := w1) (s := y.now)  (f2.mono (fun b hb => ⟨Nat.zero_le _, Nat.lt_of_lt_of_le (hF b hb) hS1.mod.size⟩)) (by first | assumption | omega)) ?_)
    rintro v1 w2 ⟨⟨gr1, h1, hg1⟩, hm2⟩
    have hS2 := hS1.ext hm2
    have hS3 : St (fun _ => False) (fun _ => False) w0 w2 [accR encB 5 1 v1 ((y.now))] := hS1.newAcc hm2 h1 hg1
    clear hg1
    have hle_1 := h1.le
    refine OL.q (Q1.assign rfl) rfl rfl ?_
    refine OL.q (Q1.assign rfl) rfl rfl ?_
    refine OL.nil ?_
    refine r_ret2 Tryz.func14 rfl rfl rfl ?_
    obtain ⟨ga, haq, hgq⟩ := hS3.accOut (i := 0) rfl
    exact Ret.mk ⟨_, (congrArg (fun z : Int => Value.tuple #[_, .int .i64 z]) (dk_yes hg).1.symm), ⟨ga, Acc.cast haq (by rw [(dk_yes hg).2.1, ← hy]; rfl), hgq⟩, hS3.mod⟩
set_option maxRecDepth 20000 in
set_option maxHeartbeats 4000000 in
theorem drotten_c {w0 : World} {F : Nat → Prop} {bd : Nat} {life : Int} {K : List DE} (s : Int) (hs : I64 s) (hA : (dkK (R := fun _ => False) 62 69 5 bd life K).p F w0) (hF : ∀ b, F b → b < w0.heap.size) (hK : DkOk K) :
    Calls Tryz.prog 17 #[ptr bd 0, .int .i64 s] w0 (Ret fun rv w1 => rv = .bool (dkRotten K s) ∧ Ext w0 w1) := by
  have hS0 := St.start0 w0
  obtain ⟨D, bm, hD, hbd, hmp, him⟩ := dkK_in hA
  refine calls_enter Tryz.func17 rfl Tryz.ntmps17 rfl ?_
  refine r_seq ?_
  refine r_region ?_
  refine OL.q (Q1.assign rfl) rfl rfl ?_
  refine OL.nil ?_
  refine r_seq ?_
  refine r_region ?_
  refine OL.q (Q1.move rfl) rfl rfl ?_
  refine OL.q (Q1.move rfl) rfl rfl ?_
  cases hg : dkGet K s with
  | none =>
    refine OL.act rfl rfl (AW.callF cl30 rfl (dget_c (w0 := w0) s hs (hbd.row.ext hS0.mod) (hmp.ext hS0.mod)) ?_)
    rintro _ w1 ⟨rfl, hm1⟩
    have hS1 := hS0.ext hm1
    rw [dk_miss hD hg]
    dsimp only
    refine OL.q (Q1.move rfl) rfl rfl ?_
    refine OL.q (Q1.extract rfl rfl) rfl rfl ?_
    refine OL.q (Q1.extract rfl rfl) rfl rfl ?_
    refine OL.q (Q1.assign rfl) rfl rfl ?_
    refine OL.q (Q1.assign rfl) rfl rfl ?_
    refine OL.nil ?_
    refine r_seq ?_
    refine r_region ?_
    refine OL.q (Q1.move rfl) rfl rfl ?_
    refine OL.qb (Q1.eq rfl rfl) rfl rfl ?_
    intro b1 hb1
    obtain rfl : b1 = false := hb1.trans (by rfl)
    refine OL.q (Q1.move rfl) rfl rfl ?_
    refine OL.sk rfl rfl ?_
    refine OL.sk rfl rfl ?_
    refine OL.q (Q1.pick_f rfl rfl) rfl rfl ?_
    refine OL.q (Q1.assign rfl) rfl rfl ?_
    refine OL.nil ?_
    refine r_ret1 Tryz.func17 rfl rfl ?_
    exact Ret.mk ⟨congrArg Value.bool (dk_no hg).2.2.1.symm, hS1.mod⟩
  | some x0 =>
    obtain ⟨k, y, hk, hy, hys, has⟩ := dk_hit hD hg
    refine OL.act rfl rfl (AW.callF cl30 rfl (dget_c (w0 := w0) s hs (hbd.row.ext hS0.mod) (hmp.ext hS0.mod)) ?_)
    rintro _ w1 ⟨rfl, hm1⟩
    have hS1 := hS0.ext hm1
    rw [has]
    dsimp only
    have hyl : 1 ≤ y.good.length ∧ y.good.length ≤ 4000000 ∧ y.now.length = y.good.length := by subst hy; exact hK.2 _ (dkGet_key hg).2
    obtain ⟨vg, vn, hbi, hsg, hsn⟩ := him y (List.mem_of_getElem? hk)
    refine OL.q (Q1.move rfl) rfl rfl ?_
    refine OL.q (Q1.extract rfl rfl) rfl rfl ?_
    refine OL.q (Q1.extract rfl rfl) rfl rfl ?_
    refine OL.q (Q1.assign rfl) rfl rfl ?_
    refine OL.q (Q1.assign rfl) rfl rfl ?_
    refine OL.nil ?_
    refine r_seq ?_
    refine r_region ?_
    refine OL.q (Q1.move rfl) rfl rfl ?_
    refine OL.qb (Q1.eq rfl rfl) rfl rfl ?_
    intro b1 hb1
    obtain rfl : b1 = true := hb1.trans (by rfl)
    refine OL.q (Q1.move rfl) rfl rfl ?_
    refine OL.q (Q1.move rfl) rfl rfl ?_
    refine OL.act rfl rfl (AW.callF cl33 rfl (imrot_c (w0 := w1) (G := F) (hbi.row.ext hS1.mod) (hsg.keep hS1.mod (fun _ _ h => h)) (hsn.keep hS1.mod (fun _ _ h => h)) hyl.2.2) ?_)
    rintro _ w2 ⟨rfl, hm2⟩
    have hS2 := hS1.ext hm2
    generalize hb2 : decide (y.now ≠ y.good) = b2
    replace hb2 := hb2.symm
    refine OL.q (Q1.pick_t rfl rfl) rfl rfl ?_
    refine OL.q (Q1.assign rfl) rfl rfl ?_
    refine OL.nil ?_
    refine r_ret1 Tryz.func17 rfl rfl ?_
    exact Ret.mk ⟨by rw [(dk_yes hg).2.2, ← hy]; exact congrArg Value.bool (by assumption), hS2.mod⟩
set_option maxRecDepth 20000 in
set_option maxHeartbeats 4000000 in
theorem dlife_c {w0 : World} {F : Nat → Prop} {bd : Nat} {life : Int} {K : List DE} (hA : (dkK (R := fun _ => False) 62 69 5 bd life K).p F w0) :
    Calls Tryz.prog 19 #[ptr bd 0] w0 (Ret fun rv w1 => rv = .int .i64 life ∧ Ext w0 w1) := by
  have hS0 := St.start0 w0
  obtain ⟨D, bm, hD, hbd, hmp, him⟩ := dkK_in hA
  refine calls_enter Tryz.func19 rfl Tryz.ntmps19 rfl ?_
  refine r_seq ?_
  refine r_region ?_
  refine OL.q (Q1.assign rfl) rfl rfl ?_
  refine OL.nil ?_
  refine r_seq ?_
  refine r_seq ?_
  refine r_region ?_
  refine OL.q (Q1.move rfl) rfl rfl ?_
  refine OL.q (Q1.eqNil Tryz.underlying29 rfl rfl) rfl rfl ?_
  refine OL.nil ?_
  refine r_cond_f rfl ?_
  refine r_skip ?_
  refine r_seq ?_
  refine r_region ?_
  refine OL.q (Q1.move rfl) rfl rfl ?_
  refine OL.q (Q1.nilCheckP rfl) rfl rfl ?_
  refine OL.q (Q1.fieldAddr fl62_1 rfl) rfl rfl ?_
  have hr1 := hbd.row.sub 1 1 (Nat.le_of_ble_eq_true rfl)
  refine OL.q (Q1.load1 ti3 rfl (fun _ e => e ▸ hr1)) rfl rfl ?_
  refine OL.q (Q1.assign rfl) rfl rfl ?_
  refine OL.nil ?_
  refine r_ret1 Tryz.func19 rfl rfl ?_
  exact Ret.mk ⟨rfl, hS0.mod⟩
set_option maxRecDepth 20000 in
set_option maxHeartbeats 4000000 in
theorem dmend_c {w0 : World} {F : Nat → Prop} {bd : Nat} {life : Int} {K : List DE} (s : Int) (hs : I64 s) (hA : (dkK (R := fun _ => False) 62 69 5 bd life K).p F w0) (hF : ∀ b, F b → b < w0.heap.size) (hK : DkOk K) :
    Calls Tryz.prog 11 #[ptr bd 0, .int .i64 s] w0 (Ret fun rv w1 => rv = .int .i64 (dkErr K s) ∧ Mod F w0 w1 ∧ ∃ F2, (dkK (R := fun _ => False) 62 69 5 bd life ((dkMend K s))).p F2 w1 ∧ ∀ b, F2 b → b < w1.heap.size ∧ (F b ∨ w0.heap.size ≤ b)) := by
  have hS00 := St.start1 (R := fun _ => False) hA (fun b hb => ⟨hF b hb, id⟩) (fun _ h => h.elim)
  have hS1 : St (fun _ => False) F w0 w0 [dkK 62 69 5 bd life K] := hS00
  refine calls_enter Tryz.func11 rfl Tryz.ntmps11 rfl ?_
  refine r_seq ?_
  refine r_region ?_
  refine OL.q (Q1.assign rfl) rfl rfl ?_
  refine OL.nil ?_
  refine r_seq ?_
  refine r_region ?_
  refine OL.q (Q1.move rfl) rfl rfl ?_
  refine OL.q (Q1.move rfl) rfl rfl ?_
  cases hg : dkGet K s with
  | none =>
    obtain ⟨Fy1, hAy1, hFy1, hky1⟩ := hS1.act (i := 0) rfl
    obtain ⟨D, bm, hD, hbd, hmp, him⟩ := dkK_in hAy1
    clear hky1
    refine OL.act rfl rfl (AW.callF cl30 rfl (dget_c (w0 := w0) s hs hbd.row hmp) ?_)
    rintro _ w1 ⟨rfl, hm1⟩
    have hS2 := hS1.ext hm1
    rw [dk_miss hD hg]
    dsimp only
    refine OL.q (Q1.move rfl) rfl rfl ?_
    refine OL.q (Q1.extract rfl rfl) rfl rfl ?_
    refine OL.q (Q1.extract rfl rfl) rfl rfl ?_
    refine OL.q (Q1.assign rfl) rfl rfl ?_
    refine OL.q (Q1.assign rfl) rfl rfl ?_
    refine OL.nil ?_
    refine r_seq ?_
    refine r_seq ?_
    refine r_region ?_
    refine OL.q (Q1.move rfl) rfl rfl ?_
    refine OL.qb (Q1.eq rfl rfl) rfl rfl ?_
    intro b1 hb1
    obtain rfl : b1 = false := hb1.trans (by rfl)
    refine OL.nil ?_
    refine r_cond_f rfl ?_
    refine r_skip ?_
    refine r_seq ?_
    refine r_region ?_
    refine OL.q (Q1.move rfl) rfl rfl ?_
    refine OL.q (Q1.assign rfl) rfl rfl ?_
    refine OL.nil ?_
    refine r_ret1 Tryz.func11 rfl rfl ?_
    obtain ⟨hmF, F2r, hAr, hFr⟩ := hS2.fin
    exact Ret.mk ⟨(congrArg (Value.int .i64) (dk_no hg).1.symm), hmF, F2r, by unfold dkMend; rw [(dk_no hg).2.2.2]; exact hAr, hFr⟩
  | some x0 =>
    obtain ⟨Fy1, hAy1, hFy1, hky1⟩ := hS1.act (i := 0) rfl
    obtain ⟨D, k, y, bm, hD, hk, hy, hys, has, hbx⟩ := dkK_out hAy1 hg
    have hS2 : St (fun _ => False) F w0 w0 [boxR [bkR bd [.map (some bm), .int .i64 life] 62, mapR intV ptrV bm (D.map fun x => (x.shard, x.ptr)), boxR ((D.take k).map (imR 69 5)), imR 69 5 y, boxR ((D.drop (k + 1)).map (imR 69 5))]] := hky1 _ _ _ (Mod.refl _ _) hbx (fun b hb => ⟨(hFy1 b hb).2, .inl hb⟩)
    clear hky1 hAy1 hbx
    have hS3 : St (fun _ => False) F w0 w0 [bkR bd [.map (some bm), .int .i64 life] 62, mapR intV ptrV bm ((D.map fun x => (x.shard, x.ptr))), boxR ((D.take k).map (imR 69 5)), imR 69 5 y, boxR ((D.drop (k + 1)).map (imR 69 5))] := St.open (L1 := []) hS2
    have f1 := hS3.bk (i := 0) rfl
    have f2 := hS3.map (i := 1) rfl
    refine OL.act rfl rfl (AW.callF cl30 rfl (dget_c (w0 := w0) s hs (f1).row f2) ?_)
    rintro _ w1 ⟨rfl, hm1⟩
    have hS4 := hS3.ext hm1
    rw [has]
    dsimp only
    have hyl : 1 ≤ y.good.length ∧ y.good.length ≤ 4000000 ∧ y.now.length = y.good.length := by subst hy; exact hK.2 _ (dkGet_key hg).2
    obtain ⟨⟨vg, vn⟩, hS5⟩ := hS4.exo (i := 3) rfl
    change St (fun _ => False) F w0 w1 [bkR bd [.map (some bm), .int .i64 life] 62, mapR intV ptrV bm ((D.map fun x => (x.shard, x.ptr))), boxR ((D.take k).map (imR 69 5)), boxR [bkR y.ptr [vg, vn] 69, accR encB 5 1 vg y.good, accR encB 5 1 vn y.now], boxR ((D.drop (k + 1)).map (imR 69 5))] at hS5
    have hS6 : St (fun _ => False) F w0 w1 [bkR bd [.map (some bm), .int .i64 life] 62, mapR intV ptrV bm ((D.map fun x => (x.shard, x.ptr))), boxR ((D.take k).map (imR 69 5)), boxR ((D.drop (k + 1)).map (imR 69 5)), boxR [bkR y.ptr [vg, vn] 69, accR encB 5 1 vg y.good, accR encB 5 1 vn y.now]] := hS5.sel [0, 1, 2, 4, 3] (by rfl) (by decide)
    have hS7 : St (fun _ => False) F w0 w1 [bkR bd [.map (some bm), .int .i64 life] 62, mapR intV ptrV bm ((D.map fun x => (x.shard, x.ptr))), boxR ((D.take k).map (imR 69 5)), boxR ((D.drop (k + 1)).map (imR 69 5)), boxR [bkR y.ptr [vg, vn] 69, accR encB 5 1 vg y.good, accR encB 5 1 vn y.now]] := hS6
    have hS8 : St (fun _ => False) F w0 w1 [bkR bd [.map (some bm), .int .i64 life] 62, mapR intV ptrV bm ((D.map fun x => (x.shard, x.ptr))), boxR ((D.take k).map (imR 69 5)), boxR ((D.drop (k + 1)).map (imR 69 5)), bkR y.ptr [vg, vn] 69, accR encB 5 1 vg y.good, accR encB 5 1 vn y.now] := St.open (L1 := [bkR bd [.map (some bm), .int .i64 life] 62, mapR intV ptrV bm ((D.map fun x => (x.shard, x.ptr))), boxR ((D.take k).map (imR 69 5)), boxR ((D.drop (k + 1)).map (imR 69 5))]) hS7
    refine OL.q (Q1.move rfl) rfl rfl ?_
    refine OL.q (Q1.extract rfl rfl) rfl rfl ?_
    refine OL.q (Q1.extract rfl rfl) rfl rfl ?_
    refine OL.q (Q1.assign rfl) rfl rfl ?_
    refine OL.q (Q1.assign rfl) rfl rfl ?_
    refine OL.nil ?_
    refine r_seq ?_
    refine r_seq ?_
    refine r_region ?_
    refine OL.q (Q1.move rfl) rfl rfl ?_
    refine OL.qb (Q1.eq rfl rfl) rfl rfl ?_
    intro b1 hb1
    obtain rfl : b1 = true := hb1.trans (by rfl)
    refine OL.nil ?_
    refine r_cond_t rfl ?_
    refine r_region ?_
    refine OL.q (Q1.move rfl) rfl rfl ?_
    refine OL.q (Q1.move rfl) rfl rfl ?_
    refine OL.q (Q1.nilCheckP rfl) rfl rfl ?_
    refine OL.q (Q1.fieldAddr fl69_0 rfl) rfl rfl ?_
    have f3 := hS8.bk (i := 4) rfl
    refine OL.q (Q1.load1 ti47 rfl (fun _ e => e ▸ (f3.cell 0 _ rfl))) rfl rfl ?_
    obtain ⟨g1, f4, hl1, k1⟩ := hS8.accK (i := 5) rfl
    refine OL.act rfl rfl (AW.callF cl26 rfl (cloneB_c (w0 := w1) (s := y.good)  (f4.sl.iv (Nat.zero_le _) f4.lt) (by first | assumption | omega)) ?_)
    rintro v1 w2 ⟨⟨gr1, h1, hg1⟩, hm2⟩
    have hS9 := hS8.ext hm2
    have hS10 : St (fun _ => False) F w0 w2 [bkR bd [.map (some bm), .int .i64 life] 62, mapR intV ptrV bm ((D.map fun x => (x.shard, x.ptr))), boxR ((D.take k).map (imR 69 5)), boxR ((D.drop (k + 1)).map (imR 69 5)), bkR y.ptr [vg, vn] 69, accR encB 5 1 vg y.good, accR encB 5 1 vn y.now, accR encB 5 1 v1 ((y.good))] := hS8.newAcc hm2 h1 hg1
    clear hg1
    have hle_1 := h1.le
    refine OL.q (Q1.nilCheckP rfl) rfl rfl ?_
    refine OL.q (Q1.fieldAddr fl69_1 rfl) rfl rfl ?_
    obtain ⟨g2, f5, hl2, k2⟩ := hS10.accK (i := 7) rfl
    obtain ⟨ad1, cp1, hv1⟩ := f5.shape
    subst hv1
    have f6 := hS10.bk (i := 4) rfl
    refine OL.act rfl rfl (AW.store ti47 rfl rfl rfl rfl rfl f6 (Nat.le_of_ble_eq_true rfl) ?_)
    intro w3 hm3 hz1 hk1
    have hS11 : St (fun _ => False) F w0 w3 [bkR bd [.map (some bm), .int .i64 life] 62, mapR intV ptrV bm ((D.map fun x => (x.shard, x.ptr))), boxR ((D.take k).map (imR 69 5)), boxR ((D.drop (k + 1)).map (imR 69 5)), bkR y.ptr [vg, (.slice ad1 ((y.good)).length cp1)] 69, accR encB 5 1 vg y.good, accR encB 5 1 vn y.now, accR encB 5 1 ((.slice ad1 ((y.good)).length cp1)) ((y.good))] := hS10.bkK (i := 4) rfl hm3 hk1
    refine OL.nil ?_
    refine r_seq ?_
    refine r_region ?_
    refine OL.q (Q1.move rfl) rfl rfl ?_
    refine OL.q (Q1.assign rfl) rfl rfl ?_
    refine OL.nil ?_
    refine r_ret1 Tryz.func11 rfl rfl ?_
    have hS12 : St (fun _ => False) F w0 w3 [bkR bd [.map (some bm), .int .i64 life] 62, mapR intV ptrV bm ((D.map fun x => (x.shard, x.ptr))), boxR ((D.take k).map (imR 69 5)), boxR ((D.drop (k + 1)).map (imR 69 5)), accR encB 5 1 vn y.now, bkR y.ptr [vg, (.slice ad1 ((y.good)).length cp1)] 69, accR encB 5 1 vg y.good, accR encB 5 1 ((.slice ad1 ((y.good)).length cp1)) ((y.good))] := hS11.sel [0, 1, 2, 3, 6, 4, 5, 7] (by rfl) (by decide)
    have hS13 : St (fun _ => False) F w0 w3 [bkR bd [.map (some bm), .int .i64 life] 62, mapR intV ptrV bm ((D.map fun x => (x.shard, x.ptr))), boxR ((D.take k).map (imR 69 5)), boxR ((D.drop (k + 1)).map (imR 69 5)), accR encB 5 1 vn y.now, boxR [bkR y.ptr [vg, (.slice ad1 ((y.good)).length cp1)] 69, accR encB 5 1 vg y.good, accR encB 5 1 ((.slice ad1 ((y.good)).length cp1)) ((y.good))]] := St.close (L1 := [bkR bd [.map (some bm), .int .i64 life] 62, mapR intV ptrV bm ((D.map fun x => (x.shard, x.ptr))), boxR ((D.take k).map (imR 69 5)), boxR ((D.drop (k + 1)).map (imR 69 5)), accR encB 5 1 vn y.now]) hS12
    have hS14 : St (fun _ => False) F w0 w3 [bkR bd [.map (some bm), .int .i64 life] 62, mapR intV ptrV bm ((D.map fun x => (x.shard, x.ptr))), boxR ((D.take k).map (imR 69 5)), boxR ((D.drop (k + 1)).map (imR 69 5)), accR encB 5 1 vn y.now, imR 69 5 { y with now := y.good }] := hS13.exi (A := fun vs : Value × Value => boxR [bkR y.ptr [vs.1, vs.2] 69, accR encB 5 1 vs.1 y.good, accR encB 5 1 vs.2 y.good]) (vg, (.slice ad1 ((y.good)).length cp1)) (i := 5) rfl
    have hS15 : St (fun _ => False) F w0 w3 [accR encB 5 1 vn y.now, bkR bd [.map (some bm), .int .i64 life] 62, mapR intV ptrV bm ((D.map fun x => (x.shard, x.ptr))), boxR ((D.take k).map (imR 69 5)), imR 69 5 { y with now := y.good }, boxR ((D.drop (k + 1)).map (imR 69 5))] := hS14.sel [4, 0, 1, 2, 5, 3] (by rfl) (by decide)
    have hS16 : St (fun _ => False) F w0 w3 [accR encB 5 1 vn y.now, boxR [bkR bd [.map (some bm), .int .i64 life] 62, mapR intV ptrV bm ((D.map fun x => (x.shard, x.ptr))), boxR ((D.take k).map (imR 69 5)), imR 69 5 { y with now := y.good }, boxR ((D.drop (k + 1)).map (imR 69 5))]] := St.close (L1 := [accR encB 5 1 vn y.now]) hS15
    have hS17 : St (fun _ => False) F w0 w3 [accR encB 5 1 vn y.now, dkK 62 69 5 bd life ((dkPut K s id))] := hS16.imp (i := 1) rfl (fun F_ h_ => dkK_back (f := id) hD hK hk hys h_)
    have hS18 : St (fun _ => False) F w0 w3 [dkK 62 69 5 bd life ((dkPut K s id))] := hS17.sel [1] (by rfl) (by decide)
    obtain ⟨hmF, F2r, hAr, hFr⟩ := hS18.fin
    exact Ret.mk ⟨(congrArg (Value.int .i64) (dk_yes hg).1.symm), hmF, F2r, hAr, hFr⟩
set_option maxRecDepth 20000 in
set_option maxHeartbeats 4000000 in
theorem drot_c {w0 : World} {F : Nat → Prop} {bd : Nat} {life : Int} {K : List DE} (s at_ x : Int) (hs : I64 s) (hA : (dkK (R := fun _ => False) 62 69 5 bd life K).p F w0) (hF : ∀ b, F b → b < w0.heap.size) (hK : DkOk K) :
    Calls Tryz.prog 9 #[ptr bd 0, .int .i64 s, .int .i64 at_, .int .i64 x] w0 (Ret fun rv w1 => rv = .int .i64 (dkErr K s) ∧ Mod F w0 w1 ∧ ∃ F2, (dkK (R := fun _ => False) 62 69 5 bd life ((dkRot K s at_ x))).p F2 w1 ∧ ∀ b, F2 b → b < w1.heap.size ∧ (F b ∨ w0.heap.size ≤ b)) := by
  have hS00 := St.start1 (R := fun _ => False) hA (fun b hb => ⟨hF b hb, id⟩) (fun _ h => h.elim)
  have hS1 : St (fun _ => False) F w0 w0 [dkK 62 69 5 bd life K] := hS00
  refine calls_enter Tryz.func9 rfl Tryz.ntmps9 rfl ?_
  refine r_seq ?_
  refine r_region ?_
  refine OL.q (Q1.assign rfl) rfl rfl ?_
  refine OL.nil ?_
  refine r_seq ?_
  refine r_region ?_
  refine OL.q (Q1.move rfl) rfl rfl ?_
  refine OL.q (Q1.move rfl) rfl rfl ?_
  cases hg : dkGet K s with
  | none =>
    obtain ⟨Fy1, hAy1, hFy1, hky1⟩ := hS1.act (i := 0) rfl
    obtain ⟨D, bm, hD, hbd, hmp, him⟩ := dkK_in hAy1
    clear hky1
    refine OL.act rfl rfl (AW.callF cl30 rfl (dget_c (w0 := w0) s hs hbd.row hmp) ?_)
    rintro _ w1 ⟨rfl, hm1⟩
    have hS2 := hS1.ext hm1
    rw [dk_miss hD hg]
    dsimp only
    refine OL.q (Q1.move rfl) rfl rfl ?_
    refine OL.q (Q1.extract rfl rfl) rfl rfl ?_
    refine OL.q (Q1.extract rfl rfl) rfl rfl ?_
    refine OL.q (Q1.assign rfl) rfl rfl ?_
    refine OL.q (Q1.assign rfl) rfl rfl ?_
    refine OL.nil ?_
    refine r_seq ?_
    refine r_seq ?_
    refine r_region ?_
    refine OL.q (Q1.move rfl) rfl rfl ?_
    refine OL.qb (Q1.eq rfl rfl) rfl rfl ?_
    intro b1 hb1
    obtain rfl : b1 = false := hb1.trans (by rfl)
    refine OL.nil ?_
    refine r_cond_f rfl ?_
    refine r_skip ?_
    refine r_seq ?_
    refine r_region ?_
    refine OL.q (Q1.move rfl) rfl rfl ?_
    refine OL.q (Q1.assign rfl) rfl rfl ?_
    refine OL.nil ?_
    refine r_ret1 Tryz.func9 rfl rfl ?_
    obtain ⟨hmF, F2r, hAr, hFr⟩ := hS2.fin
    exact Ret.mk ⟨(congrArg (Value.int .i64) (dk_no hg).1.symm), hmF, F2r, by unfold dkRot; rw [(dk_no hg).2.2.2]; exact hAr, hFr⟩
  | some x0 =>
    obtain ⟨Fy1, hAy1, hFy1, hky1⟩ := hS1.act (i := 0) rfl
    obtain ⟨D, k, y, bm, hD, hk, hy, hys, has, hbx⟩ := dkK_out hAy1 hg
    have hS2 : St (fun _ => False) F w0 w0 [boxR [bkR bd [.map (some bm), .int .i64 life] 62, mapR intV ptrV bm (D.map fun x => (x.shard, x.ptr)), boxR ((D.take k).map (imR 69 5)), imR 69 5 y, boxR ((D.drop (k + 1)).map (imR 69 5))]] := hky1 _ _ _ (Mod.refl _ _) hbx (fun b hb => ⟨(hFy1 b hb).2, .inl hb⟩)
    clear hky1 hAy1 hbx
    have hS3 : St (fun _ => False) F w0 w0 [bkR bd [.map (some bm), .int .i64 life] 62, mapR intV ptrV bm ((D.map fun x => (x.shard, x.ptr))), boxR ((D.take k).map (imR 69 5)), imR 69 5 y, boxR ((D.drop (k + 1)).map (imR 69 5))] := St.open (L1 := []) hS2
    have f1 := hS3.bk (i := 0) rfl
    have f2 := hS3.map (i := 1) rfl
    refine OL.act rfl rfl (AW.callF cl30 rfl (dget_c (w0 := w0) s hs (f1).row f2) ?_)
    rintro _ w1 ⟨rfl, hm1⟩
    have hS4 := hS3.ext hm1
    rw [has]
    dsimp only
    have hyl : 1 ≤ y.good.length ∧ y.good.length ≤ 4000000 ∧ y.now.length = y.good.length := by subst hy; exact hK.2 _ (dkGet_key hg).2
    obtain ⟨⟨vg, vn⟩, hS5⟩ := hS4.exo (i := 3) rfl
    change St (fun _ => False) F w0 w1 [bkR bd [.map (some bm), .int .i64 life] 62, mapR intV ptrV bm ((D.map fun x => (x.shard, x.ptr))), boxR ((D.take k).map (imR 69 5)), boxR [bkR y.ptr [vg, vn] 69, accR encB 5 1 vg y.good, accR encB 5 1 vn y.now], boxR ((D.drop (k + 1)).map (imR 69 5))] at hS5
    have hS6 : St (fun _ => False) F w0 w1 [bkR bd [.map (some bm), .int .i64 life] 62, mapR intV ptrV bm ((D.map fun x => (x.shard, x.ptr))), boxR ((D.take k).map (imR 69 5)), boxR ((D.drop (k + 1)).map (imR 69 5)), boxR [bkR y.ptr [vg, vn] 69, accR encB 5 1 vg y.good, accR encB 5 1 vn y.now]] := hS5.sel [0, 1, 2, 4, 3] (by rfl) (by decide)
    have hS7 : St (fun _ => False) F w0 w1 [bkR bd [.map (some bm), .int .i64 life] 62, mapR intV ptrV bm ((D.map fun x => (x.shard, x.ptr))), boxR ((D.take k).map (imR 69 5)), boxR ((D.drop (k + 1)).map (imR 69 5)), boxR [bkR y.ptr [vg, vn] 69, accR encB 5 1 vg y.good, accR encB 5 1 vn y.now]] := hS6
    have hS8 : St (fun _ => False) F w0 w1 [bkR bd [.map (some bm), .int .i64 life] 62, mapR intV ptrV bm ((D.map fun x => (x.shard, x.ptr))), boxR ((D.take k).map (imR 69 5)), boxR ((D.drop (k + 1)).map (imR 69 5)), bkR y.ptr [vg, vn] 69, accR encB 5 1 vg y.good, accR encB 5 1 vn y.now] := St.open (L1 := [bkR bd [.map (some bm), .int .i64 life] 62, mapR intV ptrV bm ((D.map fun x => (x.shard, x.ptr))), boxR ((D.take k).map (imR 69 5)), boxR ((D.drop (k + 1)).map (imR 69 5))]) hS7
    refine OL.q (Q1.move rfl) rfl rfl ?_
    refine OL.q (Q1.extract rfl rfl) rfl rfl ?_
    refine OL.q (Q1.extract rfl rfl) rfl rfl ?_
    refine OL.q (Q1.assign rfl) rfl rfl ?_
    refine OL.q (Q1.assign rfl) rfl rfl ?_
    refine OL.nil ?_
    refine r_seq ?_
    refine r_seq ?_
    refine r_region ?_
    refine OL.q (Q1.move rfl) rfl rfl ?_
    refine OL.qb (Q1.eq rfl rfl) rfl rfl ?_
    intro b1 hb1
    obtain rfl : b1 = true := hb1.trans (by rfl)
    refine OL.nil ?_
    refine r_cond_t rfl ?_
    refine r_seq ?_
    refine r_region ?_
    refine OL.q (Q1.move rfl) rfl rfl ?_
    refine OL.q (Q1.move rfl) rfl rfl ?_
    refine OL.q (Q1.nilCheckP rfl) rfl rfl ?_
    refine OL.q (Q1.fieldAddr fl69_0 rfl) rfl rfl ?_
    have f3 := hS8.bk (i := 4) rfl
    refine OL.q (Q1.load1 ti47 rfl (fun _ e => e ▸ (f3.cell 0 _ rfl))) rfl rfl ?_
    obtain ⟨g1, f4, hl1, k1⟩ := hS8.accK (i := 5) rfl
    refine OL.act rfl rfl (AW.callF cl26 rfl (cloneB_c (w0 := w1) (s := y.good)  (f4.sl.iv (Nat.zero_le _) f4.lt) (by first | assumption | omega)) ?_)
    rintro v1 w2 ⟨⟨gr1, h1, hg1⟩, hm2⟩
    have hS9 := hS8.ext hm2
    have hS10 : St (fun _ => False) F w0 w2 [bkR bd [.map (some bm), .int .i64 life] 62, mapR intV ptrV bm ((D.map fun x => (x.shard, x.ptr))), boxR ((D.take k).map (imR 69 5)), boxR ((D.drop (k + 1)).map (imR 69 5)), bkR y.ptr [vg, vn] 69, accR encB 5 1 vg y.good, accR encB 5 1 vn y.now, accR encB 5 1 v1 ((y.good))] := hS8.newAcc hm2 h1 hg1
    clear hg1
    have hle_1 := h1.le
    refine OL.q (Q1.nilCheckP rfl) rfl rfl ?_
    refine OL.q (Q1.fieldAddr fl69_1 rfl) rfl rfl ?_
    obtain ⟨g2, f5, hl2, k2⟩ := hS10.accK (i := 7) rfl
    obtain ⟨ad1, cp1, hv1⟩ := f5.shape
    subst hv1
    have f6 := hS10.bk (i := 4) rfl
    refine OL.act rfl rfl (AW.store ti47 rfl rfl rfl rfl rfl f6 (Nat.le_of_ble_eq_true rfl) ?_)
    intro w3 hm3 hz1 hk1
    have hS11 : St (fun _ => False) F w0 w3 [bkR bd [.map (some bm), .int .i64 life] 62, mapR intV ptrV bm ((D.map fun x => (x.shard, x.ptr))), boxR ((D.take k).map (imR 69 5)), boxR ((D.drop (k + 1)).map (imR 69 5)), bkR y.ptr [vg, (.slice ad1 ((y.good)).length cp1)] 69, accR encB 5 1 vg y.good, accR encB 5 1 vn y.now, accR encB 5 1 ((.slice ad1 ((y.good)).length cp1)) ((y.good))] := hS10.bkK (i := 4) rfl hm3 hk1
    refine OL.nil ?_
    refine r_draw1 (fun i => Nat.beq i 22) 22 (fun w' => Mod (Mg 0) w3 w') mixed (by kernel_rfl) ?_
    intro w4 hm4
    have hS12 := hS11.ext hm4
    have hCw4 : Mod (Mg 0) w3 w4 := Mod.ofExt hm4
    refine ⟨hCw4, ?_⟩
    rw [show List.range' 0 (Array.size _) = [0, 1, 2, 3, 4, 5, 6, 7, 8, 9, 10, 11, 12, 13, 14, 15, 16, 17, 18, 19, 20, 21, 22] from rfl]
    refine OD.q rfl rfl (Q1.move rfl) rfl rfl ?_
    refine OD.q rfl rfl (Q1.nilCheckP rfl) rfl rfl ?_
    refine OD.q rfl rfl (Q1.fieldAddr fl69_1 rfl) rfl rfl ?_
    have f7 := hS11.bk (i := 4) rfl
    refine OD.q rfl rfl (Q1.load1 ti47 rfl (fun _ hc => (f7.cell 1 _ rfl).keepG hc (Nat.succ_ne_zero _))) rfl rfl ?_
    refine OD.q rfl rfl (Q1.move rfl) rfl rfl ?_
    refine OD.q rfl rfl (Q1.convI (by kernel_rfl) Tryz.underlying75 rfl) rfl rfl ?_
    have hx64 := Ml.u64_range at_
    refine OD.q rfl rfl (Q1.move rfl) rfl rfl ?_
    refine OD.q rfl rfl (Q1.nilCheckP rfl) rfl rfl ?_
    refine OD.q rfl rfl (Q1.fieldAddr fl69_1 rfl) rfl rfl ?_
    refine OD.q rfl rfl (Q1.load1 ti47 rfl (fun _ hc => (f7.cell 1 _ rfl).keepG hc (Nat.succ_ne_zero _))) rfl rfl ?_
    obtain ⟨g3, f8, hl3, k3⟩ := hS11.accK (i := 7) rfl
    refine OD.q rfl rfl (Q1.lenSl Tryz.underlying47 (f8.sl) rfl) rfl rfl ?_
    refine OD.q rfl rfl (Q1.convN (by kernel_rfl) Tryz.underlying75 rfl (IntWalk.u64_in _ (by omega))) rfl rfl ?_
    have := Int.emod_nonneg ((IntKind.u64.wrap at_) : Int) (by omega : (((((y.good)).length : Nat) : Int) : Int) ≠ 0)
    have := Int.emod_lt_of_pos ((IntKind.u64.wrap at_) : Int) (by omega : (0 : Int) < ((((y.good)).length : Nat) : Int))
    refine OD.q rfl rfl (Q1.remI (((IntKind.u64.wrap at_) % (((((y.good)).length : Nat) : Int)))) rfl rfl ⟨by omega, by omega, rfl⟩) rfl rfl ?_
    have hlow := Ml.low_range at_ (y.good.length : Int) (by omega)
    unfold Ml.lowM at hlow
    have hlt0 : ((IntKind.u64.wrap at_) % (((y.good.length : Nat) : Int))).toNat < y.good.length := turnAt_lt (by omega) at_
    obtain ⟨x1, b2, o1, hx1, hr1, hl4, hw1⟩ := Sl.atF (P := Tryz.prog) f8.sl Tryz.underlying47 ti5 encB_len (k := .u64) (n := ((IntKind.u64.wrap at_) % (((((y.good)).length : Nat) : Int)))) ((((IntKind.u64.wrap at_) % (((((y.good)).length : Nat) : Int)))).toNat) (by omega) (by first | assumption | omega)
    refine OD.q rfl rfl (Q1.indexAddr rfl rfl hr1) rfl rfl ?_
    refine OD.q rfl rfl (Q1.load1 ti5 rfl (fun _ hc => hw1.keepG hc (Nat.succ_ne_zero _))) rfl rfl ?_
    refine OD.q rfl rfl (Q1.move rfl) rfl rfl ?_
    refine OD.q rfl rfl (Q1.convI (by kernel_rfl) Tryz.underlying75 rfl) rfl rfl ?_
    have hy64 := Ml.u64_range x
    have := Int.emod_nonneg ((IntKind.u64.wrap x) : Int) (by omega : (255 : Int) ≠ 0)
    have := Int.emod_lt_of_pos ((IntKind.u64.wrap x) : Int) (by omega : (0 : Int) < 255)
    refine OD.q rfl rfl (Q1.remI (((IntKind.u64.wrap x) % 255)) rfl rfl ⟨by omega, by omega, rfl⟩) rfl rfl ?_
    refine OD.q rfl rfl (Q1.addU ((1 + (((IntKind.u64.wrap x) % 255)))) rfl rfl (by omega)) rfl rfl ?_
    refine OD.q rfl rfl (Q1.convB (by kernel_rfl) Tryz.underlying5 rfl) rfl rfl ?_
    refine OD.q rfl rfl (Q1.xor8 (a := x1) (b := (byN ((1 + (((IntKind.u64.wrap x) % 255)))))) rfl rfl) rfl rfl ?_
    obtain ⟨hr2, x2, hx2⟩ := Acc.at (P := Tryz.prog) f8 Tryz.underlying47 ti5 (k := .u64) (n := ((IntKind.u64.wrap at_) % (((((y.good)).length : Nat) : Int)))) ((((IntKind.u64.wrap at_) % (((((y.good)).length : Nat) : Int)))).toNat) (by omega) (by first | assumption | omega | (simp; done))
    refine OD.q rfl rfl (Q1.indexAddr rfl rfl hr2) rfl rfl ?_
    obtain ⟨g4, f9, hl6, k4⟩ := hS12.accK (i := 7) rfl
    have he1 := Acc.uniq f8 f9
    subst he1
    refine OD.act rfl rfl rfl rfl (AW.storeA f9 encB_len (i := ((((IntKind.u64.wrap at_) % (((((y.good)).length : Nat) : Int)))).toNat)) (o := 0) hx2 ((x1 ^^^ (byN ((1 + (((IntKind.u64.wrap x) % 255))))))) ti5 rfl (by first | omega | rfl) rfl rfl rfl rfl (by decide) (by first | rfl | simp [encB]) ?_)
    intro w5 hm5 hz2 ha1
    have hl5 : (((y.good)).set ((((IntKind.u64.wrap at_) % (((((y.good)).length : Nat) : Int)))).toNat) ((x1 ^^^ (byN ((1 + (((IntKind.u64.wrap x) % 255)))))))).length = ((y.good)).length := List.length_set
    have hS13 : St (fun _ => False) F w0 w5 [bkR bd [.map (some bm), .int .i64 life] 62, mapR intV ptrV bm ((D.map fun x => (x.shard, x.ptr))), boxR ((D.take k).map (imR 69 5)), boxR ((D.drop (k + 1)).map (imR 69 5)), bkR y.ptr [vg, (.slice ad1 ((y.good)).length cp1)] 69, accR encB 5 1 vg y.good, accR encB 5 1 vn y.now, accR encB 5 1 ((.slice ad1 ((y.good)).length cp1)) ((((y.good)).set ((((IntKind.u64.wrap at_) % (((((y.good)).length : Nat) : Int)))).toNat) ((x1 ^^^ (byN ((1 + (((IntKind.u64.wrap x) % 255)))))))))] := k4 _ _ _ _ hm5 ha1 (.inl rfl)
    refine ⟨.inl rfl, ?_⟩
    refine OD.nil ?_
    refine r_seq ?_
    refine r_region ?_
    have hS14 : St (fun _ => False) F w0 w5 [bkR bd [.map (some bm), .int .i64 life] 62, mapR intV ptrV bm ((D.map fun x => (x.shard, x.ptr))), boxR ((D.take k).map (imR 69 5)), boxR ((D.drop (k + 1)).map (imR 69 5)), bkR y.ptr [vg, (.slice ad1 ((y.good)).length cp1)] 69, accR encB 5 1 vg y.good, accR encB 5 1 vn y.now, accR encB 5 1 ((.slice ad1 ((y.good)).length cp1)) ((turnB y.good at_ x))] := hS13.imp (i := 7) rfl (fun F_ h_ => (by rw [turnB_yes hx1]; exact h_))
    refine OL.q (Q1.move rfl) rfl rfl ?_
    refine OL.q (Q1.assign rfl) rfl rfl ?_
    refine OL.nil ?_
    refine r_ret1 Tryz.func9 rfl rfl ?_
    have hS15 : St (fun _ => False) F w0 w5 [bkR bd [.map (some bm), .int .i64 life] 62, mapR intV ptrV bm ((D.map fun x => (x.shard, x.ptr))), boxR ((D.take k).map (imR 69 5)), boxR ((D.drop (k + 1)).map (imR 69 5)), accR encB 5 1 vn y.now, bkR y.ptr [vg, (.slice ad1 ((y.good)).length cp1)] 69, accR encB 5 1 vg y.good, accR encB 5 1 ((.slice ad1 ((y.good)).length cp1)) ((turnB y.good at_ x))] := hS14.sel [0, 1, 2, 3, 6, 4, 5, 7] (by rfl) (by decide)
    have hS16 : St (fun _ => False) F w0 w5 [bkR bd [.map (some bm), .int .i64 life] 62, mapR intV ptrV bm ((D.map fun x => (x.shard, x.ptr))), boxR ((D.take k).map (imR 69 5)), boxR ((D.drop (k + 1)).map (imR 69 5)), accR encB 5 1 vn y.now, boxR [bkR y.ptr [vg, (.slice ad1 ((y.good)).length cp1)] 69, accR encB 5 1 vg y.good, accR encB 5 1 ((.slice ad1 ((y.good)).length cp1)) ((turnB y.good at_ x))]] := St.close (L1 := [bkR bd [.map (some bm), .int .i64 life] 62, mapR intV ptrV bm ((D.map fun x => (x.shard, x.ptr))), boxR ((D.take k).map (imR 69 5)), boxR ((D.drop (k + 1)).map (imR 69 5)), accR encB 5 1 vn y.now]) hS15
    have hS17 : St (fun _ => False) F w0 w5 [bkR bd [.map (some bm), .int .i64 life] 62, mapR intV ptrV bm ((D.map fun x => (x.shard, x.ptr))), boxR ((D.take k).map (imR 69 5)), boxR ((D.drop (k + 1)).map (imR 69 5)), accR encB 5 1 vn y.now, imR 69 5 { y with now := turnB y.good at_ x }] := hS16.exi (A := fun vs : Value × Value => boxR [bkR y.ptr [vs.1, vs.2] 69, accR encB 5 1 vs.1 y.good, accR encB 5 1 vs.2 (turnB y.good at_ x)]) (vg, (.slice ad1 ((y.good)).length cp1)) (i := 5) rfl
    have hS18 : St (fun _ => False) F w0 w5 [accR encB 5 1 vn y.now, bkR bd [.map (some bm), .int .i64 life] 62, mapR intV ptrV bm ((D.map fun x => (x.shard, x.ptr))), boxR ((D.take k).map (imR 69 5)), imR 69 5 { y with now := turnB y.good at_ x }, boxR ((D.drop (k + 1)).map (imR 69 5))] := hS17.sel [4, 0, 1, 2, 5, 3] (by rfl) (by decide)
    have hS19 : St (fun _ => False) F w0 w5 [accR encB 5 1 vn y.now, boxR [bkR bd [.map (some bm), .int .i64 life] 62, mapR intV ptrV bm ((D.map fun x => (x.shard, x.ptr))), boxR ((D.take k).map (imR 69 5)), imR 69 5 { y with now := turnB y.good at_ x }, boxR ((D.drop (k + 1)).map (imR 69 5))]] := St.close (L1 := [accR encB 5 1 vn y.now]) hS18
    have hS20 : St (fun _ => False) F w0 w5 [accR encB 5 1 vn y.now, dkK 62 69 5 bd life ((dkPut K s (fun b => turnB b at_ x)))] := hS19.imp (i := 1) rfl (fun F_ h_ => dkK_back (f := (fun b => turnB b at_ x)) hD hK hk hys h_)
    have hS21 : St (fun _ => False) F w0 w5 [dkK 62 69 5 bd life ((dkPut K s (fun b => turnB b at_ x)))] := hS20.sel [1] (by rfl) (by decide)
    obtain ⟨hmF, F2r, hAr, hFr⟩ := hS21.fin
    exact Ret.mk ⟨(congrArg (Value.int .i64) (dk_yes hg).1.symm), hmF, F2r, hAr, hFr⟩
set_option maxRecDepth 20000 in
set_option maxHeartbeats 4000000 in
theorem dborn_c {w0 : World} {F : Nat → Prop} {bd : Nat} {life : Int} {K : List DE} (hlf : 0 ≤ life ∧ life ≤ 1000000) (hA : (dkK (R := fun _ => False) 62 69 5 bd life K).p F w0) (hF : ∀ b, F b → b < w0.heap.size) :
    Calls Tryz.prog 13 #[ptr bd 0] w0 (Ret fun rv w1 => rv = .int .i64 (life + 1) ∧ Mod F w0 w1 ∧ ∃ F2, (dkK (R := fun _ => False) 62 69 5 bd ((life + 1)) K).p F2 w1 ∧ ∀ b, F2 b → b < w1.heap.size ∧ (F b ∨ w0.heap.size ≤ b)) := by
  have hS00 := St.start1 (R := fun _ => False) hA (fun b hb => ⟨hF b hb, id⟩) (fun _ h => h.elim)
  have hS1 : St (fun _ => False) F w0 w0 [dkK 62 69 5 bd life K] := hS00
  obtain ⟨Fy1, hAy1, hFy1, hky1⟩ := hS1.act (i := 0) rfl
  obtain ⟨D, bm, hD, hbx⟩ := dkK_op hAy1
  have hS2 : St (fun _ => False) F w0 w0 [boxR [bkR bd [.map (some bm), .int .i64 life] 62, mapR intV ptrV bm (D.map fun x => (x.shard, x.ptr)), boxR (D.map (imR 69 5))]] := hky1 _ _ _ (Mod.refl _ _) hbx (fun b hb => ⟨(hFy1 b hb).2, .inl hb⟩)
  clear hky1 hAy1 hbx
  have hS3 : St (fun _ => False) F w0 w0 [bkR bd [.map (some bm), .int .i64 life] 62, mapR intV ptrV bm (D.map fun x => (x.shard, x.ptr)), boxR (D.map (imR 69 5))] := St.open (L1 := []) hS2
  refine calls_enter Tryz.func13 rfl Tryz.ntmps13 rfl ?_
  refine r_seq ?_
  refine r_region ?_
  refine OL.q (Q1.assign rfl) rfl rfl ?_
  refine OL.nil ?_
  refine r_seq ?_
  refine r_seq ?_
  refine r_region ?_
  refine OL.q (Q1.move rfl) rfl rfl ?_
  refine OL.q (Q1.eqNil Tryz.underlying29 rfl rfl) rfl rfl ?_
  refine OL.nil ?_
  refine r_cond_f rfl ?_
  refine r_skip ?_
  refine r_seq ?_
  refine r_region ?_
  refine OL.q (Q1.move rfl) rfl rfl ?_
  refine OL.q (Q1.nilCheckP rfl) rfl rfl ?_
  refine OL.q (Q1.fieldAddr fl62_1 rfl) rfl rfl ?_
  have f1 := hS3.bk (i := 0) rfl
  refine OL.q (Q1.load1 ti3 rfl (fun _ e => e ▸ (f1.cell 1 _ rfl))) rfl rfl ?_
  refine OL.q (Q1.addI ((life + 1)) rfl rfl (by omega)) rfl rfl ?_
  refine OL.q (Q1.nilCheckP rfl) rfl rfl ?_
  refine OL.q (Q1.fieldAddr fl62_1 rfl) rfl rfl ?_
  refine OL.act rfl rfl (AW.store ti3 rfl rfl rfl rfl rfl f1 (Nat.le_of_ble_eq_true rfl) ?_)
  intro w1 hm1 hz1 hk1
  have hS4 : St (fun _ => False) F w0 w1 [bkR bd [.map (some bm), .int .i64 ((life + 1))] 62, mapR intV ptrV bm (D.map fun x => (x.shard, x.ptr)), boxR (D.map (imR 69 5))] := hS3.bkK (i := 0) rfl hm1 hk1
  refine OL.nil ?_
  refine r_seq ?_
  refine r_region ?_
  refine OL.q (Q1.move rfl) rfl rfl ?_
  refine OL.q (Q1.nilCheckP rfl) rfl rfl ?_
  refine OL.q (Q1.fieldAddr fl62_1 rfl) rfl rfl ?_
  have f2 := hS4.bk (i := 0) rfl
  refine OL.q (Q1.load1 ti3 rfl (fun _ e => e ▸ (f2.cell 1 _ rfl))) rfl rfl ?_
  refine OL.q (Q1.assign rfl) rfl rfl ?_
  refine OL.nil ?_
  refine r_ret1 Tryz.func13 rfl rfl ?_
  have hS5 : St (fun _ => False) F w0 w1 [boxR [bkR bd [.map (some bm), .int .i64 ((life + 1))] 62, mapR intV ptrV bm (D.map fun x => (x.shard, x.ptr)), boxR (D.map (imR 69 5))]] := St.close (L1 := []) hS4
  have hS6 : St (fun _ => False) F w0 w1 [dkK 62 69 5 bd ((life + 1)) K] := hS5.imp (i := 0) rfl (fun F_ h_ => dkK_cl hD h_)
  obtain ⟨hmF, F2r, hAr, hFr⟩ := hS6.fin
  exact Ret.mk ⟨rfl, hmF, F2r, hAr, hFr⟩
end Go.Proofs
namespace Go.Proofs
open Go.Ik Go.Ml
set_option maxRecDepth 20000 in
set_option maxHeartbeats 4000000 in
theorem cmpS_c {w0 : World}  (a : Str) (b : Str)  :
    Calls Tryz.prog 79 #[strV a, strV b] w0 (Ret fun rv w1 => rv = .int .i64 (Lib.compareBytes a b) ∧ Ext w0 w1 ∧ I64 (Lib.compareBytes a b)) := by
  have hE0 : Ext w0 w0 := Mod.refl _ _
  refine calls_enter Tryz.func79 rfl Tryz.ntmps79 rfl ?_
  refine r_seq ?_
  refine r_region ?_
  refine OL.q (Q1.assign rfl) rfl rfl ?_
  refine OL.nil ?_
  refine r_seq ?_
  refine r_region ?_
  refine OL.q (Q1.move rfl) rfl rfl ?_
  refine OL.q (Q1.move rfl) rfl rfl ?_
  refine OL.act rfl rfl (AW.callX Tryz.func94 (by kernel_rfl) (by kernel_rfl) (by kernel_rfl) (e := Extern.BytealgCompare.compare) (by kernel_rfl) rfl (Lib.run_compareString _ _ _) ?_)
  refine OL.q (Q1.assign rfl) rfl rfl ?_
  refine OL.nil ?_
  refine r_ret1 Tryz.func79 rfl rfl ?_
  exact Ret.mk ⟨(congrArg (Value.int .i64) (by rfl)), hE0, by exact Ml.cmp_I64 _ _⟩
set_option maxRecDepth 20000 in
set_option maxHeartbeats 4000000 in
theorem scmp_c {w0 : World}  (a : Str) (b : Str)  :
    Calls Tryz.prog 64 #[strV a, strV b] w0 (Ret fun rv w1 => rv = .int .i64 (Lib.compareBytes a b) ∧ Ext w0 w1 ∧ I64 (Lib.compareBytes a b)) := by
  have hE0 : Ext w0 w0 := Mod.refl _ _
  refine calls_enter Tryz.func64 rfl Tryz.ntmps64 rfl ?_
  refine r_seq ?_
  refine r_region ?_
  refine OL.q (Q1.assign rfl) rfl rfl ?_
  refine OL.nil ?_
  refine r_seq ?_
  refine r_region ?_
  refine OL.q (Q1.move rfl) rfl rfl ?_
  refine OL.q (Q1.move rfl) rfl rfl ?_
  refine OL.act rfl rfl (AW.callF cl79 rfl (cmpS_c (w0 := w0)  a b ) ?_)
  rintro _ w1 ⟨rfl, hm1, hp1⟩
  have hE1 := hE0.ext hm1
  have hs1 := hm1.size
  refine OL.q (Q1.assign rfl) rfl rfl ?_
  refine OL.nil ?_
  refine r_ret1 Tryz.func64 rfl rfl ?_
  exact Ret.mk ⟨(congrArg (Value.int .i64) (by rfl)), hE1, by exact Ml.cmp_I64 _ _⟩
set_option maxRecDepth 20000 in
set_option maxHeartbeats 4000000 in
theorem tcmp_c {w0 : World}  (a : Str) (b : Str)  :
    Calls Tryz.prog 50 #[strV a, strV b] w0 (Ret fun rv w1 => rv = .int .i64 (Lib.compareBytes a b) ∧ Ext w0 w1 ∧ I64 (Lib.compareBytes a b)) := by
  have hE0 : Ext w0 w0 := Mod.refl _ _
  refine calls_enter Tryz.func50 rfl Tryz.ntmps50 rfl ?_
  refine r_seq ?_
  refine r_region ?_
  refine OL.q (Q1.assign rfl) rfl rfl ?_
  refine OL.nil ?_
  refine r_seq ?_
  refine r_region ?_
  refine OL.q (Q1.move rfl) rfl rfl ?_
  refine OL.q (Q1.move rfl) rfl rfl ?_
  refine OL.act rfl rfl (AW.callF cl64 rfl (scmp_c (w0 := w0)  a b ) ?_)
  rintro _ w1 ⟨rfl, hm1, hp1⟩
  have hE1 := hE0.ext hm1
  have hs1 := hm1.size
  refine OL.q (Q1.assign rfl) rfl rfl ?_
  refine OL.nil ?_
  refine r_ret1 Tryz.func50 rfl rfl ?_
  exact Ret.mk ⟨(congrArg (Value.int .i64) (by rfl)), hE1, by exact Ml.cmp_I64 _ _⟩
set_option maxRecDepth 20000 in
set_option maxHeartbeats 4000000 in
theorem tlen_c {w0 : World}  (s : Str) (hs : s.length ≤ 9223372036854775807) :
    Calls Tryz.prog 51 #[strV s] w0 (Ret fun rv w1 => rv = .int .i64 (Ml.lenT s) ∧ Ext w0 w1 ∧ I64 (Ml.lenT s)) := by
  have hE0 : Ext w0 w0 := Mod.refl _ _
  refine calls_enter Tryz.func51 rfl Tryz.ntmps51 rfl ?_
  refine r_seq ?_
  refine r_region ?_
  refine OL.q (Q1.assign rfl) rfl rfl ?_
  refine OL.nil ?_
  refine r_seq ?_
  refine r_region ?_
  refine OL.q (Q1.assign rfl) rfl rfl ?_
  refine OL.nil ?_
  refine r_seq ?_
  refine r_seq ?_
  refine r_region ?_
  refine OL.q (Q1.move rfl) rfl rfl ?_
  refine OL.act rfl rfl (AW.rangeS Tryz.underlying9 rfl ?_)
  intro w1 b1 hm1 hb1 hz1 hk1
  have hE1 := hE0.ext hm1
  have hs1 := hm1.size
  refine OL.nil ?_
  refine r_block ?_
  refine r_loop (I := fun m E W => ∃ (k : Nat) (p : Nat), E = [(3, .int .i64 (((k : Nat) : Int))), (7, ptr b1 0)] ∧ m = s.length - p ∧ Ext w0 W ∧ w1.heap.size ≤ W.heap.size ∧ It W b1 s p ∧ (Ml.LenInv s p k)) ?_ ?_
  · refine ⟨_, _, ⟨(0 : Nat), (0 : Nat), rfl, rfl, hE1, Nat.le_refl _, hk1, (by exact Ml.LenInv.start s)⟩, ⟨rfl, rfl, trivial⟩⟩
  · rintro _ _ w2 ⟨k, p, rfl, rfl, hE2, hs2, f1, hi⟩ ih1
    refine r_seq ?_
    refine r_region ?_
    refine OL.act rfl rfl (AW.nextS rfl f1 ?_ ?_)
    · intro he1
      refine OL.q (Q1.extract rfl rfl) rfl rfl ?_
      refine OL.nil ?_
      refine r_seq ?_
      refine r_cond_f rfl ?_
      refine r_exit rfl ?_
      refine r_seq ?_
      refine r_region ?_
      refine OL.q (Q1.move rfl) rfl rfl ?_
      refine OL.q (Q1.assign rfl) rfl rfl ?_
      refine OL.nil ?_
      refine r_ret1 Tryz.func51 rfl rfl ?_
      exact Ret.mk ⟨(congrArg (Value.int .i64) (by first | exact hi.fin (by assumption) | (exfalso; omega))), hE2, by exact Ml.lenT_I64 hs⟩
    · intro w3 he1 hm2 hz2 hk2
      have hE3 := Ext.thenG hE2 hm2 (by omega)
      have hs3 := hm2.size
      have hk := hi.lt he1
      refine OL.q (Q1.extract rfl rfl) rfl rfl ?_
      refine OL.nil ?_
      refine r_seq ?_
      refine r_cond_t rfl ?_
      refine r_skip ?_
      refine r_block ?_
      refine r_seq ?_
      refine r_region ?_
      refine OL.q (Q1.extract rfl rfl) rfl rfl ?_
      refine OL.q (Q1.assign rfl) rfl rfl ?_
      refine OL.nil ?_
      refine r_seq ?_
      refine r_seq ?_
      refine r_region ?_
      refine OL.q (Q1.move rfl) rfl rfl ?_
      refine OL.qb (Q1.eq rfl rfl) rfl rfl ?_
      intro b2 hb2
      refine OL.nil ?_
      cases b2 with
      | true =>
        replace hb2 := eq_of_beq hb2.symm
        refine r_cond_t rfl ?_
        refine r_seq ?_
        refine r_region ?_
        refine OL.q (Q1.assign rfl) rfl rfl ?_
        refine OL.nil ?_
        refine r_ret1 Tryz.func51 rfl rfl ?_
        exact Ret.mk ⟨(congrArg (Value.int .i64) (by first | exact hi.odd (by assumption) (by assumption) | (exfalso; omega))), hE3, by exact Ml.lenT_I64 hs⟩
      | false =>
        replace hb2 := ne_of_beq_false hb2.symm
        refine r_cond_f rfl ?_
        refine r_skip ?_
        refine r_region ?_
        refine OL.q (Q1.move rfl) rfl rfl ?_
        refine OL.q (Q1.addI (((k + 1 : Nat) : Int)) rfl rfl (by omega)) rfl rfl ?_
        refine OL.q (Q1.assign rfl) rfl rfl ?_
        refine OL.nil ?_
        refine r_inBlock ?_
        exact (ih1 _ _ _ ⟨(k + 1 : Nat), ((p + (dec (s.drop p)).2) : Nat), rfl, rfl, hE3, (by omega), hk2, (by first | exact hi.next (by assumption) (by assumption) | (exfalso; omega))⟩ (by have := Ml.dec_lt (by assumption : List.drop p s ≠ []); omega)).sub ⟨rfl, rfl, trivial⟩
set_option maxRecDepth 20000 in
set_option maxHeartbeats 4000000 in
theorem tword_c {w0 : World}  (s : Str) (hs : s.length ≤ 9223372036854775807) :
    Calls Tryz.prog 49 #[strV s] w0 (Ret fun rv w1 => (∃ rb : Bool, rb = (Ml.word s) ∧ rv = .bool rb) ∧ Ext w0 w1) := by
  have hE0 : Ext w0 w0 := Mod.refl _ _
  refine calls_enter Tryz.func49 rfl Tryz.ntmps49 rfl ?_
  refine r_seq ?_
  refine r_region ?_
  refine OL.q (Q1.assign rfl) rfl rfl ?_
  refine OL.nil ?_
  refine r_seq ?_
  refine r_region ?_
  refine OL.q (Q1.move rfl) rfl rfl ?_
  refine OL.act rfl rfl (AW.callF cl51 rfl (tlen_c (w0 := w0)  s (by first | assumption | omega)) ?_)
  rintro _ w1 ⟨rfl, hm1, hp1⟩
  have hE1 := hE0.ext hm1
  have hs1 := hm1.size
  refine OL.q (Q1.assign rfl) rfl rfl ?_
  refine OL.nil ?_
  refine r_seq ?_
  refine r_region ?_
  refine OL.q (Q1.move rfl) rfl rfl ?_
  refine OL.qb (Q1.ge rfl rfl) rfl rfl ?_
  intro b1 hb1
  refine OL.q (Q1.move rfl) rfl rfl ?_
  cases b1 with
  | true =>
    replace hb1 := of_decide_eq_true hb1.symm
    refine OL.q (Q1.move rfl) rfl rfl ?_
    refine OL.qb (Q1.le rfl rfl) rfl rfl ?_
    intro b2 hb2
    refine OL.q (Q1.pick_t rfl rfl) rfl rfl ?_
    refine OL.q (Q1.assign rfl) rfl rfl ?_
    refine OL.nil ?_
    refine r_ret1 Tryz.func49 rfl rfl ?_
    exact Ret.mk ⟨⟨_, (by first | simp only [Ml.word, *]; simp | (exfalso; omega)), rfl⟩, hE1⟩
  | false =>
    replace hb1 := of_decide_eq_false hb1.symm
    refine OL.sk rfl rfl ?_
    refine OL.sk rfl rfl ?_
    refine OL.q (Q1.pick_f rfl rfl) rfl rfl ?_
    refine OL.q (Q1.assign rfl) rfl rfl ?_
    refine OL.nil ?_
    refine r_ret1 Tryz.func49 rfl rfl ?_
    exact Ret.mk ⟨⟨_, (by first | simp only [Ml.word, *]; simp | (exfalso; omega)), rfl⟩, hE1⟩
set_option maxRecDepth 20000 in
set_option maxHeartbeats 4000000 in
theorem lgood_c {w0 : World}  {v_words : Value} {words : List Str} (h_words : Sl encS w0 (Iv 0 w0.heap.size) v_words words) (hok : Ml.LOk words) :
    Calls Tryz.prog 34 #[v_words] w0 (Ret fun rv w1 => rv = .int .i64 (Ml.goodL words) ∧ Ext w0 w1) := by
  have hE0 : Ext w0 w0 := Mod.refl _ _
  have hle1 := h_words.le
  refine calls_enter Tryz.func34 rfl Tryz.ntmps34 rfl ?_
  refine r_seq ?_
  refine r_region ?_
  refine OL.q (Q1.assign rfl) rfl rfl ?_
  refine OL.nil ?_
  refine r_seq ?_
  refine r_seq ?_
  refine r_region ?_
  refine OL.q (Q1.move rfl) rfl rfl ?_
  refine OL.q (Q1.lenSl Tryz.underlying22 (h_words) rfl) rfl rfl ?_
  refine OL.qb (Q1.gt rfl rfl) rfl rfl ?_
  intro b1 hb1
  refine OL.nil ?_
  cases b1 with
  | true =>
    replace hb1 := of_decide_eq_true hb1.symm
    refine r_cond_t rfl ?_
    refine r_seq ?_
    refine r_region ?_
    refine OL.q (Q1.assign rfl) rfl rfl ?_
    refine OL.nil ?_
    refine r_ret1 Tryz.func34 rfl rfl ?_
    exact Ret.mk ⟨(congrArg (Value.int .i64) (by first | exact Ml.goodL_full (by omega) | exact Ml.goodL_word (by omega) hx1 (by assumption) | exact Ml.goodL_sort' (by omega) ha hj hx1 hx2 (by omega) | exact Ml.goodL_ok (by omega) ha hr (by omega) | (exfalso; omega))), hE0⟩
  | false =>
    replace hb1 := of_decide_eq_false hb1.symm
    refine r_cond_f rfl ?_
    refine r_skip ?_
    refine r_seq ?_
    refine r_seq ?_
    refine r_region ?_
    refine OL.q (Q1.move rfl) rfl rfl ?_
    refine OL.q (Q1.lenSl Tryz.underlying22 (h_words) rfl) rfl rfl ?_
    refine OL.q (Q1.move rfl) rfl rfl ?_
    refine OL.nil ?_
    refine r_block ?_
    refine r_loop (I := fun m E W => ∃ (k : Nat), E = [(0, v_words), (9, v_words), (10, .int .i64 (((words.length : Nat) : Int))), (11, .int .i64 (((k : Nat) : Int)))] ∧ m = words.length - k ∧ Ext w0 W ∧ w0.heap.size ≤ W.heap.size ∧ Sl encS W (Iv 0 w0.heap.size) v_words words ∧ ((words.take k).all Ml.word = true)) ?_ ?_
    · refine ⟨_, _, ⟨(0 : Nat), rfl, rfl, hE0, Nat.le_refl _, h_words, (by rfl)⟩, ⟨rfl, rfl, rfl, rfl, trivial⟩⟩
    · rintro _ _ w1 ⟨k, rfl, rfl, hE1, hs1, f1, hi⟩ ih1
      refine r_seq ?_
      refine r_region ?_
      refine OL.qb (Q1.lt rfl rfl) rfl rfl ?_
      intro b2 hb2
      refine OL.nil ?_
      refine r_seq ?_
      cases b2 with
      | true =>
        replace hb2 := of_decide_eq_true hb2.symm
        refine r_cond_t rfl ?_
        refine r_skip ?_
        refine r_seq ?_
        refine r_block ?_
        refine r_seq ?_
        refine r_region ?_
        obtain ⟨x1, b3, o1, hx1, hr1, hl1, hu1, hw1⟩ := Sl.at' (P := Tryz.prog) f1 Tryz.underlying22 ti9 encS_len (k := .i64) (n := ((k : Nat) : Int)) (k) (by omega) (by first | assumption | omega)
        refine OL.q (Q1.indexAddr rfl rfl hr1) rfl rfl ?_
        refine OL.q (Q1.load1 ti9 rfl (fun _ e => e ▸ hw1)) rfl rfl ?_
        refine OL.q (Q1.assign rfl) rfl rfl ?_
        refine OL.nil ?_
        refine r_seq ?_
        refine r_region ?_
        refine OL.q (Q1.move rfl) rfl rfl ?_
        refine OL.act rfl rfl (AW.callF cl49 rfl (tword_c (w0 := w1)  x1 (by exact hok.at (by assumption))) ?_)
        rintro _ w2 ⟨⟨b4, hb3, rfl⟩, hm1⟩
        have f2 := f1.ext hm1
        have hE2 := hE1.ext hm1
        have hs2 := hm1.size
        cases b4 with
        | true =>
          replace hb3 := hb3.symm
          refine OL.q (Q1.not rfl) rfl rfl ?_
          refine OL.nil ?_
          refine r_cond_f rfl ?_
          refine r_skip ?_
          refine r_inBlock ?_
          refine r_region ?_
          refine OL.q (Q1.addI (((k + 1 : Nat) : Int)) rfl rfl (by omega)) rfl rfl ?_
          refine OL.q (Q1.move rfl) rfl rfl ?_
          refine OL.nil ?_
          exact (ih1 _ _ _ ⟨(k + 1 : Nat), rfl, rfl, hE2, (by omega), f2, (by first | exact Ml.all_take_succ hi (by assumption) (by assumption) | (exfalso; omega))⟩ (by omega)).sub ⟨rfl, rfl, rfl, rfl, trivial⟩
        | false =>
          replace hb3 := hb3.symm
          refine OL.q (Q1.not rfl) rfl rfl ?_
          refine OL.nil ?_
          refine r_cond_t rfl ?_
          refine r_seq ?_
          refine r_region ?_
          refine OL.q (Q1.assign rfl) rfl rfl ?_
          refine OL.nil ?_
          refine r_ret1 Tryz.func34 rfl rfl ?_
          exact Ret.mk ⟨(congrArg (Value.int .i64) (by first | exact Ml.goodL_full (by omega) | exact Ml.goodL_word (by omega) hx1 (by assumption) | exact Ml.goodL_sort' (by omega) ha hj hx1 hx2 (by omega) | exact Ml.goodL_ok (by omega) ha hr (by omega) | (exfalso; omega))), hE2⟩
      | false =>
        replace hb2 := of_decide_eq_false hb2.symm
        refine r_cond_f rfl ?_
        refine r_exit rfl ?_
        refine r_seq ?_
        refine r_seq ?_
        refine r_region ?_
        refine OL.q (Q1.assign rfl) rfl rfl ?_
        refine OL.nil ?_
        refine r_block ?_
        refine r_loop (I := fun m E W => ∃ (j : Nat), E = [(0, v_words), (5, .int .i64 (((j : Nat) : Int)))] ∧ m = words.length - j ∧ Ext w0 W ∧ w1.heap.size ≤ W.heap.size ∧ Sl encS W (Iv 0 w0.heap.size) v_words words ∧ (1 ≤ j) ∧ (Ml.rising (words.take j) = true)) ?_ ?_
        · refine ⟨_, _, ⟨(1 : Nat), rfl, rfl, hE1, Nat.le_refl _, f1, (by omega), (by exact Ml.rising_one _)⟩, ⟨rfl, rfl, trivial⟩⟩
        · rintro _ _ w2 ⟨j, rfl, rfl, hE2, hs2, f2, hj, hr⟩ ih2
          have ha := Ml.all_of_take hi (by omega)
          refine r_seq ?_
          refine r_seq ?_
          refine r_region ?_
          refine OL.q (Q1.move rfl) rfl rfl ?_
          refine OL.q (Q1.move rfl) rfl rfl ?_
          refine OL.q (Q1.lenSl Tryz.underlying22 (f2) rfl) rfl rfl ?_
          refine OL.qb (Q1.lt rfl rfl) rfl rfl ?_
          intro b3 hb3
          refine OL.nil ?_
          cases b3 with
          | true =>
            replace hb3 := of_decide_eq_true hb3.symm
            refine r_cond_t rfl ?_
            refine r_skip ?_
            refine r_seq ?_
            refine r_block ?_
            refine r_seq ?_
            refine r_draw1 (fun i => Nat.beq i 9) 11 (fun w' => Mod (Mg 0) w2 w') mixed (by kernel_rfl) ?_
            intro w3 hm1
            have f3 := f2.ext hm1
            have hE3 := hE2.ext hm1
            have hs3 := hm1.size
            have hCw3 : Mod (Mg 0) w2 w3 := Mod.ofExt hm1
            refine ⟨hCw3, ?_⟩
            rw [show List.range' 0 (Array.size _) = [0, 1, 2, 3, 4, 5, 6, 7, 8, 9, 10] from rfl]
            refine OD.q rfl rfl (Q1.move rfl) rfl rfl ?_
            refine OD.q rfl rfl (Q1.move rfl) rfl rfl ?_
            refine OD.q rfl rfl (Q1.subI ((((j : Nat) : Int) - 1)) rfl rfl (by omega)) rfl rfl ?_
            obtain ⟨x1, b4, o1, hx1, hr1, hl1, hu1, hw1⟩ := Sl.at' (P := Tryz.prog) f2 Tryz.underlying22 ti9 encS_len (k := .i64) (n := (((j : Nat) : Int) - 1)) ((j - 1)) (by omega) (by first | assumption | omega)
            refine OD.q rfl rfl (Q1.indexAddr rfl rfl hr1) rfl rfl ?_
            refine OD.q rfl rfl (Q1.load1 ti9 rfl (fun _ hc => hw1.keepG hc (by omega))) rfl rfl ?_
            refine OD.q rfl rfl (Q1.move rfl) rfl rfl ?_
            refine OD.q rfl rfl (Q1.move rfl) rfl rfl ?_
            obtain ⟨x2, b5, o2, hx2, hr2, hl2, hu2, hw2⟩ := Sl.at' (P := Tryz.prog) f2 Tryz.underlying22 ti9 encS_len (k := .i64) (n := ((j : Nat) : Int)) (j) (by omega) (by first | assumption | omega)
            refine OD.q rfl rfl (Q1.indexAddr rfl rfl hr2) rfl rfl ?_
            refine OD.q rfl rfl (Q1.load1 ti9 rfl (fun _ hc => hw2.keepG hc (by omega))) rfl rfl ?_
            refine OD.act rfl rfl rfl rfl (AW.callF cl50 rfl (tcmp_c (w0 := w3)  x1 x2 ) ?_)
            rintro _ w4 ⟨rfl, hm2, hp1⟩
            have f4 := f3.ext hm2
            have hE4 := hE3.ext hm2
            have hs4 := hm2.size
            have hCw4 := hCw3.ext hm2
            refine ⟨.inr hCw4, ?_⟩
            refine OD.qb rfl rfl (Q1.ge rfl rfl) rfl rfl ?_
            intro b6 hb4
            refine OD.nil ?_
            cases b6 with
            | true =>
              replace hb4 := of_decide_eq_true hb4.symm
              refine r_cond_t rfl ?_
              refine r_seq ?_
              refine r_region ?_
              refine OL.q (Q1.assign rfl) rfl rfl ?_
              refine OL.nil ?_
              refine r_ret1 Tryz.func34 rfl rfl ?_
              exact Ret.mk ⟨(congrArg (Value.int .i64) (by first | exact Ml.goodL_full (by omega) | exact Ml.goodL_word (by omega) hx1 (by assumption) | exact Ml.goodL_sort' (by omega) ha hj hx1 hx2 (by omega) | exact Ml.goodL_ok (by omega) ha hr (by omega) | (exfalso; omega))), hE4⟩
            | false =>
              replace hb4 := of_decide_eq_false hb4.symm
              refine r_cond_f rfl ?_
              refine r_skip ?_
              refine r_inBlock ?_
              refine r_region ?_
              refine OL.q (Q1.move rfl) rfl rfl ?_
              refine OL.q (Q1.addI (((j + 1 : Nat) : Int)) rfl rfl (by omega)) rfl rfl ?_
              refine OL.q (Q1.assign rfl) rfl rfl ?_
              refine OL.nil ?_
              exact (ih2 _ _ _ ⟨(j + 1 : Nat), rfl, rfl, hE4, (by omega), f4, (by first | omega | (exfalso; omega)), (by first | exact Ml.rising_step hr hj (by assumption) (by assumption) (by omega) | (exfalso; omega))⟩ (by omega)).sub ⟨rfl, rfl, trivial⟩
          | false =>
            replace hb3 := of_decide_eq_false hb3.symm
            refine r_cond_f rfl ?_
            refine r_exit rfl ?_
            refine r_seq ?_
            refine r_region ?_
            refine OL.q (Q1.assign rfl) rfl rfl ?_
            refine OL.nil ?_
            refine r_ret1 Tryz.func34 rfl rfl ?_
            exact Ret.mk ⟨(congrArg (Value.int .i64) (by first | exact Ml.goodL_full (by omega) | exact Ml.goodL_word (by omega) hx1 (by assumption) | exact Ml.goodL_sort' (by omega) ha hj hx1 hx2 (by omega) | exact Ml.goodL_ok (by omega) ha hr (by omega) | (exfalso; omega))), hE2⟩
end Go.Proofs
namespace Go.Proofs
open Go.Ik Go.Ml
set_option maxRecDepth 20000 in
set_option maxHeartbeats 4000000 in
theorem isnan_c {w0 : World}  (x : Int)  :
    Calls Tryz.prog 95 #[.int .i64 x] w0 (Ret fun rv w1 => (∃ rb : Bool, rb = false ∧ rv = .bool rb) ∧ Ext w0 w1) := by
  have hE0 : Ext w0 w0 := Mod.refl _ _
  refine calls_enter Tryz.func95 rfl Tryz.ntmps95 rfl ?_
  refine r_seq ?_
  refine r_region ?_
  refine OL.q (Q1.assign rfl) rfl rfl ?_
  refine OL.nil ?_
  refine r_seq ?_
  refine r_region ?_
  refine OL.q (Q1.move rfl) rfl rfl ?_
  refine OL.q (Q1.move rfl) rfl rfl ?_
  refine OL.qb (Q1.ne rfl rfl) rfl rfl ?_
  intro b1 hb1
  refine OL.q (Q1.assign rfl) rfl rfl ?_
  refine OL.nil ?_
  refine r_ret1 Tryz.func95 rfl rfl ?_
  exact Ret.mk ⟨⟨_, (by first | simpa using hb1 | (exfalso; omega)), rfl⟩, hE0⟩
set_option maxRecDepth 20000 in
set_option maxHeartbeats 4000000 in
theorem cmpc_c {w0 : World}  (x : Int) (y : Int)  :
    Calls Tryz.prog 81 #[.int .i64 x, .int .i64 y] w0 (Ret fun rv w1 => rv = .int .i64 (Ml.cmpI x y) ∧ Ext w0 w1) := by
  have hE0 : Ext w0 w0 := Mod.refl _ _
  refine calls_enter Tryz.func81 rfl Tryz.ntmps81 rfl ?_
  refine r_seq ?_
  refine r_region ?_
  refine OL.q (Q1.assign rfl) rfl rfl ?_
  refine OL.nil ?_
  refine r_seq ?_
  refine r_region ?_
  refine OL.q (Q1.move rfl) rfl rfl ?_
  refine OL.act rfl rfl (AW.callF cl95 rfl (isnan_c (w0 := w0)  (x) ) ?_)
  rintro _ w1 ⟨⟨_, rfl, rfl⟩, hm1⟩
  have hE1 := hE0.ext hm1
  have hs1 := hm1.size
  refine OL.q (Q1.assign rfl) rfl rfl ?_
  refine OL.nil ?_
  refine r_seq ?_
  refine r_region ?_
  refine OL.q (Q1.move rfl) rfl rfl ?_
  refine OL.act rfl rfl (AW.callF cl95 rfl (isnan_c (w0 := w1)  (y) ) ?_)
  rintro _ w2 ⟨⟨_, rfl, rfl⟩, hm2⟩
  have hE2 := hE1.ext hm2
  have hs2 := hm2.size
  refine OL.q (Q1.assign rfl) rfl rfl ?_
  refine OL.nil ?_
  refine r_seq ?_
  refine r_seq ?_
  refine r_region ?_
  refine OL.q (Q1.move rfl) rfl rfl ?_
  refine OL.nil ?_
  refine r_cond_f rfl ?_
  refine r_skip ?_
  refine r_seq ?_
  refine r_seq ?_
  refine r_region ?_
  refine OL.q (Q1.move rfl) rfl rfl ?_
  refine OL.nil ?_
  refine r_cond_f rfl ?_
  refine r_skip ?_
  refine r_seq ?_
  refine r_seq ?_
  refine r_region ?_
  refine OL.q (Q1.move rfl) rfl rfl ?_
  refine OL.q (Q1.move rfl) rfl rfl ?_
  refine OL.qb (Q1.lt rfl rfl) rfl rfl ?_
  intro b1 hb1
  refine OL.nil ?_
  cases b1 with
  | true =>
    replace hb1 := of_decide_eq_true hb1.symm
    refine r_cond_t rfl ?_
    refine r_seq ?_
    refine r_region ?_
    refine OL.q (Q1.assign rfl) rfl rfl ?_
    refine OL.nil ?_
    refine r_ret1 Tryz.func81 rfl rfl ?_
    exact Ret.mk ⟨(congrArg (Value.int .i64) (by first | (unfold Ml.cmpI; rw [if_pos (by omega)]) | (unfold Ml.cmpI; rw [if_neg (by omega), if_pos (by omega)]) | (unfold Ml.cmpI; rw [if_neg (by omega), if_neg (by omega)]) | (exfalso; omega))), hE2⟩
  | false =>
    replace hb1 := of_decide_eq_false hb1.symm
    refine r_cond_f rfl ?_
    refine r_skip ?_
    refine r_seq ?_
    refine r_seq ?_
    refine r_region ?_
    refine OL.q (Q1.move rfl) rfl rfl ?_
    refine OL.q (Q1.move rfl) rfl rfl ?_
    refine OL.qb (Q1.gt rfl rfl) rfl rfl ?_
    intro b2 hb2
    refine OL.nil ?_
    cases b2 with
    | true =>
      replace hb2 := of_decide_eq_true hb2.symm
      refine r_cond_t rfl ?_
      refine r_seq ?_
      refine r_region ?_
      refine OL.q (Q1.assign rfl) rfl rfl ?_
      refine OL.nil ?_
      refine r_ret1 Tryz.func81 rfl rfl ?_
      exact Ret.mk ⟨(congrArg (Value.int .i64) (by first | (unfold Ml.cmpI; rw [if_pos (by omega)]) | (unfold Ml.cmpI; rw [if_neg (by omega), if_pos (by omega)]) | (unfold Ml.cmpI; rw [if_neg (by omega), if_neg (by omega)]) | (exfalso; omega))), hE2⟩
    | false =>
      replace hb2 := of_decide_eq_false hb2.symm
      refine r_cond_f rfl ?_
      refine r_skip ?_
      refine r_seq ?_
      refine r_region ?_
      refine OL.q (Q1.assign rfl) rfl rfl ?_
      refine OL.nil ?_
      refine r_ret1 Tryz.func81 rfl rfl ?_
      exact Ret.mk ⟨(congrArg (Value.int .i64) (by first | (unfold Ml.cmpI; rw [if_pos (by omega)]) | (unfold Ml.cmpI; rw [if_neg (by omega), if_pos (by omega)]) | (unfold Ml.cmpI; rw [if_neg (by omega), if_neg (by omega)]) | (exfalso; omega))), hE2⟩
set_option maxRecDepth 20000 in
set_option maxHeartbeats 4000000 in
theorem cmpor_c {w0 : World}  {v_vals : Value} {vals : List Int} (h_vals : Sl Ik.encI w0 (Iv 0 w0.heap.size) v_vals vals) :
    Calls Tryz.prog 80 #[v_vals] w0 (Ret fun rv w1 => rv = .int .i64 (Ml.orI vals) ∧ Ext w0 w1) := by
  have hE0 : Ext w0 w0 := Mod.refl _ _
  have hle1 := h_vals.le
  refine calls_enter Tryz.func80 rfl Tryz.ntmps80 rfl ?_
  refine r_seq ?_
  refine r_region ?_
  refine OL.q (Q1.assign rfl) rfl rfl ?_
  refine OL.nil ?_
  refine r_seq ?_
  refine r_region ?_
  refine OL.q (Q1.assign rfl) rfl rfl ?_
  refine OL.nil ?_
  refine r_seq ?_
  refine r_seq ?_
  refine r_region ?_
  refine OL.q (Q1.move rfl) rfl rfl ?_
  refine OL.q (Q1.lenSl Tryz.underlying63 (h_vals) rfl) rfl rfl ?_
  refine OL.q (Q1.move rfl) rfl rfl ?_
  refine OL.nil ?_
  refine r_block ?_
  refine r_loop (I := fun m E W => ∃ (k : Nat), E = [(3, .int .i64 0), (6, v_vals), (7, .int .i64 (((vals.length : Nat) : Int))), (8, .int .i64 (((k : Nat) : Int)))] ∧ m = vals.length - k ∧ Ext w0 W ∧ w0.heap.size ≤ W.heap.size ∧ Sl Ik.encI W (Iv 0 w0.heap.size) v_vals vals ∧ (Ml.orI vals = Ml.orI (vals.drop k))) ?_ ?_
  · refine ⟨_, _, ⟨(0 : Nat), rfl, rfl, hE0, Nat.le_refl _, h_vals, (by rfl)⟩, ⟨rfl, rfl, rfl, rfl, trivial⟩⟩
  · rintro _ _ w1 ⟨k, rfl, rfl, hE1, hs1, f1, hi⟩ ih1
    refine r_seq ?_
    refine r_region ?_
    refine OL.qb (Q1.lt rfl rfl) rfl rfl ?_
    intro b1 hb1
    refine OL.nil ?_
    refine r_seq ?_
    cases b1 with
    | true =>
      replace hb1 := of_decide_eq_true hb1.symm
      refine r_cond_t rfl ?_
      refine r_skip ?_
      refine r_seq ?_
      refine r_block ?_
      refine r_seq ?_
      refine r_region ?_
      obtain ⟨x1, b2, o1, hx1, hr1, hl1, hu1, hw1⟩ := Sl.at' (P := Tryz.prog) f1 Tryz.underlying63 ti3 Ik.encI_len (k := .i64) (n := ((k : Nat) : Int)) (k) (by omega) (by first | assumption | omega)
      refine OL.q (Q1.indexAddr rfl rfl hr1) rfl rfl ?_
      refine OL.q (Q1.load1 ti3 rfl (fun _ e => e ▸ hw1)) rfl rfl ?_
      refine OL.q (Q1.assign rfl) rfl rfl ?_
      refine OL.nil ?_
      refine r_seq ?_
      refine r_region ?_
      refine OL.q (Q1.move rfl) rfl rfl ?_
      refine OL.q (Q1.move rfl) rfl rfl ?_
      refine OL.qb (Q1.ne rfl rfl) rfl rfl ?_
      intro b3 hb2
      refine OL.nil ?_
      cases b3 with
      | true =>
        replace hb2 := bne_iff_ne.1 hb2.symm
        refine r_cond_t rfl ?_
        refine r_seq ?_
        refine r_region ?_
        refine OL.q (Q1.move rfl) rfl rfl ?_
        refine OL.q (Q1.assign rfl) rfl rfl ?_
        refine OL.nil ?_
        refine r_ret1 Tryz.func80 rfl rfl ?_
        exact Ret.mk ⟨(congrArg (Value.int .i64) (by first | exact Ml.orI_found hi hx1 hb2 | exact Ml.orI_end hi (by omega) | (exfalso; omega))), hE1⟩
      | false =>
        replace hb2 := bne_eq_false_iff_eq.1 hb2.symm
        refine r_cond_f rfl ?_
        refine r_skip ?_
        refine r_inBlock ?_
        refine r_region ?_
        refine OL.q (Q1.addI (((k + 1 : Nat) : Int)) rfl rfl (by omega)) rfl rfl ?_
        refine OL.q (Q1.move rfl) rfl rfl ?_
        refine OL.nil ?_
        exact (ih1 _ _ _ ⟨(k + 1 : Nat), rfl, rfl, hE1, (by omega), f1, (by first | exact Ml.orI_drop hi hx1 (by simpa using hb2) | (exfalso; omega))⟩ (by omega)).sub ⟨rfl, rfl, rfl, rfl, trivial⟩
    | false =>
      replace hb1 := of_decide_eq_false hb1.symm
      refine r_cond_f rfl ?_
      refine r_exit rfl ?_
      refine r_seq ?_
      refine r_region ?_
      refine OL.q (Q1.move rfl) rfl rfl ?_
      refine OL.q (Q1.assign rfl) rfl rfl ?_
      refine OL.nil ?_
      refine r_ret1 Tryz.func80 rfl rfl ?_
      exact Ret.mk ⟨(congrArg (Value.int .i64) (by first | exact Ml.orI_found hi hx1 hb2 | exact Ml.orI_end hi (by omega) | (exfalso; omega))), hE1⟩
set_option maxRecDepth 20000 in
set_option maxHeartbeats 4000000 in
theorem kcmp_c {w0 : World}  {a : Key} {b : Key}  :
    Calls Tryz.prog 65 #[.agg #[.int .i64 a.len, strV a.text], .agg #[.int .i64 b.len, strV b.text]] w0 (Ret fun rv w1 => rv = .int .i64 (Ml.keyCmp a b) ∧ Ext w0 w1) := by
  have hE0 : Ext w0 w0 := Mod.refl _ _
  refine calls_enter Tryz.func65 rfl Tryz.ntmps65 rfl ?_
  refine r_seq ?_
  refine r_region ?_
  refine OL.act rfl rfl (AW.box [.int .i64 a.len, strV a.text] rfl rfl ?_)
  intro w1 b1 hm1 hb1 hz1 hk1
  have hE1 := hE0.ext hm1
  have hs1 := hm1.size
  refine OL.act rfl rfl (AW.box [.int .i64 b.len, strV b.text] rfl rfl ?_)
  intro w2 b2 hm2 hb2 hz2 hk2
  have f1 := hk1.ext hm2
  have hE2 := hE1.ext hm2
  have hs2 := hm2.size
  refine OL.q (Q1.assign rfl) rfl rfl ?_
  refine OL.nil ?_
  refine r_seq ?_
  refine r_draw1 (fun i => Nat.beq i 4 || Nat.beq i 9 || Nat.beq i 10 || Nat.beq i 11) 13 (fun w' => Mod (Mg 0) w2 w') mixed (by kernel_rfl) ?_
  intro w3 hm3
  have f2 := f1.ext hm3
  have f3 := hk2.ext hm3
  have hE3 := hE2.ext hm3
  have hs3 := hm3.size
  have hCw3 : Mod (Mg 0) w2 w3 := Mod.ofExt hm3
  refine ⟨hCw3, ?_⟩
  rw [show List.range' 0 (Array.size _) = [0, 1, 2, 3, 4, 5, 6, 7, 8, 9, 10, 11, 12] from rfl]
  refine OD.q rfl rfl (Q1.fieldAddr fl57_0 rfl) rfl rfl ?_
  refine OD.q rfl rfl (Q1.load1 ti3 rfl (fun _ hc => (f1.cell 0 _ rfl).keepG hc (by omega))) rfl rfl ?_
  refine OD.q rfl rfl (Q1.fieldAddr fl57_0 rfl) rfl rfl ?_
  refine OD.q rfl rfl (Q1.load1 ti3 rfl (fun _ hc => (hk2.cell 0 _ rfl).keepG hc (by omega))) rfl rfl ?_
  refine OD.act rfl rfl rfl rfl (AW.callF cl81 rfl (cmpc_c (w0 := w3)  (a.len) (b.len) ) ?_)
  rintro _ w4 ⟨rfl, hm4⟩
  have f4 := f2.ext hm4
  have f5 := f3.ext hm4
  have hE4 := hE3.ext hm4
  have hs4 := hm4.size
  have hCw4 := hCw3.ext hm4
  refine ⟨.inr hCw4, ?_⟩
  refine OD.q rfl rfl (Q1.fieldAddr fl57_1 rfl) rfl rfl ?_
  refine OD.q rfl rfl (Q1.load1 ti9 rfl (fun _ hc => (f1.cell 1 _ rfl).keepG hc (by omega))) rfl rfl ?_
  refine OD.q rfl rfl (Q1.fieldAddr fl57_1 rfl) rfl rfl ?_
  refine OD.q rfl rfl (Q1.load1 ti9 rfl (fun _ hc => (hk2.cell 1 _ rfl).keepG hc (by omega))) rfl rfl ?_
  refine OD.act rfl rfl rfl rfl (AW.callF cl50 rfl (tcmp_c (w0 := w4)  a.text b.text ) ?_)
  rintro _ w5 ⟨rfl, hm5, hp1⟩
  have f6 := f4.ext hm5
  have f7 := f5.ext hm5
  have hE5 := hE4.ext hm5
  have hs5 := hm5.size
  have hCw5 := hCw4.ext hm5
  refine ⟨.inr hCw5, ?_⟩
  refine OD.act rfl rfl rfl rfl (AW.buildSlice [(.int .i64 ((Ml.cmpI a.len b.len)) : Value), (.int .i64 ((Lib.compareBytes a.text b.text)) : Value)] Tryz.underlying63 ti3 rfl rfl rfl (by decide) ?_)
  intro w6 b3 hm6 hb3 hz3 hk3
  have f8 := f6.ext hm6
  have f9 := f7.ext hm6
  have hE6 := hE5.ext hm6
  have hs6 := hm6.size
  have hCw6 := hCw5.ext hm6
  refine ⟨.inr hCw6, ?_⟩
  have hl1 := Sl.of_blk (enc := Ik.encI) hk3 ([(Ml.cmpI a.len b.len), (Lib.compareBytes a.text b.text)] : List Int) 2 rfl rfl (by unfold maxLen; omega)
  refine OD.act rfl rfl rfl rfl (AW.callF cl80 rfl (cmpor_c (w0 := w6) (vals := [(Ml.cmpI a.len b.len), (Lib.compareBytes a.text b.text)])  ((hl1).iv (Nat.zero_le _) (by omega))) ?_)
  rintro _ w7 ⟨rfl, hm7⟩
  have f10 := f8.ext hm7
  have f11 := f9.ext hm7
  have f12 := hl1.ext hm7
  have hE7 := hE6.ext hm7
  have hs7 := hm7.size
  have hCw7 := hCw6.ext hm7
  refine ⟨.inr hCw7, ?_⟩
  refine OD.q rfl rfl (Q1.assign rfl) rfl rfl ?_
  refine OD.nil ?_
  refine r_ret1 Tryz.func65 rfl rfl ?_
  exact Ret.mk ⟨(congrArg (Value.int .i64) (by rfl)), hE7⟩
set_option maxRecDepth 20000 in
set_option maxHeartbeats 4000000 in
theorem kless_c {w0 : World}  {a : Key} {b : Key}  :
    Calls Tryz.prog 52 #[.agg #[.int .i64 a.len, strV a.text], .agg #[.int .i64 b.len, strV b.text]] w0 (Ret fun rv w1 => (∃ rb : Bool, rb = (Ml.keyLess a b) ∧ rv = .bool rb) ∧ Ext w0 w1) := by
  have hE0 : Ext w0 w0 := Mod.refl _ _
  refine calls_enter Tryz.func52 rfl Tryz.ntmps52 rfl ?_
  refine r_seq ?_
  refine r_region ?_
  refine OL.act rfl rfl (AW.box [.int .i64 a.len, strV a.text] rfl rfl ?_)
  intro w1 b1 hm1 hb1 hz1 hk1
  have hE1 := hE0.ext hm1
  have hs1 := hm1.size
  refine OL.act rfl rfl (AW.box [.int .i64 b.len, strV b.text] rfl rfl ?_)
  intro w2 b2 hm2 hb2 hz2 hk2
  have f1 := hk1.ext hm2
  have hE2 := hE1.ext hm2
  have hs2 := hm2.size
  refine OL.q (Q1.assign rfl) rfl rfl ?_
  refine OL.nil ?_
  refine r_seq ?_
  refine r_region ?_
  refine OL.q (Q1.loadN ti57 rfl (fun _ e => e ▸ f1.row) rfl) rfl rfl ?_
  refine OL.q (Q1.loadN ti57 rfl (fun _ e => e ▸ hk2.row) rfl) rfl rfl ?_
  refine OL.act rfl rfl (AW.callF cl65 rfl (kcmp_c (w0 := w2) (a := a) (b := b)  ) ?_)
  rintro _ w3 ⟨rfl, hm3⟩
  have f2 := f1.ext hm3
  have f3 := hk2.ext hm3
  have hE3 := hE2.ext hm3
  have hs3 := hm3.size
  refine OL.qb (Q1.lt rfl rfl) rfl rfl ?_
  intro b3 hb3
  refine OL.q (Q1.assign rfl) rfl rfl ?_
  refine OL.nil ?_
  refine r_ret1 Tryz.func52 rfl rfl ?_
  exact Ret.mk ⟨⟨_, (by first | simp only [Ml.keyLess, *] | (exfalso; omega)), rfl⟩, hE3⟩
set_option maxRecDepth 20000 in
set_option maxHeartbeats 4000000 in
theorem pgood_c {w0 : World}  {v_cuts : Value} {cuts : List Key} (h_cuts : Sl encKey w0 (Iv 0 w0.heap.size) v_cuts cuts) (hk : ∀ k ∈ cuts, k.text.length ≤ 9223372036854775807) :
    Calls Tryz.prog 35 #[v_cuts] w0 (Ret fun rv w1 => rv = .int .i64 (Ml.goodC cuts) ∧ Ext w0 w1) := by
  have hE0 : Ext w0 w0 := Mod.refl _ _
  have hle1 := h_cuts.le
  refine calls_enter Tryz.func35 rfl Tryz.ntmps35 rfl ?_
  refine r_seq ?_
  refine r_region ?_
  refine OL.q (Q1.assign rfl) rfl rfl ?_
  refine OL.nil ?_
  refine r_seq ?_
  refine r_seq ?_
  refine r_region ?_
  refine OL.q (Q1.move rfl) rfl rfl ?_
  refine OL.q (Q1.lenSl Tryz.underlying23 (h_cuts) rfl) rfl rfl ?_
  refine OL.qb (Q1.gt rfl rfl) rfl rfl ?_
  intro b1 hb1
  refine OL.nil ?_
  cases b1 with
  | true =>
    replace hb1 := of_decide_eq_true hb1.symm
    refine r_cond_t rfl ?_
    refine r_seq ?_
    refine r_region ?_
    refine OL.q (Q1.assign rfl) rfl rfl ?_
    refine OL.nil ?_
    refine r_ret1 Tryz.func35 rfl rfl ?_
    exact Ret.mk ⟨(congrArg (Value.int .i64) (by first | exact Ml.goodC_full (by omega) | exact Ml.goodC_key (by omega) hx1 (by simp only [Ml.keyOk]; simp; omega) | exact Ml.goodC_sort (by omega) ha hj hx1 hx2 (by assumption) | exact Ml.goodC_ok (by omega) ha hr (by omega) | (exfalso; omega))), hE0⟩
  | false =>
    replace hb1 := of_decide_eq_false hb1.symm
    refine r_cond_f rfl ?_
    refine r_skip ?_
    refine r_seq ?_
    refine r_seq ?_
    refine r_region ?_
    refine OL.q (Q1.move rfl) rfl rfl ?_
    refine OL.q (Q1.lenSl Tryz.underlying23 (h_cuts) rfl) rfl rfl ?_
    refine OL.q (Q1.move rfl) rfl rfl ?_
    refine OL.nil ?_
    refine r_block ?_
    refine r_loop (I := fun m E W => ∃ (k : Nat), E = [(0, v_cuts), (10, v_cuts), (11, .int .i64 (((cuts.length : Nat) : Int))), (12, .int .i64 (((k : Nat) : Int)))] ∧ m = cuts.length - k ∧ Ext w0 W ∧ w0.heap.size ≤ W.heap.size ∧ Sl encKey W (Iv 0 w0.heap.size) v_cuts cuts ∧ ((cuts.take k).all Ml.keyOk = true)) ?_ ?_
    · refine ⟨_, _, ⟨(0 : Nat), rfl, rfl, hE0, Nat.le_refl _, h_cuts, (by rfl)⟩, ⟨rfl, rfl, rfl, rfl, trivial⟩⟩
    · rintro _ _ w1 ⟨k, rfl, rfl, hE1, hs1, f1, hi⟩ ih1
      refine r_seq ?_
      refine r_region ?_
      refine OL.qb (Q1.lt rfl rfl) rfl rfl ?_
      intro b2 hb2
      refine OL.nil ?_
      refine r_seq ?_
      cases b2 with
      | true =>
        replace hb2 := of_decide_eq_true hb2.symm
        refine r_cond_t rfl ?_
        refine r_skip ?_
        refine r_seq ?_
        refine r_block ?_
        refine r_seq ?_
        refine r_region ?_
        obtain ⟨x1, b3, o1, hx1, hr1, hl1, hu1, hw1⟩ := Sl.at' (P := Tryz.prog) f1 Tryz.underlying23 ti57 encKey_len (k := .i64) (n := ((k : Nat) : Int)) (k) (by omega) (by first | assumption | omega)
        refine OL.q (Q1.indexAddr rfl rfl hr1) rfl rfl ?_
        refine OL.q (Q1.loadN ti57 rfl (fun _ e => e ▸ hw1) rfl) rfl rfl ?_
        refine OL.act rfl rfl (AW.alloc ti57 ?_)
        intro w2 b4 hm1 hb3 hz1 hk1
        have f2 := f1.ext hm1
        have hE2 := hE1.ext hm1
        have hs2 := hm1.size
        refine OL.act rfl rfl (AW.store ti57 rfl rfl rfl rfl rfl hk1 (Nat.le_of_ble_eq_true rfl) ?_)
        intro w3 hm2 hz2 hk2
        replace hk2 : Bk w3 b4 [.int .i64 x1.len, strV x1.text] 57 := hk2
        have f3 := f2.keepG hm2 (by omega)
        have hE3 := Ext.thenG hE2 hm2 (by omega)
        have hs3 := hm2.size
        refine OL.nil ?_
        refine r_seq ?_
        refine r_region ?_
        refine OL.q (Q1.fieldAddr fl57_1 rfl) rfl rfl ?_
        refine OL.q (Q1.load1 ti9 rfl (fun _ e => e ▸ (hk2.cell 1 _ rfl))) rfl rfl ?_
        refine OL.act rfl rfl (AW.callF cl51 rfl (tlen_c (w0 := w3)  x1.text (by exact hk _ (List.mem_of_getElem? (by assumption)))) ?_)
        rintro _ w4 ⟨rfl, hm3, hp1⟩
        have f4 := f3.ext hm3
        have f5 := hk2.ext hm3
        have hE4 := hE3.ext hm3
        have hs4 := hm3.size
        refine OL.q (Q1.assign rfl) rfl rfl ?_
        refine OL.nil ?_
        refine r_seq ?_
        refine r_region ?_
        refine OL.q (Q1.fieldAddr fl57_0 rfl) rfl rfl ?_
        refine OL.q (Q1.load1 ti3 rfl (fun _ e => e ▸ (f5.cell 0 _ rfl))) rfl rfl ?_
        refine OL.qb (Q1.lt rfl rfl) rfl rfl ?_
        intro b5 hb4
        refine OL.q (Q1.move rfl) rfl rfl ?_
        cases b5 with
        | true =>
          replace hb4 := of_decide_eq_true hb4.symm
          refine OL.sk rfl rfl ?_
          refine OL.sk rfl rfl ?_
          refine OL.sk rfl rfl ?_
          refine OL.q (Q1.pick_t rfl rfl) rfl rfl ?_
          refine OL.q (Q1.move rfl) rfl rfl ?_
          refine OL.sk rfl rfl ?_
          refine OL.sk rfl rfl ?_
          refine OL.q (Q1.pick_t rfl rfl) rfl rfl ?_
          refine OL.q (Q1.move rfl) rfl rfl ?_
          refine OL.sk rfl rfl ?_
          refine OL.sk rfl rfl ?_
          refine OL.q (Q1.pick_t rfl rfl) rfl rfl ?_
          refine OL.nil ?_
          refine r_cond_t rfl ?_
          refine r_seq ?_
          refine r_region ?_
          refine OL.q (Q1.assign rfl) rfl rfl ?_
          refine OL.nil ?_
          refine r_ret1 Tryz.func35 rfl rfl ?_
          exact Ret.mk ⟨(congrArg (Value.int .i64) (by first | exact Ml.goodC_full (by omega) | exact Ml.goodC_key (by omega) hx1 (by simp only [Ml.keyOk]; simp; omega) | exact Ml.goodC_sort (by omega) ha hj hx1 hx2 (by assumption) | exact Ml.goodC_ok (by omega) ha hr (by omega) | (exfalso; omega))), hE4⟩
        | false =>
          replace hb4 := of_decide_eq_false hb4.symm
          refine OL.q (Q1.fieldAddr fl57_0 rfl) rfl rfl ?_
          refine OL.q (Q1.load1 ti3 rfl (fun _ e => e ▸ (f5.cell 0 _ rfl))) rfl rfl ?_
          refine OL.qb (Q1.gt rfl rfl) rfl rfl ?_
          intro b6 hb5
          refine OL.q (Q1.pick_f rfl rfl) rfl rfl ?_
          refine OL.q (Q1.move rfl) rfl rfl ?_
          cases b6 with
          | true =>
            replace hb5 := of_decide_eq_true hb5.symm
            refine OL.sk rfl rfl ?_
            refine OL.sk rfl rfl ?_
            refine OL.q (Q1.pick_t rfl rfl) rfl rfl ?_
            refine OL.q (Q1.move rfl) rfl rfl ?_
            refine OL.sk rfl rfl ?_
            refine OL.sk rfl rfl ?_
            refine OL.q (Q1.pick_t rfl rfl) rfl rfl ?_
            refine OL.nil ?_
            refine r_cond_t rfl ?_
            refine r_seq ?_
            refine r_region ?_
            refine OL.q (Q1.assign rfl) rfl rfl ?_
            refine OL.nil ?_
            refine r_ret1 Tryz.func35 rfl rfl ?_
            exact Ret.mk ⟨(congrArg (Value.int .i64) (by first | exact Ml.goodC_full (by omega) | exact Ml.goodC_key (by omega) hx1 (by simp only [Ml.keyOk]; simp; omega) | exact Ml.goodC_sort (by omega) ha hj hx1 hx2 (by assumption) | exact Ml.goodC_ok (by omega) ha hr (by omega) | (exfalso; omega))), hE4⟩
          | false =>
            replace hb5 := of_decide_eq_false hb5.symm
            refine OL.q (Q1.move rfl) rfl rfl ?_
            refine OL.qb (Q1.lt rfl rfl) rfl rfl ?_
            intro b7 hb6
            refine OL.q (Q1.pick_f rfl rfl) rfl rfl ?_
            refine OL.q (Q1.move rfl) rfl rfl ?_
            cases b7 with
            | true =>
              replace hb6 := of_decide_eq_true hb6.symm
              refine OL.sk rfl rfl ?_
              refine OL.sk rfl rfl ?_
              refine OL.q (Q1.pick_t rfl rfl) rfl rfl ?_
              refine OL.nil ?_
              refine r_cond_t rfl ?_
              refine r_seq ?_
              refine r_region ?_
              refine OL.q (Q1.assign rfl) rfl rfl ?_
              refine OL.nil ?_
              refine r_ret1 Tryz.func35 rfl rfl ?_
              exact Ret.mk ⟨(congrArg (Value.int .i64) (by first | exact Ml.goodC_full (by omega) | exact Ml.goodC_key (by omega) hx1 (by simp only [Ml.keyOk]; simp; omega) | exact Ml.goodC_sort (by omega) ha hj hx1 hx2 (by assumption) | exact Ml.goodC_ok (by omega) ha hr (by omega) | (exfalso; omega))), hE4⟩
            | false =>
              replace hb6 := of_decide_eq_false hb6.symm
              refine OL.q (Q1.move rfl) rfl rfl ?_
              refine OL.qb (Q1.gt rfl rfl) rfl rfl ?_
              intro b8 hb7
              refine OL.q (Q1.pick_f rfl rfl) rfl rfl ?_
              refine OL.nil ?_
              cases b8 with
              | true =>
                replace hb7 := of_decide_eq_true hb7.symm
                refine r_cond_t rfl ?_
                refine r_seq ?_
                refine r_region ?_
                refine OL.q (Q1.assign rfl) rfl rfl ?_
                refine OL.nil ?_
                refine r_ret1 Tryz.func35 rfl rfl ?_
                exact Ret.mk ⟨(congrArg (Value.int .i64) (by first | exact Ml.goodC_full (by omega) | exact Ml.goodC_key (by omega) hx1 (by simp only [Ml.keyOk]; simp; omega) | exact Ml.goodC_sort (by omega) ha hj hx1 hx2 (by assumption) | exact Ml.goodC_ok (by omega) ha hr (by omega) | (exfalso; omega))), hE4⟩
              | false =>
                replace hb7 := of_decide_eq_false hb7.symm
                refine r_cond_f rfl ?_
                refine r_skip ?_
                refine r_inBlock ?_
                refine r_region ?_
                refine OL.q (Q1.addI (((k + 1 : Nat) : Int)) rfl rfl (by omega)) rfl rfl ?_
                refine OL.q (Q1.move rfl) rfl rfl ?_
                refine OL.nil ?_
                exact (ih1 _ _ _ ⟨(k + 1 : Nat), rfl, rfl, hE4, (by omega), f4, (by first | exact Ml.all_take_succ hi hx1 (by simp only [Ml.keyOk]; simp; omega) | (exfalso; omega))⟩ (by omega)).sub ⟨rfl, rfl, rfl, rfl, trivial⟩
      | false =>
        replace hb2 := of_decide_eq_false hb2.symm
        refine r_cond_f rfl ?_
        refine r_exit rfl ?_
        refine r_seq ?_
        refine r_seq ?_
        refine r_region ?_
        refine OL.q (Q1.assign rfl) rfl rfl ?_
        refine OL.nil ?_
        refine r_block ?_
        refine r_loop (I := fun m E W => ∃ (j : Nat), E = [(0, v_cuts), (6, .int .i64 (((j : Nat) : Int)))] ∧ m = cuts.length - j ∧ Ext w0 W ∧ w1.heap.size ≤ W.heap.size ∧ Sl encKey W (Iv 0 w0.heap.size) v_cuts cuts ∧ (1 ≤ j) ∧ (Ml.keysRise (cuts.take j) = true)) ?_ ?_
        · refine ⟨_, _, ⟨(1 : Nat), rfl, rfl, hE1, Nat.le_refl _, f1, (by omega), (by exact Ml.keysRise_one _)⟩, ⟨rfl, rfl, trivial⟩⟩
        · rintro _ _ w2 ⟨j, rfl, rfl, hE2, hs2, f2, hj, hr⟩ ih2
          have ha := Ml.all_of_take hi (by omega)
          refine r_seq ?_
          refine r_seq ?_
          refine r_region ?_
          refine OL.q (Q1.move rfl) rfl rfl ?_
          refine OL.q (Q1.move rfl) rfl rfl ?_
          refine OL.q (Q1.lenSl Tryz.underlying23 (f2) rfl) rfl rfl ?_
          refine OL.qb (Q1.lt rfl rfl) rfl rfl ?_
          intro b3 hb3
          refine OL.nil ?_
          cases b3 with
          | true =>
            replace hb3 := of_decide_eq_true hb3.symm
            refine r_cond_t rfl ?_
            refine r_skip ?_
            refine r_seq ?_
            refine r_block ?_
            refine r_seq ?_
            refine r_draw1 (fun i => Nat.beq i 9) 11 (fun w' => Mod (Mg 0) w2 w') mixed (by kernel_rfl) ?_
            intro w3 hm1
            have f3 := f2.ext hm1
            have hE3 := hE2.ext hm1
            have hs3 := hm1.size
            have hCw3 : Mod (Mg 0) w2 w3 := Mod.ofExt hm1
            refine ⟨hCw3, ?_⟩
            rw [show List.range' 0 (Array.size _) = [0, 1, 2, 3, 4, 5, 6, 7, 8, 9, 10] from rfl]
            refine OD.q rfl rfl (Q1.move rfl) rfl rfl ?_
            refine OD.q rfl rfl (Q1.move rfl) rfl rfl ?_
            refine OD.q rfl rfl (Q1.subI ((((j : Nat) : Int) - 1)) rfl rfl (by omega)) rfl rfl ?_
            obtain ⟨x1, b4, o1, hx1, hr1, hl1, hu1, hw1⟩ := Sl.at' (P := Tryz.prog) f2 Tryz.underlying23 ti57 encKey_len (k := .i64) (n := (((j : Nat) : Int) - 1)) ((j - 1)) (by omega) (by first | assumption | omega)
            refine OD.q rfl rfl (Q1.indexAddr rfl rfl hr1) rfl rfl ?_
            refine OD.q rfl rfl (Q1.loadN ti57 rfl (fun _ hc => hw1.keepG hc (by omega)) rfl) rfl rfl ?_
            refine OD.q rfl rfl (Q1.move rfl) rfl rfl ?_
            refine OD.q rfl rfl (Q1.move rfl) rfl rfl ?_
            obtain ⟨x2, b5, o2, hx2, hr2, hl2, hu2, hw2⟩ := Sl.at' (P := Tryz.prog) f2 Tryz.underlying23 ti57 encKey_len (k := .i64) (n := ((j : Nat) : Int)) (j) (by omega) (by first | assumption | omega)
            refine OD.q rfl rfl (Q1.indexAddr rfl rfl hr2) rfl rfl ?_
            refine OD.q rfl rfl (Q1.loadN ti57 rfl (fun _ hc => hw2.keepG hc (by omega)) rfl) rfl rfl ?_
            refine OD.act rfl rfl rfl rfl (AW.callF cl52 rfl (kless_c (w0 := w3) (a := x1) (b := x2)  ) ?_)
            rintro _ w4 ⟨⟨b6, hb4, rfl⟩, hm2⟩
            have f4 := f3.ext hm2
            have hE4 := hE3.ext hm2
            have hs4 := hm2.size
            have hCw4 := hCw3.ext hm2
            refine ⟨.inr hCw4, ?_⟩
            cases b6 with
            | true =>
              replace hb4 := hb4.symm
              refine OD.q rfl rfl (Q1.not rfl) rfl rfl ?_
              refine OD.nil ?_
              refine r_cond_f rfl ?_
              refine r_skip ?_
              refine r_inBlock ?_
              refine r_region ?_
              refine OL.q (Q1.move rfl) rfl rfl ?_
              refine OL.q (Q1.addI (((j + 1 : Nat) : Int)) rfl rfl (by omega)) rfl rfl ?_
              refine OL.q (Q1.assign rfl) rfl rfl ?_
              refine OL.nil ?_
              exact (ih2 _ _ _ ⟨(j + 1 : Nat), rfl, rfl, hE4, (by omega), f4, (by first | omega | (exfalso; omega)), (by first | exact Ml.keysRise_step hr hj hx1 hx2 (by assumption) | (exfalso; omega))⟩ (by omega)).sub ⟨rfl, rfl, trivial⟩
            | false =>
              replace hb4 := hb4.symm
              refine OD.q rfl rfl (Q1.not rfl) rfl rfl ?_
              refine OD.nil ?_
              refine r_cond_t rfl ?_
              refine r_seq ?_
              refine r_region ?_
              refine OL.q (Q1.assign rfl) rfl rfl ?_
              refine OL.nil ?_
              refine r_ret1 Tryz.func35 rfl rfl ?_
              exact Ret.mk ⟨(congrArg (Value.int .i64) (by first | exact Ml.goodC_full (by omega) | exact Ml.goodC_key (by omega) hx1 (by simp only [Ml.keyOk]; simp; omega) | exact Ml.goodC_sort (by omega) ha hj hx1 hx2 (by assumption) | exact Ml.goodC_ok (by omega) ha hr (by omega) | (exfalso; omega))), hE4⟩
          | false =>
            replace hb3 := of_decide_eq_false hb3.symm
            refine r_cond_f rfl ?_
            refine r_exit rfl ?_
            refine r_seq ?_
            refine r_region ?_
            refine OL.q (Q1.assign rfl) rfl rfl ?_
            refine OL.nil ?_
            refine r_ret1 Tryz.func35 rfl rfl ?_
            exact Ret.mk ⟨(congrArg (Value.int .i64) (by first | exact Ml.goodC_full (by omega) | exact Ml.goodC_key (by omega) hx1 (by simp only [Ml.keyOk]; simp; omega) | exact Ml.goodC_sort (by omega) ha hj hx1 hx2 (by assumption) | exact Ml.goodC_ok (by omega) ha hr (by omega) | (exfalso; omega))), hE2⟩
set_option maxRecDepth 20000 in
set_option maxHeartbeats 4000000 in
theorem pbelow_c {w0 : World}  {v_cuts : Value} {cuts : List Key} {k : Key} (h_cuts : Sl encKey w0 (Iv 0 w0.heap.size) v_cuts cuts) :
    Calls Tryz.prog 88 #[v_cuts, .agg #[.int .i64 k.len, strV k.text], .func (.func 52) #[] #[]] w0 (Ret fun rv w1 => rv = .int .i64 (((Ml.belowN cuts k : Nat) : Int)) ∧ Ext w0 w1) := by
  have hE0 : Ext w0 w0 := Mod.refl _ _
  have hle1 := h_cuts.le
  refine calls_enter Tryz.func88 rfl Tryz.ntmps88 rfl ?_
  refine r_seq ?_
  refine r_region ?_
  refine OL.act rfl rfl (AW.box [.int .i64 k.len, strV k.text] rfl rfl ?_)
  intro w1 b1 hm1 hb1 hz1 hk1
  have f1 := h_cuts.ext hm1
  have hE1 := hE0.ext hm1
  have hs1 := hm1.size
  refine OL.q (Q1.assign rfl) rfl rfl ?_
  refine OL.nil ?_
  refine r_seq ?_
  refine r_region ?_
  refine OL.q (Q1.assign rfl) rfl rfl ?_
  refine OL.nil ?_
  refine r_seq ?_
  refine r_seq ?_
  refine r_region ?_
  refine OL.q (Q1.move rfl) rfl rfl ?_
  refine OL.q (Q1.lenSl Tryz.underlying23 (f1) rfl) rfl rfl ?_
  refine OL.q (Q1.move rfl) rfl rfl ?_
  refine OL.nil ?_
  refine r_block ?_
  refine r_loop (I := fun m E W => ∃ (n : Nat) (j : Nat), E = [(2, .func (.func 52) #[] #[]), (4, ptr b1 0), (7, .int .i64 (((n : Nat) : Int))), (10, v_cuts), (11, .int .i64 (((cuts.length : Nat) : Int))), (12, .int .i64 (((j : Nat) : Int)))] ∧ m = cuts.length - j ∧ Ext w0 W ∧ w1.heap.size ≤ W.heap.size ∧ Bk W b1 [.int .i64 k.len, strV k.text] 57 ∧ Sl encKey W (Iv 0 w0.heap.size) v_cuts cuts ∧ (n = ((cuts.take j).filter fun c => !Ml.keyLess k c).length) ∧ (n ≤ j)) ?_ ?_
  · refine ⟨_, _, ⟨(0 : Nat), (0 : Nat), rfl, rfl, hE1, Nat.le_refl _, hk1, f1, (by rfl), (by omega)⟩, ⟨rfl, rfl, rfl, rfl, rfl, rfl, trivial⟩⟩
  · rintro _ _ w2 ⟨n, j, rfl, rfl, hE2, hs2, f2, f3, hi, hn⟩ ih1
    refine r_seq ?_
    refine r_region ?_
    refine OL.qb (Q1.lt rfl rfl) rfl rfl ?_
    intro b2 hb2
    refine OL.nil ?_
    refine r_seq ?_
    cases b2 with
    | true =>
      replace hb2 := of_decide_eq_true hb2.symm
      refine r_cond_t rfl ?_
      refine r_skip ?_
      refine r_seq ?_
      refine r_block ?_
      refine r_seq ?_
      refine r_region ?_
      obtain ⟨x1, b3, o1, hx1, hr1, hl1, hu1, hw1⟩ := Sl.at' (P := Tryz.prog) f3 Tryz.underlying23 ti57 encKey_len (k := .i64) (n := ((j : Nat) : Int)) (j) (by omega) (by first | assumption | omega)
      refine OL.q (Q1.indexAddr rfl rfl hr1) rfl rfl ?_
      refine OL.q (Q1.loadN ti57 rfl (fun _ e => e ▸ hw1) rfl) rfl rfl ?_
      refine OL.act rfl rfl (AW.alloc ti57 ?_)
      intro w3 b4 hm2 hb3 hz2 hk2
      have f4 := f2.ext hm2
      have f5 := f3.ext hm2
      have hE3 := hE2.ext hm2
      have hs3 := hm2.size
      refine OL.act rfl rfl (AW.store ti57 rfl rfl rfl rfl rfl hk2 (Nat.le_of_ble_eq_true rfl) ?_)
      intro w4 hm3 hz3 hk3
      replace hk3 : Bk w4 b4 [.int .i64 x1.len, strV x1.text] 57 := hk3
      have f6 := f4.keepG hm3 (by omega)
      have f7 := f5.keepG hm3 (by omega)
      have hE4 := Ext.thenG hE3 hm3 (by omega)
      have hs4 := hm3.size
      refine OL.nil ?_
      refine r_seq ?_
      refine r_region ?_
      refine OL.q (Q1.move rfl) rfl rfl ?_
      refine OL.q (Q1.loadN ti57 rfl (fun _ e => e ▸ f6.row) rfl) rfl rfl ?_
      refine OL.q (Q1.loadN ti57 rfl (fun _ e => e ▸ hk3.row) rfl) rfl rfl ?_
      refine OL.act rfl rfl (AW.call (first := []) (cap := []) cl52 rfl rfl (kless_c (w0 := w4) (a := k) (b := x1)  ) ?_)
      rintro _ w5 ⟨⟨b5, hb4, rfl⟩, hm4⟩
      have f8 := f6.ext hm4
      have f9 := f7.ext hm4
      have f10 := hk3.ext hm4
      have hE5 := hE4.ext hm4
      have hs5 := hm4.size
      cases b5 with
      | true =>
        replace hb4 := hb4.symm
        refine OL.q (Q1.not rfl) rfl rfl ?_
        refine OL.nil ?_
        refine r_cond_f rfl ?_
        refine r_skip ?_
        refine r_inBlock ?_
        refine r_region ?_
        refine OL.q (Q1.addI (((j + 1 : Nat) : Int)) rfl rfl (by omega)) rfl rfl ?_
        refine OL.q (Q1.move rfl) rfl rfl ?_
        refine OL.nil ?_
        exact (ih1 _ _ _ ⟨(n : Nat), (j + 1 : Nat), rfl, rfl, hE5, (by omega), f8, f9, (by first | (rw [Ml.filter_take_yes hx1 (by simp [*]), List.length_append, ← hi]; rfl) | (rw [Ml.filter_take_no hx1 (by simp [*])]; exact hi) | (exfalso; omega)), (by first | omega | (exfalso; omega))⟩ (by omega)).sub ⟨rfl, rfl, rfl, rfl, rfl, rfl, trivial⟩
      | false =>
        replace hb4 := hb4.symm
        refine OL.q (Q1.not rfl) rfl rfl ?_
        refine OL.nil ?_
        refine r_cond_t rfl ?_
        refine r_region ?_
        refine OL.q (Q1.move rfl) rfl rfl ?_
        refine OL.q (Q1.addI (((n + 1 : Nat) : Int)) rfl rfl (by omega)) rfl rfl ?_
        refine OL.q (Q1.assign rfl) rfl rfl ?_
        refine OL.nil ?_
        refine r_inBlock ?_
        refine r_region ?_
        refine OL.q (Q1.addI (((j + 1 : Nat) : Int)) rfl rfl (by omega)) rfl rfl ?_
        refine OL.q (Q1.move rfl) rfl rfl ?_
        refine OL.nil ?_
        exact (ih1 _ _ _ ⟨(n + 1 : Nat), (j + 1 : Nat), rfl, rfl, hE5, (by omega), f8, f9, (by first | (rw [Ml.filter_take_yes hx1 (by simp [*]), List.length_append, ← hi]; rfl) | (rw [Ml.filter_take_no hx1 (by simp [*])]; exact hi) | (exfalso; omega)), (by first | omega | (exfalso; omega))⟩ (by omega)).sub ⟨rfl, rfl, rfl, rfl, rfl, rfl, trivial⟩
    | false =>
      replace hb2 := of_decide_eq_false hb2.symm
      refine r_cond_f rfl ?_
      refine r_exit rfl ?_
      refine r_seq ?_
      refine r_region ?_
      refine OL.q (Q1.move rfl) rfl rfl ?_
      refine OL.q (Q1.assign rfl) rfl rfl ?_
      refine OL.nil ?_
      refine r_ret1 Tryz.func88 rfl rfl ?_
      exact Ret.mk ⟨(congrArg (Value.int .i64) (by first | rw [hi, Ml.filter_take_all (by omega)]; rfl | (exfalso; omega))), hE2⟩
set_option maxRecDepth 20000 in
set_option maxHeartbeats 4000000 in
theorem pof_c {w0 : World}  {v_cuts : Value} {cuts : List Key} (w : Str) (h_cuts : Sl encKey w0 (Iv 0 w0.heap.size) v_cuts cuts) (hs_w : w.length ≤ 9223372036854775807) :
    Calls Tryz.prog 72 #[v_cuts, strV w] w0 (Ret fun rv w1 => rv = .int .i64 (Ml.ofM cuts w) ∧ Ext w0 w1) := by
  have hE0 : Ext w0 w0 := Mod.refl _ _
  have hle1 := h_cuts.le
  refine calls_enter Tryz.func72 rfl Tryz.ntmps72 rfl ?_
  refine r_seq ?_
  refine r_region ?_
  refine OL.q (Q1.assign rfl) rfl rfl ?_
  refine OL.nil ?_
  refine r_seq ?_
  refine r_seq ?_
  refine r_region ?_
  refine OL.q (Q1.move rfl) rfl rfl ?_
  refine OL.act rfl rfl (AW.callF cl49 rfl (tword_c (w0 := w0)  w (by exact hs_w)) ?_)
  rintro _ w1 ⟨⟨b1, hb1, rfl⟩, hm1⟩
  have f1 := h_cuts.ext hm1
  have hE1 := hE0.ext hm1
  have hs1 := hm1.size
  cases b1 with
  | true =>
    replace hb1 := hb1.symm
    refine OL.q (Q1.not rfl) rfl rfl ?_
    refine OL.nil ?_
    refine r_cond_f rfl ?_
    refine r_skip ?_
    refine r_seq ?_
    refine r_region ?_
    refine OL.q (Q1.move rfl) rfl rfl ?_
    refine OL.q (Q1.move rfl) rfl rfl ?_
    refine OL.act rfl rfl (AW.callF cl51 rfl (tlen_c (w0 := w1)  w (by exact hs_w)) ?_)
    rintro _ w2 ⟨rfl, hm2, hp1⟩
    have f2 := f1.ext hm2
    have hE2 := hE1.ext hm2
    have hs2 := hm2.size
    refine OL.q (Q1.move rfl) rfl rfl ?_
    refine OL.q (Q1.build (vs := #[(0, (.int .i64 ((Ml.lenT w)) : Value)), (1, strV w)]) (v := .agg #[.int .i64 ((Ml.lenT w)), strV w]) rfl (fun _ => by kernel_rfl)) rfl rfl ?_
    refine OL.act rfl rfl (AW.callF cl88 rfl (pbelow_c (w0 := w2) (cuts := cuts) (k := (Key.mk ((Ml.lenT w)) w))  ((f2).iv (Nat.zero_le _) (by omega))) ?_)
    rintro _ w3 ⟨rfl, hm3⟩
    have f3 := f2.ext hm3
    have hE3 := hE2.ext hm3
    have hs3 := hm3.size
    refine OL.q (Q1.assign rfl) rfl rfl ?_
    refine OL.nil ?_
    refine r_ret1 Tryz.func72 rfl rfl ?_
    exact Ret.mk ⟨(congrArg (Value.int .i64) (by first | simp only [Ml.ofM, *]; rfl | (exfalso; omega))), hE3⟩
  | false =>
    replace hb1 := hb1.symm
    refine OL.q (Q1.not rfl) rfl rfl ?_
    refine OL.nil ?_
    refine r_cond_t rfl ?_
    refine r_seq ?_
    refine r_region ?_
    refine OL.q (Q1.assign rfl) rfl rfl ?_
    refine OL.nil ?_
    refine r_ret1 Tryz.func72 rfl rfl ?_
    exact Ret.mk ⟨(congrArg (Value.int .i64) (by first | simp only [Ml.ofM, *]; rfl | (exfalso; omega))), hE1⟩
set_option maxRecDepth 20000 in
set_option maxHeartbeats 4000000 in
theorem pslice_c {w0 : World}  {v_cuts : Value} {cuts : List Key} {v_words : Value} {words : List Str} (shard : Int) (h_cuts : Sl encKey w0 (Iv 0 w0.heap.size) v_cuts cuts) (h_words : Sl encS w0 (Iv 0 w0.heap.size) v_words words) (h_shard : I64 shard) (hok : Ml.LOk words) (hlen : words.length ≤ 1000000) :
    Calls Tryz.prog 56 #[v_cuts, v_words, .int .i64 shard] w0 (Ret fun rv w1 => (∃ gr, Acc encS 9 1 w1 gr rv (Ml.sliceM cuts words shard) ∧ (gr = 0 ∨ w0.heap.size < gr)) ∧ Ext w0 w1) := by
  have hE0 : Ext w0 w0 := Mod.refl _ _
  have hle1 := h_cuts.le
  have hle2 := h_words.le
  refine calls_enter Tryz.func56 rfl Tryz.ntmps56 rfl ?_
  refine r_seq ?_
  refine r_region ?_
  refine OL.q (Q1.assign rfl) rfl rfl ?_
  refine OL.nil ?_
  refine r_seq ?_
  refine r_region ?_
  refine OL.q (Q1.assign rfl) rfl rfl ?_
  refine OL.nil ?_
  refine r_seq ?_
  refine r_seq ?_
  refine r_region ?_
  refine OL.q (Q1.move rfl) rfl rfl ?_
  refine OL.q (Q1.lenSl Tryz.underlying22 (h_words) rfl) rfl rfl ?_
  refine OL.q (Q1.move rfl) rfl rfl ?_
  refine OL.nil ?_
  refine r_block ?_
  refine r_loop (I := fun m E W => ∃ (v_l : Value) (g_l : Nat) (l : List Str) (k : Nat), E = [(0, v_cuts), (2, .int .i64 shard), (7, v_l), (11, v_words), (12, .int .i64 (((words.length : Nat) : Int))), (13, .int .i64 (((k : Nat) : Int)))] ∧ m = words.length - k ∧ Ext w0 W ∧ w0.heap.size ≤ W.heap.size ∧ Acc encS 9 1 W g_l v_l l ∧ (g_l = 0 ∨ w0.heap.size < g_l) ∧ Sl encKey W (Iv 0 w0.heap.size) v_cuts cuts ∧ Sl encS W (Iv 0 w0.heap.size) v_words words ∧ (l = (words.take k).filter (Ml.slP cuts shard)) ∧ (l.length ≤ k)) ?_ ?_
  · refine ⟨_, _, ⟨(.slice none 0 0 : Value), (0 : Nat), ([] : List Str), (0 : Nat), rfl, rfl, hE0, Nat.le_refl _, Acc.nil, (by omega), h_cuts, h_words, (by rfl), (by exact Nat.zero_le _)⟩, ⟨rfl, rfl, rfl, rfl, rfl, rfl, trivial⟩⟩
  · rintro _ _ w1 ⟨v_l, g_l, l, k, rfl, rfl, hE1, hs1, ha1, hg1, f1, f2, hi, hn⟩ ih1
    refine r_seq ?_
    refine r_region ?_
    refine OL.qb (Q1.lt rfl rfl) rfl rfl ?_
    intro b1 hb1
    refine OL.nil ?_
    refine r_seq ?_
    cases b1 with
    | true =>
      replace hb1 := of_decide_eq_true hb1.symm
      refine r_cond_t rfl ?_
      refine r_skip ?_
      refine r_seq ?_
      refine r_block ?_
      refine r_seq ?_
      refine r_region ?_
      obtain ⟨x1, b2, o1, hx1, hr1, hl1, hu1, hw1⟩ := Sl.at' (P := Tryz.prog) f2 Tryz.underlying22 ti9 encS_len (k := .i64) (n := ((k : Nat) : Int)) (k) (by omega) (by first | assumption | omega)
      refine OL.q (Q1.indexAddr rfl rfl hr1) rfl rfl ?_
      refine OL.q (Q1.load1 ti9 rfl (fun _ e => e ▸ hw1)) rfl rfl ?_
      refine OL.q (Q1.assign rfl) rfl rfl ?_
      refine OL.nil ?_
      refine r_seq ?_
      refine r_region ?_
      refine OL.q (Q1.move rfl) rfl rfl ?_
      refine OL.q (Q1.move rfl) rfl rfl ?_
      refine OL.act rfl rfl (AW.callF cl72 rfl (pof_c (w0 := w1) (cuts := cuts) x1 ((f1).iv (Nat.zero_le _) (by omega)) (by exact hok.at (by assumption))) ?_)
      rintro _ w2 ⟨rfl, hm1⟩
      have hl2 := ha1.lt
      have f3 := ha1.ext hm1
      have f4 := f1.ext hm1
      have f5 := f2.ext hm1
      have hE2 := hE1.ext hm1
      have hs2 := hm1.size
      refine OL.q (Q1.assign rfl) rfl rfl ?_
      refine OL.nil ?_
      refine r_seq ?_
      refine r_region ?_
      refine OL.q (Q1.move rfl) rfl rfl ?_
      refine OL.qb (Q1.ge rfl rfl) rfl rfl ?_
      intro b3 hb2
      refine OL.q (Q1.move rfl) rfl rfl ?_
      cases b3 with
      | true =>
        replace hb2 := of_decide_eq_true hb2.symm
        refine OL.q (Q1.move rfl) rfl rfl ?_
        refine OL.q (Q1.move rfl) rfl rfl ?_
        refine OL.qb (Q1.eq rfl rfl) rfl rfl ?_
        intro b4 hb3
        refine OL.q (Q1.pick_t rfl rfl) rfl rfl ?_
        refine OL.nil ?_
        cases b4 with
        | true =>
          replace hb3 := eq_of_beq hb3.symm
          refine r_cond_t rfl ?_
          refine r_region ?_
          refine OL.q (Q1.move rfl) rfl rfl ?_
          refine OL.q (Q1.move rfl) rfl rfl ?_
          refine OL.act rfl rfl (AW.buildSlice [strV x1] Tryz.underlying22 ti9 rfl rfl rfl (by decide) ?_)
          intro w3 b5 hm2 hb4 hz1 hk1
          have hl3 := f3.lt
          have f6 := f3.ext hm2
          have f7 := f4.ext hm2
          have f8 := f5.ext hm2
          have hE3 := hE2.ext hm2
          have hs3 := hm2.size
          have hl4 := Sl.of_blk (enc := encS) hk1 ([x1] : List Str) 1 rfl rfl (by unfold maxLen; omega)
          have hl5 := f6.lt
          refine OL.act rfl rfl (AW.append f6 Tryz.underlying22 ti9 rfl encS_len encS_one rfl rfl (hl4) (by first | omega | (simp only [List.length_append, List.length_cons, List.length_nil]; omega) | (simp; omega)) (by unfold maxLen; first | omega | (simp only [List.length_append, List.length_cons, List.length_nil]; omega) | (simp; omega)) ?_)
          intro v1 g1 w4 ha2 hm3 hg2 hz2
          have hl6 := f6.lt
          have f9 := f7.keepG hm3 (by omega)
          have f10 := f8.keepG hm3 (by omega)
          have f11 := hl4.keepG hm3 (by omega)
          have hE4 := Ext.thenG hE3 hm3 (by omega)
          have hs4 := hm3.size
          refine OL.q (Q1.assign rfl) rfl rfl ?_
          refine OL.nil ?_
          refine r_inBlock ?_
          refine r_region ?_
          refine OL.q (Q1.addI (((k + 1 : Nat) : Int)) rfl rfl (by omega)) rfl rfl ?_
          refine OL.q (Q1.move rfl) rfl rfl ?_
          refine OL.nil ?_
          exact (ih1 _ _ _ ⟨(v1 : Value), (g1 : Nat), ((l ++ [x1]) : List Str), (k + 1 : Nat), rfl, rfl, hE4, (by omega), ha2, (by omega), f9, f10, (by first | (rw [Ml.filter_take_yes hx1 (Ml.slP_yes hb2 hb3), hi]) | (rw [Ml.filter_take_no hx1 (Ml.slP_no2 hb3)]; exact hi) | (rw [Ml.filter_take_no hx1 (Ml.slP_no1 hb2)]; exact hi) | (exfalso; omega)), (by first | omega | (simp only [List.length_append, List.length_cons, List.length_nil]; omega) | (exfalso; omega))⟩ (by omega)).sub ⟨rfl, rfl, rfl, rfl, rfl, rfl, trivial⟩
        | false =>
          replace hb3 := ne_of_beq_false hb3.symm
          refine r_cond_f rfl ?_
          refine r_skip ?_
          refine r_inBlock ?_
          refine r_region ?_
          refine OL.q (Q1.addI (((k + 1 : Nat) : Int)) rfl rfl (by omega)) rfl rfl ?_
          refine OL.q (Q1.move rfl) rfl rfl ?_
          refine OL.nil ?_
          exact (ih1 _ _ _ ⟨(v_l : Value), (g_l : Nat), (l : List Str), (k + 1 : Nat), rfl, rfl, hE2, (by omega), f3, (by omega), f4, f5, (by first | (rw [Ml.filter_take_yes hx1 (Ml.slP_yes hb2 hb3), hi]) | (rw [Ml.filter_take_no hx1 (Ml.slP_no2 hb3)]; exact hi) | (rw [Ml.filter_take_no hx1 (Ml.slP_no1 hb2)]; exact hi) | (exfalso; omega)), (by first | omega | (simp only [List.length_append, List.length_cons, List.length_nil]; omega) | (exfalso; omega))⟩ (by omega)).sub ⟨rfl, rfl, rfl, rfl, rfl, rfl, trivial⟩
      | false =>
        replace hb2 := of_decide_eq_false hb2.symm
        refine OL.sk rfl rfl ?_
        refine OL.sk rfl rfl ?_
        refine OL.sk rfl rfl ?_
        refine OL.q (Q1.pick_f rfl rfl) rfl rfl ?_
        refine OL.nil ?_
        refine r_cond_f rfl ?_
        refine r_skip ?_
        refine r_inBlock ?_
        refine r_region ?_
        refine OL.q (Q1.addI (((k + 1 : Nat) : Int)) rfl rfl (by omega)) rfl rfl ?_
        refine OL.q (Q1.move rfl) rfl rfl ?_
        refine OL.nil ?_
        exact (ih1 _ _ _ ⟨(v_l : Value), (g_l : Nat), (l : List Str), (k + 1 : Nat), rfl, rfl, hE2, (by omega), f3, (by omega), f4, f5, (by first | (rw [Ml.filter_take_yes hx1 (Ml.slP_yes hb2 hb3), hi]) | (rw [Ml.filter_take_no hx1 (Ml.slP_no2 hb3)]; exact hi) | (rw [Ml.filter_take_no hx1 (Ml.slP_no1 hb2)]; exact hi) | (exfalso; omega)), (by first | omega | (simp only [List.length_append, List.length_cons, List.length_nil]; omega) | (exfalso; omega))⟩ (by omega)).sub ⟨rfl, rfl, rfl, rfl, rfl, rfl, trivial⟩
    | false =>
      replace hb1 := of_decide_eq_false hb1.symm
      refine r_cond_f rfl ?_
      refine r_exit rfl ?_
      refine r_seq ?_
      refine r_region ?_
      refine OL.q (Q1.move rfl) rfl rfl ?_
      refine OL.q (Q1.assign rfl) rfl rfl ?_
      refine OL.nil ?_
      refine r_ret1 Tryz.func56 rfl rfl ?_
      exact Ret.mk ⟨⟨_, Acc.cast ha1 (by first | rw [hi, Ml.filter_take_all (by omega)]; rfl | (exfalso; omega)), by omega⟩, hE1⟩
set_option maxRecDepth 20000 in
set_option maxHeartbeats 4000000 in
theorem within_c {w0 : World}  (x : Int) (least : Int) (most : Int) (h_x : I64 x) (h_least : I64 least) (h_most : I64 most) :
    Calls Tryz.prog 36 #[.int .i64 x, .int .i64 least, .int .i64 most] w0 (Ret fun rv w1 => (∃ rb : Bool, rb = (Ml.within x least most) ∧ rv = .bool rb) ∧ Ext w0 w1) := by
  have hE0 : Ext w0 w0 := Mod.refl _ _
  refine calls_enter Tryz.func36 rfl Tryz.ntmps36 rfl ?_
  refine r_seq ?_
  refine r_region ?_
  refine OL.q (Q1.assign rfl) rfl rfl ?_
  refine OL.nil ?_
  refine r_seq ?_
  refine r_region ?_
  refine OL.q (Q1.move rfl) rfl rfl ?_
  refine OL.q (Q1.move rfl) rfl rfl ?_
  refine OL.qb (Q1.ge rfl rfl) rfl rfl ?_
  intro b1 hb1
  refine OL.q (Q1.move rfl) rfl rfl ?_
  cases b1 with
  | true =>
    replace hb1 := of_decide_eq_true hb1.symm
    refine OL.q (Q1.move rfl) rfl rfl ?_
    refine OL.q (Q1.move rfl) rfl rfl ?_
    refine OL.qb (Q1.le rfl rfl) rfl rfl ?_
    intro b2 hb2
    refine OL.q (Q1.pick_t rfl rfl) rfl rfl ?_
    refine OL.q (Q1.assign rfl) rfl rfl ?_
    refine OL.nil ?_
    refine r_ret1 Tryz.func36 rfl rfl ?_
    exact Ret.mk ⟨⟨_, (by first | simp only [Ml.within, *]; simp | (exfalso; omega)), rfl⟩, hE0⟩
  | false =>
    replace hb1 := of_decide_eq_false hb1.symm
    refine OL.sk rfl rfl ?_
    refine OL.sk rfl rfl ?_
    refine OL.sk rfl rfl ?_
    refine OL.q (Q1.pick_f rfl rfl) rfl rfl ?_
    refine OL.q (Q1.assign rfl) rfl rfl ?_
    refine OL.nil ?_
    refine r_ret1 Tryz.func36 rfl rfl ?_
    exact Ret.mk ⟨⟨_, (by first | simp only [Ml.within, *]; simp | (exfalso; omega)), rfl⟩, hE0⟩
set_option maxRecDepth 20000 in
set_option maxHeartbeats 4000000 in
theorem may_c {w0 : World}  {c : Cfg} {v_c_words : Value} {v_c_cuts : Value} (h_c_words : Sl encS w0 (Iv 0 w0.heap.size) v_c_words c.words) (h_c_cuts : Sl encKey w0 (Iv 0 w0.heap.size) v_c_cuts c.cuts) (h_c : Cfg.Ok c) :
    Calls Tryz.prog 23 #[.agg #[v_c_words, v_c_cuts, .int .i64 c.workers, .int .i64 c.copies, .int .i64 c.slots, .int .i64 c.batch, .int .i64 c.lease, .int .i64 c.hedge, .int .i64 c.first, .int .i64 c.cap, .int .i64 c.jitter, .int .i64 c.net]] w0 (Ret fun rv w1 => (∃ rb : Bool, rb = (Ml.may c) ∧ rv = .bool rb) ∧ Ext w0 w1) := by
  have hE0 : Ext w0 w0 := Mod.refl _ _
  have hle1 := h_c_words.le
  have hle2 := h_c_cuts.le
  have hc1 := h_c.workers
  have hc2 := h_c.copies
  have hc3 := h_c.slots
  have hc4 := h_c.batch
  have hc5 := h_c.lease
  have hc6 := h_c.hedge
  have hc7 := h_c.first
  have hc8 := h_c.cap
  have hc9 := h_c.jitter
  have hc10 := h_c.net
  refine calls_enter Tryz.func23 rfl Tryz.ntmps23 rfl ?_
  refine r_seq ?_
  refine r_region ?_
  refine OL.act rfl rfl (AW.box [v_c_words, v_c_cuts, .int .i64 c.workers, .int .i64 c.copies, .int .i64 c.slots, .int .i64 c.batch, .int .i64 c.lease, .int .i64 c.hedge, .int .i64 c.first, .int .i64 c.cap, .int .i64 c.jitter, .int .i64 c.net] rfl rfl ?_)
  intro w1 b1 hm1 hb1 hz1 hk1
  have f1 := h_c_words.ext hm1
  have f2 := h_c_cuts.ext hm1
  have hE1 := hE0.ext hm1
  have hs1 := hm1.size
  refine OL.q (Q1.assign rfl) rfl rfl ?_
  refine OL.nil ?_
  refine r_seq ?_
  refine r_seq ?_
  refine r_region ?_
  refine OL.q (Q1.fieldAddr fl25_0 rfl) rfl rfl ?_
  refine OL.q (Q1.load1 ti22 rfl (fun _ e => e ▸ (hk1.cell 0 _ rfl))) rfl rfl ?_
  refine OL.act rfl rfl (AW.callF cl34 rfl (lgood_c (w0 := w1) (words := c.words)  ((f1).iv (Nat.zero_le _) (by omega)) (by exact h_c.words)) ?_)
  rintro _ w2 ⟨rfl, hm2⟩
  have f3 := f1.ext hm2
  have f4 := f2.ext hm2
  have f5 := hk1.ext hm2
  have hE2 := hE1.ext hm2
  have hs2 := hm2.size
  have := Ml.goodL_range c.words
  refine OL.qb (Q1.ne rfl rfl) rfl rfl ?_
  intro b2 hb2
  refine OL.q (Q1.move rfl) rfl rfl ?_
  cases b2 with
  | true =>
    replace hb2 := bne_iff_ne.1 hb2.symm
    refine OL.sk rfl rfl ?_
    refine OL.sk rfl rfl ?_
    refine OL.sk rfl rfl ?_
    refine OL.sk rfl rfl ?_
    refine OL.q (Q1.pick_t rfl rfl) rfl rfl ?_
    refine OL.nil ?_
    refine r_cond_t rfl ?_
    refine r_seq ?_
    refine r_region ?_
    refine OL.q (Q1.assign rfl) rfl rfl ?_
    refine OL.nil ?_
    refine r_ret1 Tryz.func23 rfl rfl ?_
    exact Ret.mk ⟨⟨_, (by first | simp [Ml.may, *] | (exfalso; omega)), rfl⟩, hE2⟩
  | false =>
    replace hb2 := bne_eq_false_iff_eq.1 hb2.symm
    refine OL.q (Q1.fieldAddr fl25_1 rfl) rfl rfl ?_
    refine OL.q (Q1.load1 ti23 rfl (fun _ e => e ▸ (f5.cell 1 _ rfl))) rfl rfl ?_
    refine OL.act rfl rfl (AW.callF cl35 rfl (pgood_c (w0 := w2) (cuts := c.cuts)  ((f4).iv (Nat.zero_le _) (by omega)) (by exact fun k hk => (h_c.cuts k hk).2)) ?_)
    rintro _ w3 ⟨rfl, hm3⟩
    have f6 := f3.ext hm3
    have f7 := f4.ext hm3
    have f8 := f5.ext hm3
    have hE3 := hE2.ext hm3
    have hs3 := hm3.size
    refine OL.qb (Q1.ne rfl rfl) rfl rfl ?_
    intro b3 hb3
    refine OL.q (Q1.pick_f rfl rfl) rfl rfl ?_
    refine OL.nil ?_
    cases b3 with
    | true =>
      replace hb3 := bne_iff_ne.1 hb3.symm
      refine r_cond_t rfl ?_
      refine r_seq ?_
      refine r_region ?_
      refine OL.q (Q1.assign rfl) rfl rfl ?_
      refine OL.nil ?_
      refine r_ret1 Tryz.func23 rfl rfl ?_
      exact Ret.mk ⟨⟨_, (by first | simp [Ml.may, *] | (exfalso; omega)), rfl⟩, hE3⟩
    | false =>
      replace hb3 := bne_eq_false_iff_eq.1 hb3.symm
      refine r_cond_f rfl ?_
      refine r_skip ?_
      refine r_seq ?_
      refine r_join (J := fun E W => ∃ (q3 : Bool), E = [(1, ptr b1 0), (3, .bool q3)] ∧ Ext w3 W ∧ (q3 = Ml.nodesM c)) ?_ ?_
      · rintro _ w4 ⟨q3, rfl, hm4, hj1⟩
        have f9 := f8.ext hm4
        have f10 := f6.ext hm4
        have f11 := f7.ext hm4
        have hE4 := hE3.ext hm4
        have hs4 := hm4.size
        refine r_seq ?_
        refine r_join (J := fun E W => ∃ (q4 : Bool), E = [(1, ptr b1 0), (3, .bool q3), (4, .bool q4)] ∧ Ext w4 W ∧ (q4 = Ml.sizesM c)) ?_ ?_
        · rintro _ w5 ⟨q4, rfl, hm5, hj2⟩
          have f12 := f9.ext hm5
          have f13 := f10.ext hm5
          have f14 := f11.ext hm5
          have hE5 := hE4.ext hm5
          have hs5 := hm5.size
          refine r_seq ?_
          refine r_join (J := fun E W => ∃ (q5 : Bool), E = [(3, .bool q3), (4, .bool q4), (5, .bool q5)] ∧ Ext w5 W ∧ (q5 = Ml.timesM c)) ?_ ?_
          · rintro _ w6 ⟨q5, rfl, hm6, hj3⟩
            have hE6 := hE5.ext hm6
            have hs6 := hm6.size
            refine r_seq ?_
            refine r_region ?_
            refine OL.q (Q1.move rfl) rfl rfl ?_
            refine OL.q (Q1.move rfl) rfl rfl ?_
            cases q3 with
            | true =>
              replace hj1 := hj1.symm
              refine OL.q (Q1.move rfl) rfl rfl ?_
              refine OL.q (Q1.pick_t rfl rfl) rfl rfl ?_
              refine OL.q (Q1.move rfl) rfl rfl ?_
              cases q4 with
              | true =>
                replace hj2 := hj2.symm
                refine OL.q (Q1.move rfl) rfl rfl ?_
                refine OL.q (Q1.pick_t rfl rfl) rfl rfl ?_
                refine OL.q (Q1.assign rfl) rfl rfl ?_
                refine OL.nil ?_
                refine r_ret1 Tryz.func23 rfl rfl ?_
                exact Ret.mk ⟨⟨_, (by first | simp [Ml.may, *] | (exfalso; omega)), rfl⟩, hE6⟩
              | false =>
                replace hj2 := hj2.symm
                refine OL.sk rfl rfl ?_
                refine OL.q (Q1.pick_f rfl rfl) rfl rfl ?_
                refine OL.q (Q1.assign rfl) rfl rfl ?_
                refine OL.nil ?_
                refine r_ret1 Tryz.func23 rfl rfl ?_
                exact Ret.mk ⟨⟨_, (by first | simp [Ml.may, *] | (exfalso; omega)), rfl⟩, hE6⟩
            | false =>
              replace hj1 := hj1.symm
              refine OL.sk rfl rfl ?_
              refine OL.q (Q1.pick_f rfl rfl) rfl rfl ?_
              refine OL.q (Q1.move rfl) rfl rfl ?_
              refine OL.sk rfl rfl ?_
              refine OL.q (Q1.pick_f rfl rfl) rfl rfl ?_
              refine OL.q (Q1.assign rfl) rfl rfl ?_
              refine OL.nil ?_
              refine r_ret1 Tryz.func23 rfl rfl ?_
              exact Ret.mk ⟨⟨_, (by first | simp [Ml.may, *] | (exfalso; omega)), rfl⟩, hE6⟩
          · intro hJ3
            have hj01 : Ext w5 w5 := Mod.refl _ _
            refine r_region ?_
            refine OL.q (Q1.fieldAddr fl25_6 rfl) rfl rfl ?_
            refine OL.q (Q1.load1 ti3 rfl (fun _ e => e ▸ (f12.cell 6 _ rfl))) rfl rfl ?_
            refine OL.act rfl rfl (AW.callF cl36 rfl (within_c (w0 := w5)  (c.lease) (1) (1000) (by first | omega | assumption) (by first | omega | assumption) (by first | omega | assumption)) ?_)
            rintro _ w7 ⟨⟨b4, hb4, rfl⟩, hm7⟩
            have f15 := f12.ext hm7
            have f16 := f13.ext hm7
            have f17 := f14.ext hm7
            have hE6 := hE5.ext hm7
            have hb5 := hj01.ext hm7
            have hs6 := hm7.size
            refine OL.q (Q1.move rfl) rfl rfl ?_
            cases b4 with
            | true =>
              replace hb4 := hb4.symm
              have := Ml.within_true hb4
              refine OL.q (Q1.fieldAddr fl25_7 rfl) rfl rfl ?_
              refine OL.q (Q1.load1 ti3 rfl (fun _ e => e ▸ (f15.cell 7 _ rfl))) rfl rfl ?_
              refine OL.act rfl rfl (AW.callF cl36 rfl (within_c (w0 := w7)  (c.hedge) (1) (1000) (by first | omega | assumption) (by first | omega | assumption) (by first | omega | assumption)) ?_)
              rintro _ w8 ⟨⟨b5, hb6, rfl⟩, hm8⟩
              have f18 := f15.ext hm8
              have f19 := f16.ext hm8
              have f20 := f17.ext hm8
              have hE7 := hE6.ext hm8
              have hb7 := hb5.ext hm8
              have hs7 := hm8.size
              refine OL.q (Q1.pick_t rfl rfl) rfl rfl ?_
              refine OL.q (Q1.move rfl) rfl rfl ?_
              cases b5 with
              | true =>
                replace hb6 := hb6.symm
                have := Ml.within_true hb6
                refine OL.q (Q1.fieldAddr fl25_8 rfl) rfl rfl ?_
                refine OL.q (Q1.load1 ti3 rfl (fun _ e => e ▸ (f18.cell 8 _ rfl))) rfl rfl ?_
                refine OL.act rfl rfl (AW.callF cl36 rfl (within_c (w0 := w8)  (c.first) (1) (10) (by first | omega | assumption) (by first | omega | assumption) (by first | omega | assumption)) ?_)
                rintro _ w9 ⟨⟨b6, hb8, rfl⟩, hm9⟩
                have f21 := f18.ext hm9
                have f22 := f19.ext hm9
                have f23 := f20.ext hm9
                have hE8 := hE7.ext hm9
                have hb9 := hb7.ext hm9
                have hs8 := hm9.size
                refine OL.q (Q1.pick_t rfl rfl) rfl rfl ?_
                refine OL.q (Q1.move rfl) rfl rfl ?_
                cases b6 with
                | true =>
                  replace hb8 := hb8.symm
                  have := Ml.within_true hb8
                  refine OL.q (Q1.fieldAddr fl25_9 rfl) rfl rfl ?_
                  refine OL.q (Q1.load1 ti3 rfl (fun _ e => e ▸ (f21.cell 9 _ rfl))) rfl rfl ?_
                  refine OL.q (Q1.fieldAddr fl25_8 rfl) rfl rfl ?_
                  refine OL.q (Q1.load1 ti3 rfl (fun _ e => e ▸ (f21.cell 8 _ rfl))) rfl rfl ?_
                  refine OL.act rfl rfl (AW.callF cl36 rfl (within_c (w0 := w9)  (c.cap) (c.first) (50) (by first | omega | assumption) (by first | omega | assumption) (by first | omega | assumption)) ?_)
                  rintro _ w10 ⟨⟨b7, hb10, rfl⟩, hm10⟩
                  have f24 := f21.ext hm10
                  have f25 := f22.ext hm10
                  have f26 := f23.ext hm10
                  have hE9 := hE8.ext hm10
                  have hb11 := hb9.ext hm10
                  have hs9 := hm10.size
                  refine OL.q (Q1.pick_t rfl rfl) rfl rfl ?_
                  refine OL.q (Q1.move rfl) rfl rfl ?_
                  cases b7 with
                  | true =>
                    replace hb10 := hb10.symm
                    have := Ml.within_true hb10
                    refine OL.q (Q1.fieldAddr fl25_10 rfl) rfl rfl ?_
                    refine OL.q (Q1.load1 ti3 rfl (fun _ e => e ▸ (f24.cell 10 _ rfl))) rfl rfl ?_
                    refine OL.act rfl rfl (AW.callF cl36 rfl (within_c (w0 := w10)  (c.jitter) (0) (10) (by first | omega | assumption) (by first | omega | assumption) (by first | omega | assumption)) ?_)
                    rintro _ w11 ⟨⟨b8, hb12, rfl⟩, hm11⟩
                    have f27 := f24.ext hm11
                    have f28 := f25.ext hm11
                    have f29 := f26.ext hm11
                    have hE10 := hE9.ext hm11
                    have hb13 := hb11.ext hm11
                    have hs10 := hm11.size
                    refine OL.q (Q1.pick_t rfl rfl) rfl rfl ?_
                    refine OL.q (Q1.assign rfl) rfl rfl ?_
                    refine OL.nil ?_
                    exact (hJ3 _ _ ⟨b8, rfl, hb13, (by simp only [Ml.timesM]; simp only [*, Bool.and_true, Bool.and_false, Bool.true_and, Bool.false_and])⟩).sub ⟨rfl, rfl, rfl, trivial⟩
                  | false =>
                    replace hb10 := hb10.symm
                    have := Ml.within_false hb10
                    refine OL.sk rfl rfl ?_
                    refine OL.sk rfl rfl ?_
                    refine OL.sk rfl rfl ?_
                    refine OL.q (Q1.pick_f rfl rfl) rfl rfl ?_
                    refine OL.q (Q1.assign rfl) rfl rfl ?_
                    refine OL.nil ?_
                    exact (hJ3 _ _ ⟨false, rfl, hb11, (by simp only [Ml.timesM]; simp only [*, Bool.and_true, Bool.and_false, Bool.true_and, Bool.false_and])⟩).sub ⟨rfl, rfl, rfl, trivial⟩
                | false =>
                  replace hb8 := hb8.symm
                  have := Ml.within_false hb8
                  refine OL.sk rfl rfl ?_
                  refine OL.sk rfl rfl ?_
                  refine OL.sk rfl rfl ?_
                  refine OL.sk rfl rfl ?_
                  refine OL.sk rfl rfl ?_
                  refine OL.q (Q1.pick_f rfl rfl) rfl rfl ?_
                  refine OL.q (Q1.move rfl) rfl rfl ?_
                  refine OL.sk rfl rfl ?_
                  refine OL.sk rfl rfl ?_
                  refine OL.sk rfl rfl ?_
                  refine OL.q (Q1.pick_f rfl rfl) rfl rfl ?_
                  refine OL.q (Q1.assign rfl) rfl rfl ?_
                  refine OL.nil ?_
                  exact (hJ3 _ _ ⟨false, rfl, hb9, (by simp only [Ml.timesM]; simp only [*, Bool.and_true, Bool.and_false, Bool.true_and, Bool.false_and])⟩).sub ⟨rfl, rfl, rfl, trivial⟩
              | false =>
                replace hb6 := hb6.symm
                have := Ml.within_false hb6
                refine OL.sk rfl rfl ?_
                refine OL.sk rfl rfl ?_
                refine OL.sk rfl rfl ?_
                refine OL.q (Q1.pick_f rfl rfl) rfl rfl ?_
                refine OL.q (Q1.move rfl) rfl rfl ?_
                refine OL.sk rfl rfl ?_
                refine OL.sk rfl rfl ?_
                refine OL.sk rfl rfl ?_
                refine OL.sk rfl rfl ?_
                refine OL.sk rfl rfl ?_
                refine OL.q (Q1.pick_f rfl rfl) rfl rfl ?_
                refine OL.q (Q1.move rfl) rfl rfl ?_
                refine OL.sk rfl rfl ?_
                refine OL.sk rfl rfl ?_
                refine OL.sk rfl rfl ?_
                refine OL.q (Q1.pick_f rfl rfl) rfl rfl ?_
                refine OL.q (Q1.assign rfl) rfl rfl ?_
                refine OL.nil ?_
                exact (hJ3 _ _ ⟨false, rfl, hb7, (by simp only [Ml.timesM]; simp only [*, Bool.and_true, Bool.and_false, Bool.true_and, Bool.false_and])⟩).sub ⟨rfl, rfl, rfl, trivial⟩
            | false =>
              replace hb4 := hb4.symm
              have := Ml.within_false hb4
              refine OL.sk rfl rfl ?_
              refine OL.sk rfl rfl ?_
              refine OL.sk rfl rfl ?_
              refine OL.q (Q1.pick_f rfl rfl) rfl rfl ?_
              refine OL.q (Q1.move rfl) rfl rfl ?_
              refine OL.sk rfl rfl ?_
              refine OL.sk rfl rfl ?_
              refine OL.sk rfl rfl ?_
              refine OL.q (Q1.pick_f rfl rfl) rfl rfl ?_
              refine OL.q (Q1.move rfl) rfl rfl ?_
              refine OL.sk rfl rfl ?_
              refine OL.sk rfl rfl ?_
              refine OL.sk rfl rfl ?_
              refine OL.sk rfl rfl ?_
              refine OL.sk rfl rfl ?_
              refine OL.q (Q1.pick_f rfl rfl) rfl rfl ?_
              refine OL.q (Q1.move rfl) rfl rfl ?_
              refine OL.sk rfl rfl ?_
              refine OL.sk rfl rfl ?_
              refine OL.sk rfl rfl ?_
              refine OL.q (Q1.pick_f rfl rfl) rfl rfl ?_
              refine OL.q (Q1.assign rfl) rfl rfl ?_
              refine OL.nil ?_
              exact (hJ3 _ _ ⟨false, rfl, hb5, (by simp only [Ml.timesM]; simp only [*, Bool.and_true, Bool.and_false, Bool.true_and, Bool.false_and])⟩).sub ⟨rfl, rfl, rfl, trivial⟩
        · intro hJ2
          have hj01 : Ext w4 w4 := Mod.refl _ _
          refine r_region ?_
          refine OL.q (Q1.fieldAddr fl25_4 rfl) rfl rfl ?_
          refine OL.q (Q1.load1 ti3 rfl (fun _ e => e ▸ (f9.cell 4 _ rfl))) rfl rfl ?_
          refine OL.act rfl rfl (AW.callF cl36 rfl (within_c (w0 := w4)  (c.slots) (1) (4) (by first | omega | assumption) (by first | omega | assumption) (by first | omega | assumption)) ?_)
          rintro _ w6 ⟨⟨b4, hb4, rfl⟩, hm6⟩
          have f12 := f9.ext hm6
          have f13 := f10.ext hm6
          have f14 := f11.ext hm6
          have hE5 := hE4.ext hm6
          have hb5 := hj01.ext hm6
          have hs5 := hm6.size
          refine OL.q (Q1.move rfl) rfl rfl ?_
          cases b4 with
          | true =>
            replace hb4 := hb4.symm
            have := Ml.within_true hb4
            refine OL.q (Q1.fieldAddr fl25_5 rfl) rfl rfl ?_
            refine OL.q (Q1.load1 ti3 rfl (fun _ e => e ▸ (f12.cell 5 _ rfl))) rfl rfl ?_
            refine OL.act rfl rfl (AW.callF cl36 rfl (within_c (w0 := w6)  (c.batch) (1) (5) (by first | omega | assumption) (by first | omega | assumption) (by first | omega | assumption)) ?_)
            rintro _ w7 ⟨⟨b5, hb6, rfl⟩, hm7⟩
            have f15 := f12.ext hm7
            have f16 := f13.ext hm7
            have f17 := f14.ext hm7
            have hE6 := hE5.ext hm7
            have hb7 := hb5.ext hm7
            have hs6 := hm7.size
            refine OL.q (Q1.pick_t rfl rfl) rfl rfl ?_
            refine OL.q (Q1.move rfl) rfl rfl ?_
            cases b5 with
            | true =>
              replace hb6 := hb6.symm
              have := Ml.within_true hb6
              refine OL.q (Q1.fieldAddr fl25_11 rfl) rfl rfl ?_
              refine OL.q (Q1.load1 ti3 rfl (fun _ e => e ▸ (f15.cell 11 _ rfl))) rfl rfl ?_
              refine OL.act rfl rfl (AW.callF cl36 rfl (within_c (w0 := w7)  (c.net) (8) (64) (by first | omega | assumption) (by first | omega | assumption) (by first | omega | assumption)) ?_)
              rintro _ w8 ⟨⟨b6, hb8, rfl⟩, hm8⟩
              have f18 := f15.ext hm8
              have f19 := f16.ext hm8
              have f20 := f17.ext hm8
              have hE7 := hE6.ext hm8
              have hb9 := hb7.ext hm8
              have hs7 := hm8.size
              refine OL.q (Q1.pick_t rfl rfl) rfl rfl ?_
              refine OL.q (Q1.assign rfl) rfl rfl ?_
              refine OL.nil ?_
              exact (hJ2 _ _ ⟨b6, rfl, hb9, (by simp only [Ml.sizesM]; simp only [*, Bool.and_true, Bool.and_false, Bool.true_and, Bool.false_and])⟩).sub ⟨rfl, rfl, rfl, trivial⟩
            | false =>
              replace hb6 := hb6.symm
              have := Ml.within_false hb6
              refine OL.sk rfl rfl ?_
              refine OL.sk rfl rfl ?_
              refine OL.sk rfl rfl ?_
              refine OL.q (Q1.pick_f rfl rfl) rfl rfl ?_
              refine OL.q (Q1.assign rfl) rfl rfl ?_
              refine OL.nil ?_
              exact (hJ2 _ _ ⟨false, rfl, hb7, (by simp only [Ml.sizesM]; simp only [*, Bool.and_true, Bool.and_false, Bool.true_and, Bool.false_and])⟩).sub ⟨rfl, rfl, rfl, trivial⟩
          | false =>
            replace hb4 := hb4.symm
            have := Ml.within_false hb4
            refine OL.sk rfl rfl ?_
            refine OL.sk rfl rfl ?_
            refine OL.sk rfl rfl ?_
            refine OL.q (Q1.pick_f rfl rfl) rfl rfl ?_
            refine OL.q (Q1.move rfl) rfl rfl ?_
            refine OL.sk rfl rfl ?_
            refine OL.sk rfl rfl ?_
            refine OL.sk rfl rfl ?_
            refine OL.q (Q1.pick_f rfl rfl) rfl rfl ?_
            refine OL.q (Q1.assign rfl) rfl rfl ?_
            refine OL.nil ?_
            exact (hJ2 _ _ ⟨false, rfl, hb5, (by simp only [Ml.sizesM]; simp only [*, Bool.and_true, Bool.and_false, Bool.true_and, Bool.false_and])⟩).sub ⟨rfl, rfl, rfl, trivial⟩
      · intro hJ1
        have hj01 : Ext w3 w3 := Mod.refl _ _
        refine r_region ?_
        refine OL.q (Q1.fieldAddr fl25_2 rfl) rfl rfl ?_
        refine OL.q (Q1.load1 ti3 rfl (fun _ e => e ▸ (f8.cell 2 _ rfl))) rfl rfl ?_
        refine OL.act rfl rfl (AW.callF cl36 rfl (within_c (w0 := w3)  (c.workers) (1) (5) (by first | omega | assumption) (by first | omega | assumption) (by first | omega | assumption)) ?_)
        rintro _ w5 ⟨⟨b4, hb4, rfl⟩, hm5⟩
        have f9 := f6.ext hm5
        have f10 := f7.ext hm5
        have f11 := f8.ext hm5
        have hE4 := hE3.ext hm5
        have hb5 := hj01.ext hm5
        have hs4 := hm5.size
        refine OL.q (Q1.move rfl) rfl rfl ?_
        cases b4 with
        | true =>
          replace hb4 := hb4.symm
          have := Ml.within_true hb4
          refine OL.q (Q1.fieldAddr fl25_3 rfl) rfl rfl ?_
          refine OL.q (Q1.load1 ti3 rfl (fun _ e => e ▸ (f11.cell 3 _ rfl))) rfl rfl ?_
          refine OL.q (Q1.fieldAddr fl25_2 rfl) rfl rfl ?_
          refine OL.q (Q1.load1 ti3 rfl (fun _ e => e ▸ (f11.cell 2 _ rfl))) rfl rfl ?_
          refine OL.q (Q1.min rfl rfl) rfl rfl ?_
          refine OL.act rfl rfl (AW.callF cl36 rfl (within_c (w0 := w5)  (c.copies) (1) ((min 3 c.workers)) (by first | omega | assumption) (by first | omega | assumption) (by first | omega | assumption)) ?_)
          rintro _ w6 ⟨⟨b5, hb6, rfl⟩, hm6⟩
          have f12 := f9.ext hm6
          have f13 := f10.ext hm6
          have f14 := f11.ext hm6
          have hE5 := hE4.ext hm6
          have hb7 := hb5.ext hm6
          have hs5 := hm6.size
          refine OL.q (Q1.pick_t rfl rfl) rfl rfl ?_
          refine OL.q (Q1.assign rfl) rfl rfl ?_
          refine OL.nil ?_
          exact (hJ1 _ _ ⟨b5, rfl, hb7, (by simp only [Ml.nodesM]; simp only [*, Bool.and_true, Bool.and_false, Bool.true_and, Bool.false_and])⟩).sub ⟨rfl, rfl, trivial⟩
        | false =>
          replace hb4 := hb4.symm
          have := Ml.within_false hb4
          refine OL.sk rfl rfl ?_
          refine OL.sk rfl rfl ?_
          refine OL.sk rfl rfl ?_
          refine OL.sk rfl rfl ?_
          refine OL.sk rfl rfl ?_
          refine OL.sk rfl rfl ?_
          refine OL.q (Q1.pick_f rfl rfl) rfl rfl ?_
          refine OL.q (Q1.assign rfl) rfl rfl ?_
          refine OL.nil ?_
          exact (hJ1 _ _ ⟨false, rfl, hb5, (by simp only [Ml.nodesM]; simp only [*, Bool.and_true, Bool.and_false, Bool.true_and, Bool.false_and])⟩).sub ⟨rfl, rfl, trivial⟩
set_option maxRecDepth 20000 in
set_option maxHeartbeats 4000000 in
theorem shards_c {w0 : World}  {c : Cfg} {v_c_words : Value} {v_c_cuts : Value} (h_c_words : Sl encS w0 (Iv 0 w0.heap.size) v_c_words c.words) (h_c_cuts : Sl encKey w0 (Iv 0 w0.heap.size) v_c_cuts c.cuts) (h_c : Cfg.Ok c) :
    Calls Tryz.prog 37 #[.agg #[v_c_words, v_c_cuts, .int .i64 c.workers, .int .i64 c.copies, .int .i64 c.slots, .int .i64 c.batch, .int .i64 c.lease, .int .i64 c.hedge, .int .i64 c.first, .int .i64 c.cap, .int .i64 c.jitter, .int .i64 c.net]] w0 (Ret fun rv w1 => rv = .int .i64 (((Ml.shards c : Nat) : Int)) ∧ Ext w0 w1) := by
  have hE0 : Ext w0 w0 := Mod.refl _ _
  have hle1 := h_c_words.le
  have hle2 := h_c_cuts.le
  refine calls_enter Tryz.func37 rfl Tryz.ntmps37 rfl ?_
  refine r_seq ?_
  refine r_region ?_
  refine OL.act rfl rfl (AW.box [v_c_words, v_c_cuts, .int .i64 c.workers, .int .i64 c.copies, .int .i64 c.slots, .int .i64 c.batch, .int .i64 c.lease, .int .i64 c.hedge, .int .i64 c.first, .int .i64 c.cap, .int .i64 c.jitter, .int .i64 c.net] rfl rfl ?_)
  intro w1 b1 hm1 hb1 hz1 hk1
  have f1 := h_c_words.ext hm1
  have f2 := h_c_cuts.ext hm1
  have hE1 := hE0.ext hm1
  have hs1 := hm1.size
  refine OL.q (Q1.assign rfl) rfl rfl ?_
  refine OL.nil ?_
  refine r_seq ?_
  refine r_seq ?_
  refine r_region ?_
  refine OL.q (Q1.loadN ti25 rfl (fun _ e => e ▸ hk1.row) rfl) rfl rfl ?_
  refine OL.act rfl rfl (AW.callF cl23 rfl (may_c (w0 := w1) (c := c)  ((f1).iv (Nat.zero_le _) (by omega)) ((f2).iv (Nat.zero_le _) (by omega)) (by first | assumption | exact Ml.Cfg.ok_of (by decide +kernel))) ?_)
  rintro _ w2 ⟨⟨b2, hb2, rfl⟩, hm2⟩
  have f3 := f1.ext hm2
  have f4 := f2.ext hm2
  have f5 := hk1.ext hm2
  have hE2 := hE1.ext hm2
  have hs2 := hm2.size
  cases b2 with
  | true =>
    replace hb2 := hb2.symm
    have := Ml.may_bounds hb2
    refine OL.q (Q1.not rfl) rfl rfl ?_
    refine OL.nil ?_
    refine r_cond_f rfl ?_
    refine r_skip ?_
    refine r_seq ?_
    refine r_region ?_
    refine OL.q (Q1.fieldAddr fl25_1 rfl) rfl rfl ?_
    refine OL.q (Q1.load1 ti23 rfl (fun _ e => e ▸ (f5.cell 1 _ rfl))) rfl rfl ?_
    refine OL.q (Q1.lenSl Tryz.underlying23 (f4) rfl) rfl rfl ?_
    refine OL.q (Q1.addI (((c.cuts.length + 1 : Nat) : Int)) rfl rfl (by omega)) rfl rfl ?_
    refine OL.q (Q1.assign rfl) rfl rfl ?_
    refine OL.nil ?_
    refine r_ret1 Tryz.func37 rfl rfl ?_
    exact Ret.mk ⟨(congrArg (Value.int .i64) (by first | simp only [Ml.shards, *]; rfl | (exfalso; omega))), hE2⟩
  | false =>
    replace hb2 := hb2.symm
    refine OL.q (Q1.not rfl) rfl rfl ?_
    refine OL.nil ?_
    refine r_cond_t rfl ?_
    refine r_seq ?_
    refine r_region ?_
    refine OL.q (Q1.assign rfl) rfl rfl ?_
    refine OL.nil ?_
    refine r_ret1 Tryz.func37 rfl rfl ?_
    exact Ret.mk ⟨(congrArg (Value.int .i64) (by first | simp only [Ml.shards, *]; rfl | (exfalso; omega))), hE2⟩
set_option maxRecDepth 20000 in
set_option maxHeartbeats 4000000 in
theorem copies_c {w0 : World}  {c : Cfg} {v_c_words : Value} {v_c_cuts : Value} (shard : Int) (h_c_words : Sl encS w0 (Iv 0 w0.heap.size) v_c_words c.words) (h_c_cuts : Sl encKey w0 (Iv 0 w0.heap.size) v_c_cuts c.cuts) (h_c : Cfg.Ok c) (h_shard : I64 shard) :
    Calls Tryz.prog 39 #[.agg #[v_c_words, v_c_cuts, .int .i64 c.workers, .int .i64 c.copies, .int .i64 c.slots, .int .i64 c.batch, .int .i64 c.lease, .int .i64 c.hedge, .int .i64 c.first, .int .i64 c.cap, .int .i64 c.jitter, .int .i64 c.net], .int .i64 shard] w0 (Ret fun rv w1 => (∃ gr, Acc Ik.encI 3 1 w1 gr rv (Ml.copiesM c shard) ∧ (gr = 0 ∨ w0.heap.size < gr)) ∧ Ext w0 w1) := by
  have hE0 : Ext w0 w0 := Mod.refl _ _
  have hle1 := h_c_words.le
  have hle2 := h_c_cuts.le
  have hc1 := h_c.workers
  have hc2 := h_c.copies
  have hc3 := h_c.slots
  have hc4 := h_c.batch
  have hc5 := h_c.lease
  have hc6 := h_c.hedge
  have hc7 := h_c.first
  have hc8 := h_c.cap
  have hc9 := h_c.jitter
  have hc10 := h_c.net
  refine calls_enter Tryz.func39 rfl Tryz.ntmps39 rfl ?_
  refine r_seq ?_
  refine r_region ?_
  refine OL.act rfl rfl (AW.box [v_c_words, v_c_cuts, .int .i64 c.workers, .int .i64 c.copies, .int .i64 c.slots, .int .i64 c.batch, .int .i64 c.lease, .int .i64 c.hedge, .int .i64 c.first, .int .i64 c.cap, .int .i64 c.jitter, .int .i64 c.net] rfl rfl ?_)
  intro w1 b1 hm1 hb1 hz1 hk1
  have f1 := h_c_words.ext hm1
  have f2 := h_c_cuts.ext hm1
  have hE1 := hE0.ext hm1
  have hs1 := hm1.size
  refine OL.q (Q1.assign rfl) rfl rfl ?_
  refine OL.nil ?_
  refine r_seq ?_
  refine r_seq ?_
  refine r_region ?_
  refine OL.q (Q1.move rfl) rfl rfl ?_
  refine OL.q (Q1.loadN ti25 rfl (fun _ e => e ▸ hk1.row) rfl) rfl rfl ?_
  refine OL.act rfl rfl (AW.callF cl37 rfl (shards_c (w0 := w1) (c := c)  ((f1).iv (Nat.zero_le _) (by omega)) ((f2).iv (Nat.zero_le _) (by omega)) (by first | assumption | exact Ml.Cfg.ok_of (by decide +kernel))) ?_)
  rintro _ w2 ⟨rfl, hm2⟩
  have f3 := f1.ext hm2
  have f4 := f2.ext hm2
  have f5 := hk1.ext hm2
  have hE2 := hE1.ext hm2
  have hs2 := hm2.size
  have := Ml.shards_le c
  refine OL.q (Q1.subI (((((Ml.shards c : Nat) : Int)) - 1)) rfl rfl (by omega)) rfl rfl ?_
  refine OL.act rfl rfl (AW.callF cl36 rfl (within_c (w0 := w2)  (shard) (0) (((((Ml.shards c : Nat) : Int)) - 1)) (by first | omega | assumption) (by first | omega | assumption) (by first | omega | assumption)) ?_)
  rintro _ w3 ⟨⟨b2, hb2, rfl⟩, hm3⟩
  have f6 := f3.ext hm3
  have f7 := f4.ext hm3
  have f8 := f5.ext hm3
  have hE3 := hE2.ext hm3
  have hs3 := hm3.size
  cases b2 with
  | true =>
    replace hb2 := hb2.symm
    have := Ml.within_true hb2
    refine OL.q (Q1.not rfl) rfl rfl ?_
    refine OL.nil ?_
    refine r_cond_f rfl ?_
    refine r_skip ?_
    refine r_seq ?_
    refine r_region ?_
    refine OL.q (Q1.assign rfl) rfl rfl ?_
    refine OL.nil ?_
    refine r_seq ?_
    refine r_seq ?_
    refine r_region ?_
    refine OL.q (Q1.fieldAddr fl25_3 rfl) rfl rfl ?_
    refine OL.q (Q1.load1 ti3 rfl (fun _ e => e ▸ (f8.cell 3 _ rfl))) rfl rfl ?_
    refine OL.q (Q1.move rfl) rfl rfl ?_
    refine OL.nil ?_
    refine r_block ?_
    refine r_loop (I := fun m E W => ∃ (v_l : Value) (g_l : Nat) (l : List Int) (j : Nat), E = [(1, .int .i64 shard), (2, ptr b1 0), (5, v_l), (14, .int .i64 c.copies), (15, .int .i64 (((j : Nat) : Int)))] ∧ m = c.copies.toNat - j ∧ Ext w0 W ∧ w3.heap.size ≤ W.heap.size ∧ Acc Ik.encI 3 1 W g_l v_l l ∧ (g_l = 0 ∨ w0.heap.size < g_l) ∧ Bk W b1 [v_c_words, v_c_cuts, .int .i64 c.workers, .int .i64 c.copies, .int .i64 c.slots, .int .i64 c.batch, .int .i64 c.lease, .int .i64 c.hedge, .int .i64 c.first, .int .i64 c.cap, .int .i64 c.jitter, .int .i64 c.net] 25 ∧ Sl encS W (Iv 0 w0.heap.size) v_c_words c.words ∧ Sl encKey W (Iv 0 w0.heap.size) v_c_cuts c.cuts ∧ b1 + 1 ≠ g_l ∧ (l = (List.range j).map (fun j : Nat => 1 + (shard + (j : Int)) % c.workers)) ∧ (l.length = j) ∧ (j ≤ c.copies.toNat)) ?_ ?_
    · refine ⟨_, _, ⟨(.slice none 0 0 : Value), (0 : Nat), ([] : List Int), (0 : Nat), rfl, rfl, hE3, Nat.le_refl _, Acc.nil, (by omega), f8, f6, f7, (by omega), (by rfl), (by rfl), (by exact Nat.zero_le _)⟩, ⟨rfl, rfl, rfl, rfl, rfl, trivial⟩⟩
    · rintro _ _ w4 ⟨v_l, g_l, l, j, rfl, rfl, hE4, hs4, ha1, hg1, f9, f10, f11, hn1, hi, hl, hj⟩ ih1
      have hmy := Ml.may_bounds (Ml.may_of_shards (c := c) (by omega))
      refine r_seq ?_
      refine r_region ?_
      refine OL.qb (Q1.lt rfl rfl) rfl rfl ?_
      intro b3 hb3
      refine OL.nil ?_
      refine r_seq ?_
      cases b3 with
      | true =>
        replace hb3 := of_decide_eq_true hb3.symm
        refine r_cond_t rfl ?_
        refine r_skip ?_
        refine r_seq ?_
        refine r_block ?_
        refine r_seq ?_
        refine r_region ?_
        refine OL.q (Q1.move rfl) rfl rfl ?_
        refine OL.q (Q1.assign rfl) rfl rfl ?_
        refine OL.nil ?_
        refine r_region ?_
        refine OL.q (Q1.move rfl) rfl rfl ?_
        refine OL.q (Q1.move rfl) rfl rfl ?_
        refine OL.q (Q1.move rfl) rfl rfl ?_
        refine OL.q (Q1.addI ((shard + (((j : Nat) : Int)))) rfl rfl (by omega)) rfl rfl ?_
        refine OL.q (Q1.fieldAddr fl25_2 rfl) rfl rfl ?_
        refine OL.q (Q1.load1 ti3 rfl (fun _ e => e ▸ (f9.cell 2 _ rfl))) rfl rfl ?_
        have := Int.emod_nonneg ((shard + (((j : Nat) : Int))) : Int) (by omega : (c.workers : Int) ≠ 0)
        have := Int.emod_lt_of_pos ((shard + (((j : Nat) : Int))) : Int) (by omega : (0 : Int) < c.workers)
        refine OL.q (Q1.remI (((shard + (((j : Nat) : Int))) % c.workers)) rfl rfl ⟨by omega, by omega, rfl⟩) rfl rfl ?_
        refine OL.q (Q1.addI ((1 + (((shard + (((j : Nat) : Int))) % c.workers)))) rfl rfl (by omega)) rfl rfl ?_
        refine OL.act rfl rfl (AW.buildSlice [(.int .i64 ((1 + (((shard + (((j : Nat) : Int))) % c.workers)))) : Value)] Tryz.underlying63 ti3 rfl rfl rfl (by decide) ?_)
        intro w5 b4 hm4 hb4 hz2 hk2
        have hl1 := ha1.lt
        have f12 := ha1.ext hm4
        have f13 := f9.ext hm4
        have f14 := f10.ext hm4
        have f15 := f11.ext hm4
        have hE5 := hE4.ext hm4
        have hs5 := hm4.size
        have hl2 := Sl.of_blk (enc := Ik.encI) hk2 ([(1 + (((shard + (((j : Nat) : Int))) % c.workers)))] : List Int) 1 rfl rfl (by unfold maxLen; omega)
        have hl3 := f12.lt
        refine OL.act rfl rfl (AW.append f12 Tryz.underlying63 ti3 rfl Ik.encI_len Ik.encI_one rfl rfl (hl2) (by first | omega | (simp only [List.length_append, List.length_cons, List.length_nil]; omega) | (simp; omega)) (by unfold maxLen; first | omega | (simp only [List.length_append, List.length_cons, List.length_nil]; omega) | (simp; omega)) ?_)
        intro v1 g1 w6 ha2 hm5 hg2 hz3
        have hl4 := f12.lt
        have f16 := f13.keepG hm5 (by omega)
        have f17 := f14.keepG hm5 (by omega)
        have f18 := f15.keepG hm5 (by omega)
        have f19 := hl2.keepG hm5 (by omega)
        have hE6 := Ext.thenG hE5 hm5 (by omega)
        have hs6 := hm5.size
        refine OL.q (Q1.assign rfl) rfl rfl ?_
        refine OL.nil ?_
        refine r_inBlock ?_
        refine r_region ?_
        refine OL.q (Q1.addI (((j + 1 : Nat) : Int)) rfl rfl (by omega)) rfl rfl ?_
        refine OL.q (Q1.move rfl) rfl rfl ?_
        refine OL.nil ?_
        exact (ih1 _ _ _ ⟨(v1 : Value), (g1 : Nat), ((l ++ [(1 + (((shard + (((j : Nat) : Int))) % c.workers)))]) : List Int), (j + 1 : Nat), rfl, rfl, hE6, (by omega), ha2, (by omega), f16, f17, f18, (by omega), (by first | rw [hi, List.range_succ, List.map_append]; rfl | (exfalso; omega)), (by first | omega | (simp only [List.length_append, List.length_cons, List.length_nil]; omega) | (exfalso; omega)), (by first | omega | (exfalso; omega))⟩ (by omega)).sub ⟨rfl, rfl, rfl, rfl, rfl, trivial⟩
      | false =>
        replace hb3 := of_decide_eq_false hb3.symm
        refine r_cond_f rfl ?_
        refine r_exit rfl ?_
        refine r_seq ?_
        refine r_region ?_
        refine OL.q (Q1.move rfl) rfl rfl ?_
        refine OL.q (Q1.assign rfl) rfl rfl ?_
        refine OL.nil ?_
        refine r_ret1 Tryz.func39 rfl rfl ?_
        exact Ret.mk ⟨⟨_, Acc.cast ha1 (by first | exact Ml.copies_yes hb2 hi (by omega) | exact Ml.copies_no hb2 | (exfalso; omega)), by omega⟩, hE4⟩
  | false =>
    replace hb2 := hb2.symm
    have := Ml.within_false hb2
    refine OL.q (Q1.not rfl) rfl rfl ?_
    refine OL.nil ?_
    refine r_cond_t rfl ?_
    refine r_seq ?_
    refine r_region ?_
    refine OL.q (Q1.assign rfl) rfl rfl ?_
    refine OL.nil ?_
    refine r_ret1 Tryz.func39 rfl rfl ?_
    exact Ret.mk ⟨⟨0, Acc.cast Acc.nil (by first | exact Ml.copies_yes hb2 hi (by omega) | exact Ml.copies_no hb2 | (exfalso; omega)), .inl rfl⟩, hE3⟩
set_option maxRecDepth 20000 in
set_option maxHeartbeats 4000000 in
theorem sindex_c {w0 : World}  {v_s : Value} {s : List Int} (v : Int) (h_s : Sl Ik.encI w0 (Iv 0 w0.heap.size) v_s s) :
    Calls Tryz.prog 53 #[v_s, .int .i64 v] w0 (Ret fun rv w1 => rv = .int .i64 (Ml.indexI s v) ∧ Ext w0 w1) := by
  have hE0 : Ext w0 w0 := Mod.refl _ _
  have hle1 := h_s.le
  refine calls_enter Tryz.func53 rfl Tryz.ntmps53 rfl ?_
  refine r_seq ?_
  refine r_region ?_
  refine OL.q (Q1.assign rfl) rfl rfl ?_
  refine OL.nil ?_
  refine r_seq ?_
  refine r_seq ?_
  refine r_region ?_
  refine OL.q (Q1.move rfl) rfl rfl ?_
  refine OL.q (Q1.lenSl Tryz.underlying63 (h_s) rfl) rfl rfl ?_
  refine OL.q (Q1.move rfl) rfl rfl ?_
  refine OL.nil ?_
  refine r_block ?_
  refine r_loop (I := fun m E W => ∃ (k : Nat), E = [(0, v_s), (1, .int .i64 v), (7, .int .i64 (((s.length : Nat) : Int))), (8, .int .i64 (((k : Nat) : Int)))] ∧ m = s.length - k ∧ Ext w0 W ∧ w0.heap.size ≤ W.heap.size ∧ Sl Ik.encI W (Iv 0 w0.heap.size) v_s s ∧ (Ml.IndexInv s v k)) ?_ ?_
  · refine ⟨_, _, ⟨(0 : Nat), rfl, rfl, hE0, Nat.le_refl _, h_s, (by exact Ml.IndexInv.start s v)⟩, ⟨rfl, rfl, rfl, rfl, trivial⟩⟩
  · rintro _ _ w1 ⟨k, rfl, rfl, hE1, hs1, f1, hi⟩ ih1
    refine r_seq ?_
    refine r_region ?_
    refine OL.qb (Q1.lt rfl rfl) rfl rfl ?_
    intro b1 hb1
    refine OL.nil ?_
    refine r_seq ?_
    cases b1 with
    | true =>
      replace hb1 := of_decide_eq_true hb1.symm
      refine r_cond_t rfl ?_
      refine r_skip ?_
      refine r_seq ?_
      refine r_block ?_
      refine r_seq ?_
      refine r_region ?_
      refine OL.q (Q1.move rfl) rfl rfl ?_
      refine OL.q (Q1.assign rfl) rfl rfl ?_
      refine OL.nil ?_
      refine r_seq ?_
      refine r_region ?_
      refine OL.q (Q1.move rfl) rfl rfl ?_
      refine OL.q (Q1.move rfl) rfl rfl ?_
      refine OL.q (Q1.move rfl) rfl rfl ?_
      obtain ⟨x1, b2, o1, hx1, hr1, hl1, hu1, hw1⟩ := Sl.at' (P := Tryz.prog) f1 Tryz.underlying63 ti3 Ik.encI_len (k := .i64) (n := ((k : Nat) : Int)) (k) (by omega) (by first | assumption | omega)
      refine OL.q (Q1.indexAddr rfl rfl hr1) rfl rfl ?_
      refine OL.q (Q1.load1 ti3 rfl (fun _ e => e ▸ hw1)) rfl rfl ?_
      refine OL.qb (Q1.eq rfl rfl) rfl rfl ?_
      intro b3 hb2
      refine OL.nil ?_
      cases b3 with
      | true =>
        replace hb2 := eq_of_beq hb2.symm
        refine r_cond_t rfl ?_
        refine r_seq ?_
        refine r_region ?_
        refine OL.q (Q1.move rfl) rfl rfl ?_
        refine OL.q (Q1.assign rfl) rfl rfl ?_
        refine OL.nil ?_
        refine r_ret1 Tryz.func53 rfl rfl ?_
        exact Ret.mk ⟨(congrArg (Value.int .i64) (by first | exact hi.found hx1 hb2 | exact hi.fin (by omega) | (exfalso; omega))), hE1⟩
      | false =>
        replace hb2 := ne_of_beq_false hb2.symm
        refine r_cond_f rfl ?_
        refine r_skip ?_
        refine r_inBlock ?_
        refine r_region ?_
        refine OL.q (Q1.addI (((k + 1 : Nat) : Int)) rfl rfl (by omega)) rfl rfl ?_
        refine OL.q (Q1.move rfl) rfl rfl ?_
        refine OL.nil ?_
        exact (ih1 _ _ _ ⟨(k + 1 : Nat), rfl, rfl, hE1, (by omega), f1, (by first | exact hi.next hx1 hb2 | (exfalso; omega))⟩ (by omega)).sub ⟨rfl, rfl, rfl, rfl, trivial⟩
    | false =>
      replace hb1 := of_decide_eq_false hb1.symm
      refine r_cond_f rfl ?_
      refine r_exit rfl ?_
      refine r_seq ?_
      refine r_region ?_
      refine OL.q (Q1.assign rfl) rfl rfl ?_
      refine OL.nil ?_
      refine r_ret1 Tryz.func53 rfl rfl ?_
      exact Ret.mk ⟨(congrArg (Value.int .i64) (by first | exact hi.found hx1 hb2 | exact hi.fin (by omega) | (exfalso; omega))), hE1⟩
set_option maxRecDepth 20000 in
set_option maxHeartbeats 4000000 in
theorem scontains_c {w0 : World}  {v_s : Value} {s : List Int} (v : Int) (h_s : Sl Ik.encI w0 (Iv 0 w0.heap.size) v_s s) :
    Calls Tryz.prog 38 #[v_s, .int .i64 v] w0 (Ret fun rv w1 => (∃ rb : Bool, rb = (s.contains v) ∧ rv = .bool rb) ∧ Ext w0 w1) := by
  have hE0 : Ext w0 w0 := Mod.refl _ _
  have hle1 := h_s.le
  refine calls_enter Tryz.func38 rfl Tryz.ntmps38 rfl ?_
  refine r_seq ?_
  refine r_region ?_
  refine OL.q (Q1.assign rfl) rfl rfl ?_
  refine OL.nil ?_
  refine r_seq ?_
  refine r_region ?_
  refine OL.q (Q1.move rfl) rfl rfl ?_
  refine OL.q (Q1.move rfl) rfl rfl ?_
  refine OL.act rfl rfl (AW.callF cl53 rfl (sindex_c (w0 := w0) (s := s) (v) ((h_s).iv (Nat.zero_le _) (by omega))) ?_)
  rintro _ w1 ⟨rfl, hm1⟩
  have f1 := h_s.ext hm1
  have hE1 := hE0.ext hm1
  have hs1 := hm1.size
  refine OL.qb (Q1.ge rfl rfl) rfl rfl ?_
  intro b1 hb1
  refine OL.q (Q1.assign rfl) rfl rfl ?_
  refine OL.nil ?_
  refine r_ret1 Tryz.func38 rfl rfl ?_
  exact Ret.mk ⟨⟨_, (by first | rw [Ml.contains_index]; assumption | (exfalso; omega)), rfl⟩, hE1⟩
set_option maxRecDepth 20000 in
set_option maxHeartbeats 4000000 in
theorem keeps_c {w0 : World}  {c : Cfg} {v_c_words : Value} {v_c_cuts : Value} (worker : Int) (h_c_words : Sl encS w0 (Iv 0 w0.heap.size) v_c_words c.words) (h_c_cuts : Sl encKey w0 (Iv 0 w0.heap.size) v_c_cuts c.cuts) (h_c : Cfg.Ok c) (h_worker : I64 worker) :
    Calls Tryz.prog 24 #[.agg #[v_c_words, v_c_cuts, .int .i64 c.workers, .int .i64 c.copies, .int .i64 c.slots, .int .i64 c.batch, .int .i64 c.lease, .int .i64 c.hedge, .int .i64 c.first, .int .i64 c.cap, .int .i64 c.jitter, .int .i64 c.net], .int .i64 worker] w0 (Ret fun rv w1 => (∃ gr, Acc Ik.encI 3 1 w1 gr rv (Ml.keepsM c worker) ∧ (gr = 0 ∨ w0.heap.size < gr)) ∧ Ext w0 w1) := by
  have hE0 : Ext w0 w0 := Mod.refl _ _
  have hle1 := h_c_words.le
  have hle2 := h_c_cuts.le
  have hc1 := h_c.workers
  have hc2 := h_c.copies
  have hc3 := h_c.slots
  have hc4 := h_c.batch
  have hc5 := h_c.lease
  have hc6 := h_c.hedge
  have hc7 := h_c.first
  have hc8 := h_c.cap
  have hc9 := h_c.jitter
  have hc10 := h_c.net
  refine calls_enter Tryz.func24 rfl Tryz.ntmps24 rfl ?_
  refine r_seq ?_
  refine r_region ?_
  refine OL.act rfl rfl (AW.box [v_c_words, v_c_cuts, .int .i64 c.workers, .int .i64 c.copies, .int .i64 c.slots, .int .i64 c.batch, .int .i64 c.lease, .int .i64 c.hedge, .int .i64 c.first, .int .i64 c.cap, .int .i64 c.jitter, .int .i64 c.net] rfl rfl ?_)
  intro w1 b1 hm1 hb1 hz1 hk1
  have f1 := h_c_words.ext hm1
  have f2 := h_c_cuts.ext hm1
  have hE1 := hE0.ext hm1
  have hs1 := hm1.size
  refine OL.q (Q1.assign rfl) rfl rfl ?_
  refine OL.nil ?_
  refine r_seq ?_
  refine r_region ?_
  refine OL.q (Q1.assign rfl) rfl rfl ?_
  refine OL.nil ?_
  refine r_seq ?_
  refine r_seq ?_
  refine r_region ?_
  refine OL.q (Q1.loadN ti25 rfl (fun _ e => e ▸ hk1.row) rfl) rfl rfl ?_
  refine OL.act rfl rfl (AW.callF cl37 rfl (shards_c (w0 := w1) (c := c)  ((f1).iv (Nat.zero_le _) (by omega)) ((f2).iv (Nat.zero_le _) (by omega)) (by first | assumption | exact Ml.Cfg.ok_of (by decide +kernel))) ?_)
  rintro _ w2 ⟨rfl, hm2⟩
  have f3 := f1.ext hm2
  have f4 := f2.ext hm2
  have f5 := hk1.ext hm2
  have hE2 := hE1.ext hm2
  have hs2 := hm2.size
  have := Ml.shards_le c
  refine OL.q (Q1.move rfl) rfl rfl ?_
  refine OL.nil ?_
  refine r_block ?_
  refine r_loop (I := fun m E W => ∃ (v_l : Value) (g_l : Nat) (l : List Int) (k : Nat), E = [(1, .int .i64 worker), (2, ptr b1 0), (5, v_l), (8, .int .i64 ((((Ml.shards c : Nat) : Int)))), (9, .int .i64 (((k : Nat) : Int)))] ∧ m = Ml.shards c - k ∧ Ext w0 W ∧ w2.heap.size ≤ W.heap.size ∧ Acc Ik.encI 3 1 W g_l v_l l ∧ (g_l = 0 ∨ w0.heap.size < g_l) ∧ Bk W b1 [v_c_words, v_c_cuts, .int .i64 c.workers, .int .i64 c.copies, .int .i64 c.slots, .int .i64 c.batch, .int .i64 c.lease, .int .i64 c.hedge, .int .i64 c.first, .int .i64 c.cap, .int .i64 c.jitter, .int .i64 c.net] 25 ∧ Sl encS W (Iv 0 w0.heap.size) v_c_words c.words ∧ Sl encKey W (Iv 0 w0.heap.size) v_c_cuts c.cuts ∧ b1 + 1 ≠ g_l ∧ (l = ((List.range k).filter (fun s : Nat => (Ml.copiesM c (s : Int)).contains worker)).map (fun s : Nat => (s : Int))) ∧ (l.length ≤ k) ∧ (k ≤ Ml.shards c)) ?_ ?_
  · refine ⟨_, _, ⟨(.slice none 0 0 : Value), (0 : Nat), ([] : List Int), (0 : Nat), rfl, rfl, hE2, Nat.le_refl _, Acc.nil, (by omega), f5, f3, f4, (by omega), (by rfl), (by exact Nat.zero_le _), (by exact Nat.zero_le _)⟩, ⟨rfl, rfl, rfl, rfl, rfl, trivial⟩⟩
  · rintro _ _ w3 ⟨v_l, g_l, l, k, rfl, rfl, hE3, hs3, ha1, hg1, f6, f7, f8, hn1, hi, hl, hk⟩ ih1
    have hsh := Ml.shards_le c
    refine r_seq ?_
    refine r_region ?_
    refine OL.qb (Q1.lt rfl rfl) rfl rfl ?_
    intro b2 hb2
    refine OL.nil ?_
    refine r_seq ?_
    cases b2 with
    | true =>
      replace hb2 := of_decide_eq_true hb2.symm
      refine r_cond_t rfl ?_
      refine r_skip ?_
      refine r_seq ?_
      refine r_block ?_
      refine r_seq ?_
      refine r_region ?_
      refine OL.q (Q1.move rfl) rfl rfl ?_
      refine OL.q (Q1.assign rfl) rfl rfl ?_
      refine OL.nil ?_
      refine r_seq ?_
      refine r_region ?_
      refine OL.q (Q1.loadN ti25 rfl (fun _ e => e ▸ f6.row) rfl) rfl rfl ?_
      refine OL.q (Q1.move rfl) rfl rfl ?_
      refine OL.act rfl rfl (AW.callF cl39 rfl (copies_c (w0 := w3) (c := c) (((k : Nat) : Int)) ((f7).iv (Nat.zero_le _) (by omega)) ((f8).iv (Nat.zero_le _) (by omega)) (by first | assumption | exact Ml.Cfg.ok_of (by decide +kernel)) (by first | omega | assumption)) ?_)
      rintro v1 w4 ⟨⟨gr1, h1, hg2⟩, hm3⟩
      have hl1 := ha1.lt
      have f9 := ha1.ext hm3
      have f10 := f6.ext hm3
      have f11 := f7.ext hm3
      have f12 := f8.ext hm3
      have hE4 := hE3.ext hm3
      have hs4 := hm3.size
      have hle_1 := h1.le
      have hlt_1 := h1.lt
      have := copies_len c (((k : Nat) : Int))
      refine OL.q (Q1.move rfl) rfl rfl ?_
      refine OL.act rfl rfl (AW.callF cl38 rfl (scontains_c (w0 := w4) (s := (Ml.copiesM c (((k : Nat) : Int)))) (worker) ((h1.sl).iv (Nat.zero_le _) (by omega))) ?_)
      rintro _ w5 ⟨⟨b3, hb3, rfl⟩, hm4⟩
      have hl2 := f9.lt
      have hl3 := h1.lt
      have f13 := f9.ext hm4
      have f14 := f10.ext hm4
      have f15 := f11.ext hm4
      have f16 := f12.ext hm4
      have f17 := h1.ext hm4
      have hE5 := hE4.ext hm4
      have hs5 := hm4.size
      refine OL.nil ?_
      cases b3 with
      | true =>
        replace hb3 := hb3.symm
        refine r_cond_t rfl ?_
        refine r_region ?_
        refine OL.q (Q1.move rfl) rfl rfl ?_
        refine OL.q (Q1.move rfl) rfl rfl ?_
        refine OL.act rfl rfl (AW.buildSlice [(.int .i64 (((k : Nat) : Int)) : Value)] Tryz.underlying63 ti3 rfl rfl rfl (by decide) ?_)
        intro w6 b4 hm5 hb4 hz2 hk2
        have hl4 := f13.lt
        have hl5 := f17.lt
        have f18 := f13.ext hm5
        have f19 := f14.ext hm5
        have f20 := f15.ext hm5
        have f21 := f16.ext hm5
        have f22 := f17.ext hm5
        have hE6 := hE5.ext hm5
        have hs6 := hm5.size
        have hl6 := Sl.of_blk (enc := Ik.encI) hk2 ([((k : Nat) : Int)] : List Int) 1 rfl rfl (by unfold maxLen; omega)
        have hl7 := f18.lt
        refine OL.act rfl rfl (AW.append f18 Tryz.underlying63 ti3 rfl Ik.encI_len Ik.encI_one rfl rfl (hl6) (by first | omega | (simp only [List.length_append, List.length_cons, List.length_nil]; omega) | (simp; omega)) (by unfold maxLen; first | omega | (simp only [List.length_append, List.length_cons, List.length_nil]; omega) | (simp; omega)) ?_)
        intro v2 g1 w7 ha2 hm6 hg3 hz3
        have hl8 := f18.lt
        have hl9 := f22.lt
        have f23 := f19.keepG hm6 (by omega)
        have f24 := f20.keepG hm6 (by omega)
        have f25 := f21.keepG hm6 (by omega)
        have f26 := f22.keepG hm6 (by omega)
        have f27 := hl6.keepG hm6 (by omega)
        have hE7 := Ext.thenG hE6 hm6 (by omega)
        have hs7 := hm6.size
        refine OL.q (Q1.assign rfl) rfl rfl ?_
        refine OL.nil ?_
        refine r_inBlock ?_
        refine r_region ?_
        refine OL.q (Q1.addI (((k + 1 : Nat) : Int)) rfl rfl (by omega)) rfl rfl ?_
        refine OL.q (Q1.move rfl) rfl rfl ?_
        refine OL.nil ?_
        exact (ih1 _ _ _ ⟨(v2 : Value), (g1 : Nat), ((l ++ [((k : Nat) : Int)]) : List Int), (k + 1 : Nat), rfl, rfl, hE7, (by omega), ha2, (by omega), f23, f24, f25, (by omega), (by first | exact Ml.keeps_yes hi (by assumption) | exact Ml.keeps_no hi (by assumption) | (exfalso; omega)), (by first | omega | (simp only [List.length_append, List.length_cons, List.length_nil]; omega) | (exfalso; omega)), (by first | omega | (exfalso; omega))⟩ (by omega)).sub ⟨rfl, rfl, rfl, rfl, rfl, trivial⟩
      | false =>
        replace hb3 := hb3.symm
        refine r_cond_f rfl ?_
        refine r_skip ?_
        refine r_inBlock ?_
        refine r_region ?_
        refine OL.q (Q1.addI (((k + 1 : Nat) : Int)) rfl rfl (by omega)) rfl rfl ?_
        refine OL.q (Q1.move rfl) rfl rfl ?_
        refine OL.nil ?_
        exact (ih1 _ _ _ ⟨(v_l : Value), (g_l : Nat), (l : List Int), (k + 1 : Nat), rfl, rfl, hE5, (by omega), f13, (by omega), f14, f15, f16, (by omega), (by first | exact Ml.keeps_yes hi (by assumption) | exact Ml.keeps_no hi (by assumption) | (exfalso; omega)), (by first | omega | (simp only [List.length_append, List.length_cons, List.length_nil]; omega) | (exfalso; omega)), (by first | omega | (exfalso; omega))⟩ (by omega)).sub ⟨rfl, rfl, rfl, rfl, rfl, trivial⟩
    | false =>
      replace hb2 := of_decide_eq_false hb2.symm
      refine r_cond_f rfl ?_
      refine r_exit rfl ?_
      refine r_seq ?_
      refine r_region ?_
      refine OL.q (Q1.move rfl) rfl rfl ?_
      refine OL.q (Q1.assign rfl) rfl rfl ?_
      refine OL.nil ?_
      refine r_ret1 Tryz.func24 rfl rfl ?_
      exact Ret.mk ⟨⟨_, Acc.cast ha1 (by first | rw [hi, show k = Ml.shards c from by omega]; rfl | (exfalso; omega)), by omega⟩, hE3⟩
set_option maxRecDepth 20000 in
set_option maxHeartbeats 4000000 in
theorem pwords_c {w0 : World}  {c : Cfg} {v_c_words : Value} {v_c_cuts : Value} (shard : Int) (h_c_words : Sl encS w0 (Iv 0 w0.heap.size) v_c_words c.words) (h_c_cuts : Sl encKey w0 (Iv 0 w0.heap.size) v_c_cuts c.cuts) (h_c : Cfg.Ok c) (h_shard : I64 shard) (hlen : c.words.length ≤ 1000000) :
    Calls Tryz.prog 41 #[.agg #[v_c_words, v_c_cuts, .int .i64 c.workers, .int .i64 c.copies, .int .i64 c.slots, .int .i64 c.batch, .int .i64 c.lease, .int .i64 c.hedge, .int .i64 c.first, .int .i64 c.cap, .int .i64 c.jitter, .int .i64 c.net], .int .i64 shard] w0 (Ret fun rv w1 => (∃ gr, Acc encS 9 1 w1 gr rv (Ml.wordsM c shard) ∧ (gr = 0 ∨ w0.heap.size < gr)) ∧ Ext w0 w1) := by
  have hE0 : Ext w0 w0 := Mod.refl _ _
  have hle1 := h_c_words.le
  have hle2 := h_c_cuts.le
  refine calls_enter Tryz.func41 rfl Tryz.ntmps41 rfl ?_
  refine r_seq ?_
  refine r_region ?_
  refine OL.act rfl rfl (AW.box [v_c_words, v_c_cuts, .int .i64 c.workers, .int .i64 c.copies, .int .i64 c.slots, .int .i64 c.batch, .int .i64 c.lease, .int .i64 c.hedge, .int .i64 c.first, .int .i64 c.cap, .int .i64 c.jitter, .int .i64 c.net] rfl rfl ?_)
  intro w1 b1 hm1 hb1 hz1 hk1
  have f1 := h_c_words.ext hm1
  have f2 := h_c_cuts.ext hm1
  have hE1 := hE0.ext hm1
  have hs1 := hm1.size
  refine OL.q (Q1.assign rfl) rfl rfl ?_
  refine OL.nil ?_
  refine r_seq ?_
  refine r_region ?_
  refine OL.q (Q1.fieldAddr fl25_1 rfl) rfl rfl ?_
  refine OL.q (Q1.load1 ti23 rfl (fun _ e => e ▸ (hk1.cell 1 _ rfl))) rfl rfl ?_
  refine OL.q (Q1.fieldAddr fl25_0 rfl) rfl rfl ?_
  refine OL.q (Q1.load1 ti22 rfl (fun _ e => e ▸ (hk1.cell 0 _ rfl))) rfl rfl ?_
  refine OL.q (Q1.move rfl) rfl rfl ?_
  refine OL.act rfl rfl (AW.callF cl56 rfl (pslice_c (w0 := w1) (cuts := c.cuts) (words := c.words) (shard) ((f2).iv (Nat.zero_le _) (by omega)) ((f1).iv (Nat.zero_le _) (by omega)) (by first | omega | assumption) (by exact h_c.words) (by first | assumption | omega)) ?_)
  rintro v1 w2 ⟨⟨gr1, h1, hg1⟩, hm2⟩
  have f3 := f1.ext hm2
  have f4 := f2.ext hm2
  have f5 := hk1.ext hm2
  have hE2 := hE1.ext hm2
  have hs2 := hm2.size
  have hle_1 := h1.le
  have hlt_1 := h1.lt
  have := slice_len c.cuts c.words shard
  refine OL.q (Q1.assign rfl) rfl rfl ?_
  refine OL.nil ?_
  refine r_ret1 Tryz.func41 rfl rfl ?_
  exact Ret.mk ⟨⟨_, Acc.cast h1 (by rfl), by omega⟩, hE2⟩
end Go.Proofs
namespace Go.Proofs
open Go.Ik Go.Ml
set_option maxRecDepth 20000 in
set_option maxHeartbeats 4000000 in
theorem first_c {w0 : World}  (s : Str) (hs : s.length ≤ 1000000) (hne : s ≠ []) :
    Calls Tryz.prog 83 #[strV s] w0 (Ret fun rv w1 => ∃ u0 u1, rv = .tuple #[u0, u1] ∧ u0 = .int .i32 ((Ml.hdN s : Int)) ∧ u1 = .int .i64 (((Ml.wdN s : Nat) : Int)) ∧ Ext w0 w1) := by
  have hE0 : Ext w0 w0 := Mod.refl _ _
  refine calls_enter Tryz.func83 rfl Tryz.ntmps83 rfl ?_
  refine r_seq ?_
  refine r_region ?_
  refine OL.q (Q1.assign rfl) rfl rfl ?_
  refine OL.q (Q1.assign rfl) rfl rfl ?_
  refine OL.nil ?_
  refine r_seq ?_
  refine r_region ?_
  refine OL.q (Q1.assign rfl) rfl rfl ?_
  refine OL.nil ?_
  refine r_seq ?_
  refine r_seq ?_
  refine r_region ?_
  refine OL.q (Q1.move rfl) rfl rfl ?_
  refine OL.act rfl rfl (AW.rangeS Tryz.underlying9 rfl ?_)
  intro w1 b1 hm1 hb1 hz1 hk1
  have hE1 := hE0.ext hm1
  have hs1 := hm1.size
  refine OL.nil ?_
  refine r_block ?_
  refine r_loop (I := fun m E W => ∃ (hd : Int) (p : Nat), E = [(0, strV s), (4, .int .i32 hd), (8, ptr b1 0)] ∧ m = s.length - p ∧ Ext w0 W ∧ w1.heap.size ≤ W.heap.size ∧ It W b1 s p ∧ (Ml.FirstInv s p hd) ∧ (0 ≤ hd ∧ hd ≤ 1114111)) ?_ ?_
  · refine ⟨_, _, ⟨(0 : Int), (0 : Nat), rfl, rfl, hE1, Nat.le_refl _, hk1, (by exact .inl ⟨rfl, rfl⟩), (by omega)⟩, ⟨rfl, rfl, rfl, trivial⟩⟩
  · rintro _ _ w2 ⟨hd, p, rfl, rfl, hE2, hs2, f1, hi, hr32⟩ ih1
    refine r_seq ?_
    refine r_region ?_
    refine OL.act rfl rfl (AW.nextS rfl f1 ?_ ?_)
    · intro he1
      refine OL.q (Q1.extract rfl rfl) rfl rfl ?_
      refine OL.nil ?_
      refine r_seq ?_
      refine r_cond_f rfl ?_
      refine r_exit rfl ?_
      refine r_seq ?_
      refine r_region ?_
      refine OL.q (Q1.move rfl) rfl rfl ?_
      refine OL.q (Q1.move rfl) rfl rfl ?_
      refine OL.q (Q1.lenS Tryz.underlying9 rfl) rfl rfl ?_
      refine OL.q (Q1.assign rfl) rfl rfl ?_
      refine OL.q (Q1.assign rfl) rfl rfl ?_
      refine OL.nil ?_
      refine r_ret2 Tryz.func83 rfl rfl rfl ?_
      exact Ret.mk ⟨_, _, rfl, (congrArg (Value.int .i32) (by first | (with_reducible exact (hi.ret (by omega)).1) | (with_reducible exact (hi.ret (by omega)).2) | (with_reducible exact (hi.fin hne (by assumption)).1) | (with_reducible exact (hi.fin hne (by assumption)).2) | (exfalso; omega))), (congrArg (Value.int .i64) (by first | (with_reducible exact (hi.ret (by omega)).1) | (with_reducible exact (hi.ret (by omega)).2) | (with_reducible exact (hi.fin hne (by assumption)).1) | (with_reducible exact (hi.fin hne (by assumption)).2) | (exfalso; omega))), hE2⟩
    · intro w3 he1 hm2 hz2 hk2
      have hE3 := Ext.thenG hE2 hm2 (by omega)
      have hs3 := hm2.size
      refine OL.q (Q1.extract rfl rfl) rfl rfl ?_
      refine OL.nil ?_
      refine r_seq ?_
      refine r_cond_t rfl ?_
      refine r_skip ?_
      refine r_block ?_
      refine r_seq ?_
      refine r_region ?_
      refine OL.q (Q1.extract rfl rfl) rfl rfl ?_
      refine OL.q (Q1.extract rfl rfl) rfl rfl ?_
      refine OL.q (Q1.assign rfl) rfl rfl ?_
      refine OL.q (Q1.assign rfl) rfl rfl ?_
      refine OL.nil ?_
      refine r_seq ?_
      refine r_seq ?_
      refine r_region ?_
      refine OL.q (Q1.move rfl) rfl rfl ?_
      refine OL.qb (Q1.gt rfl rfl) rfl rfl ?_
      intro b2 hb2
      refine OL.nil ?_
      cases b2 with
      | true =>
        replace hb2 := of_decide_eq_true hb2.symm
        refine r_cond_t rfl ?_
        refine r_seq ?_
        refine r_region ?_
        refine OL.q (Q1.move rfl) rfl rfl ?_
        refine OL.q (Q1.move rfl) rfl rfl ?_
        refine OL.q (Q1.assign rfl) rfl rfl ?_
        refine OL.q (Q1.assign rfl) rfl rfl ?_
        refine OL.nil ?_
        refine r_ret2 Tryz.func83 rfl rfl rfl ?_
        exact Ret.mk ⟨_, _, rfl, (congrArg (Value.int .i32) (by first | (with_reducible exact (hi.ret (by omega)).1) | (with_reducible exact (hi.ret (by omega)).2) | (with_reducible exact (hi.fin hne (by assumption)).1) | (with_reducible exact (hi.fin hne (by assumption)).2) | (exfalso; omega))), (congrArg (Value.int .i64) (by first | (with_reducible exact (hi.ret (by omega)).1) | (with_reducible exact (hi.ret (by omega)).2) | (with_reducible exact (hi.fin hne (by assumption)).1) | (with_reducible exact (hi.fin hne (by assumption)).2) | (exfalso; omega))), hE3⟩
      | false =>
        replace hb2 := of_decide_eq_false hb2.symm
        refine r_cond_f rfl ?_
        refine r_skip ?_
        refine r_region ?_
        refine OL.q (Q1.move rfl) rfl rfl ?_
        refine OL.q (Q1.assign rfl) rfl rfl ?_
        refine OL.nil ?_
        refine r_inBlock ?_
        exact (ih1 _ _ _ ⟨(((dec (s.drop p)).1 : Int) : Int), ((p + (dec (s.drop p)).2) : Nat), rfl, rfl, hE3, (by omega), hk2, (by first | exact Ml.FirstInv.next hi (by assumption) (by omega) | (exfalso; omega)), (by first | have := dec_rune (s.drop p); omega | (exfalso; omega))⟩ (by have := Ml.dec_lt (by assumption : List.drop p s ≠ []); omega)).sub ⟨rfl, rfl, rfl, trivial⟩
set_option maxRecDepth 20000 in
set_option maxHeartbeats 4000000 in
theorem slhp_c {w0 : World}  (s : Str) (p : Str)  :
    Calls Tryz.prog 99 #[strV s, strV p] w0 (Ret fun rv w1 => (∃ rb : Bool, rb = (p.isPrefixOf s) ∧ rv = .bool rb) ∧ Ext w0 w1) := by
  have hE0 : Ext w0 w0 := Mod.refl _ _
  refine calls_enter Tryz.func99 rfl Tryz.ntmps99 rfl ?_
  refine r_seq ?_
  refine r_region ?_
  refine OL.q (Q1.assign rfl) rfl rfl ?_
  refine OL.nil ?_
  refine r_seq ?_
  refine r_region ?_
  refine OL.q (Q1.move rfl) rfl rfl ?_
  refine OL.q (Q1.lenS Tryz.underlying9 rfl) rfl rfl ?_
  refine OL.q (Q1.move rfl) rfl rfl ?_
  refine OL.q (Q1.lenS Tryz.underlying9 rfl) rfl rfl ?_
  refine OL.qb (Q1.ge rfl rfl) rfl rfl ?_
  intro b1 hb1
  refine OL.q (Q1.move rfl) rfl rfl ?_
  cases b1 with
  | true =>
    replace hb1 := of_decide_eq_true hb1.symm
    refine OL.q (Q1.move rfl) rfl rfl ?_
    refine OL.q (Q1.move rfl) rfl rfl ?_
    refine OL.q (Q1.lenS Tryz.underlying9 rfl) rfl rfl ?_
    refine OL.q (Q1.sliceS_hi (p.length) Tryz.underlying9 rfl rfl (by omega) (by first | assumption | omega)) rfl rfl ?_
    refine OL.q (Q1.move rfl) rfl rfl ?_
    refine OL.qb (Q1.eqS rfl rfl) rfl rfl ?_
    intro b2 hb2
    refine OL.q (Q1.pick_t rfl rfl) rfl rfl ?_
    refine OL.q (Q1.assign rfl) rfl rfl ?_
    refine OL.nil ?_
    refine r_ret1 Tryz.func99 rfl rfl ?_
    exact Ret.mk ⟨⟨_, (by first | exact Ml.hp_yes (by omega) (by assumption) | exact Ml.hp_no (by omega) | (exfalso; omega)), rfl⟩, hE0⟩
  | false =>
    replace hb1 := of_decide_eq_false hb1.symm
    refine OL.sk rfl rfl ?_
    refine OL.sk rfl rfl ?_
    refine OL.sk rfl rfl ?_
    refine OL.sk rfl rfl ?_
    refine OL.sk rfl rfl ?_
    refine OL.sk rfl rfl ?_
    refine OL.q (Q1.pick_f rfl rfl) rfl rfl ?_
    refine OL.q (Q1.assign rfl) rfl rfl ?_
    refine OL.nil ?_
    refine r_ret1 Tryz.func99 rfl rfl ?_
    exact Ret.mk ⟨⟨_, (by first | exact Ml.hp_yes (by omega) (by assumption) | exact Ml.hp_no (by omega) | (exfalso; omega)), rfl⟩, hE0⟩
set_option maxRecDepth 20000 in
set_option maxHeartbeats 4000000 in
theorem shp_c {w0 : World}  (s : Str) (p : Str)  :
    Calls Tryz.prog 84 #[strV s, strV p] w0 (Ret fun rv w1 => (∃ rb : Bool, rb = (p.isPrefixOf s) ∧ rv = .bool rb) ∧ Ext w0 w1) := by
  have hE0 : Ext w0 w0 := Mod.refl _ _
  refine calls_enter Tryz.func84 rfl Tryz.ntmps84 rfl ?_
  refine r_seq ?_
  refine r_region ?_
  refine OL.q (Q1.assign rfl) rfl rfl ?_
  refine OL.nil ?_
  refine r_seq ?_
  refine r_region ?_
  refine OL.q (Q1.move rfl) rfl rfl ?_
  refine OL.q (Q1.move rfl) rfl rfl ?_
  refine OL.act rfl rfl (AW.callF cl99 rfl (slhp_c (w0 := w0)  s p ) ?_)
  rintro _ w1 ⟨⟨b1, hb1, rfl⟩, hm1⟩
  have hE1 := hE0.ext hm1
  have hs1 := hm1.size
  refine OL.q (Q1.assign rfl) rfl rfl ?_
  refine OL.nil ?_
  refine r_ret1 Tryz.func84 rfl rfl ?_
  exact Ret.mk ⟨⟨_, (by first | assumption | (exfalso; omega)), rfl⟩, hE1⟩
set_option maxRecDepth 20000 in
set_option maxHeartbeats 4000000 in
theorem cloneE_c {w0 : World}  {v_s : Value} {s : List Ed} (h_s : Sl encE w0 (Iv 0 w0.heap.size) v_s s) (hln : s.length ≤ 1000000) :
    Calls Tryz.prog 86 #[v_s] w0 (Ret fun rv w1 => (∃ gr, Acc encE 114 2 w1 gr rv (s) ∧ (gr = 0 ∨ w0.heap.size < gr)) ∧ Ext w0 w1) := by
  have hE0 : Ext w0 w0 := Mod.refl _ _
  have hle1 := h_s.le
  refine calls_enter Tryz.func86 rfl Tryz.ntmps86 rfl ?_
  refine r_seq ?_
  refine r_region ?_
  refine OL.q (Q1.assign rfl) rfl rfl ?_
  refine OL.nil ?_
  refine r_seq ?_
  refine r_seq ?_
  refine r_region ?_
  refine OL.q (Q1.move rfl) rfl rfl ?_
  obtain ⟨ad1, cp1, hv1, hz1⟩ := Sl.isNil (h_s)
  subst hv1
  refine OL.qb (Q1.eqNilSl Tryz.underlying109 rfl rfl) rfl rfl ?_
  intro b1 hb1
  refine OL.nil ?_
  cases b1 with
  | true =>
    replace hb1 := hb1.symm
    replace hz1 := hz1 hb1
    refine r_cond_t rfl ?_
    refine r_seq ?_
    refine r_region ?_
    refine OL.q (Q1.assign rfl) rfl rfl ?_
    refine OL.nil ?_
    refine r_ret1 Tryz.func86 rfl rfl ?_
    exact Ret.mk ⟨⟨0, Acc.cast Acc.nil (by first | (symm; assumption) | simp | (exfalso; omega)), .inl rfl⟩, hE0⟩
  | false =>
    replace hb1 := hb1.symm
    refine r_cond_f rfl ?_
    refine r_skip ?_
    refine r_seq ?_
    refine r_region ?_
    refine OL.act rfl rfl (AW.buildSlice [] Tryz.underlying109 ti114 rfl rfl rfl (by decide) ?_)
    intro w1 b2 hm1 hb2 hz2 hk1
    have f1 := h_s.ext hm1
    have hE1 := hE0.ext hm1
    have hs1 := hm1.size
    have hl1 := Acc.of_blk (enc := encE) hk1 ([] : List Ed) 0 rfl encE_len rfl (by unfold maxLen; omega)
    refine OL.q (Q1.move rfl) rfl rfl ?_
    have hl2 := hl1.lt
    refine OL.act rfl rfl (AW.append hl1 Tryz.underlying109 ti114 rfl encE_len encE_one rfl rfl (f1) (by first | omega | (simp only [List.length_append, List.length_cons, List.length_nil]; omega) | (simp; omega)) (by unfold maxLen; first | omega | (simp only [List.length_append, List.length_cons, List.length_nil]; omega) | (simp; omega)) ?_)
    intro v1 g1 w2 ha1 hm2 hg1 hz3
    have hl3 := hl1.lt
    have f2 := f1.keepG hm2 (by omega)
    have hE2 := Ext.thenG hE1 hm2 (by omega)
    have hs2 := hm2.size
    refine OL.q (Q1.assign rfl) rfl rfl ?_
    refine OL.nil ?_
    refine r_ret1 Tryz.func86 rfl rfl ?_
    exact Ret.mk ⟨⟨_, Acc.cast ha1 (by first | (symm; assumption) | simp | (exfalso; omega)), by omega⟩, hE2⟩
set_option maxRecDepth 20000 in
set_option maxHeartbeats 4000000 in
theorem nodes_c {w0 : World}  {v_g : Value} {lo_g hi_g : Nat} {g : List GN} (h_g : Gr 0 w0 lo_g hi_g v_g g) (hhi_g : hi_g ≤ w0.heap.size) :
    Calls Tryz.prog 68 #[v_g] w0 (Ret fun rv w1 => rv = .int .i64 (((g.length : Nat) : Int)) ∧ Ext w0 w1) := by
  have hE0 : Ext w0 w0 := Mod.refl _ _
  refine calls_enter Tryz.func68 rfl Tryz.ntmps68 rfl ?_
  refine r_seq ?_
  refine r_region ?_
  refine OL.q (Q1.assign rfl) rfl rfl ?_
  refine OL.nil ?_
  refine r_seq ?_
  refine r_seq ?_
  refine r_region ?_
  refine OL.q (Q1.move rfl) rfl rfl ?_
  have hgr1 := h_g
  rcases h_g with ⟨hv1, hN1⟩ | ⟨b1, vn1, nds1, hv1, hN1, hrw1, hsl1, hrel1⟩
  · subst hv1
    try subst hN1
    refine OL.q (Q1.eqNil Tryz.underlying92 rfl rfl) rfl rfl ?_
    refine OL.nil ?_
    refine r_cond_t rfl ?_
    refine r_seq ?_
    refine r_region ?_
    refine OL.q (Q1.assign rfl) rfl rfl ?_
    refine OL.nil ?_
    refine r_ret1 Tryz.func68 rfl rfl ?_
    exact Ret.mk ⟨(congrArg (Value.int .i64) (by first | rfl | exact congrArg (fun n : Nat => (n : Int)) hrel1.get.1 | (exfalso; omega))), hE0⟩
  · subst hv1
    have hnl1 := (All2.get hrel1).1
    refine OL.q (Q1.eqNil Tryz.underlying92 rfl rfl) rfl rfl ?_
    refine OL.nil ?_
    refine r_cond_f rfl ?_
    refine r_skip ?_
    refine r_seq ?_
    refine r_region ?_
    refine OL.q (Q1.move rfl) rfl rfl ?_
    refine OL.q (Q1.nilCheckP rfl) rfl rfl ?_
    refine OL.q (Q1.fieldAddr fl105_0 rfl) rfl rfl ?_
    refine OL.q (Q1.load1 ti103 rfl (fun _ e => e ▸ (hrw1.cell 0 _ rfl))) rfl rfl ?_
    refine OL.q (Q1.lenSl Tryz.underlying103 (hsl1) rfl) rfl rfl ?_
    refine OL.q (Q1.assign rfl) rfl rfl ?_
    refine OL.nil ?_
    refine r_ret1 Tryz.func68 rfl rfl ?_
    exact Ret.mk ⟨(congrArg (Value.int .i64) (by first | rfl | exact congrArg (fun n : Nat => (n : Int)) hrel1.get.1 | (exfalso; omega))), hE0⟩
set_option maxRecDepth 20000 in
set_option maxHeartbeats 4000000 in
theorem get_c {w0 : World}  {v_g : Value} {lo_g hi_g : Nat} {g : List GN} (n : Int) (h_g : Gr 0 w0 lo_g hi_g v_g g) (hhi_g : hi_g ≤ w0.heap.size) (h_n : I64 n) (hgl : g.length ≤ 1000000) :
    Calls Tryz.prog 85 #[v_g, .int .i64 n] w0 (Ret fun rv w1 => (∃ (fb : Bool) (ve : Value), rv = .agg #[.bool fb, ve] ∧ fb = (nodeAt g n).1 ∧ Sl encE w1 (Iv lo_g hi_g) ve (nodeAt g n).2) ∧ Ext w0 w1) := by
  have hE0 : Ext w0 w0 := Mod.refl _ _
  refine calls_enter Tryz.func85 rfl Tryz.ntmps85 rfl ?_
  refine r_seq ?_
  refine r_region ?_
  refine OL.act rfl rfl (AW.alloc ti111 ?_)
  intro w1 b1 hm1 hb1 hz1 hk1
  have f1 := h_g.ext hm1
  have hE1 := hE0.ext hm1
  have hs1 := hm1.size
  refine OL.nil ?_
  refine r_seq ?_
  refine r_seq ?_
  refine r_region ?_
  refine OL.q (Q1.move rfl) rfl rfl ?_
  refine OL.qb (Q1.lt rfl rfl) rfl rfl ?_
  intro b2 hb2
  refine OL.q (Q1.move rfl) rfl rfl ?_
  cases b2 with
  | true =>
    replace hb2 := of_decide_eq_true hb2.symm
    refine OL.sk rfl rfl ?_
    refine OL.sk rfl rfl ?_
    refine OL.sk rfl rfl ?_
    refine OL.sk rfl rfl ?_
    refine OL.q (Q1.pick_t rfl rfl) rfl rfl ?_
    refine OL.nil ?_
    refine r_cond_t rfl ?_
    refine r_seq ?_
    refine r_region ?_
    refine OL.q (Q1.build (vs := #[]) (v := .agg #[.bool false, .slice none 0 0]) rfl (fun _ => by kernel_rfl)) rfl rfl ?_
    refine OL.act rfl rfl (AW.store ti111 rfl rfl rfl rfl rfl hk1 (Nat.le_of_ble_eq_true rfl) ?_)
    intro w2 hm2 hz2 hk2
    replace hk2 : Bk w2 b1 [.bool false, .slice none 0 0] 111 := hk2
    have f2 := f1.keepG hm2 (by omega)
    have hE2 := Ext.thenG hE1 hm2 (by omega)
    have hs2 := hm2.size
    refine OL.nil ?_
    refine r_retC1 Tryz.func85 rfl rfl ti111 hk2.row rfl ?_
    exact Ret.mk ⟨⟨_, _, rfl, by rw [nodeAt_no (by omega)], by rw [nodeAt_no (by omega)]; exact Sl.nil⟩, hE2⟩
  | false =>
    replace hb2 := of_decide_eq_false hb2.symm
    refine OL.q (Q1.move rfl) rfl rfl ?_
    refine OL.q (Q1.move rfl) rfl rfl ?_
    refine OL.act rfl rfl (AW.callF cl68 rfl (nodes_c (w0 := w1)   f1 (by omega)) ?_)
    rintro _ w2 ⟨rfl, hm2⟩
    have f2 := f1.ext hm2
    have f3 := hk1.ext hm2
    have hE2 := hE1.ext hm2
    have hs2 := hm2.size
    refine OL.qb (Q1.ge rfl rfl) rfl rfl ?_
    intro b3 hb3
    refine OL.q (Q1.pick_f rfl rfl) rfl rfl ?_
    refine OL.nil ?_
    cases b3 with
    | true =>
      replace hb3 := of_decide_eq_true hb3.symm
      refine r_cond_t rfl ?_
      refine r_seq ?_
      refine r_region ?_
      refine OL.q (Q1.build (vs := #[]) (v := .agg #[.bool false, .slice none 0 0]) rfl (fun _ => by kernel_rfl)) rfl rfl ?_
      refine OL.act rfl rfl (AW.store ti111 rfl rfl rfl rfl rfl f3 (Nat.le_of_ble_eq_true rfl) ?_)
      intro w3 hm3 hz2 hk2
      replace hk2 : Bk w3 b1 [.bool false, .slice none 0 0] 111 := hk2
      have f4 := f2.keepG hm3 (by omega)
      have hE3 := Ext.thenG hE2 hm3 (by omega)
      have hs3 := hm3.size
      refine OL.nil ?_
      refine r_retC1 Tryz.func85 rfl rfl ti111 hk2.row rfl ?_
      exact Ret.mk ⟨⟨_, _, rfl, by rw [nodeAt_no (by omega)], by rw [nodeAt_no (by omega)]; exact Sl.nil⟩, hE3⟩
    | false =>
      replace hb3 := of_decide_eq_false hb3.symm
      refine r_cond_f rfl ?_
      refine r_skip ?_
      refine r_seq ?_
      refine r_region ?_
      refine OL.q (Q1.move rfl) rfl rfl ?_
      have hgr1 := f2
      obtain ⟨b4, vn1, nds1, hv1, hN1, hrw1, hsl1, hrel1⟩ := Gr.pos f2 (by omega)
      subst hv1
      have hnl1 := (All2.get hrel1).1
      refine OL.q (Q1.nilCheckP rfl) rfl rfl ?_
      refine OL.q (Q1.fieldAddr fl105_0 rfl) rfl rfl ?_
      refine OL.q (Q1.load1 ti103 rfl (fun _ e => e ▸ (hrw1.cell 0 _ rfl))) rfl rfl ?_
      refine OL.q (Q1.move rfl) rfl rfl ?_
      obtain ⟨x1, b5, o1, hx1, hr1, hl1, hu1, hw1⟩ := Sl.at' (P := Tryz.prog) hsl1 Tryz.underlying103 ti111 encN_len (k := .i64) (n := n) ((n).toNat) (by omega) (by first | assumption | omega)
      refine OL.q (Q1.indexAddr rfl rfl hr1) rfl rfl ?_
      refine OL.q (Q1.loadN ti111 rfl (fun _ e => e ▸ hw1) rfl) rfl rfl ?_
      obtain ⟨gn1, hn1, hf1, hs_1⟩ := NRel.at hrel1 hx1
      refine OL.act rfl rfl (AW.store ti111 rfl rfl rfl rfl rfl f3 (Nat.le_of_ble_eq_true rfl) ?_)
      intro w3 hm3 hz2 hk2
      replace hk2 : Bk w3 b1 [.bool x1.fin, x1.e.val] 111 := hk2
      have f4 := hgr1.keepG hm3 (by omega)
      have f5 := hrel1.keepG hm3 (by omega)
      have f6 := hsl1.keepG hm3 (by omega)
      have f7 := hrw1.keepG hm3 (by omega)
      have f8 := hs_1.keepG hm3 (by omega)
      have hE3 := Ext.thenG hE2 hm3 (by omega)
      have hs3 := hm3.size
      refine OL.nil ?_
      refine r_retC1 Tryz.func85 rfl rfl ti111 hk2.row rfl ?_
      have hna := nodeAt_yes (by omega) hn1
      exact Ret.mk ⟨⟨_, _, rfl, by rw [hna]; exact hf1, by rw [hna]; exact f8⟩, hE3⟩
set_option maxRecDepth 20000 in
set_option maxHeartbeats 4000000 in
theorem final_c {w0 : World}  {v_g : Value} {lo_g hi_g : Nat} {g : List GN} (n : Int) (h_g : Gr 0 w0 lo_g hi_g v_g g) (hhi_g : hi_g ≤ w0.heap.size) (h_n : I64 n) (hgl : g.length ≤ 1000000) :
    Calls Tryz.prog 69 #[v_g, .int .i64 n] w0 (Ret fun rv w1 => (∃ rb : Bool, rb = ((nodeAt g n).1) ∧ rv = .bool rb) ∧ Ext w0 w1) := by
  have hE0 : Ext w0 w0 := Mod.refl _ _
  refine calls_enter Tryz.func69 rfl Tryz.ntmps69 rfl ?_
  refine r_seq ?_
  refine r_region ?_
  refine OL.q (Q1.assign rfl) rfl rfl ?_
  refine OL.nil ?_
  refine r_seq ?_
  refine r_region ?_
  refine OL.q (Q1.move rfl) rfl rfl ?_
  refine OL.q (Q1.move rfl) rfl rfl ?_
  refine OL.act rfl rfl (AW.callF cl85 rfl (get_c (w0 := w0) (g := g) (n) h_g (by omega) (by first | omega | assumption) (by first | assumption | omega)) ?_)
  rintro _ w1 ⟨⟨fb1, ve1, rfl, hfb1, hs_1⟩, hm1⟩
  obtain ⟨ad1, cp1, hv1⟩ := hs_1.shape
  subst hv1
  have f1 := h_g.ext hm1
  have hE1 := hE0.ext hm1
  have hs1 := hm1.size
  have hle_1 := hs_1.le
  refine OL.q (Q1.field (v := (.bool fb1 : Value)) rfl (fun _ => by kernel_rfl)) rfl rfl ?_
  refine OL.q (Q1.assign rfl) rfl rfl ?_
  refine OL.nil ?_
  refine r_ret1 Tryz.func69 rfl rfl ?_
  exact Ret.mk ⟨⟨_, (by first | assumption | exact hfb1 | (exfalso; omega)), rfl⟩, hE1⟩
set_option maxRecDepth 20000 in
set_option maxHeartbeats 4000000 in
theorem edges_c {w0 : World}  {v_g : Value} {lo_g hi_g : Nat} {g : List GN} (n : Int) (h_g : Gr 0 w0 lo_g hi_g v_g g) (hhi_g : hi_g ≤ w0.heap.size) (h_n : I64 n) (hgl : g.length ≤ 1000000) (hel : ∀ x ∈ g, x.2.length ≤ 1000000) :
    Calls Tryz.prog 70 #[v_g, .int .i64 n] w0 (Ret fun rv w1 => (∃ gr, Acc encE 114 2 w1 gr rv ((nodeAt g n).2) ∧ (gr = 0 ∨ w0.heap.size < gr)) ∧ Ext w0 w1) := by
  have hE0 : Ext w0 w0 := Mod.refl _ _
  refine calls_enter Tryz.func70 rfl Tryz.ntmps70 rfl ?_
  refine r_seq ?_
  refine r_region ?_
  refine OL.q (Q1.assign rfl) rfl rfl ?_
  refine OL.nil ?_
  refine r_seq ?_
  refine r_region ?_
  refine OL.q (Q1.move rfl) rfl rfl ?_
  refine OL.q (Q1.move rfl) rfl rfl ?_
  refine OL.act rfl rfl (AW.callF cl85 rfl (get_c (w0 := w0) (g := g) (n) h_g (by omega) (by first | omega | assumption) (by first | assumption | omega)) ?_)
  rintro _ w1 ⟨⟨fb1, ve1, rfl, hfb1, hs_1⟩, hm1⟩
  obtain ⟨ad1, cp1, hv1⟩ := hs_1.shape
  subst hv1
  have f1 := h_g.ext hm1
  have hE1 := hE0.ext hm1
  have hs1 := hm1.size
  have hle_1 := hs_1.le
  refine OL.q (Q1.field (v := (.slice ad1 (nodeAt g n).2.length cp1)) rfl (fun _ => by kernel_rfl)) rfl rfl ?_
  have hnl := nodeAt_len hel n
  refine OL.act rfl rfl (AW.callF cl86 rfl (cloneE_c (w0 := w1) (s := (nodeAt g n).2)  ((hs_1).iv (Nat.zero_le _) (by omega)) (by first | assumption | omega)) ?_)
  rintro v1 w2 ⟨⟨gr1, h1, hg1⟩, hm2⟩
  have f2 := f1.ext hm2
  have f3 := hs_1.ext hm2
  have hE2 := hE1.ext hm2
  have hs2 := hm2.size
  have hle_2 := h1.le
  have hlt_1 := h1.lt
  refine OL.q (Q1.assign rfl) rfl rfl ?_
  refine OL.nil ?_
  refine r_ret1 Tryz.func70 rfl rfl ?_
  exact Ret.mk ⟨⟨_, Acc.cast h1 (by rfl), by omega⟩, hE2⟩
end Go.Proofs
namespace Go.Proofs
open Go.Ik Go.Ml
def Tryz.joinL_ren : Go.Shelf.Ren := ⟨fun | 156 => 82 | 165 => 96 | 166 => 97 | 169 => 98 | 240 => 103 | 241 => 104 | 276 => 106 | 277 => 107 | n => n, fun | 31 => 22 | 9 => 9 | 3 => 3 | 4 => 4 | 0 => 0 | 20 => 20 | 72 => 144 | 76 => 148 | 70 => 142 | 37 => 47 | 75 => 147 | 127 => 156 | 164 => 158 | 5 => 5 | 80 => 150 | n => n, fun | n => n⟩
theorem Tryz.joinL : Go.Proofs.Lays.n156 Tryz.prog Tryz.joinL_ren := {
  mixed := by kernel_rfl,
  f156 := Tryz.func82.trans (congrArg some (by kernel_rfl)),
  f165 := Tryz.func96.trans (congrArg some (by kernel_rfl)),
  f166 := Tryz.func97.trans (congrArg some (by kernel_rfl)),
  f169 := Tryz.func98.trans (congrArg some (by kernel_rfl)),
  f240 := Tryz.func103.trans (congrArg some (by kernel_rfl)),
  f241 := Tryz.func104.trans (congrArg some (by kernel_rfl)),
  f276 := Tryz.func106.trans (congrArg some (by kernel_rfl)),
  f277 := Tryz.func107.trans (congrArg some (by kernel_rfl)),
  t0 := Tryz.underlying0,
  a0 := Tryz.isAgg0,
  z0 := Tryz.sizeOf0,
  v0 := Tryz.zeroValue0,
  t3 := Tryz.underlying3,
  a3 := Tryz.isAgg3,
  z3 := Tryz.sizeOf3,
  v3 := Tryz.zeroValue3,
  t4 := Tryz.underlying4,
  a4 := Tryz.isAgg4,
  z4 := Tryz.sizeOf4,
  v4 := Tryz.zeroValue4,
  t9 := Tryz.underlying9,
  a9 := Tryz.isAgg9,
  z9 := Tryz.sizeOf9,
  v9 := Tryz.zeroValue9,
  t20 := Tryz.underlying20,
  a20 := Tryz.isAgg20,
  z20 := Tryz.sizeOf20,
  v20 := Tryz.zeroValue20,
  t31 := Tryz.underlying22,
  a31 := Tryz.isAgg22,
  z31 := Tryz.sizeOf22,
  v31 := Tryz.zeroValue22,
  t37 := Tryz.underlying47,
  a37 := Tryz.isAgg47,
  z37 := Tryz.sizeOf47,
  v37 := Tryz.zeroValue47,
  t70 := Tryz.underlying142,
  a70 := Tryz.isAgg142,
  z70 := Tryz.sizeOf142,
  v70 := Tryz.zeroValue142,
  t72 := Tryz.underlying144,
  a72 := Tryz.isAgg144,
  z72 := Tryz.sizeOf144,
  v72 := Tryz.zeroValue144,
  t75 := Tryz.underlying147,
  a75 := Tryz.isAgg147,
  z75 := Tryz.sizeOf147,
  v75 := Tryz.zeroValue147,
  t76 := Tryz.underlying148,
  a76 := Tryz.isAgg148,
  z76 := Tryz.sizeOf148,
  v76 := Tryz.zeroValue148,
  t127 := Tryz.underlying156,
  a127 := Tryz.isAgg156,
  z127 := Tryz.sizeOf156,
  v127 := Tryz.zeroValue156,
  t164 := Tryz.underlying158,
  a164 := Tryz.isAgg158,
  z164 := Tryz.sizeOf158,
  v164 := Tryz.zeroValue158 }
theorem joinX : Go.Proofs.Builder.Extra Tryz.prog Tryz.joinL_ren := {
  sizeBuilder := by kernel_rfl,
  liesBuilder := by kernel_rfl,
  t5 := Tryz.underlying5,
  a5 := Tryz.isAgg5,
  z5 := Tryz.sizeOf5,
  v5 := Tryz.zeroValue5,
  infoByte := by kernel_rfl,
  cellsByte := by kernel_rfl,
  sizeByte := by kernel_rfl,
  neB5 := by decide }
end Go.Proofs
