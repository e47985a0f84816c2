/-
  Walks through package disk.
-/
import Derived.Test.YtajedfbogchkcaaWSum
set_option linter.unusedVariables false
set_option linter.unusedSimpArgs false
namespace Go.Proofs
open Go.Ik Go.Ml
set_option maxRecDepth 20000 in
set_option maxHeartbeats 4000000 in
theorem dgetn_c {w0 : World} (s : Int) :
    Calls Try.prog 89 #[.pointer none, .int .i64 s] w0 (Ret fun rv w1 => rv = .tuple #[.pointer none, .int .i64 1] ∧ Ext w0 w1) := by
  have hS0 := St.start0 w0
  refine calls_enter Try.func89 rfl Try.ntmps89 rfl ?_
  refine r_seq ?_
  refine r_region ?_
  refine OL.q (Q1.assign rfl) rfl rfl ?_
  refine OL.q (Q1.assign rfl) rfl rfl ?_
  refine OL.nil ?_
  refine r_seq ?_
  refine r_block ?_
  refine r_seq ?_
  refine r_region ?_
  refine OL.q (Q1.move rfl) rfl rfl ?_
  refine OL.q (Q1.eqNil Try.underlying67 rfl rfl) rfl rfl ?_
  refine OL.q (Q1.assign rfl) rfl rfl ?_
  refine OL.nil ?_
  refine r_cond_t rfl ?_
  refine r_seq ?_
  refine r_region ?_
  refine OL.q (Q1.assign rfl) rfl rfl ?_
  refine OL.q (Q1.assign rfl) rfl rfl ?_
  refine OL.nil ?_
  refine r_ret2 Try.func89 rfl rfl rfl ?_
  exact Ret.mk ⟨rfl, hS0.mod⟩
set_option maxRecDepth 20000 in
set_option maxHeartbeats 4000000 in
theorem dreadn_c {w0 : World} (s : Int) :
    Calls Try.prog 49 #[.pointer none, .int .i64 s] w0 (Ret fun rv w1 => rv = .tuple #[.slice none 0 0, .int .i64 1] ∧ Ext w0 w1) := by
  have hS0 := St.start0 w0
  refine calls_enter Try.func49 rfl Try.ntmps49 rfl ?_
  refine r_seq ?_
  refine r_region ?_
  refine OL.q (Q1.assign rfl) rfl rfl ?_
  refine OL.q (Q1.assign rfl) rfl rfl ?_
  refine OL.nil ?_
  refine r_seq ?_
  refine r_region ?_
  refine OL.q (Q1.move rfl) rfl rfl ?_
  refine OL.q (Q1.move rfl) rfl rfl ?_
  refine OL.act rfl rfl (AW.callF cl89 rfl (dgetn_c (w0 := w0) s) ?_)
  rintro _ w1 ⟨rfl, hm1⟩
  have hS1 := hS0.ext hm1
  refine OL.q (Q1.move rfl) rfl rfl ?_
  refine OL.q (Q1.extract rfl rfl) rfl rfl ?_
  refine OL.q (Q1.extract rfl rfl) rfl rfl ?_
  refine OL.q (Q1.assign rfl) rfl rfl ?_
  refine OL.q (Q1.assign rfl) rfl rfl ?_
  refine OL.nil ?_
  refine r_seq ?_
  refine r_seq ?_
  refine r_region ?_
  refine OL.q (Q1.move rfl) rfl rfl ?_
  refine OL.qb (Q1.ne rfl rfl) rfl rfl ?_
  intro b1 hb1
  obtain rfl : b1 = true := hb1.trans (by rfl)
  refine OL.nil ?_
  refine r_cond_t rfl ?_
  refine r_seq ?_
  refine r_region ?_
  refine OL.q (Q1.move rfl) rfl rfl ?_
  refine OL.q (Q1.assign rfl) rfl rfl ?_
  refine OL.q (Q1.assign rfl) rfl rfl ?_
  refine OL.nil ?_
  refine r_ret2 Try.func49 rfl rfl rfl ?_
  exact Ret.mk ⟨rfl, hS1.mod⟩
set_option maxRecDepth 20000 in
set_option maxHeartbeats 4000000 in
theorem drotn_c {w0 : World} (s a x : Int) :
    Calls Try.prog 50 #[.pointer none, .int .i64 s, .int .i64 a, .int .i64 x] w0 (Ret fun rv w1 => rv = .int .i64 1 ∧ Ext w0 w1) := by
  have hS0 := St.start0 w0
  refine calls_enter Try.func50 rfl Try.ntmps50 rfl ?_
  refine r_seq ?_
  refine r_region ?_
  refine OL.q (Q1.assign rfl) rfl rfl ?_
  refine OL.nil ?_
  refine r_seq ?_
  refine r_region ?_
  refine OL.q (Q1.move rfl) rfl rfl ?_
  refine OL.q (Q1.move rfl) rfl rfl ?_
  refine OL.act rfl rfl (AW.callF cl89 rfl (dgetn_c (w0 := w0) s) ?_)
  rintro _ w1 ⟨rfl, hm1⟩
  have hS1 := hS0.ext hm1
  refine OL.q (Q1.move rfl) rfl rfl ?_
  refine OL.q (Q1.extract rfl rfl) rfl rfl ?_
  refine OL.q (Q1.extract rfl rfl) rfl rfl ?_
  refine OL.q (Q1.assign rfl) rfl rfl ?_
  refine OL.q (Q1.assign rfl) rfl rfl ?_
  refine OL.nil ?_
  refine r_seq ?_
  refine r_seq ?_
  refine r_region ?_
  refine OL.q (Q1.move rfl) rfl rfl ?_
  refine OL.qb (Q1.eq rfl rfl) rfl rfl ?_
  intro b1 hb1
  obtain rfl : b1 = false := hb1.trans (by rfl)
  refine OL.nil ?_
  refine r_cond_f rfl ?_
  refine r_skip ?_
  refine r_seq ?_
  refine r_region ?_
  refine OL.q (Q1.move rfl) rfl rfl ?_
  refine OL.q (Q1.assign rfl) rfl rfl ?_
  refine OL.nil ?_
  refine r_ret1 Try.func50 rfl rfl ?_
  exact Ret.mk ⟨rfl, hS1.mod⟩
set_option maxRecDepth 20000 in
set_option maxHeartbeats 4000000 in
theorem dmendn_c {w0 : World} (s : Int) :
    Calls Try.prog 51 #[.pointer none, .int .i64 s] w0 (Ret fun rv w1 => rv = .int .i64 1 ∧ Ext w0 w1) := by
  have hS0 := St.start0 w0
  refine calls_enter Try.func51 rfl Try.ntmps51 rfl ?_
  refine r_seq ?_
  refine r_region ?_
  refine OL.q (Q1.assign rfl) rfl rfl ?_
  refine OL.nil ?_
  refine r_seq ?_
  refine r_region ?_
  refine OL.q (Q1.move rfl) rfl rfl ?_
  refine OL.q (Q1.move rfl) rfl rfl ?_
  refine OL.act rfl rfl (AW.callF cl89 rfl (dgetn_c (w0 := w0) s) ?_)
  rintro _ w1 ⟨rfl, hm1⟩
  have hS1 := hS0.ext hm1
  refine OL.q (Q1.move rfl) rfl rfl ?_
  refine OL.q (Q1.extract rfl rfl) rfl rfl ?_
  refine OL.q (Q1.extract rfl rfl) rfl rfl ?_
  refine OL.q (Q1.assign rfl) rfl rfl ?_
  refine OL.q (Q1.assign rfl) rfl rfl ?_
  refine OL.nil ?_
  refine r_seq ?_
  refine r_seq ?_
  refine r_region ?_
  refine OL.q (Q1.move rfl) rfl rfl ?_
  refine OL.qb (Q1.eq rfl rfl) rfl rfl ?_
  intro b1 hb1
  obtain rfl : b1 = false := hb1.trans (by rfl)
  refine OL.nil ?_
  refine r_cond_f rfl ?_
  refine r_skip ?_
  refine r_seq ?_
  refine r_region ?_
  refine OL.q (Q1.move rfl) rfl rfl ?_
  refine OL.q (Q1.assign rfl) rfl rfl ?_
  refine OL.nil ?_
  refine r_ret1 Try.func51 rfl rfl ?_
  exact Ret.mk ⟨rfl, hS1.mod⟩
set_option maxRecDepth 20000 in
set_option maxHeartbeats 4000000 in
theorem drottenn_c {w0 : World} (s : Int) :
    Calls Try.prog 52 #[.pointer none, .int .i64 s] w0 (Ret fun rv w1 => rv = .bool false ∧ Ext w0 w1) := by
  have hS0 := St.start0 w0
  refine calls_enter Try.func52 rfl Try.ntmps52 rfl ?_
  refine r_seq ?_
  refine r_region ?_
  refine OL.q (Q1.assign rfl) rfl rfl ?_
  refine OL.nil ?_
  refine r_seq ?_
  refine r_region ?_
  refine OL.q (Q1.move rfl) rfl rfl ?_
  refine OL.q (Q1.move rfl) rfl rfl ?_
  refine OL.act rfl rfl (AW.callF cl89 rfl (dgetn_c (w0 := w0) s) ?_)
  rintro _ w1 ⟨rfl, hm1⟩
  have hS1 := hS0.ext hm1
  refine OL.q (Q1.move rfl) rfl rfl ?_
  refine OL.q (Q1.extract rfl rfl) rfl rfl ?_
  refine OL.q (Q1.extract rfl rfl) rfl rfl ?_
  refine OL.q (Q1.assign rfl) rfl rfl ?_
  refine OL.q (Q1.assign rfl) rfl rfl ?_
  refine OL.nil ?_
  refine r_seq ?_
  refine r_region ?_
  refine OL.q (Q1.move rfl) rfl rfl ?_
  refine OL.qb (Q1.eq rfl rfl) rfl rfl ?_
  intro b1 hb1
  obtain rfl : b1 = false := hb1.trans (by rfl)
  refine OL.q (Q1.move rfl) rfl rfl ?_
  refine OL.sk rfl rfl ?_
  refine OL.sk rfl rfl ?_
  refine OL.q (Q1.pick_f rfl rfl) rfl rfl ?_
  refine OL.q (Q1.assign rfl) rfl rfl ?_
  refine OL.nil ?_
  refine r_ret1 Try.func52 rfl rfl ?_
  exact Ret.mk ⟨rfl, hS1.mod⟩
set_option maxRecDepth 20000 in
set_option maxHeartbeats 4000000 in
theorem dlifen_c {w0 : World} :
    Calls Try.prog 53 #[.pointer none] w0 (Ret fun rv w1 => rv = .int .i64 0 ∧ Ext w0 w1) := by
  have hS0 := St.start0 w0
  refine calls_enter Try.func53 rfl Try.ntmps53 rfl ?_
  refine r_seq ?_
  refine r_region ?_
  refine OL.q (Q1.assign rfl) rfl rfl ?_
  refine OL.nil ?_
  refine r_seq ?_
  refine r_seq ?_
  refine r_region ?_
  refine OL.q (Q1.move rfl) rfl rfl ?_
  refine OL.q (Q1.eqNil Try.underlying67 rfl rfl) rfl rfl ?_
  refine OL.nil ?_
  refine r_cond_t rfl ?_
  refine r_seq ?_
  refine r_region ?_
  refine OL.q (Q1.assign rfl) rfl rfl ?_
  refine OL.nil ?_
  refine r_ret1 Try.func53 rfl rfl ?_
  exact Ret.mk ⟨rfl, hS0.mod⟩
set_option maxRecDepth 20000 in
set_option maxHeartbeats 4000000 in
theorem dbornn_c {w0 : World} :
    Calls Try.prog 54 #[.pointer none] w0 (Ret fun rv w1 => rv = .int .i64 0 ∧ Ext w0 w1) := by
  have hS0 := St.start0 w0
  refine calls_enter Try.func54 rfl Try.ntmps54 rfl ?_
  refine r_seq ?_
  refine r_region ?_
  refine OL.q (Q1.assign rfl) rfl rfl ?_
  refine OL.nil ?_
  refine r_seq ?_
  refine r_seq ?_
  refine r_region ?_
  refine OL.q (Q1.move rfl) rfl rfl ?_
  refine OL.q (Q1.eqNil Try.underlying67 rfl rfl) rfl rfl ?_
  refine OL.nil ?_
  refine r_cond_t rfl ?_
  refine r_seq ?_
  refine r_region ?_
  refine OL.q (Q1.assign rfl) rfl rfl ?_
  refine OL.nil ?_
  refine r_ret1 Try.func54 rfl rfl ?_
  exact Ret.mk ⟨rfl, hS0.mod⟩
set_option maxRecDepth 20000 in
set_option maxHeartbeats 4000000 in
theorem dget_c {w0 : World} {bd bm : Nat} {life : Int} {m : List (Int × Nat)} (s : Int) (hs : I64 s) (hr : Row w0 bd 0 [.map (some bm), .int .i64 life]) (hm : MapO intV ptrV w0 bm m) :
    Calls Try.prog 89 #[ptr bd 0, .int .i64 s] w0 (Ret fun rv w1 => rv = (match asc m s with | none => .tuple #[.pointer none, .int .i64 4] | some p => .tuple #[ptr p 0, .int .i64 0]) ∧ Ext w0 w1) := by
  have hS0 := St.start0 w0
  refine calls_enter Try.func89 rfl Try.ntmps89 rfl ?_
  refine r_seq ?_
  refine r_region ?_
  refine OL.q (Q1.assign rfl) rfl rfl ?_
  refine OL.q (Q1.assign rfl) rfl rfl ?_
  refine OL.nil ?_
  refine r_seq ?_
  refine r_block ?_
  refine r_seq ?_
  refine r_region ?_
  refine OL.q (Q1.move rfl) rfl rfl ?_
  refine OL.q (Q1.eqNil Try.underlying67 rfl rfl) rfl rfl ?_
  refine OL.q (Q1.assign rfl) rfl rfl ?_
  refine OL.nil ?_
  refine r_cond_f rfl ?_
  refine r_seq ?_
  refine r_region ?_
  refine OL.q (Q1.move rfl) rfl rfl ?_
  refine OL.q (Q1.nilCheckP rfl) rfl rfl ?_
  refine OL.q (Q1.fieldAddr fl139_0 rfl) rfl rfl ?_
  have hr1 := hr.sub 0 1 (Nat.le_of_ble_eq_true rfl)
  refine OL.q (Q1.load1 ti137 rfl (fun _ e => e ▸ hr1)) rfl rfl ?_
  refine OL.q (Q1.move rfl) rfl rfl ?_
  cases hfi : asc m s with
  | none =>
    refine OL.q (Q1.lookMiss (key := intV) (val := ptrV) (keyOk_int Try.underlying3) Try.underlying137 Try.zeroValue132 rfl rfl (fun _ e => e ▸ hm) hfi) rfl rfl ?_
    refine OL.q (Q1.eqNil Try.underlying132 rfl rfl) rfl rfl ?_
    refine OL.q (Q1.assign rfl) rfl rfl ?_
    refine OL.nil ?_
    refine r_cond_t rfl ?_
    refine r_seq ?_
    refine r_region ?_
    refine OL.q (Q1.assign rfl) rfl rfl ?_
    refine OL.q (Q1.assign rfl) rfl rfl ?_
    refine OL.nil ?_
    refine r_ret2 Try.func89 rfl rfl rfl ?_
    exact Ret.mk ⟨rfl, hS0.mod⟩
  | some p0 =>
    refine OL.q (Q1.lookHit (key := intV) (val := ptrV) (keyOk_int Try.underlying3) Try.underlying137 Try.zeroValue132 rfl rfl (fun _ e => e ▸ hm) hfi) rfl rfl ?_
    refine OL.q (Q1.eqNil Try.underlying132 rfl rfl) rfl rfl ?_
    refine OL.q (Q1.assign rfl) rfl rfl ?_
    refine OL.nil ?_
    refine r_cond_f rfl ?_
    refine r_skip ?_
    refine r_inBlock ?_
    refine r_seq ?_
    refine r_region ?_
    refine OL.q (Q1.move rfl) rfl rfl ?_
    refine OL.q (Q1.nilCheckP rfl) rfl rfl ?_
    refine OL.q (Q1.fieldAddr fl139_0 rfl) rfl rfl ?_
    have hr2 := hr.sub 0 1 (Nat.le_of_ble_eq_true rfl)
    refine OL.q (Q1.load1 ti137 rfl (fun _ e => e ▸ hr2)) rfl rfl ?_
    refine OL.q (Q1.move rfl) rfl rfl ?_
    refine OL.q (Q1.lookHit (key := intV) (val := ptrV) (keyOk_int Try.underlying3) Try.underlying137 Try.zeroValue132 rfl rfl (fun _ e => e ▸ hm) hfi) rfl rfl ?_
    refine OL.q (Q1.assign rfl) rfl rfl ?_
    refine OL.q (Q1.assign rfl) rfl rfl ?_
    refine OL.nil ?_
    refine r_ret2 Try.func89 rfl rfl rfl ?_
    exact Ret.mk ⟨rfl, hS0.mod⟩
set_option maxRecDepth 20000 in
set_option maxHeartbeats 4000000 in
theorem imrot_c {w0 : World} {p : Nat} {vg vn : Value} {good now : List UInt8} {G : Nat → Prop} (hr : Row w0 p 0 [vg, vn]) (hg : Sl encB w0 G vg good) (hn : Sl encB w0 G vn now) (hl : now.length = good.length) :
    Calls Try.prog 91 #[ptr p 0] w0 (Ret fun rv w1 => rv = .bool (decide (now ≠ good)) ∧ Ext w0 w1) := by
  have hS0 := St.start0 w0
  have hgl := hg.le
  refine calls_enter Try.func91 rfl Try.ntmps91 rfl ?_
  refine r_seq ?_
  refine r_region ?_
  refine OL.q (Q1.assign rfl) rfl rfl ?_
  refine OL.nil ?_
  refine r_seq ?_
  refine r_seq ?_
  refine r_region ?_
  refine OL.q (Q1.move rfl) rfl rfl ?_
  refine OL.q (Q1.nilCheckP rfl) rfl rfl ?_
  refine OL.q (Q1.fieldAddr fl136_0 rfl) rfl rfl ?_
  have hr1 := hr.sub 0 1 (Nat.le_of_ble_eq_true rfl)
  refine OL.q (Q1.load1 ti25 rfl (fun _ e => e ▸ hr1)) rfl rfl ?_
  refine OL.q (Q1.lenSl Try.underlying25 (hg) rfl) rfl rfl ?_
  refine OL.q (Q1.move rfl) rfl rfl ?_
  refine OL.nil ?_
  refine r_block ?_
  refine r_loop (I := fun m E W => ∃ (k : Nat), E = [(0, ptr p 0), (8, .int .i64 (((good.length : Nat) : Int))), (9, .int .i64 (((k : Nat) : Int)))] ∧ m = good.length - k ∧ St (fun _ => False) (fun _ => False) w0 W [] ∧ (good.take k = now.take k)) ?_ ?_
  · refine ⟨_, _, ⟨(0 : Nat), rfl, rfl, hS0, (by rfl)⟩, ⟨rfl, rfl, rfl, trivial⟩⟩
  · rintro _ _ w1 ⟨k, rfl, rfl, hS1, hi⟩ ih1
    refine r_seq ?_
    refine r_region ?_
    refine OL.qb (Q1.lt rfl rfl) rfl rfl ?_
    intro b1 hb1
    refine OL.nil ?_
    refine r_seq ?_
    cases b1 with
    | true =>
      replace hb1 := of_decide_eq_true hb1.symm
      refine r_cond_t rfl ?_
      refine r_skip ?_
      refine r_seq ?_
      refine r_block ?_
      refine r_seq ?_
      refine r_region ?_
      refine OL.q (Q1.move rfl) rfl rfl ?_
      refine OL.q (Q1.assign rfl) rfl rfl ?_
      refine OL.nil ?_
      refine r_seq ?_
      refine r_draw1 (fun i => false) 15 (fun w' => Mod (Mg 0) w1 w') mixed (by kernel_rfl) ?_
      intro w2 hm1
      have hS2 := hS1.ext hm1
      have hCw2 : Mod (Mg 0) w1 w2 := Mod.ofExt hm1
      refine ⟨hCw2, ?_⟩
      rw [show List.range' 0 (Array.size _) = [0, 1, 2, 3, 4, 5, 6, 7, 8, 9, 10, 11, 12, 13, 14] from rfl]
      refine OD.q rfl rfl (Q1.move rfl) rfl rfl ?_
      refine OD.q rfl rfl (Q1.nilCheckP rfl) rfl rfl ?_
      refine OD.q rfl rfl (Q1.fieldAddr fl136_0 rfl) rfl rfl ?_
      have f1 := hr.keep hS1.mod (fun h => h)
      have hr2 := f1.sub 0 1 (Nat.le_of_ble_eq_true rfl)
      refine OD.q rfl rfl (Q1.load1 ti25 rfl (fun _ hc => hr2.keepG hc (Nat.succ_ne_zero _))) rfl rfl ?_
      refine OD.q rfl rfl (Q1.move rfl) rfl rfl ?_
      have f2 := hS1.out hg (fun _ _ h => h)
      obtain ⟨x1, b2, o1, hx1, hr3, hl1, hw1⟩ := Sl.atF (P := Try.prog) f2 Try.underlying25 ti5 encB_len (k := .i64) (n := ((k : Nat) : Int)) (k) (by omega) (by first | assumption | omega)
      refine OD.q rfl rfl (Q1.indexAddr rfl rfl hr3) rfl rfl ?_
      refine OD.q rfl rfl (Q1.load1 ti5 rfl (fun _ hc => hw1.keepG hc (Nat.succ_ne_zero _))) rfl rfl ?_
      refine OD.q rfl rfl (Q1.move rfl) rfl rfl ?_
      refine OD.q rfl rfl (Q1.nilCheckP rfl) rfl rfl ?_
      refine OD.q rfl rfl (Q1.fieldAddr fl136_1 rfl) rfl rfl ?_
      have hr4 := f1.sub 1 1 (Nat.le_of_ble_eq_true rfl)
      refine OD.q rfl rfl (Q1.load1 ti25 rfl (fun _ hc => hr4.keepG hc (Nat.succ_ne_zero _))) rfl rfl ?_
      refine OD.q rfl rfl (Q1.move rfl) rfl rfl ?_
      have f3 := hS1.out hn (fun _ _ h => h)
      obtain ⟨x2, b3, o2, hx2, hr5, hl2, hw2⟩ := Sl.atF (P := Try.prog) f3 Try.underlying25 ti5 encB_len (k := .i64) (n := ((k : Nat) : Int)) (k) (by omega) (by first | assumption | omega)
      refine OD.q rfl rfl (Q1.indexAddr rfl rfl hr5) rfl rfl ?_
      refine OD.q rfl rfl (Q1.load1 ti5 rfl (fun _ hc => hw2.keepG hc (Nat.succ_ne_zero _))) rfl rfl ?_
      refine OD.qb rfl rfl (Q1.ne rfl rfl) rfl rfl ?_
      intro b4 hb2
      refine OD.nil ?_
      cases b4 with
      | true =>
        replace hb2 := bne_iff_ne.1 hb2.symm
        refine r_cond_t rfl ?_
        refine r_seq ?_
        refine r_region ?_
        refine OL.q (Q1.assign rfl) rfl rfl ?_
        refine OL.nil ?_
        refine r_ret1 Try.func91 rfl rfl ?_
        have e := Ml.same_not hx1 hx2 (fun e => absurd (congrArg UInt8.toNat e) (by omega))
        have hq : decide (now ≠ good) = true := decide_eq_true (fun h => e h.symm)
        exact Ret.mk ⟨congrArg Value.bool hq.symm, hS2.mod⟩
      | false =>
        replace hb2 := bne_eq_false_iff_eq.1 hb2.symm
        refine r_cond_f rfl ?_
        refine r_skip ?_
        refine r_inBlock ?_
        refine r_region ?_
        refine OL.q (Q1.addI (((k + 1 : Nat) : Int)) rfl rfl (by omega)) rfl rfl ?_
        refine OL.q (Q1.move rfl) rfl rfl ?_
        refine OL.nil ?_
        exact (ih1 _ _ _ ⟨(k + 1 : Nat), rfl, rfl, hS2, (by first | exact Ml.same_take hi hx1 hx2 (UInt8.toNat_inj.1 (by omega)) | (exfalso; omega))⟩ (by omega)).sub ⟨rfl, rfl, rfl, trivial⟩
    | false =>
      replace hb1 := of_decide_eq_false hb1.symm
      refine r_cond_f rfl ?_
      refine r_exit rfl ?_
      refine r_seq ?_
      refine r_region ?_
      refine OL.q (Q1.assign rfl) rfl rfl ?_
      refine OL.nil ?_
      refine r_ret1 Try.func91 rfl rfl ?_
      have e := Ml.same_all hi (by omega) (by omega)
      have hq : decide (now ≠ good) = false := decide_eq_false (fun h => h e.symm)
      exact Ret.mk ⟨congrArg Value.bool hq.symm, hS1.mod⟩
set_option maxRecDepth 20000 in
set_option maxHeartbeats 4000000 in
theorem dread_c {w0 : World} {F : Nat → Prop} {bd : Nat} {life : Int} {K : List DE} (s : Int) (hs : I64 s) (hA : (dkK (R := fun _ => False) 139 136 5 bd life K).p F w0) (hF : ∀ b, F b → b < w0.heap.size) (hK : DkOk K) :
    Calls Try.prog 49 #[ptr bd 0, .int .i64 s] w0 (Ret fun rv w1 => ∃ v, rv = .tuple #[v, .int .i64 (dkErr K s)] ∧ (∃ g, Acc encB 5 1 w1 g v (dkRead K s) ∧ (g = 0 ∨ w0.heap.size < g)) ∧ Ext w0 w1) := by
  have hS0 := St.start0 w0
  obtain ⟨D, bm, hD, hbd, hmp, him⟩ := dkK_in hA
  refine calls_enter Try.func49 rfl Try.ntmps49 rfl ?_
  refine r_seq ?_
  refine r_region ?_
  refine OL.q (Q1.assign rfl) rfl rfl ?_
  refine OL.q (Q1.assign rfl) rfl rfl ?_
  refine OL.nil ?_
  refine r_seq ?_
  refine r_region ?_
  refine OL.q (Q1.move rfl) rfl rfl ?_
  refine OL.q (Q1.move rfl) rfl rfl ?_
  cases hg : dkGet K s with
  | none =>
    refine OL.act rfl rfl (AW.callF cl89 rfl (dget_c (w0 := w0) s hs (hbd.row.ext hS0.mod) (hmp.ext hS0.mod)) ?_)
    rintro _ w1 ⟨rfl, hm1⟩
    have hS1 := hS0.ext hm1
    rw [dk_miss hD hg]
    dsimp only
    refine OL.q (Q1.move rfl) rfl rfl ?_
    refine OL.q (Q1.extract rfl rfl) rfl rfl ?_
    refine OL.q (Q1.extract rfl rfl) rfl rfl ?_
    refine OL.q (Q1.assign rfl) rfl rfl ?_
    refine OL.q (Q1.assign rfl) rfl rfl ?_
    refine OL.nil ?_
    refine r_seq ?_
    refine r_seq ?_
    refine r_region ?_
    refine OL.q (Q1.move rfl) rfl rfl ?_
    refine OL.qb (Q1.ne rfl rfl) rfl rfl ?_
    intro b1 hb1
    obtain rfl : b1 = true := hb1.trans (by rfl)
    refine OL.nil ?_
    refine r_cond_t rfl ?_
    refine r_seq ?_
    refine r_region ?_
    refine OL.q (Q1.move rfl) rfl rfl ?_
    refine OL.q (Q1.assign rfl) rfl rfl ?_
    refine OL.q (Q1.assign rfl) rfl rfl ?_
    refine OL.nil ?_
    refine r_ret2 Try.func49 rfl rfl rfl ?_
    exact Ret.mk ⟨.slice none 0 0, (congrArg (fun z : Int => Value.tuple #[.slice none 0 0, .int .i64 z]) (dk_no hg).1.symm), ⟨0, Acc.cast Acc.nil (dk_no hg).2.1.symm, .inl rfl⟩, hS1.mod⟩
  | some x0 =>
    obtain ⟨k, y, hk, hy, hys, has⟩ := dk_hit hD hg
    refine OL.act rfl rfl (AW.callF cl89 rfl (dget_c (w0 := w0) s hs (hbd.row.ext hS0.mod) (hmp.ext hS0.mod)) ?_)
    rintro _ w1 ⟨rfl, hm1⟩
    have hS1 := hS0.ext hm1
    rw [has]
    dsimp only
    have hyl : 1 ≤ y.good.length ∧ y.good.length ≤ 4000000 ∧ y.now.length = y.good.length := by subst hy; exact hK.2 _ (dkGet_key hg).2
    obtain ⟨vg, vn, hbi, hsg, hsn⟩ := him y (List.mem_of_getElem? hk)
    refine OL.q (Q1.move rfl) rfl rfl ?_
    refine OL.q (Q1.extract rfl rfl) rfl rfl ?_
    refine OL.q (Q1.extract rfl rfl) rfl rfl ?_
    refine OL.q (Q1.assign rfl) rfl rfl ?_
    refine OL.q (Q1.assign rfl) rfl rfl ?_
    refine OL.nil ?_
    refine r_seq ?_
    refine r_seq ?_
    refine r_region ?_
    refine OL.q (Q1.move rfl) rfl rfl ?_
    refine OL.qb (Q1.ne rfl rfl) rfl rfl ?_
    intro b1 hb1
    obtain rfl : b1 = false := hb1.trans (by rfl)
    refine OL.nil ?_
    refine r_cond_f rfl ?_
    refine r_skip ?_
    refine r_seq ?_
    refine r_region ?_
    refine OL.q (Q1.move rfl) rfl rfl ?_
    refine OL.q (Q1.nilCheckP rfl) rfl rfl ?_
    refine OL.q (Q1.fieldAddr fl136_1 rfl) rfl rfl ?_
    have f1 := hbi.row.keep hS1.mod (fun h => h)
    have hr1 := f1.sub 1 1 (Nat.le_of_ble_eq_true rfl)
    refine OL.q (Q1.load1 ti25 rfl (fun _ e => e ▸ hr1)) rfl rfl ?_
    have f2 := hS1.out hsn (fun _ _ h => h)
    refine OL.act rfl rfl (AW.callF cl90 rfl (cloneB_c (w0 := w1) (s := y.now)  (f2.mono (fun b hb => ⟨Nat.zero_le _, Nat.lt_of_lt_of_le (hF b hb) hS1.mod.size⟩)) (by first | assumption | omega)) ?_)
    rintro v1 w2 ⟨⟨gr1, h1, hg1⟩, hm2⟩
    have hS2 := hS1.ext hm2
    have hS3 : St (fun _ => False) (fun _ => False) w0 w2 [accR encB 5 1 v1 ((y.now))] := hS1.newAcc hm2 h1 hg1
    clear hg1
    have hle_1 := h1.le
    refine OL.q (Q1.assign rfl) rfl rfl ?_
    refine OL.q (Q1.assign rfl) rfl rfl ?_
    refine OL.nil ?_
    refine r_ret2 Try.func49 rfl rfl rfl ?_
    obtain ⟨ga, haq, hgq⟩ := hS3.accOut (i := 0) rfl
    exact Ret.mk ⟨_, (congrArg (fun z : Int => Value.tuple #[_, .int .i64 z]) (dk_yes hg).1.symm), ⟨ga, Acc.cast haq (by rw [(dk_yes hg).2.1, ← hy]; rfl), hgq⟩, hS3.mod⟩
set_option maxRecDepth 20000 in
set_option maxHeartbeats 4000000 in
theorem drotten_c {w0 : World} {F : Nat → Prop} {bd : Nat} {life : Int} {K : List DE} (s : Int) (hs : I64 s) (hA : (dkK (R := fun _ => False) 139 136 5 bd life K).p F w0) (hF : ∀ b, F b → b < w0.heap.size) (hK : DkOk K) :
    Calls Try.prog 52 #[ptr bd 0, .int .i64 s] w0 (Ret fun rv w1 => rv = .bool (dkRotten K s) ∧ Ext w0 w1) := by
  have hS0 := St.start0 w0
  obtain ⟨D, bm, hD, hbd, hmp, him⟩ := dkK_in hA
  refine calls_enter Try.func52 rfl Try.ntmps52 rfl ?_
  refine r_seq ?_
  refine r_region ?_
  refine OL.q (Q1.assign rfl) rfl rfl ?_
  refine OL.nil ?_
  refine r_seq ?_
  refine r_region ?_
  refine OL.q (Q1.move rfl) rfl rfl ?_
  refine OL.q (Q1.move rfl) rfl rfl ?_
  cases hg : dkGet K s with
  | none =>
    refine OL.act rfl rfl (AW.callF cl89 rfl (dget_c (w0 := w0) s hs (hbd.row.ext hS0.mod) (hmp.ext hS0.mod)) ?_)
    rintro _ w1 ⟨rfl, hm1⟩
    have hS1 := hS0.ext hm1
    rw [dk_miss hD hg]
    dsimp only
    refine OL.q (Q1.move rfl) rfl rfl ?_
    refine OL.q (Q1.extract rfl rfl) rfl rfl ?_
    refine OL.q (Q1.extract rfl rfl) rfl rfl ?_
    refine OL.q (Q1.assign rfl) rfl rfl ?_
    refine OL.q (Q1.assign rfl) rfl rfl ?_
    refine OL.nil ?_
    refine r_seq ?_
    refine r_region ?_
    refine OL.q (Q1.move rfl) rfl rfl ?_
    refine OL.qb (Q1.eq rfl rfl) rfl rfl ?_
    intro b1 hb1
    obtain rfl : b1 = false := hb1.trans (by rfl)
    refine OL.q (Q1.move rfl) rfl rfl ?_
    refine OL.sk rfl rfl ?_
    refine OL.sk rfl rfl ?_
    refine OL.q (Q1.pick_f rfl rfl) rfl rfl ?_
    refine OL.q (Q1.assign rfl) rfl rfl ?_
    refine OL.nil ?_
    refine r_ret1 Try.func52 rfl rfl ?_
    exact Ret.mk ⟨congrArg Value.bool (dk_no hg).2.2.1.symm, hS1.mod⟩
  | some x0 =>
    obtain ⟨k, y, hk, hy, hys, has⟩ := dk_hit hD hg
    refine OL.act rfl rfl (AW.callF cl89 rfl (dget_c (w0 := w0) s hs (hbd.row.ext hS0.mod) (hmp.ext hS0.mod)) ?_)
    rintro _ w1 ⟨rfl, hm1⟩
    have hS1 := hS0.ext hm1
    rw [has]
    dsimp only
    have hyl : 1 ≤ y.good.length ∧ y.good.length ≤ 4000000 ∧ y.now.length = y.good.length := by subst hy; exact hK.2 _ (dkGet_key hg).2
    obtain ⟨vg, vn, hbi, hsg, hsn⟩ := him y (List.mem_of_getElem? hk)
    refine OL.q (Q1.move rfl) rfl rfl ?_
    refine OL.q (Q1.extract rfl rfl) rfl rfl ?_
    refine OL.q (Q1.extract rfl rfl) rfl rfl ?_
    refine OL.q (Q1.assign rfl) rfl rfl ?_
    refine OL.q (Q1.assign rfl) rfl rfl ?_
    refine OL.nil ?_
    refine r_seq ?_
    refine r_region ?_
    refine OL.q (Q1.move rfl) rfl rfl ?_
    refine OL.qb (Q1.eq rfl rfl) rfl rfl ?_
    intro b1 hb1
    obtain rfl : b1 = true := hb1.trans (by rfl)
    refine OL.q (Q1.move rfl) rfl rfl ?_
    refine OL.q (Q1.move rfl) rfl rfl ?_
    refine OL.act rfl rfl (AW.callF cl91 rfl (imrot_c (w0 := w1) (G := F) (hbi.row.ext hS1.mod) (hsg.keep hS1.mod (fun _ _ h => h)) (hsn.keep hS1.mod (fun _ _ h => h)) hyl.2.2) ?_)
    rintro _ w2 ⟨rfl, hm2⟩
    have hS2 := hS1.ext hm2
    generalize hb2 : decide (y.now ≠ y.good) = b2
    replace hb2 := hb2.symm
    refine OL.q (Q1.pick_t rfl rfl) rfl rfl ?_
    refine OL.q (Q1.assign rfl) rfl rfl ?_
    refine OL.nil ?_
    refine r_ret1 Try.func52 rfl rfl ?_
    exact Ret.mk ⟨by rw [(dk_yes hg).2.2, ← hy]; exact congrArg Value.bool (by assumption), hS2.mod⟩
set_option maxRecDepth 20000 in
set_option maxHeartbeats 4000000 in
theorem dlife_c {w0 : World} {F : Nat → Prop} {bd : Nat} {life : Int} {K : List DE} (hA : (dkK (R := fun _ => False) 139 136 5 bd life K).p F w0) :
    Calls Try.prog 53 #[ptr bd 0] w0 (Ret fun rv w1 => rv = .int .i64 life ∧ Ext w0 w1) := by
  have hS0 := St.start0 w0
  obtain ⟨D, bm, hD, hbd, hmp, him⟩ := dkK_in hA
  refine calls_enter Try.func53 rfl Try.ntmps53 rfl ?_
  refine r_seq ?_
  refine r_region ?_
  refine OL.q (Q1.assign rfl) rfl rfl ?_
  refine OL.nil ?_
  refine r_seq ?_
  refine r_seq ?_
  refine r_region ?_
  refine OL.q (Q1.move rfl) rfl rfl ?_
  refine OL.q (Q1.eqNil Try.underlying67 rfl rfl) rfl rfl ?_
  refine OL.nil ?_
  refine r_cond_f rfl ?_
  refine r_skip ?_
  refine r_seq ?_
  refine r_region ?_
  refine OL.q (Q1.move rfl) rfl rfl ?_
  refine OL.q (Q1.nilCheckP rfl) rfl rfl ?_
  refine OL.q (Q1.fieldAddr fl139_1 rfl) rfl rfl ?_
  have hr1 := hbd.row.sub 1 1 (Nat.le_of_ble_eq_true rfl)
  refine OL.q (Q1.load1 ti3 rfl (fun _ e => e ▸ hr1)) rfl rfl ?_
  refine OL.q (Q1.assign rfl) rfl rfl ?_
  refine OL.nil ?_
  refine r_ret1 Try.func53 rfl rfl ?_
  exact Ret.mk ⟨rfl, hS0.mod⟩
set_option maxRecDepth 20000 in
set_option maxHeartbeats 4000000 in
theorem dmend_c {w0 : World} {F : Nat → Prop} {bd : Nat} {life : Int} {K : List DE} (s : Int) (hs : I64 s) (hA : (dkK (R := fun _ => False) 139 136 5 bd life K).p F w0) (hF : ∀ b, F b → b < w0.heap.size) (hK : DkOk K) :
    Calls Try.prog 51 #[ptr bd 0, .int .i64 s] w0 (Ret fun rv w1 => rv = .int .i64 (dkErr K s) ∧ Mod F w0 w1 ∧ ∃ F2, (dkK (R := fun _ => False) 139 136 5 bd life ((dkMend K s))).p F2 w1 ∧ ∀ b, F2 b → b < w1.heap.size ∧ (F b ∨ w0.heap.size ≤ b)) := by
  have hS00 := St.start1 (R := fun _ => False) hA (fun b hb => ⟨hF b hb, id⟩) (fun _ h => h.elim)
  have hS1 : St (fun _ => False) F w0 w0 [dkK 139 136 5 bd life K] := hS00
  refine calls_enter Try.func51 rfl Try.ntmps51 rfl ?_
  refine r_seq ?_
  refine r_region ?_
  refine OL.q (Q1.assign rfl) rfl rfl ?_
  refine OL.nil ?_
  refine r_seq ?_
  refine r_region ?_
  refine OL.q (Q1.move rfl) rfl rfl ?_
  refine OL.q (Q1.move rfl) rfl rfl ?_
  cases hg : dkGet K s with
  | none =>
    obtain ⟨Fy1, hAy1, hFy1, hky1⟩ := hS1.act (i := 0) rfl
    obtain ⟨D, bm, hD, hbd, hmp, him⟩ := dkK_in hAy1
    clear hky1
    refine OL.act rfl rfl (AW.callF cl89 rfl (dget_c (w0 := w0) s hs hbd.row hmp) ?_)
    rintro _ w1 ⟨rfl, hm1⟩
    have hS2 := hS1.ext hm1
    rw [dk_miss hD hg]
    dsimp only
    refine OL.q (Q1.move rfl) rfl rfl ?_
    refine OL.q (Q1.extract rfl rfl) rfl rfl ?_
    refine OL.q (Q1.extract rfl rfl) rfl rfl ?_
    refine OL.q (Q1.assign rfl) rfl rfl ?_
    refine OL.q (Q1.assign rfl) rfl rfl ?_
    refine OL.nil ?_
    refine r_seq ?_
    refine r_seq ?_
    refine r_region ?_
    refine OL.q (Q1.move rfl) rfl rfl ?_
    refine OL.qb (Q1.eq rfl rfl) rfl rfl ?_
    intro b1 hb1
    obtain rfl : b1 = false := hb1.trans (by rfl)
    refine OL.nil ?_
    refine r_cond_f rfl ?_
    refine r_skip ?_
    refine r_seq ?_
    refine r_region ?_
    refine OL.q (Q1.move rfl) rfl rfl ?_
    refine OL.q (Q1.assign rfl) rfl rfl ?_
    refine OL.nil ?_
    refine r_ret1 Try.func51 rfl rfl ?_
    obtain ⟨hmF, F2r, hAr, hFr⟩ := hS2.fin
    exact Ret.mk ⟨(congrArg (Value.int .i64) (dk_no hg).1.symm), hmF, F2r, by unfold dkMend; rw [(dk_no hg).2.2.2]; exact hAr, hFr⟩
  | some x0 =>
    obtain ⟨Fy1, hAy1, hFy1, hky1⟩ := hS1.act (i := 0) rfl
    obtain ⟨D, k, y, bm, hD, hk, hy, hys, has, hbx⟩ := dkK_out hAy1 hg
    have hS2 : St (fun _ => False) F w0 w0 [boxR [bkR bd [.map (some bm), .int .i64 life] 139, mapR intV ptrV bm (D.map fun x => (x.shard, x.ptr)), boxR ((D.take k).map (imR 136 5)), imR 136 5 y, boxR ((D.drop (k + 1)).map (imR 136 5))]] := hky1 _ _ _ (Mod.refl _ _) hbx (fun b hb => ⟨(hFy1 b hb).2, .inl hb⟩)
    clear hky1 hAy1 hbx
    have hS3 : St (fun _ => False) F w0 w0 [bkR bd [.map (some bm), .int .i64 life] 139, mapR intV ptrV bm ((D.map fun x => (x.shard, x.ptr))), boxR ((D.take k).map (imR 136 5)), imR 136 5 y, boxR ((D.drop (k + 1)).map (imR 136 5))] := St.open (L1 := []) hS2
    have f1 := hS3.bk (i := 0) rfl
    have f2 := hS3.map (i := 1) rfl
    refine OL.act rfl rfl (AW.callF cl89 rfl (dget_c (w0 := w0) s hs (f1).row f2) ?_)
    rintro _ w1 ⟨rfl, hm1⟩
    have hS4 := hS3.ext hm1
    rw [has]
    dsimp only
    have hyl : 1 ≤ y.good.length ∧ y.good.length ≤ 4000000 ∧ y.now.length = y.good.length := by subst hy; exact hK.2 _ (dkGet_key hg).2
    obtain ⟨⟨vg, vn⟩, hS5⟩ := hS4.exo (i := 3) rfl
    change St (fun _ => False) F w0 w1 [bkR bd [.map (some bm), .int .i64 life] 139, mapR intV ptrV bm ((D.map fun x => (x.shard, x.ptr))), boxR ((D.take k).map (imR 136 5)), boxR [bkR y.ptr [vg, vn] 136, accR encB 5 1 vg y.good, accR encB 5 1 vn y.now], boxR ((D.drop (k + 1)).map (imR 136 5))] at hS5
    have hS6 : St (fun _ => False) F w0 w1 [bkR bd [.map (some bm), .int .i64 life] 139, mapR intV ptrV bm ((D.map fun x => (x.shard, x.ptr))), boxR ((D.take k).map (imR 136 5)), boxR ((D.drop (k + 1)).map (imR 136 5)), boxR [bkR y.ptr [vg, vn] 136, accR encB 5 1 vg y.good, accR encB 5 1 vn y.now]] := hS5.sel [0, 1, 2, 4, 3] (by rfl) (by decide)
    have hS7 : St (fun _ => False) F w0 w1 [bkR bd [.map (some bm), .int .i64 life] 139, mapR intV ptrV bm ((D.map fun x => (x.shard, x.ptr))), boxR ((D.take k).map (imR 136 5)), boxR ((D.drop (k + 1)).map (imR 136 5)), boxR [bkR y.ptr [vg, vn] 136, accR encB 5 1 vg y.good, accR encB 5 1 vn y.now]] := hS6
    have hS8 : St (fun _ => False) F w0 w1 [bkR bd [.map (some bm), .int .i64 life] 139, mapR intV ptrV bm ((D.map fun x => (x.shard, x.ptr))), boxR ((D.take k).map (imR 136 5)), boxR ((D.drop (k + 1)).map (imR 136 5)), bkR y.ptr [vg, vn] 136, accR encB 5 1 vg y.good, accR encB 5 1 vn y.now] := St.open (L1 := [bkR bd [.map (some bm), .int .i64 life] 139, mapR intV ptrV bm ((D.map fun x => (x.shard, x.ptr))), boxR ((D.take k).map (imR 136 5)), boxR ((D.drop (k + 1)).map (imR 136 5))]) hS7
    refine OL.q (Q1.move rfl) rfl rfl ?_
    refine OL.q (Q1.extract rfl rfl) rfl rfl ?_
    refine OL.q (Q1.extract rfl rfl) rfl rfl ?_
    refine OL.q (Q1.assign rfl) rfl rfl ?_
    refine OL.q (Q1.assign rfl) rfl rfl ?_
    refine OL.nil ?_
    refine r_seq ?_
    refine r_seq ?_
    refine r_region ?_
    refine OL.q (Q1.move rfl) rfl rfl ?_
    refine OL.qb (Q1.eq rfl rfl) rfl rfl ?_
    intro b1 hb1
    obtain rfl : b1 = true := hb1.trans (by rfl)
    refine OL.nil ?_
    refine r_cond_t rfl ?_
    refine r_region ?_
    refine OL.q (Q1.move rfl) rfl rfl ?_
    refine OL.q (Q1.move rfl) rfl rfl ?_
    refine OL.q (Q1.nilCheckP rfl) rfl rfl ?_
    refine OL.q (Q1.fieldAddr fl136_0 rfl) rfl rfl ?_
    have f3 := hS8.bk (i := 4) rfl
    refine OL.q (Q1.load1 ti25 rfl (fun _ e => e ▸ (f3.cell 0 _ rfl))) rfl rfl ?_
    obtain ⟨g1, f4, hl1, k1⟩ := hS8.accK (i := 5) rfl
    refine OL.act rfl rfl (AW.callF cl90 rfl (cloneB_c (w0 := w1) (s := y.good)  (f4.sl.iv (Nat.zero_le _) f4.lt) (by first | assumption | omega)) ?_)
    rintro v1 w2 ⟨⟨gr1, h1, hg1⟩, hm2⟩
    have hS9 := hS8.ext hm2
    have hS10 : St (fun _ => False) F w0 w2 [bkR bd [.map (some bm), .int .i64 life] 139, mapR intV ptrV bm ((D.map fun x => (x.shard, x.ptr))), boxR ((D.take k).map (imR 136 5)), boxR ((D.drop (k + 1)).map (imR 136 5)), bkR y.ptr [vg, vn] 136, accR encB 5 1 vg y.good, accR encB 5 1 vn y.now, accR encB 5 1 v1 ((y.good))] := hS8.newAcc hm2 h1 hg1
    clear hg1
    have hle_1 := h1.le
    refine OL.q (Q1.nilCheckP rfl) rfl rfl ?_
    refine OL.q (Q1.fieldAddr fl136_1 rfl) rfl rfl ?_
    obtain ⟨g2, f5, hl2, k2⟩ := hS10.accK (i := 7) rfl
    obtain ⟨ad1, cp1, hv1⟩ := f5.shape
    subst hv1
    have f6 := hS10.bk (i := 4) rfl
    refine OL.act rfl rfl (AW.store ti25 rfl rfl rfl rfl rfl f6 (Nat.le_of_ble_eq_true rfl) ?_)
    intro w3 hm3 hz1 hk1
    have hS11 : St (fun _ => False) F w0 w3 [bkR bd [.map (some bm), .int .i64 life] 139, mapR intV ptrV bm ((D.map fun x => (x.shard, x.ptr))), boxR ((D.take k).map (imR 136 5)), boxR ((D.drop (k + 1)).map (imR 136 5)), bkR y.ptr [vg, (.slice ad1 ((y.good)).length cp1)] 136, accR encB 5 1 vg y.good, accR encB 5 1 vn y.now, accR encB 5 1 ((.slice ad1 ((y.good)).length cp1)) ((y.good))] := hS10.bkK (i := 4) rfl hm3 hk1
    refine OL.nil ?_
    refine r_seq ?_
    refine r_region ?_
    refine OL.q (Q1.move rfl) rfl rfl ?_
    refine OL.q (Q1.assign rfl) rfl rfl ?_
    refine OL.nil ?_
    refine r_ret1 Try.func51 rfl rfl ?_
    have hS12 : St (fun _ => False) F w0 w3 [bkR bd [.map (some bm), .int .i64 life] 139, mapR intV ptrV bm ((D.map fun x => (x.shard, x.ptr))), boxR ((D.take k).map (imR 136 5)), boxR ((D.drop (k + 1)).map (imR 136 5)), accR encB 5 1 vn y.now, bkR y.ptr [vg, (.slice ad1 ((y.good)).length cp1)] 136, accR encB 5 1 vg y.good, accR encB 5 1 ((.slice ad1 ((y.good)).length cp1)) ((y.good))] := hS11.sel [0, 1, 2, 3, 6, 4, 5, 7] (by rfl) (by decide)
    have hS13 : St (fun _ => False) F w0 w3 [bkR bd [.map (some bm), .int .i64 life] 139, mapR intV ptrV bm ((D.map fun x => (x.shard, x.ptr))), boxR ((D.take k).map (imR 136 5)), boxR ((D.drop (k + 1)).map (imR 136 5)), accR encB 5 1 vn y.now, boxR [bkR y.ptr [vg, (.slice ad1 ((y.good)).length cp1)] 136, accR encB 5 1 vg y.good, accR encB 5 1 ((.slice ad1 ((y.good)).length cp1)) ((y.good))]] := St.close (L1 := [bkR bd [.map (some bm), .int .i64 life] 139, mapR intV ptrV bm ((D.map fun x => (x.shard, x.ptr))), boxR ((D.take k).map (imR 136 5)), boxR ((D.drop (k + 1)).map (imR 136 5)), accR encB 5 1 vn y.now]) hS12
    have hS14 : St (fun _ => False) F w0 w3 [bkR bd [.map (some bm), .int .i64 life] 139, mapR intV ptrV bm ((D.map fun x => (x.shard, x.ptr))), boxR ((D.take k).map (imR 136 5)), boxR ((D.drop (k + 1)).map (imR 136 5)), accR encB 5 1 vn y.now, imR 136 5 { y with now := y.good }] := hS13.exi (A := fun vs : Value × Value => boxR [bkR y.ptr [vs.1, vs.2] 136, accR encB 5 1 vs.1 y.good, accR encB 5 1 vs.2 y.good]) (vg, (.slice ad1 ((y.good)).length cp1)) (i := 5) rfl
    have hS15 : St (fun _ => False) F w0 w3 [accR encB 5 1 vn y.now, bkR bd [.map (some bm), .int .i64 life] 139, mapR intV ptrV bm ((D.map fun x => (x.shard, x.ptr))), boxR ((D.take k).map (imR 136 5)), imR 136 5 { y with now := y.good }, boxR ((D.drop (k + 1)).map (imR 136 5))] := hS14.sel [4, 0, 1, 2, 5, 3] (by rfl) (by decide)
    have hS16 : St (fun _ => False) F w0 w3 [accR encB 5 1 vn y.now, boxR [bkR bd [.map (some bm), .int .i64 life] 139, mapR intV ptrV bm ((D.map fun x => (x.shard, x.ptr))), boxR ((D.take k).map (imR 136 5)), imR 136 5 { y with now := y.good }, boxR ((D.drop (k + 1)).map (imR 136 5))]] := St.close (L1 := [accR encB 5 1 vn y.now]) hS15
    have hS17 : St (fun _ => False) F w0 w3 [accR encB 5 1 vn y.now, dkK 139 136 5 bd life ((dkPut K s id))] := hS16.imp (i := 1) rfl (fun F_ h_ => dkK_back (f := id) hD hK hk hys h_)
    have hS18 : St (fun _ => False) F w0 w3 [dkK 139 136 5 bd life ((dkPut K s id))] := hS17.sel [1] (by rfl) (by decide)
    obtain ⟨hmF, F2r, hAr, hFr⟩ := hS18.fin
    exact Ret.mk ⟨(congrArg (Value.int .i64) (dk_yes hg).1.symm), hmF, F2r, hAr, hFr⟩
set_option maxRecDepth 20000 in
set_option maxHeartbeats 4000000 in
theorem drot_c {w0 : World} {F : Nat → Prop} {bd : Nat} {life : Int} {K : List DE} (s at_ x : Int) (hs : I64 s) (hA : (dkK (R := fun _ => False) 139 136 5 bd life K).p F w0) (hF : ∀ b, F b → b < w0.heap.size) (hK : DkOk K) :
    Calls Try.prog 50 #[ptr bd 0, .int .i64 s, .int .i64 at_, .int .i64 x] w0 (Ret fun rv w1 => rv = .int .i64 (dkErr K s) ∧ Mod F w0 w1 ∧ ∃ F2, (dkK (R := fun _ => False) 139 136 5 bd life ((dkRot K s at_ x))).p F2 w1 ∧ ∀ b, F2 b → b < w1.heap.size ∧ (F b ∨ w0.heap.size ≤ b)) := by
  have hS00 := St.start1 (R := fun _ => False) hA (fun b hb => ⟨hF b hb, id⟩) (fun _ h => h.elim)
  have hS1 : St (fun _ => False) F w0 w0 [dkK 139 136 5 bd life K] := hS00
  refine calls_enter Try.func50 rfl Try.ntmps50 rfl ?_
  refine r_seq ?_
  refine r_region ?_
  refine OL.q (Q1.assign rfl) rfl rfl ?_
  refine OL.nil ?_
  refine r_seq ?_
  refine r_region ?_
  refine OL.q (Q1.move rfl) rfl rfl ?_
  refine OL.q (Q1.move rfl) rfl rfl ?_
  cases hg : dkGet K s with
  | none =>
    obtain ⟨Fy1, hAy1, hFy1, hky1⟩ := hS1.act (i := 0) rfl
    obtain ⟨D, bm, hD, hbd, hmp, him⟩ := dkK_in hAy1
    clear hky1
    refine OL.act rfl rfl (AW.callF cl89 rfl (dget_c (w0 := w0) s hs hbd.row hmp) ?_)
    rintro _ w1 ⟨rfl, hm1⟩
    have hS2 := hS1.ext hm1
    rw [dk_miss hD hg]
    dsimp only
    refine OL.q (Q1.move rfl) rfl rfl ?_
    refine OL.q (Q1.extract rfl rfl) rfl rfl ?_
    refine OL.q (Q1.extract rfl rfl) rfl rfl ?_
    refine OL.q (Q1.assign rfl) rfl rfl ?_
    refine OL.q (Q1.assign rfl) rfl rfl ?_
    refine OL.nil ?_
    refine r_seq ?_
    refine r_seq ?_
    refine r_region ?_
    refine OL.q (Q1.move rfl) rfl rfl ?_
    refine OL.qb (Q1.eq rfl rfl) rfl rfl ?_
    intro b1 hb1
    obtain rfl : b1 = false := hb1.trans (by rfl)
    refine OL.nil ?_
    refine r_cond_f rfl ?_
    refine r_skip ?_
    refine r_seq ?_
    refine r_region ?_
    refine OL.q (Q1.move rfl) rfl rfl ?_
    refine OL.q (Q1.assign rfl) rfl rfl ?_
    refine OL.nil ?_
    refine r_ret1 Try.func50 rfl rfl ?_
    obtain ⟨hmF, F2r, hAr, hFr⟩ := hS2.fin
    exact Ret.mk ⟨(congrArg (Value.int .i64) (dk_no hg).1.symm), hmF, F2r, by unfold dkRot; rw [(dk_no hg).2.2.2]; exact hAr, hFr⟩
  | some x0 =>
    obtain ⟨Fy1, hAy1, hFy1, hky1⟩ := hS1.act (i := 0) rfl
    obtain ⟨D, k, y, bm, hD, hk, hy, hys, has, hbx⟩ := dkK_out hAy1 hg
    have hS2 : St (fun _ => False) F w0 w0 [boxR [bkR bd [.map (some bm), .int .i64 life] 139, mapR intV ptrV bm (D.map fun x => (x.shard, x.ptr)), boxR ((D.take k).map (imR 136 5)), imR 136 5 y, boxR ((D.drop (k + 1)).map (imR 136 5))]] := hky1 _ _ _ (Mod.refl _ _) hbx (fun b hb => ⟨(hFy1 b hb).2, .inl hb⟩)
    clear hky1 hAy1 hbx
    have hS3 : St (fun _ => False) F w0 w0 [bkR bd [.map (some bm), .int .i64 life] 139, mapR intV ptrV bm ((D.map fun x => (x.shard, x.ptr))), boxR ((D.take k).map (imR 136 5)), imR 136 5 y, boxR ((D.drop (k + 1)).map (imR 136 5))] := St.open (L1 := []) hS2
    have f1 := hS3.bk (i := 0) rfl
    have f2 := hS3.map (i := 1) rfl
    refine OL.act rfl rfl (AW.callF cl89 rfl (dget_c (w0 := w0) s hs (f1).row f2) ?_)
    rintro _ w1 ⟨rfl, hm1⟩
    have hS4 := hS3.ext hm1
    rw [has]
    dsimp only
    have hyl : 1 ≤ y.good.length ∧ y.good.length ≤ 4000000 ∧ y.now.length = y.good.length := by subst hy; exact hK.2 _ (dkGet_key hg).2
    obtain ⟨⟨vg, vn⟩, hS5⟩ := hS4.exo (i := 3) rfl
    change St (fun _ => False) F w0 w1 [bkR bd [.map (some bm), .int .i64 life] 139, mapR intV ptrV bm ((D.map fun x => (x.shard, x.ptr))), boxR ((D.take k).map (imR 136 5)), boxR [bkR y.ptr [vg, vn] 136, accR encB 5 1 vg y.good, accR encB 5 1 vn y.now], boxR ((D.drop (k + 1)).map (imR 136 5))] at hS5
    have hS6 : St (fun _ => False) F w0 w1 [bkR bd [.map (some bm), .int .i64 life] 139, mapR intV ptrV bm ((D.map fun x => (x.shard, x.ptr))), boxR ((D.take k).map (imR 136 5)), boxR ((D.drop (k + 1)).map (imR 136 5)), boxR [bkR y.ptr [vg, vn] 136, accR encB 5 1 vg y.good, accR encB 5 1 vn y.now]] := hS5.sel [0, 1, 2, 4, 3] (by rfl) (by decide)
    have hS7 : St (fun _ => False) F w0 w1 [bkR bd [.map (some bm), .int .i64 life] 139, mapR intV ptrV bm ((D.map fun x => (x.shard, x.ptr))), boxR ((D.take k).map (imR 136 5)), boxR ((D.drop (k + 1)).map (imR 136 5)), boxR [bkR y.ptr [vg, vn] 136, accR encB 5 1 vg y.good, accR encB 5 1 vn y.now]] := hS6
    have hS8 : St (fun _ => False) F w0 w1 [bkR bd [.map (some bm), .int .i64 life] 139, mapR intV ptrV bm ((D.map fun x => (x.shard, x.ptr))), boxR ((D.take k).map (imR 136 5)), boxR ((D.drop (k + 1)).map (imR 136 5)), bkR y.ptr [vg, vn] 136, accR encB 5 1 vg y.good, accR encB 5 1 vn y.now] := St.open (L1 := [bkR bd [.map (some bm), .int .i64 life] 139, mapR intV ptrV bm ((D.map fun x => (x.shard, x.ptr))), boxR ((D.take k).map (imR 136 5)), boxR ((D.drop (k + 1)).map (imR 136 5))]) hS7
    refine OL.q (Q1.move rfl) rfl rfl ?_
    refine OL.q (Q1.extract rfl rfl) rfl rfl ?_
    refine OL.q (Q1.extract rfl rfl) rfl rfl ?_
    refine OL.q (Q1.assign rfl) rfl rfl ?_
    refine OL.q (Q1.assign rfl) rfl rfl ?_
    refine OL.nil ?_
    refine r_seq ?_
    refine r_seq ?_
    refine r_region ?_
    refine OL.q (Q1.move rfl) rfl rfl ?_
    refine OL.qb (Q1.eq rfl rfl) rfl rfl ?_
    intro b1 hb1
    obtain rfl : b1 = true := hb1.trans (by rfl)
    refine OL.nil ?_
    refine r_cond_t rfl ?_
    refine r_seq ?_
    refine r_region ?_
    refine OL.q (Q1.move rfl) rfl rfl ?_
    refine OL.q (Q1.move rfl) rfl rfl ?_
    refine OL.q (Q1.nilCheckP rfl) rfl rfl ?_
    refine OL.q (Q1.fieldAddr fl136_0 rfl) rfl rfl ?_
    have f3 := hS8.bk (i := 4) rfl
    refine OL.q (Q1.load1 ti25 rfl (fun _ e => e ▸ (f3.cell 0 _ rfl))) rfl rfl ?_
    obtain ⟨g1, f4, hl1, k1⟩ := hS8.accK (i := 5) rfl
    refine OL.act rfl rfl (AW.callF cl90 rfl (cloneB_c (w0 := w1) (s := y.good)  (f4.sl.iv (Nat.zero_le _) f4.lt) (by first | assumption | omega)) ?_)
    rintro v1 w2 ⟨⟨gr1, h1, hg1⟩, hm2⟩
    have hS9 := hS8.ext hm2
    have hS10 : St (fun _ => False) F w0 w2 [bkR bd [.map (some bm), .int .i64 life] 139, mapR intV ptrV bm ((D.map fun x => (x.shard, x.ptr))), boxR ((D.take k).map (imR 136 5)), boxR ((D.drop (k + 1)).map (imR 136 5)), bkR y.ptr [vg, vn] 136, accR encB 5 1 vg y.good, accR encB 5 1 vn y.now, accR encB 5 1 v1 ((y.good))] := hS8.newAcc hm2 h1 hg1
    clear hg1
    have hle_1 := h1.le
    refine OL.q (Q1.nilCheckP rfl) rfl rfl ?_
    refine OL.q (Q1.fieldAddr fl136_1 rfl) rfl rfl ?_
    obtain ⟨g2, f5, hl2, k2⟩ := hS10.accK (i := 7) rfl
    obtain ⟨ad1, cp1, hv1⟩ := f5.shape
    subst hv1
    have f6 := hS10.bk (i := 4) rfl
    refine OL.act rfl rfl (AW.store ti25 rfl rfl rfl rfl rfl f6 (Nat.le_of_ble_eq_true rfl) ?_)
    intro w3 hm3 hz1 hk1
    have hS11 : St (fun _ => False) F w0 w3 [bkR bd [.map (some bm), .int .i64 life] 139, mapR intV ptrV bm ((D.map fun x => (x.shard, x.ptr))), boxR ((D.take k).map (imR 136 5)), boxR ((D.drop (k + 1)).map (imR 136 5)), bkR y.ptr [vg, (.slice ad1 ((y.good)).length cp1)] 136, accR encB 5 1 vg y.good, accR encB 5 1 vn y.now, accR encB 5 1 ((.slice ad1 ((y.good)).length cp1)) ((y.good))] := hS10.bkK (i := 4) rfl hm3 hk1
    refine OL.nil ?_
    refine r_draw1 (fun i => Nat.beq i 22) 22 (fun w' => Mod (Mg 0) w3 w') mixed (by kernel_rfl) ?_
    intro w4 hm4
    have hS12 := hS11.ext hm4
    have hCw4 : Mod (Mg 0) w3 w4 := Mod.ofExt hm4
    refine ⟨hCw4, ?_⟩
    rw [show List.range' 0 (Array.size _) = [0, 1, 2, 3, 4, 5, 6, 7, 8, 9, 10, 11, 12, 13, 14, 15, 16, 17, 18, 19, 20, 21, 22] from rfl]
    refine OD.q rfl rfl (Q1.move rfl) rfl rfl ?_
    refine OD.q rfl rfl (Q1.nilCheckP rfl) rfl rfl ?_
    refine OD.q rfl rfl (Q1.fieldAddr fl136_1 rfl) rfl rfl ?_
    have f7 := hS11.bk (i := 4) rfl
    refine OD.q rfl rfl (Q1.load1 ti25 rfl (fun _ hc => (f7.cell 1 _ rfl).keepG hc (Nat.succ_ne_zero _))) rfl rfl ?_
    refine OD.q rfl rfl (Q1.move rfl) rfl rfl ?_
    refine OD.q rfl rfl (Q1.convI (by kernel_rfl) Try.underlying108 rfl) rfl rfl ?_
    have hx64 := Ml.u64_range at_
    refine OD.q rfl rfl (Q1.move rfl) rfl rfl ?_
    refine OD.q rfl rfl (Q1.nilCheckP rfl) rfl rfl ?_
    refine OD.q rfl rfl (Q1.fieldAddr fl136_1 rfl) rfl rfl ?_
    refine OD.q rfl rfl (Q1.load1 ti25 rfl (fun _ hc => (f7.cell 1 _ rfl).keepG hc (Nat.succ_ne_zero _))) rfl rfl ?_
    obtain ⟨g3, f8, hl3, k3⟩ := hS11.accK (i := 7) rfl
    refine OD.q rfl rfl (Q1.lenSl Try.underlying25 (f8.sl) rfl) rfl rfl ?_
    refine OD.q rfl rfl (Q1.convN (by kernel_rfl) Try.underlying108 rfl (IntWalk.u64_in _ (by omega))) rfl rfl ?_
    have := Int.emod_nonneg ((IntKind.u64.wrap at_) : Int) (by omega : (((((y.good)).length : Nat) : Int) : Int) ≠ 0)
    have := Int.emod_lt_of_pos ((IntKind.u64.wrap at_) : Int) (by omega : (0 : Int) < ((((y.good)).length : Nat) : Int))
    refine OD.q rfl rfl (Q1.remI (((IntKind.u64.wrap at_) % (((((y.good)).length : Nat) : Int)))) rfl rfl ⟨by omega, by omega, rfl⟩) rfl rfl ?_
    have hlow := Ml.low_range at_ (y.good.length : Int) (by omega)
    unfold Ml.lowM at hlow
    have hlt0 : ((IntKind.u64.wrap at_) % (((y.good.length : Nat) : Int))).toNat < y.good.length := turnAt_lt (by omega) at_
    obtain ⟨x1, b2, o1, hx1, hr1, hl4, hw1⟩ := Sl.atF (P := Try.prog) f8.sl Try.underlying25 ti5 encB_len (k := .u64) (n := ((IntKind.u64.wrap at_) % (((((y.good)).length : Nat) : Int)))) ((((IntKind.u64.wrap at_) % (((((y.good)).length : Nat) : Int)))).toNat) (by omega) (by first | assumption | omega)
    refine OD.q rfl rfl (Q1.indexAddr rfl rfl hr1) rfl rfl ?_
    refine OD.q rfl rfl (Q1.load1 ti5 rfl (fun _ hc => hw1.keepG hc (Nat.succ_ne_zero _))) rfl rfl ?_
    refine OD.q rfl rfl (Q1.move rfl) rfl rfl ?_
    refine OD.q rfl rfl (Q1.convI (by kernel_rfl) Try.underlying108 rfl) rfl rfl ?_
    have hy64 := Ml.u64_range x
    have := Int.emod_nonneg ((IntKind.u64.wrap x) : Int) (by omega : (255 : Int) ≠ 0)
    have := Int.emod_lt_of_pos ((IntKind.u64.wrap x) : Int) (by omega : (0 : Int) < 255)
    refine OD.q rfl rfl (Q1.remI (((IntKind.u64.wrap x) % 255)) rfl rfl ⟨by omega, by omega, rfl⟩) rfl rfl ?_
    refine OD.q rfl rfl (Q1.addU ((1 + (((IntKind.u64.wrap x) % 255)))) rfl rfl (by omega)) rfl rfl ?_
    refine OD.q rfl rfl (Q1.convB (by kernel_rfl) Try.underlying5 rfl) rfl rfl ?_
    refine OD.q rfl rfl (Q1.xor8 (a := x1) (b := (byN ((1 + (((IntKind.u64.wrap x) % 255)))))) rfl rfl) rfl rfl ?_
    obtain ⟨hr2, x2, hx2⟩ := Acc.at (P := Try.prog) f8 Try.underlying25 ti5 (k := .u64) (n := ((IntKind.u64.wrap at_) % (((((y.good)).length : Nat) : Int)))) ((((IntKind.u64.wrap at_) % (((((y.good)).length : Nat) : Int)))).toNat) (by omega) (by first | assumption | omega | (simp; done))
    refine OD.q rfl rfl (Q1.indexAddr rfl rfl hr2) rfl rfl ?_
    obtain ⟨g4, f9, hl6, k4⟩ := hS12.accK (i := 7) rfl
    have he1 := Acc.uniq f8 f9
    subst he1
    refine OD.act rfl rfl rfl rfl (AW.storeA f9 encB_len (i := ((((IntKind.u64.wrap at_) % (((((y.good)).length : Nat) : Int)))).toNat)) (o := 0) hx2 ((x1 ^^^ (byN ((1 + (((IntKind.u64.wrap x) % 255))))))) ti5 rfl (by first | omega | rfl) rfl rfl rfl rfl (by decide) (by first | rfl | simp [encB]) ?_)
    intro w5 hm5 hz2 ha1
    have hl5 : (((y.good)).set ((((IntKind.u64.wrap at_) % (((((y.good)).length : Nat) : Int)))).toNat) ((x1 ^^^ (byN ((1 + (((IntKind.u64.wrap x) % 255)))))))).length = ((y.good)).length := List.length_set
    have hS13 : St (fun _ => False) F w0 w5 [bkR bd [.map (some bm), .int .i64 life] 139, mapR intV ptrV bm ((D.map fun x => (x.shard, x.ptr))), boxR ((D.take k).map (imR 136 5)), boxR ((D.drop (k + 1)).map (imR 136 5)), bkR y.ptr [vg, (.slice ad1 ((y.good)).length cp1)] 136, accR encB 5 1 vg y.good, accR encB 5 1 vn y.now, accR encB 5 1 ((.slice ad1 ((y.good)).length cp1)) ((((y.good)).set ((((IntKind.u64.wrap at_) % (((((y.good)).length : Nat) : Int)))).toNat) ((x1 ^^^ (byN ((1 + (((IntKind.u64.wrap x) % 255)))))))))] := k4 _ _ _ _ hm5 ha1 (.inl rfl)
    refine ⟨.inl rfl, ?_⟩
    refine OD.nil ?_
    refine r_seq ?_
    refine r_region ?_
    have hS14 : St (fun _ => False) F w0 w5 [bkR bd [.map (some bm), .int .i64 life] 139, mapR intV ptrV bm ((D.map fun x => (x.shard, x.ptr))), boxR ((D.take k).map (imR 136 5)), boxR ((D.drop (k + 1)).map (imR 136 5)), bkR y.ptr [vg, (.slice ad1 ((y.good)).length cp1)] 136, accR encB 5 1 vg y.good, accR encB 5 1 vn y.now, accR encB 5 1 ((.slice ad1 ((y.good)).length cp1)) ((turnB y.good at_ x))] := hS13.imp (i := 7) rfl (fun F_ h_ => (by rw [turnB_yes hx1]; exact h_))
    refine OL.q (Q1.move rfl) rfl rfl ?_
    refine OL.q (Q1.assign rfl) rfl rfl ?_
    refine OL.nil ?_
    refine r_ret1 Try.func50 rfl rfl ?_
    have hS15 : St (fun _ => False) F w0 w5 [bkR bd [.map (some bm), .int .i64 life] 139, mapR intV ptrV bm ((D.map fun x => (x.shard, x.ptr))), boxR ((D.take k).map (imR 136 5)), boxR ((D.drop (k + 1)).map (imR 136 5)), accR encB 5 1 vn y.now, bkR y.ptr [vg, (.slice ad1 ((y.good)).length cp1)] 136, accR encB 5 1 vg y.good, accR encB 5 1 ((.slice ad1 ((y.good)).length cp1)) ((turnB y.good at_ x))] := hS14.sel [0, 1, 2, 3, 6, 4, 5, 7] (by rfl) (by decide)
    have hS16 : St (fun _ => False) F w0 w5 [bkR bd [.map (some bm), .int .i64 life] 139, mapR intV ptrV bm ((D.map fun x => (x.shard, x.ptr))), boxR ((D.take k).map (imR 136 5)), boxR ((D.drop (k + 1)).map (imR 136 5)), accR encB 5 1 vn y.now, boxR [bkR y.ptr [vg, (.slice ad1 ((y.good)).length cp1)] 136, accR encB 5 1 vg y.good, accR encB 5 1 ((.slice ad1 ((y.good)).length cp1)) ((turnB y.good at_ x))]] := St.close (L1 := [bkR bd [.map (some bm), .int .i64 life] 139, mapR intV ptrV bm ((D.map fun x => (x.shard, x.ptr))), boxR ((D.take k).map (imR 136 5)), boxR ((D.drop (k + 1)).map (imR 136 5)), accR encB 5 1 vn y.now]) hS15
    have hS17 : St (fun _ => False) F w0 w5 [bkR bd [.map (some bm), .int .i64 life] 139, mapR intV ptrV bm ((D.map fun x => (x.shard, x.ptr))), boxR ((D.take k).map (imR 136 5)), boxR ((D.drop (k + 1)).map (imR 136 5)), accR encB 5 1 vn y.now, imR 136 5 { y with now := turnB y.good at_ x }] := hS16.exi (A := fun vs : Value × Value => boxR [bkR y.ptr [vs.1, vs.2] 136, accR encB 5 1 vs.1 y.good, accR encB 5 1 vs.2 (turnB y.good at_ x)]) (vg, (.slice ad1 ((y.good)).length cp1)) (i := 5) rfl
    have hS18 : St (fun _ => False) F w0 w5 [accR encB 5 1 vn y.now, bkR bd [.map (some bm), .int .i64 life] 139, mapR intV ptrV bm ((D.map fun x => (x.shard, x.ptr))), boxR ((D.take k).map (imR 136 5)), imR 136 5 { y with now := turnB y.good at_ x }, boxR ((D.drop (k + 1)).map (imR 136 5))] := hS17.sel [4, 0, 1, 2, 5, 3] (by rfl) (by decide)
    have hS19 : St (fun _ => False) F w0 w5 [accR encB 5 1 vn y.now, boxR [bkR bd [.map (some bm), .int .i64 life] 139, mapR intV ptrV bm ((D.map fun x => (x.shard, x.ptr))), boxR ((D.take k).map (imR 136 5)), imR 136 5 { y with now := turnB y.good at_ x }, boxR ((D.drop (k + 1)).map (imR 136 5))]] := St.close (L1 := [accR encB 5 1 vn y.now]) hS18
    have hS20 : St (fun _ => False) F w0 w5 [accR encB 5 1 vn y.now, dkK 139 136 5 bd life ((dkPut K s (fun b => turnB b at_ x)))] := hS19.imp (i := 1) rfl (fun F_ h_ => dkK_back (f := (fun b => turnB b at_ x)) hD hK hk hys h_)
    have hS21 : St (fun _ => False) F w0 w5 [dkK 139 136 5 bd life ((dkPut K s (fun b => turnB b at_ x)))] := hS20.sel [1] (by rfl) (by decide)
    obtain ⟨hmF, F2r, hAr, hFr⟩ := hS21.fin
    exact Ret.mk ⟨(congrArg (Value.int .i64) (dk_yes hg).1.symm), hmF, F2r, hAr, hFr⟩
set_option maxRecDepth 20000 in
set_option maxHeartbeats 4000000 in
theorem dborn_c {w0 : World} {F : Nat → Prop} {bd : Nat} {life : Int} {K : List DE} (hlf : 0 ≤ life ∧ life ≤ 1000000) (hA : (dkK (R := fun _ => False) 139 136 5 bd life K).p F w0) (hF : ∀ b, F b → b < w0.heap.size) :
    Calls Try.prog 54 #[ptr bd 0] w0 (Ret fun rv w1 => rv = .int .i64 (life + 1) ∧ Mod F w0 w1 ∧ ∃ F2, (dkK (R := fun _ => False) 139 136 5 bd ((life + 1)) K).p F2 w1 ∧ ∀ b, F2 b → b < w1.heap.size ∧ (F b ∨ w0.heap.size ≤ b)) := by
  have hS00 := St.start1 (R := fun _ => False) hA (fun b hb => ⟨hF b hb, id⟩) (fun _ h => h.elim)
  have hS1 : St (fun _ => False) F w0 w0 [dkK 139 136 5 bd life K] := hS00
  obtain ⟨Fy1, hAy1, hFy1, hky1⟩ := hS1.act (i := 0) rfl
  obtain ⟨D, bm, hD, hbx⟩ := dkK_op hAy1
  have hS2 : St (fun _ => False) F w0 w0 [boxR [bkR bd [.map (some bm), .int .i64 life] 139, mapR intV ptrV bm (D.map fun x => (x.shard, x.ptr)), boxR (D.map (imR 136 5))]] := hky1 _ _ _ (Mod.refl _ _) hbx (fun b hb => ⟨(hFy1 b hb).2, .inl hb⟩)
  clear hky1 hAy1 hbx
  have hS3 : St (fun _ => False) F w0 w0 [bkR bd [.map (some bm), .int .i64 life] 139, mapR intV ptrV bm (D.map fun x => (x.shard, x.ptr)), boxR (D.map (imR 136 5))] := St.open (L1 := []) hS2
  refine calls_enter Try.func54 rfl Try.ntmps54 rfl ?_
  refine r_seq ?_
  refine r_region ?_
  refine OL.q (Q1.assign rfl) rfl rfl ?_
  refine OL.nil ?_
  refine r_seq ?_
  refine r_seq ?_
  refine r_region ?_
  refine OL.q (Q1.move rfl) rfl rfl ?_
  refine OL.q (Q1.eqNil Try.underlying67 rfl rfl) rfl rfl ?_
  refine OL.nil ?_
  refine r_cond_f rfl ?_
  refine r_skip ?_
  refine r_seq ?_
  refine r_region ?_
  refine OL.q (Q1.move rfl) rfl rfl ?_
  refine OL.q (Q1.nilCheckP rfl) rfl rfl ?_
  refine OL.q (Q1.fieldAddr fl139_1 rfl) rfl rfl ?_
  have f1 := hS3.bk (i := 0) rfl
  refine OL.q (Q1.load1 ti3 rfl (fun _ e => e ▸ (f1.cell 1 _ rfl))) rfl rfl ?_
  refine OL.q (Q1.addI ((life + 1)) rfl rfl (by omega)) rfl rfl ?_
  refine OL.q (Q1.nilCheckP rfl) rfl rfl ?_
  refine OL.q (Q1.fieldAddr fl139_1 rfl) rfl rfl ?_
  refine OL.act rfl rfl (AW.store ti3 rfl rfl rfl rfl rfl f1 (Nat.le_of_ble_eq_true rfl) ?_)
  intro w1 hm1 hz1 hk1
  have hS4 : St (fun _ => False) F w0 w1 [bkR bd [.map (some bm), .int .i64 ((life + 1))] 139, mapR intV ptrV bm (D.map fun x => (x.shard, x.ptr)), boxR (D.map (imR 136 5))] := hS3.bkK (i := 0) rfl hm1 hk1
  refine OL.nil ?_
  refine r_seq ?_
  refine r_region ?_
  refine OL.q (Q1.move rfl) rfl rfl ?_
  refine OL.q (Q1.nilCheckP rfl) rfl rfl ?_
  refine OL.q (Q1.fieldAddr fl139_1 rfl) rfl rfl ?_
  have f2 := hS4.bk (i := 0) rfl
  refine OL.q (Q1.load1 ti3 rfl (fun _ e => e ▸ (f2.cell 1 _ rfl))) rfl rfl ?_
  refine OL.q (Q1.assign rfl) rfl rfl ?_
  refine OL.nil ?_
  refine r_ret1 Try.func54 rfl rfl ?_
  have hS5 : St (fun _ => False) F w0 w1 [boxR [bkR bd [.map (some bm), .int .i64 ((life + 1))] 139, mapR intV ptrV bm (D.map fun x => (x.shard, x.ptr)), boxR (D.map (imR 136 5))]] := St.close (L1 := []) hS4
  have hS6 : St (fun _ => False) F w0 w1 [dkK 139 136 5 bd ((life + 1)) K] := hS5.imp (i := 0) rfl (fun F_ h_ => dkK_cl hD h_)
  obtain ⟨hmF, F2r, hAr, hFr⟩ := hS6.fin
  exact Ret.mk ⟨rfl, hmF, F2r, hAr, hFr⟩
end Go.Proofs
