/-
  Walks through package part.
-/
import Derived.Test.YtgoellomgmgjnaaWText
set_option linter.unusedVariables false
set_option linter.unusedSimpArgs false
namespace Go.Proofs
open Go.Ik Go.Ml
set_option maxHeartbeats 4000000 in
theorem isnan_c {w0 : World} (x : Int)  :
    Calls Try.prog 35 #[.int .i64 x] w0 (Ret fun rv w1 => (∃ rb : Bool, rb = false ∧ rv = .bool rb) ∧ Ext w0 w1) := by
  have hE0 : Ext w0 w0 := Mod.refl _ _
  refine calls_enter Try.func35 rfl Try.ntmps35 rfl ?_
  refine r_seq ?_
  refine r_region ?_
  refine OL.q (Q1.assign rfl) rfl rfl ?_
  refine OL.nil ?_
  refine r_seq ?_
  refine r_region ?_
  refine OL.q (Q1.move rfl) rfl rfl ?_
  refine OL.q (Q1.move rfl) rfl rfl ?_
  refine OL.qb (Q1.ne rfl rfl) rfl rfl ?_
  intro b1 hb1
  refine OL.q (Q1.assign rfl) rfl rfl ?_
  refine OL.nil ?_
  refine r_ret1 Try.func35 rfl rfl ?_
  exact Ret.mk ⟨⟨_, (by first | simpa using hb1 | (exfalso; omega)), rfl⟩, hE0⟩
set_option maxHeartbeats 4000000 in
theorem cmpc_c {w0 : World} (x : Int) (y : Int)  :
    Calls Try.prog 33 #[.int .i64 x, .int .i64 y] w0 (Ret fun rv w1 => rv = .int .i64 (Ml.cmpI x y) ∧ Ext w0 w1) := by
  have hE0 : Ext w0 w0 := Mod.refl _ _
  refine calls_enter Try.func33 rfl Try.ntmps33 rfl ?_
  refine r_seq ?_
  refine r_region ?_
  refine OL.q (Q1.assign rfl) rfl rfl ?_
  refine OL.nil ?_
  refine r_seq ?_
  refine r_region ?_
  refine OL.q (Q1.move rfl) rfl rfl ?_
  refine OL.act rfl rfl (AW.callF cl35 rfl (isnan_c (w0 := w0)  (x) ) ?_)
  rintro _ w1 ⟨⟨_, rfl, rfl⟩, hm1⟩
  have hE1 := hE0.ext hm1
  have hs1 := hm1.size
  refine OL.q (Q1.assign rfl) rfl rfl ?_
  refine OL.nil ?_
  refine r_seq ?_
  refine r_region ?_
  refine OL.q (Q1.move rfl) rfl rfl ?_
  refine OL.act rfl rfl (AW.callF cl35 rfl (isnan_c (w0 := w1)  (y) ) ?_)
  rintro _ w2 ⟨⟨_, rfl, rfl⟩, hm2⟩
  have hE2 := hE1.ext hm2
  have hs2 := hm2.size
  refine OL.q (Q1.assign rfl) rfl rfl ?_
  refine OL.nil ?_
  refine r_seq ?_
  refine r_seq ?_
  refine r_region ?_
  refine OL.q (Q1.move rfl) rfl rfl ?_
  refine OL.nil ?_
  refine r_cond_f rfl ?_
  refine r_skip ?_
  refine r_seq ?_
  refine r_seq ?_
  refine r_region ?_
  refine OL.q (Q1.move rfl) rfl rfl ?_
  refine OL.nil ?_
  refine r_cond_f rfl ?_
  refine r_skip ?_
  refine r_seq ?_
  refine r_seq ?_
  refine r_region ?_
  refine OL.q (Q1.move rfl) rfl rfl ?_
  refine OL.q (Q1.move rfl) rfl rfl ?_
  refine OL.qb (Q1.lt rfl rfl) rfl rfl ?_
  intro b1 hb1
  refine OL.nil ?_
  cases b1 with
  | true =>
    replace hb1 := of_decide_eq_true hb1.symm
    refine r_cond_t rfl ?_
    refine r_seq ?_
    refine r_region ?_
    refine OL.q (Q1.assign rfl) rfl rfl ?_
    refine OL.nil ?_
    refine r_ret1 Try.func33 rfl rfl ?_
    exact Ret.mk ⟨(congrArg (Value.int .i64) (by first | (unfold Ml.cmpI; rw [if_pos (by omega)]) | (unfold Ml.cmpI; rw [if_neg (by omega), if_pos (by omega)]) | (unfold Ml.cmpI; rw [if_neg (by omega), if_neg (by omega)]) | (exfalso; omega))), hE2⟩
  | false =>
    replace hb1 := of_decide_eq_false hb1.symm
    refine r_cond_f rfl ?_
    refine r_skip ?_
    refine r_seq ?_
    refine r_seq ?_
    refine r_region ?_
    refine OL.q (Q1.move rfl) rfl rfl ?_
    refine OL.q (Q1.move rfl) rfl rfl ?_
    refine OL.qb (Q1.gt rfl rfl) rfl rfl ?_
    intro b2 hb2
    refine OL.nil ?_
    cases b2 with
    | true =>
      replace hb2 := of_decide_eq_true hb2.symm
      refine r_cond_t rfl ?_
      refine r_seq ?_
      refine r_region ?_
      refine OL.q (Q1.assign rfl) rfl rfl ?_
      refine OL.nil ?_
      refine r_ret1 Try.func33 rfl rfl ?_
      exact Ret.mk ⟨(congrArg (Value.int .i64) (by first | (unfold Ml.cmpI; rw [if_pos (by omega)]) | (unfold Ml.cmpI; rw [if_neg (by omega), if_pos (by omega)]) | (unfold Ml.cmpI; rw [if_neg (by omega), if_neg (by omega)]) | (exfalso; omega))), hE2⟩
    | false =>
      replace hb2 := of_decide_eq_false hb2.symm
      refine r_cond_f rfl ?_
      refine r_skip ?_
      refine r_seq ?_
      refine r_region ?_
      refine OL.q (Q1.assign rfl) rfl rfl ?_
      refine OL.nil ?_
      refine r_ret1 Try.func33 rfl rfl ?_
      exact Ret.mk ⟨(congrArg (Value.int .i64) (by first | (unfold Ml.cmpI; rw [if_pos (by omega)]) | (unfold Ml.cmpI; rw [if_neg (by omega), if_pos (by omega)]) | (unfold Ml.cmpI; rw [if_neg (by omega), if_neg (by omega)]) | (exfalso; omega))), hE2⟩
set_option maxHeartbeats 4000000 in
theorem cmpor_c {w0 : World} {v_vals : Value} {vals : List Int} (h_vals : Sl encI w0 (Iv 0 w0.heap.size) v_vals vals) :
    Calls Try.prog 32 #[v_vals] w0 (Ret fun rv w1 => rv = .int .i64 (Ml.orI vals) ∧ Ext w0 w1) := by
  have hE0 : Ext w0 w0 := Mod.refl _ _
  have hle1 := h_vals.le
  refine calls_enter Try.func32 rfl Try.ntmps32 rfl ?_
  refine r_seq ?_
  refine r_region ?_
  refine OL.q (Q1.assign rfl) rfl rfl ?_
  refine OL.nil ?_
  refine r_seq ?_
  refine r_region ?_
  refine OL.q (Q1.assign rfl) rfl rfl ?_
  refine OL.nil ?_
  refine r_seq ?_
  refine r_seq ?_
  refine r_region ?_
  refine OL.q (Q1.move rfl) rfl rfl ?_
  refine OL.q (Q1.lenSl Try.underlying28 (h_vals) rfl) rfl rfl ?_
  refine OL.q (Q1.move rfl) rfl rfl ?_
  refine OL.nil ?_
  refine r_block ?_
  refine r_loop (I := fun m E W => ∃ (k : Nat), E = [(3, .int .i64 0), (6, v_vals), (7, .int .i64 (((vals.length : Nat) : Int))), (8, .int .i64 (((k : Nat) : Int)))] ∧ m = vals.length - k ∧ Ext w0 W ∧ w0.heap.size ≤ W.heap.size ∧ Sl encI W (Iv 0 w0.heap.size) v_vals vals ∧ (Ml.orI vals = Ml.orI (vals.drop k))) ?_ ?_
  · refine ⟨_, _, ⟨(0 : Nat), rfl, rfl, hE0, Nat.le_refl _, h_vals, (by rfl)⟩, ⟨rfl, rfl, rfl, rfl, trivial⟩⟩
  · rintro _ _ w1 ⟨k, rfl, rfl, hE1, hs1, f1, hi⟩ ih1
    refine r_seq ?_
    refine r_region ?_
    refine OL.qb (Q1.lt rfl rfl) rfl rfl ?_
    intro b1 hb1
    refine OL.nil ?_
    refine r_seq ?_
    cases b1 with
    | true =>
      replace hb1 := of_decide_eq_true hb1.symm
      refine r_cond_t rfl ?_
      refine r_skip ?_
      refine r_seq ?_
      refine r_block ?_
      refine r_seq ?_
      refine r_region ?_
      obtain ⟨x1, b2, o1, hx1, hr1, hl1, hu1, hw1⟩ := Sl.at' (P := Try.prog) f1 Try.underlying28 ti3 encI_len (k := .i64) (n := ((k : Nat) : Int)) (k) (by omega) (by first | assumption | omega)
      refine OL.q (Q1.indexAddr rfl rfl hr1) rfl rfl ?_
      refine OL.q (Q1.load1 ti3 rfl (fun _ e => e ▸ hw1)) rfl rfl ?_
      refine OL.q (Q1.assign rfl) rfl rfl ?_
      refine OL.nil ?_
      refine r_seq ?_
      refine r_region ?_
      refine OL.q (Q1.move rfl) rfl rfl ?_
      refine OL.q (Q1.move rfl) rfl rfl ?_
      refine OL.qb (Q1.ne rfl rfl) rfl rfl ?_
      intro b3 hb2
      refine OL.nil ?_
      cases b3 with
      | true =>
        replace hb2 := bne_iff_ne.1 hb2.symm
        refine r_cond_t rfl ?_
        refine r_seq ?_
        refine r_region ?_
        refine OL.q (Q1.move rfl) rfl rfl ?_
        refine OL.q (Q1.assign rfl) rfl rfl ?_
        refine OL.nil ?_
        refine r_ret1 Try.func32 rfl rfl ?_
        exact Ret.mk ⟨(congrArg (Value.int .i64) (by first | exact Ml.orI_found hi hx1 hb2 | exact Ml.orI_end hi (by omega) | (exfalso; omega))), hE1⟩
      | false =>
        replace hb2 := bne_eq_false_iff_eq.1 hb2.symm
        refine r_cond_f rfl ?_
        refine r_skip ?_
        refine r_inBlock ?_
        refine r_region ?_
        refine OL.q (Q1.addI (((k + 1 : Nat) : Int)) rfl rfl (by omega)) rfl rfl ?_
        refine OL.q (Q1.move rfl) rfl rfl ?_
        refine OL.nil ?_
        exact (ih1 _ _ _ ⟨(k + 1 : Nat), rfl, rfl, hE1, (by omega), f1, (by first | exact Ml.orI_drop hi hx1 (by simpa using hb2) | (exfalso; omega))⟩ (by omega)).sub ⟨rfl, rfl, rfl, rfl, trivial⟩
    | false =>
      replace hb1 := of_decide_eq_false hb1.symm
      refine r_cond_f rfl ?_
      refine r_exit rfl ?_
      refine r_seq ?_
      refine r_region ?_
      refine OL.q (Q1.move rfl) rfl rfl ?_
      refine OL.q (Q1.assign rfl) rfl rfl ?_
      refine OL.nil ?_
      refine r_ret1 Try.func32 rfl rfl ?_
      exact Ret.mk ⟨(congrArg (Value.int .i64) (by first | exact Ml.orI_found hi hx1 hb2 | exact Ml.orI_end hi (by omega) | (exfalso; omega))), hE1⟩
set_option maxHeartbeats 4000000 in
theorem kcmp_c {w0 : World} {a : Key} {b : Key}  :
    Calls Try.prog 29 #[.agg #[.int .i64 a.len, strV a.text], .agg #[.int .i64 b.len, strV b.text]] w0 (Ret fun rv w1 => rv = .int .i64 (Ml.keyCmp a b) ∧ Ext w0 w1) := by
  have hE0 : Ext w0 w0 := Mod.refl _ _
  refine calls_enter Try.func29 rfl Try.ntmps29 rfl ?_
  refine r_seq ?_
  refine r_region ?_
  refine OL.act rfl rfl (AW.box [.int .i64 a.len, strV a.text] rfl rfl ?_)
  intro w1 b1 hm1 hb1 hz1 hk1
  have hE1 := hE0.ext hm1
  have hs1 := hm1.size
  refine OL.act rfl rfl (AW.box [.int .i64 b.len, strV b.text] rfl rfl ?_)
  intro w2 b2 hm2 hb2 hz2 hk2
  have f1 := hk1.ext hm2
  have hE2 := hE1.ext hm2
  have hs2 := hm2.size
  refine OL.q (Q1.assign rfl) rfl rfl ?_
  refine OL.nil ?_
  refine r_seq ?_
  refine r_draw1 (fun i => Nat.beq i 4 || Nat.beq i 9 || Nat.beq i 10 || Nat.beq i 11) (fun w' => Mod (Mg 0) w2 w') mixed (by kernel_rfl) ?_
  intro w3 hm3
  have f2 := f1.ext hm3
  have f3 := hk2.ext hm3
  have hE3 := hE2.ext hm3
  have hs3 := hm3.size
  have hCw3 : Mod (Mg 0) w2 w3 := Mod.ofExt hm3
  refine ⟨hCw3, ?_⟩
  rw [show List.range' 0 (Array.size _) = [0, 1, 2, 3, 4, 5, 6, 7, 8, 9, 10, 11, 12] from rfl]
  refine OD.q rfl rfl (Q1.fieldAddr fl37_0 rfl) rfl rfl ?_
  refine OD.q rfl rfl (Q1.load1 ti3 rfl (fun _ hc => (f1.cell 0 _ rfl).keepG hc (by omega))) rfl rfl ?_
  refine OD.q rfl rfl (Q1.fieldAddr fl37_0 rfl) rfl rfl ?_
  refine OD.q rfl rfl (Q1.load1 ti3 rfl (fun _ hc => (hk2.cell 0 _ rfl).keepG hc (by omega))) rfl rfl ?_
  refine OD.act rfl rfl rfl rfl (AW.callF cl33 rfl (cmpc_c (w0 := w3)  (a.len) (b.len) ) ?_)
  rintro _ w4 ⟨rfl, hm4⟩
  have f4 := f2.ext hm4
  have f5 := f3.ext hm4
  have hE4 := hE3.ext hm4
  have hs4 := hm4.size
  have hCw4 := hCw3.ext hm4
  refine ⟨hCw4, ?_⟩
  refine OD.q rfl rfl (Q1.fieldAddr fl37_1 rfl) rfl rfl ?_
  refine OD.q rfl rfl (Q1.load1 ti9 rfl (fun _ hc => (f1.cell 1 _ rfl).keepG hc (by omega))) rfl rfl ?_
  refine OD.q rfl rfl (Q1.fieldAddr fl37_1 rfl) rfl rfl ?_
  refine OD.q rfl rfl (Q1.load1 ti9 rfl (fun _ hc => (hk2.cell 1 _ rfl).keepG hc (by omega))) rfl rfl ?_
  refine OD.act rfl rfl rfl rfl (AW.callF cl21 rfl (tcmp_c (w0 := w4)  a.text b.text ) ?_)
  rintro _ w5 ⟨rfl, hm5, hp1⟩
  have f6 := f4.ext hm5
  have f7 := f5.ext hm5
  have hE5 := hE4.ext hm5
  have hs5 := hm5.size
  have hCw5 := hCw4.ext hm5
  refine ⟨hCw5, ?_⟩
  refine OD.act rfl rfl rfl rfl (AW.buildSlice [(.int .i64 ((Ml.cmpI a.len b.len)) : Value), (.int .i64 ((Lib.compareBytes a.text b.text)) : Value)] Try.underlying28 ti3 rfl rfl rfl (by decide) ?_)
  intro w6 b3 hm6 hb3 hz3 hk3
  have f8 := f6.ext hm6
  have f9 := f7.ext hm6
  have hE6 := hE5.ext hm6
  have hs6 := hm6.size
  have hCw6 := hCw5.ext hm6
  refine ⟨hCw6, ?_⟩
  have hl1 := Sl.of_blk (enc := encI) hk3 ([(Ml.cmpI a.len b.len), (Lib.compareBytes a.text b.text)] : List Int) 2 rfl rfl (by unfold maxLen; omega)
  refine OD.act rfl rfl rfl rfl (AW.callF cl32 rfl (cmpor_c (w0 := w6) (vals := [(Ml.cmpI a.len b.len), (Lib.compareBytes a.text b.text)])  ((hl1).iv (Nat.zero_le _) (by omega))) ?_)
  rintro _ w7 ⟨rfl, hm7⟩
  have f10 := f8.ext hm7
  have f11 := f9.ext hm7
  have f12 := hl1.ext hm7
  have hE7 := hE6.ext hm7
  have hs7 := hm7.size
  have hCw7 := hCw6.ext hm7
  refine ⟨hCw7, ?_⟩
  refine OD.q rfl rfl (Q1.assign rfl) rfl rfl ?_
  refine OD.nil ?_
  refine r_ret1 Try.func29 rfl rfl ?_
  exact Ret.mk ⟨(congrArg (Value.int .i64) (by rfl)), hE7⟩
set_option maxHeartbeats 4000000 in
theorem kless_c {w0 : World} {a : Key} {b : Key}  :
    Calls Try.prog 25 #[.agg #[.int .i64 a.len, strV a.text], .agg #[.int .i64 b.len, strV b.text]] w0 (Ret fun rv w1 => (∃ rb : Bool, rb = (Ml.keyLess a b) ∧ rv = .bool rb) ∧ Ext w0 w1) := by
  have hE0 : Ext w0 w0 := Mod.refl _ _
  refine calls_enter Try.func25 rfl Try.ntmps25 rfl ?_
  refine r_seq ?_
  refine r_region ?_
  refine OL.act rfl rfl (AW.box [.int .i64 a.len, strV a.text] rfl rfl ?_)
  intro w1 b1 hm1 hb1 hz1 hk1
  have hE1 := hE0.ext hm1
  have hs1 := hm1.size
  refine OL.act rfl rfl (AW.box [.int .i64 b.len, strV b.text] rfl rfl ?_)
  intro w2 b2 hm2 hb2 hz2 hk2
  have f1 := hk1.ext hm2
  have hE2 := hE1.ext hm2
  have hs2 := hm2.size
  refine OL.q (Q1.assign rfl) rfl rfl ?_
  refine OL.nil ?_
  refine r_seq ?_
  refine r_region ?_
  refine OL.q (Q1.loadN ti37 rfl (fun _ e => e ▸ f1.row) rfl) rfl rfl ?_
  refine OL.q (Q1.loadN ti37 rfl (fun _ e => e ▸ hk2.row) rfl) rfl rfl ?_
  refine OL.act rfl rfl (AW.callF cl29 rfl (kcmp_c (w0 := w2) (a := a) (b := b)  ) ?_)
  rintro _ w3 ⟨rfl, hm3⟩
  have f2 := f1.ext hm3
  have f3 := hk2.ext hm3
  have hE3 := hE2.ext hm3
  have hs3 := hm3.size
  refine OL.qb (Q1.lt rfl rfl) rfl rfl ?_
  intro b3 hb3
  refine OL.q (Q1.assign rfl) rfl rfl ?_
  refine OL.nil ?_
  refine r_ret1 Try.func25 rfl rfl ?_
  exact Ret.mk ⟨⟨_, (by first | simp only [Ml.keyLess, *] | (exfalso; omega)), rfl⟩, hE3⟩
set_option maxHeartbeats 4000000 in
theorem pgood_c {w0 : World} {v_cuts : Value} {cuts : List Key} (h_cuts : Sl encKey w0 (Iv 0 w0.heap.size) v_cuts cuts) (hk : ∀ k ∈ cuts, k.text.length ≤ 9223372036854775807) :
    Calls Try.prog 17 #[v_cuts] w0 (Ret fun rv w1 => rv = .int .i64 (Ml.goodC cuts) ∧ Ext w0 w1) := by
  have hE0 : Ext w0 w0 := Mod.refl _ _
  have hle1 := h_cuts.le
  refine calls_enter Try.func17 rfl Try.ntmps17 rfl ?_
  refine r_seq ?_
  refine r_region ?_
  refine OL.q (Q1.assign rfl) rfl rfl ?_
  refine OL.nil ?_
  refine r_seq ?_
  refine r_seq ?_
  refine r_region ?_
  refine OL.q (Q1.move rfl) rfl rfl ?_
  refine OL.q (Q1.lenSl Try.underlying23 (h_cuts) rfl) rfl rfl ?_
  refine OL.qb (Q1.gt rfl rfl) rfl rfl ?_
  intro b1 hb1
  refine OL.nil ?_
  cases b1 with
  | true =>
    replace hb1 := of_decide_eq_true hb1.symm
    refine r_cond_t rfl ?_
    refine r_seq ?_
    refine r_region ?_
    refine OL.q (Q1.assign rfl) rfl rfl ?_
    refine OL.nil ?_
    refine r_ret1 Try.func17 rfl rfl ?_
    exact Ret.mk ⟨(congrArg (Value.int .i64) (by first | exact Ml.goodC_full (by omega) | exact Ml.goodC_key (by omega) hx1 (by simp only [Ml.keyOk]; simp; omega) | exact Ml.goodC_sort (by omega) ha hj hx1 hx2 (by assumption) | exact Ml.goodC_ok (by omega) ha hr (by omega) | (exfalso; omega))), hE0⟩
  | false =>
    replace hb1 := of_decide_eq_false hb1.symm
    refine r_cond_f rfl ?_
    refine r_skip ?_
    refine r_seq ?_
    refine r_seq ?_
    refine r_region ?_
    refine OL.q (Q1.move rfl) rfl rfl ?_
    refine OL.q (Q1.lenSl Try.underlying23 (h_cuts) rfl) rfl rfl ?_
    refine OL.q (Q1.move rfl) rfl rfl ?_
    refine OL.nil ?_
    refine r_block ?_
    refine r_loop (I := fun m E W => ∃ (k : Nat), E = [(0, v_cuts), (10, v_cuts), (11, .int .i64 (((cuts.length : Nat) : Int))), (12, .int .i64 (((k : Nat) : Int)))] ∧ m = cuts.length - k ∧ Ext w0 W ∧ w0.heap.size ≤ W.heap.size ∧ Sl encKey W (Iv 0 w0.heap.size) v_cuts cuts ∧ ((cuts.take k).all Ml.keyOk = true)) ?_ ?_
    · refine ⟨_, _, ⟨(0 : Nat), rfl, rfl, hE0, Nat.le_refl _, h_cuts, (by rfl)⟩, ⟨rfl, rfl, rfl, rfl, trivial⟩⟩
    · rintro _ _ w1 ⟨k, rfl, rfl, hE1, hs1, f1, hi⟩ ih1
      refine r_seq ?_
      refine r_region ?_
      refine OL.qb (Q1.lt rfl rfl) rfl rfl ?_
      intro b2 hb2
      refine OL.nil ?_
      refine r_seq ?_
      cases b2 with
      | true =>
        replace hb2 := of_decide_eq_true hb2.symm
        refine r_cond_t rfl ?_
        refine r_skip ?_
        refine r_seq ?_
        refine r_block ?_
        refine r_seq ?_
        refine r_region ?_
        obtain ⟨x1, b3, o1, hx1, hr1, hl1, hu1, hw1⟩ := Sl.at' (P := Try.prog) f1 Try.underlying23 ti37 encKey_len (k := .i64) (n := ((k : Nat) : Int)) (k) (by omega) (by first | assumption | omega)
        refine OL.q (Q1.indexAddr rfl rfl hr1) rfl rfl ?_
        refine OL.q (Q1.loadN ti37 rfl (fun _ e => e ▸ hw1) rfl) rfl rfl ?_
        refine OL.act rfl rfl (AW.alloc ti37 ?_)
        intro w2 b4 hm1 hb3 hz1 hk1
        have f2 := f1.ext hm1
        have hE2 := hE1.ext hm1
        have hs2 := hm1.size
        refine OL.act rfl rfl (AW.store ti37 rfl rfl rfl rfl rfl hk1 (by decide) ?_)
        intro w3 hm2 hz2 hk2
        replace hk2 : Bk w3 b4 [.int .i64 x1.len, strV x1.text] 37 := hk2
        have f3 := f2.keepG hm2 (by omega)
        have hE3 := Ext.thenG hE2 hm2 (by omega)
        have hs3 := hm2.size
        refine OL.nil ?_
        refine r_seq ?_
        refine r_region ?_
        refine OL.q (Q1.fieldAddr fl37_1 rfl) rfl rfl ?_
        refine OL.q (Q1.load1 ti9 rfl (fun _ e => e ▸ (hk2.cell 1 _ rfl))) rfl rfl ?_
        refine OL.act rfl rfl (AW.callF cl24 rfl (tlen_c (w0 := w3)  x1.text (by exact hk _ (List.mem_of_getElem? (by assumption)))) ?_)
        rintro _ w4 ⟨rfl, hm3, hp1⟩
        have f4 := f3.ext hm3
        have f5 := hk2.ext hm3
        have hE4 := hE3.ext hm3
        have hs4 := hm3.size
        refine OL.q (Q1.assign rfl) rfl rfl ?_
        refine OL.nil ?_
        refine r_seq ?_
        refine r_region ?_
        refine OL.q (Q1.fieldAddr fl37_0 rfl) rfl rfl ?_
        refine OL.q (Q1.load1 ti3 rfl (fun _ e => e ▸ (f5.cell 0 _ rfl))) rfl rfl ?_
        refine OL.qb (Q1.lt rfl rfl) rfl rfl ?_
        intro b5 hb4
        refine OL.q (Q1.move rfl) rfl rfl ?_
        cases b5 with
        | true =>
          replace hb4 := of_decide_eq_true hb4.symm
          refine OL.sk rfl rfl ?_
          refine OL.sk rfl rfl ?_
          refine OL.sk rfl rfl ?_
          refine OL.q (Q1.pick_t rfl rfl) rfl rfl ?_
          refine OL.q (Q1.move rfl) rfl rfl ?_
          refine OL.sk rfl rfl ?_
          refine OL.sk rfl rfl ?_
          refine OL.q (Q1.pick_t rfl rfl) rfl rfl ?_
          refine OL.q (Q1.move rfl) rfl rfl ?_
          refine OL.sk rfl rfl ?_
          refine OL.sk rfl rfl ?_
          refine OL.q (Q1.pick_t rfl rfl) rfl rfl ?_
          refine OL.nil ?_
          refine r_cond_t rfl ?_
          refine r_seq ?_
          refine r_region ?_
          refine OL.q (Q1.assign rfl) rfl rfl ?_
          refine OL.nil ?_
          refine r_ret1 Try.func17 rfl rfl ?_
          exact Ret.mk ⟨(congrArg (Value.int .i64) (by first | exact Ml.goodC_full (by omega) | exact Ml.goodC_key (by omega) hx1 (by simp only [Ml.keyOk]; simp; omega) | exact Ml.goodC_sort (by omega) ha hj hx1 hx2 (by assumption) | exact Ml.goodC_ok (by omega) ha hr (by omega) | (exfalso; omega))), hE4⟩
        | false =>
          replace hb4 := of_decide_eq_false hb4.symm
          refine OL.q (Q1.fieldAddr fl37_0 rfl) rfl rfl ?_
          refine OL.q (Q1.load1 ti3 rfl (fun _ e => e ▸ (f5.cell 0 _ rfl))) rfl rfl ?_
          refine OL.qb (Q1.gt rfl rfl) rfl rfl ?_
          intro b6 hb5
          refine OL.q (Q1.pick_f rfl rfl) rfl rfl ?_
          refine OL.q (Q1.move rfl) rfl rfl ?_
          cases b6 with
          | true =>
            replace hb5 := of_decide_eq_true hb5.symm
            refine OL.sk rfl rfl ?_
            refine OL.sk rfl rfl ?_
            refine OL.q (Q1.pick_t rfl rfl) rfl rfl ?_
            refine OL.q (Q1.move rfl) rfl rfl ?_
            refine OL.sk rfl rfl ?_
            refine OL.sk rfl rfl ?_
            refine OL.q (Q1.pick_t rfl rfl) rfl rfl ?_
            refine OL.nil ?_
            refine r_cond_t rfl ?_
            refine r_seq ?_
            refine r_region ?_
            refine OL.q (Q1.assign rfl) rfl rfl ?_
            refine OL.nil ?_
            refine r_ret1 Try.func17 rfl rfl ?_
            exact Ret.mk ⟨(congrArg (Value.int .i64) (by first | exact Ml.goodC_full (by omega) | exact Ml.goodC_key (by omega) hx1 (by simp only [Ml.keyOk]; simp; omega) | exact Ml.goodC_sort (by omega) ha hj hx1 hx2 (by assumption) | exact Ml.goodC_ok (by omega) ha hr (by omega) | (exfalso; omega))), hE4⟩
          | false =>
            replace hb5 := of_decide_eq_false hb5.symm
            refine OL.q (Q1.move rfl) rfl rfl ?_
            refine OL.qb (Q1.lt rfl rfl) rfl rfl ?_
            intro b7 hb6
            refine OL.q (Q1.pick_f rfl rfl) rfl rfl ?_
            refine OL.q (Q1.move rfl) rfl rfl ?_
            cases b7 with
            | true =>
              replace hb6 := of_decide_eq_true hb6.symm
              refine OL.sk rfl rfl ?_
              refine OL.sk rfl rfl ?_
              refine OL.q (Q1.pick_t rfl rfl) rfl rfl ?_
              refine OL.nil ?_
              refine r_cond_t rfl ?_
              refine r_seq ?_
              refine r_region ?_
              refine OL.q (Q1.assign rfl) rfl rfl ?_
              refine OL.nil ?_
              refine r_ret1 Try.func17 rfl rfl ?_
              exact Ret.mk ⟨(congrArg (Value.int .i64) (by first | exact Ml.goodC_full (by omega) | exact Ml.goodC_key (by omega) hx1 (by simp only [Ml.keyOk]; simp; omega) | exact Ml.goodC_sort (by omega) ha hj hx1 hx2 (by assumption) | exact Ml.goodC_ok (by omega) ha hr (by omega) | (exfalso; omega))), hE4⟩
            | false =>
              replace hb6 := of_decide_eq_false hb6.symm
              refine OL.q (Q1.move rfl) rfl rfl ?_
              refine OL.qb (Q1.gt rfl rfl) rfl rfl ?_
              intro b8 hb7
              refine OL.q (Q1.pick_f rfl rfl) rfl rfl ?_
              refine OL.nil ?_
              cases b8 with
              | true =>
                replace hb7 := of_decide_eq_true hb7.symm
                refine r_cond_t rfl ?_
                refine r_seq ?_
                refine r_region ?_
                refine OL.q (Q1.assign rfl) rfl rfl ?_
                refine OL.nil ?_
                refine r_ret1 Try.func17 rfl rfl ?_
                exact Ret.mk ⟨(congrArg (Value.int .i64) (by first | exact Ml.goodC_full (by omega) | exact Ml.goodC_key (by omega) hx1 (by simp only [Ml.keyOk]; simp; omega) | exact Ml.goodC_sort (by omega) ha hj hx1 hx2 (by assumption) | exact Ml.goodC_ok (by omega) ha hr (by omega) | (exfalso; omega))), hE4⟩
              | false =>
                replace hb7 := of_decide_eq_false hb7.symm
                refine r_cond_f rfl ?_
                refine r_skip ?_
                refine r_inBlock ?_
                refine r_region ?_
                refine OL.q (Q1.addI (((k + 1 : Nat) : Int)) rfl rfl (by omega)) rfl rfl ?_
                refine OL.q (Q1.move rfl) rfl rfl ?_
                refine OL.nil ?_
                exact (ih1 _ _ _ ⟨(k + 1 : Nat), rfl, rfl, hE4, (by omega), f4, (by first | exact Ml.all_take_succ hi hx1 (by simp only [Ml.keyOk]; simp; omega) | (exfalso; omega))⟩ (by omega)).sub ⟨rfl, rfl, rfl, rfl, trivial⟩
      | false =>
        replace hb2 := of_decide_eq_false hb2.symm
        refine r_cond_f rfl ?_
        refine r_exit rfl ?_
        refine r_seq ?_
        refine r_seq ?_
        refine r_region ?_
        refine OL.q (Q1.assign rfl) rfl rfl ?_
        refine OL.nil ?_
        refine r_block ?_
        refine r_loop (I := fun m E W => ∃ (j : Nat), E = [(0, v_cuts), (6, .int .i64 (((j : Nat) : Int)))] ∧ m = cuts.length - j ∧ Ext w0 W ∧ w1.heap.size ≤ W.heap.size ∧ Sl encKey W (Iv 0 w0.heap.size) v_cuts cuts ∧ (1 ≤ j) ∧ (Ml.keysRise (cuts.take j) = true)) ?_ ?_
        · refine ⟨_, _, ⟨(1 : Nat), rfl, rfl, hE1, Nat.le_refl _, f1, (by omega), (by exact Ml.keysRise_one _)⟩, ⟨rfl, rfl, trivial⟩⟩
        · rintro _ _ w2 ⟨j, rfl, rfl, hE2, hs2, f2, hj, hr⟩ ih2
          have ha := Ml.all_of_take hi (by omega)
          refine r_seq ?_
          refine r_seq ?_
          refine r_region ?_
          refine OL.q (Q1.move rfl) rfl rfl ?_
          refine OL.q (Q1.move rfl) rfl rfl ?_
          refine OL.q (Q1.lenSl Try.underlying23 (f2) rfl) rfl rfl ?_
          refine OL.qb (Q1.lt rfl rfl) rfl rfl ?_
          intro b3 hb3
          refine OL.nil ?_
          cases b3 with
          | true =>
            replace hb3 := of_decide_eq_true hb3.symm
            refine r_cond_t rfl ?_
            refine r_skip ?_
            refine r_seq ?_
            refine r_block ?_
            refine r_seq ?_
            refine r_draw1 (fun i => Nat.beq i 9) (fun w' => Mod (Mg 0) w2 w') mixed (by kernel_rfl) ?_
            intro w3 hm1
            have f3 := f2.ext hm1
            have hE3 := hE2.ext hm1
            have hs3 := hm1.size
            have hCw3 : Mod (Mg 0) w2 w3 := Mod.ofExt hm1
            refine ⟨hCw3, ?_⟩
            rw [show List.range' 0 (Array.size _) = [0, 1, 2, 3, 4, 5, 6, 7, 8, 9, 10] from rfl]
            refine OD.q rfl rfl (Q1.move rfl) rfl rfl ?_
            refine OD.q rfl rfl (Q1.move rfl) rfl rfl ?_
            refine OD.q rfl rfl (Q1.subI ((((j : Nat) : Int) - 1)) rfl rfl (by omega)) rfl rfl ?_
            obtain ⟨x1, b4, o1, hx1, hr1, hl1, hu1, hw1⟩ := Sl.at' (P := Try.prog) f2 Try.underlying23 ti37 encKey_len (k := .i64) (n := (((j : Nat) : Int) - 1)) ((j - 1)) (by omega) (by first | assumption | omega)
            refine OD.q rfl rfl (Q1.indexAddr rfl rfl hr1) rfl rfl ?_
            refine OD.q rfl rfl (Q1.loadN ti37 rfl (fun _ hc => hw1.keepG hc (by omega)) rfl) rfl rfl ?_
            refine OD.q rfl rfl (Q1.move rfl) rfl rfl ?_
            refine OD.q rfl rfl (Q1.move rfl) rfl rfl ?_
            obtain ⟨x2, b5, o2, hx2, hr2, hl2, hu2, hw2⟩ := Sl.at' (P := Try.prog) f2 Try.underlying23 ti37 encKey_len (k := .i64) (n := ((j : Nat) : Int)) (j) (by omega) (by first | assumption | omega)
            refine OD.q rfl rfl (Q1.indexAddr rfl rfl hr2) rfl rfl ?_
            refine OD.q rfl rfl (Q1.loadN ti37 rfl (fun _ hc => hw2.keepG hc (by omega)) rfl) rfl rfl ?_
            refine OD.act rfl rfl rfl rfl (AW.callF cl25 rfl (kless_c (w0 := w3) (a := x1) (b := x2)  ) ?_)
            rintro _ w4 ⟨⟨b6, hb4, rfl⟩, hm2⟩
            have f4 := f3.ext hm2
            have hE4 := hE3.ext hm2
            have hs4 := hm2.size
            have hCw4 := hCw3.ext hm2
            refine ⟨hCw4, ?_⟩
            cases b6 with
            | true =>
              replace hb4 := hb4.symm
              refine OD.q rfl rfl (Q1.not rfl) rfl rfl ?_
              refine OD.nil ?_
              refine r_cond_f rfl ?_
              refine r_skip ?_
              refine r_inBlock ?_
              refine r_region ?_
              refine OL.q (Q1.move rfl) rfl rfl ?_
              refine OL.q (Q1.addI (((j + 1 : Nat) : Int)) rfl rfl (by omega)) rfl rfl ?_
              refine OL.q (Q1.assign rfl) rfl rfl ?_
              refine OL.nil ?_
              exact (ih2 _ _ _ ⟨(j + 1 : Nat), rfl, rfl, hE4, (by omega), f4, (by first | omega | (exfalso; omega)), (by first | exact Ml.keysRise_step hr hj hx1 hx2 (by assumption) | (exfalso; omega))⟩ (by omega)).sub ⟨rfl, rfl, trivial⟩
            | false =>
              replace hb4 := hb4.symm
              refine OD.q rfl rfl (Q1.not rfl) rfl rfl ?_
              refine OD.nil ?_
              refine r_cond_t rfl ?_
              refine r_seq ?_
              refine r_region ?_
              refine OL.q (Q1.assign rfl) rfl rfl ?_
              refine OL.nil ?_
              refine r_ret1 Try.func17 rfl rfl ?_
              exact Ret.mk ⟨(congrArg (Value.int .i64) (by first | exact Ml.goodC_full (by omega) | exact Ml.goodC_key (by omega) hx1 (by simp only [Ml.keyOk]; simp; omega) | exact Ml.goodC_sort (by omega) ha hj hx1 hx2 (by assumption) | exact Ml.goodC_ok (by omega) ha hr (by omega) | (exfalso; omega))), hE4⟩
          | false =>
            replace hb3 := of_decide_eq_false hb3.symm
            refine r_cond_f rfl ?_
            refine r_exit rfl ?_
            refine r_seq ?_
            refine r_region ?_
            refine OL.q (Q1.assign rfl) rfl rfl ?_
            refine OL.nil ?_
            refine r_ret1 Try.func17 rfl rfl ?_
            exact Ret.mk ⟨(congrArg (Value.int .i64) (by first | exact Ml.goodC_full (by omega) | exact Ml.goodC_key (by omega) hx1 (by simp only [Ml.keyOk]; simp; omega) | exact Ml.goodC_sort (by omega) ha hj hx1 hx2 (by assumption) | exact Ml.goodC_ok (by omega) ha hr (by omega) | (exfalso; omega))), hE2⟩
set_option maxHeartbeats 4000000 in
theorem pbelow_c {w0 : World} {v_cuts : Value} {cuts : List Key} {k : Key} (h_cuts : Sl encKey w0 (Iv 0 w0.heap.size) v_cuts cuts) :
    Calls Try.prog 31 #[v_cuts, .agg #[.int .i64 k.len, strV k.text], .func (.func 25) #[] #[]] w0 (Ret fun rv w1 => rv = .int .i64 (((Ml.belowN cuts k : Nat) : Int)) ∧ Ext w0 w1) := by
  have hE0 : Ext w0 w0 := Mod.refl _ _
  have hle1 := h_cuts.le
  refine calls_enter Try.func31 rfl Try.ntmps31 rfl ?_
  refine r_seq ?_
  refine r_region ?_
  refine OL.act rfl rfl (AW.box [.int .i64 k.len, strV k.text] rfl rfl ?_)
  intro w1 b1 hm1 hb1 hz1 hk1
  have f1 := h_cuts.ext hm1
  have hE1 := hE0.ext hm1
  have hs1 := hm1.size
  refine OL.q (Q1.assign rfl) rfl rfl ?_
  refine OL.nil ?_
  refine r_seq ?_
  refine r_region ?_
  refine OL.q (Q1.assign rfl) rfl rfl ?_
  refine OL.nil ?_
  refine r_seq ?_
  refine r_seq ?_
  refine r_region ?_
  refine OL.q (Q1.move rfl) rfl rfl ?_
  refine OL.q (Q1.lenSl Try.underlying23 (f1) rfl) rfl rfl ?_
  refine OL.q (Q1.move rfl) rfl rfl ?_
  refine OL.nil ?_
  refine r_block ?_
  refine r_loop (I := fun m E W => ∃ (n : Nat) (j : Nat), E = [(2, .func (.func 25) #[] #[]), (4, ptr b1 0), (7, .int .i64 (((n : Nat) : Int))), (10, v_cuts), (11, .int .i64 (((cuts.length : Nat) : Int))), (12, .int .i64 (((j : Nat) : Int)))] ∧ m = cuts.length - j ∧ Ext w0 W ∧ w1.heap.size ≤ W.heap.size ∧ Bk W b1 [.int .i64 k.len, strV k.text] 37 ∧ Sl encKey W (Iv 0 w0.heap.size) v_cuts cuts ∧ (n = ((cuts.take j).filter fun c => !Ml.keyLess k c).length) ∧ (n ≤ j)) ?_ ?_
  · refine ⟨_, _, ⟨(0 : Nat), (0 : Nat), rfl, rfl, hE1, Nat.le_refl _, hk1, f1, (by rfl), (by omega)⟩, ⟨rfl, rfl, rfl, rfl, rfl, rfl, trivial⟩⟩
  · rintro _ _ w2 ⟨n, j, rfl, rfl, hE2, hs2, f2, f3, hi, hn⟩ ih1
    refine r_seq ?_
    refine r_region ?_
    refine OL.qb (Q1.lt rfl rfl) rfl rfl ?_
    intro b2 hb2
    refine OL.nil ?_
    refine r_seq ?_
    cases b2 with
    | true =>
      replace hb2 := of_decide_eq_true hb2.symm
      refine r_cond_t rfl ?_
      refine r_skip ?_
      refine r_seq ?_
      refine r_block ?_
      refine r_seq ?_
      refine r_region ?_
      obtain ⟨x1, b3, o1, hx1, hr1, hl1, hu1, hw1⟩ := Sl.at' (P := Try.prog) f3 Try.underlying23 ti37 encKey_len (k := .i64) (n := ((j : Nat) : Int)) (j) (by omega) (by first | assumption | omega)
      refine OL.q (Q1.indexAddr rfl rfl hr1) rfl rfl ?_
      refine OL.q (Q1.loadN ti37 rfl (fun _ e => e ▸ hw1) rfl) rfl rfl ?_
      refine OL.act rfl rfl (AW.alloc ti37 ?_)
      intro w3 b4 hm2 hb3 hz2 hk2
      have f4 := f2.ext hm2
      have f5 := f3.ext hm2
      have hE3 := hE2.ext hm2
      have hs3 := hm2.size
      refine OL.act rfl rfl (AW.store ti37 rfl rfl rfl rfl rfl hk2 (by decide) ?_)
      intro w4 hm3 hz3 hk3
      replace hk3 : Bk w4 b4 [.int .i64 x1.len, strV x1.text] 37 := hk3
      have f6 := f4.keepG hm3 (by omega)
      have f7 := f5.keepG hm3 (by omega)
      have hE4 := Ext.thenG hE3 hm3 (by omega)
      have hs4 := hm3.size
      refine OL.nil ?_
      refine r_seq ?_
      refine r_region ?_
      refine OL.q (Q1.move rfl) rfl rfl ?_
      refine OL.q (Q1.loadN ti37 rfl (fun _ e => e ▸ f6.row) rfl) rfl rfl ?_
      refine OL.q (Q1.loadN ti37 rfl (fun _ e => e ▸ hk3.row) rfl) rfl rfl ?_
      refine OL.act rfl rfl (AW.call (first := []) (cap := []) cl25 rfl rfl (kless_c (w0 := w4) (a := k) (b := x1)  ) ?_)
      rintro _ w5 ⟨⟨b5, hb4, rfl⟩, hm4⟩
      have f8 := f6.ext hm4
      have f9 := f7.ext hm4
      have f10 := hk3.ext hm4
      have hE5 := hE4.ext hm4
      have hs5 := hm4.size
      cases b5 with
      | true =>
        replace hb4 := hb4.symm
        refine OL.q (Q1.not rfl) rfl rfl ?_
        refine OL.nil ?_
        refine r_cond_f rfl ?_
        refine r_skip ?_
        refine r_inBlock ?_
        refine r_region ?_
        refine OL.q (Q1.addI (((j + 1 : Nat) : Int)) rfl rfl (by omega)) rfl rfl ?_
        refine OL.q (Q1.move rfl) rfl rfl ?_
        refine OL.nil ?_
        exact (ih1 _ _ _ ⟨(n : Nat), (j + 1 : Nat), rfl, rfl, hE5, (by omega), f8, f9, (by first | (rw [Ml.filter_take_yes hx1 (by simp [*]), List.length_append, ← hi]; rfl) | (rw [Ml.filter_take_no hx1 (by simp [*])]; exact hi) | (exfalso; omega)), (by first | omega | (exfalso; omega))⟩ (by omega)).sub ⟨rfl, rfl, rfl, rfl, rfl, rfl, trivial⟩
      | false =>
        replace hb4 := hb4.symm
        refine OL.q (Q1.not rfl) rfl rfl ?_
        refine OL.nil ?_
        refine r_cond_t rfl ?_
        refine r_region ?_
        refine OL.q (Q1.move rfl) rfl rfl ?_
        refine OL.q (Q1.addI (((n + 1 : Nat) : Int)) rfl rfl (by omega)) rfl rfl ?_
        refine OL.q (Q1.assign rfl) rfl rfl ?_
        refine OL.nil ?_
        refine r_inBlock ?_
        refine r_region ?_
        refine OL.q (Q1.addI (((j + 1 : Nat) : Int)) rfl rfl (by omega)) rfl rfl ?_
        refine OL.q (Q1.move rfl) rfl rfl ?_
        refine OL.nil ?_
        exact (ih1 _ _ _ ⟨(n + 1 : Nat), (j + 1 : Nat), rfl, rfl, hE5, (by omega), f8, f9, (by first | (rw [Ml.filter_take_yes hx1 (by simp [*]), List.length_append, ← hi]; rfl) | (rw [Ml.filter_take_no hx1 (by simp [*])]; exact hi) | (exfalso; omega)), (by first | omega | (exfalso; omega))⟩ (by omega)).sub ⟨rfl, rfl, rfl, rfl, rfl, rfl, trivial⟩
    | false =>
      replace hb2 := of_decide_eq_false hb2.symm
      refine r_cond_f rfl ?_
      refine r_exit rfl ?_
      refine r_seq ?_
      refine r_region ?_
      refine OL.q (Q1.move rfl) rfl rfl ?_
      refine OL.q (Q1.assign rfl) rfl rfl ?_
      refine OL.nil ?_
      refine r_ret1 Try.func31 rfl rfl ?_
      exact Ret.mk ⟨(congrArg (Value.int .i64) (by first | rw [hi, Ml.filter_take_all (by omega)]; rfl | (exfalso; omega))), hE2⟩
set_option maxHeartbeats 4000000 in
theorem pof_c {w0 : World} {v_cuts : Value} {cuts : List Key} (w : Str) (h_cuts : Sl encKey w0 (Iv 0 w0.heap.size) v_cuts cuts) (hs_w : w.length ≤ 9223372036854775807) :
    Calls Try.prog 28 #[v_cuts, strV w] w0 (Ret fun rv w1 => rv = .int .i64 (Ml.ofM cuts w) ∧ Ext w0 w1) := by
  have hE0 : Ext w0 w0 := Mod.refl _ _
  have hle1 := h_cuts.le
  refine calls_enter Try.func28 rfl Try.ntmps28 rfl ?_
  refine r_seq ?_
  refine r_region ?_
  refine OL.q (Q1.assign rfl) rfl rfl ?_
  refine OL.nil ?_
  refine r_seq ?_
  refine r_seq ?_
  refine r_region ?_
  refine OL.q (Q1.move rfl) rfl rfl ?_
  refine OL.act rfl rfl (AW.callF cl23 rfl (tword_c (w0 := w0)  w (by exact hs_w)) ?_)
  rintro _ w1 ⟨⟨b1, hb1, rfl⟩, hm1⟩
  have f1 := h_cuts.ext hm1
  have hE1 := hE0.ext hm1
  have hs1 := hm1.size
  cases b1 with
  | true =>
    replace hb1 := hb1.symm
    refine OL.q (Q1.not rfl) rfl rfl ?_
    refine OL.nil ?_
    refine r_cond_f rfl ?_
    refine r_skip ?_
    refine r_seq ?_
    refine r_region ?_
    refine OL.q (Q1.move rfl) rfl rfl ?_
    refine OL.q (Q1.move rfl) rfl rfl ?_
    refine OL.act rfl rfl (AW.callF cl24 rfl (tlen_c (w0 := w1)  w (by exact hs_w)) ?_)
    rintro _ w2 ⟨rfl, hm2, hp1⟩
    have f2 := f1.ext hm2
    have hE2 := hE1.ext hm2
    have hs2 := hm2.size
    refine OL.q (Q1.move rfl) rfl rfl ?_
    refine OL.q (Q1.build (vs := #[(0, (.int .i64 ((Ml.lenT w)) : Value)), (1, strV w)]) (v := .agg #[.int .i64 ((Ml.lenT w)), strV w]) rfl (fun _ => by kernel_rfl)) rfl rfl ?_
    refine OL.act rfl rfl (AW.callF cl31 rfl (pbelow_c (w0 := w2) (cuts := cuts) (k := (Key.mk ((Ml.lenT w)) w))  ((f2).iv (Nat.zero_le _) (by omega))) ?_)
    rintro _ w3 ⟨rfl, hm3⟩
    have f3 := f2.ext hm3
    have hE3 := hE2.ext hm3
    have hs3 := hm3.size
    refine OL.q (Q1.assign rfl) rfl rfl ?_
    refine OL.nil ?_
    refine r_ret1 Try.func28 rfl rfl ?_
    exact Ret.mk ⟨(congrArg (Value.int .i64) (by first | simp only [Ml.ofM, *]; rfl | (exfalso; omega))), hE3⟩
  | false =>
    replace hb1 := hb1.symm
    refine OL.q (Q1.not rfl) rfl rfl ?_
    refine OL.nil ?_
    refine r_cond_t rfl ?_
    refine r_seq ?_
    refine r_region ?_
    refine OL.q (Q1.assign rfl) rfl rfl ?_
    refine OL.nil ?_
    refine r_ret1 Try.func28 rfl rfl ?_
    exact Ret.mk ⟨(congrArg (Value.int .i64) (by first | simp only [Ml.ofM, *]; rfl | (exfalso; omega))), hE1⟩
set_option maxHeartbeats 4000000 in
theorem pslice_c {w0 : World} {v_cuts : Value} {cuts : List Key} {v_words : Value} {words : List Str} (shard : Int) (h_cuts : Sl encKey w0 (Iv 0 w0.heap.size) v_cuts cuts) (h_words : Sl encS w0 (Iv 0 w0.heap.size) v_words words) (h_shard : I64 shard) (hok : Ml.LOk words) (hlen : words.length ≤ 1000000) :
    Calls Try.prog 22 #[v_cuts, v_words, .int .i64 shard] w0 (Ret fun rv w1 => Sl encS w1 (Iv w0.heap.size w1.heap.size) rv (Ml.sliceM cuts words shard) ∧ Ext w0 w1) := by
  have hE0 : Ext w0 w0 := Mod.refl _ _
  have hle1 := h_cuts.le
  have hle2 := h_words.le
  refine calls_enter Try.func22 rfl Try.ntmps22 rfl ?_
  refine r_seq ?_
  refine r_region ?_
  refine OL.q (Q1.assign rfl) rfl rfl ?_
  refine OL.nil ?_
  refine r_seq ?_
  refine r_region ?_
  refine OL.q (Q1.assign rfl) rfl rfl ?_
  refine OL.nil ?_
  refine r_seq ?_
  refine r_seq ?_
  refine r_region ?_
  refine OL.q (Q1.move rfl) rfl rfl ?_
  refine OL.q (Q1.lenSl Try.underlying22 (h_words) rfl) rfl rfl ?_
  refine OL.q (Q1.move rfl) rfl rfl ?_
  refine OL.nil ?_
  refine r_block ?_
  refine r_loop (I := fun m E W => ∃ (v_l : Value) (g_l : Nat) (l : List Str) (k : Nat), E = [(0, v_cuts), (2, .int .i64 shard), (7, v_l), (11, v_words), (12, .int .i64 (((words.length : Nat) : Int))), (13, .int .i64 (((k : Nat) : Int)))] ∧ m = words.length - k ∧ Ext w0 W ∧ w0.heap.size ≤ W.heap.size ∧ Acc encS 9 1 W g_l v_l l ∧ (g_l = 0 ∨ w0.heap.size < g_l) ∧ Sl encKey W (Iv 0 w0.heap.size) v_cuts cuts ∧ Sl encS W (Iv 0 w0.heap.size) v_words words ∧ (l = (words.take k).filter (Ml.slP cuts shard)) ∧ (l.length ≤ k)) ?_ ?_
  · refine ⟨_, _, ⟨(.slice none 0 0 : Value), (0 : Nat), ([] : List Str), (0 : Nat), rfl, rfl, hE0, Nat.le_refl _, Acc.nil, (by omega), h_cuts, h_words, (by rfl), (by exact Nat.zero_le _)⟩, ⟨rfl, rfl, rfl, rfl, rfl, rfl, trivial⟩⟩
  · rintro _ _ w1 ⟨v_l, g_l, l, k, rfl, rfl, hE1, hs1, ha1, hg1, f1, f2, hi, hn⟩ ih1
    refine r_seq ?_
    refine r_region ?_
    refine OL.qb (Q1.lt rfl rfl) rfl rfl ?_
    intro b1 hb1
    refine OL.nil ?_
    refine r_seq ?_
    cases b1 with
    | true =>
      replace hb1 := of_decide_eq_true hb1.symm
      refine r_cond_t rfl ?_
      refine r_skip ?_
      refine r_seq ?_
      refine r_block ?_
      refine r_seq ?_
      refine r_region ?_
      obtain ⟨x1, b2, o1, hx1, hr1, hl1, hu1, hw1⟩ := Sl.at' (P := Try.prog) f2 Try.underlying22 ti9 encS_len (k := .i64) (n := ((k : Nat) : Int)) (k) (by omega) (by first | assumption | omega)
      refine OL.q (Q1.indexAddr rfl rfl hr1) rfl rfl ?_
      refine OL.q (Q1.load1 ti9 rfl (fun _ e => e ▸ hw1)) rfl rfl ?_
      refine OL.q (Q1.assign rfl) rfl rfl ?_
      refine OL.nil ?_
      refine r_seq ?_
      refine r_region ?_
      refine OL.q (Q1.move rfl) rfl rfl ?_
      refine OL.q (Q1.move rfl) rfl rfl ?_
      refine OL.act rfl rfl (AW.callF cl28 rfl (pof_c (w0 := w1) (cuts := cuts) x1 ((f1).iv (Nat.zero_le _) (by omega)) (by exact hok.at (by assumption))) ?_)
      rintro _ w2 ⟨rfl, hm1⟩
      have hl2 := ha1.lt
      have f3 := ha1.ext hm1
      have f4 := f1.ext hm1
      have f5 := f2.ext hm1
      have hE2 := hE1.ext hm1
      have hs2 := hm1.size
      refine OL.q (Q1.assign rfl) rfl rfl ?_
      refine OL.nil ?_
      refine r_seq ?_
      refine r_region ?_
      refine OL.q (Q1.move rfl) rfl rfl ?_
      refine OL.qb (Q1.ge rfl rfl) rfl rfl ?_
      intro b3 hb2
      refine OL.q (Q1.move rfl) rfl rfl ?_
      cases b3 with
      | true =>
        replace hb2 := of_decide_eq_true hb2.symm
        refine OL.q (Q1.move rfl) rfl rfl ?_
        refine OL.q (Q1.move rfl) rfl rfl ?_
        refine OL.qb (Q1.eq rfl rfl) rfl rfl ?_
        intro b4 hb3
        refine OL.q (Q1.pick_t rfl rfl) rfl rfl ?_
        refine OL.nil ?_
        cases b4 with
        | true =>
          replace hb3 := eq_of_beq hb3.symm
          refine r_cond_t rfl ?_
          refine r_region ?_
          refine OL.q (Q1.move rfl) rfl rfl ?_
          refine OL.q (Q1.move rfl) rfl rfl ?_
          refine OL.act rfl rfl (AW.buildSlice [strV x1] Try.underlying22 ti9 rfl rfl rfl (by decide) ?_)
          intro w3 b5 hm2 hb4 hz1 hk1
          have hl3 := f3.lt
          have f6 := f3.ext hm2
          have f7 := f4.ext hm2
          have f8 := f5.ext hm2
          have hE3 := hE2.ext hm2
          have hs3 := hm2.size
          have hl4 := Sl.of_blk (enc := encS) hk1 ([x1] : List Str) 1 rfl rfl (by unfold maxLen; omega)
          have hl5 := f6.lt
          refine OL.act rfl rfl (AW.append f6 Try.underlying22 ti9 rfl encS_len encS_one rfl rfl (hl4) (by first | omega | (simp only [List.length_append, List.length_cons, List.length_nil]; omega) | (simp; omega)) (by unfold maxLen; first | omega | (simp only [List.length_append, List.length_cons, List.length_nil]; omega) | (simp; omega)) ?_)
          intro v1 g1 w4 ha2 hm3 hg2 hz2
          have hl6 := f6.lt
          have f9 := f7.keepG hm3 (by omega)
          have f10 := f8.keepG hm3 (by omega)
          have f11 := hl4.keepG hm3 (by omega)
          have hE4 := Ext.thenG hE3 hm3 (by omega)
          have hs4 := hm3.size
          refine OL.q (Q1.assign rfl) rfl rfl ?_
          refine OL.nil ?_
          refine r_inBlock ?_
          refine r_region ?_
          refine OL.q (Q1.addI (((k + 1 : Nat) : Int)) rfl rfl (by omega)) rfl rfl ?_
          refine OL.q (Q1.move rfl) rfl rfl ?_
          refine OL.nil ?_
          exact (ih1 _ _ _ ⟨(v1 : Value), (g1 : Nat), ((l ++ [x1]) : List Str), (k + 1 : Nat), rfl, rfl, hE4, (by omega), ha2, (by omega), f9, f10, (by first | (rw [Ml.filter_take_yes hx1 (Ml.slP_yes hb2 hb3), hi]) | (rw [Ml.filter_take_no hx1 (Ml.slP_no2 hb3)]; exact hi) | (rw [Ml.filter_take_no hx1 (Ml.slP_no1 hb2)]; exact hi) | (exfalso; omega)), (by first | omega | (simp only [List.length_append, List.length_cons, List.length_nil]; omega) | (exfalso; omega))⟩ (by omega)).sub ⟨rfl, rfl, rfl, rfl, rfl, rfl, trivial⟩
        | false =>
          replace hb3 := ne_of_beq_false hb3.symm
          refine r_cond_f rfl ?_
          refine r_skip ?_
          refine r_inBlock ?_
          refine r_region ?_
          refine OL.q (Q1.addI (((k + 1 : Nat) : Int)) rfl rfl (by omega)) rfl rfl ?_
          refine OL.q (Q1.move rfl) rfl rfl ?_
          refine OL.nil ?_
          exact (ih1 _ _ _ ⟨(v_l : Value), (g_l : Nat), (l : List Str), (k + 1 : Nat), rfl, rfl, hE2, (by omega), f3, (by omega), f4, f5, (by first | (rw [Ml.filter_take_yes hx1 (Ml.slP_yes hb2 hb3), hi]) | (rw [Ml.filter_take_no hx1 (Ml.slP_no2 hb3)]; exact hi) | (rw [Ml.filter_take_no hx1 (Ml.slP_no1 hb2)]; exact hi) | (exfalso; omega)), (by first | omega | (simp only [List.length_append, List.length_cons, List.length_nil]; omega) | (exfalso; omega))⟩ (by omega)).sub ⟨rfl, rfl, rfl, rfl, rfl, rfl, trivial⟩
      | false =>
        replace hb2 := of_decide_eq_false hb2.symm
        refine OL.sk rfl rfl ?_
        refine OL.sk rfl rfl ?_
        refine OL.sk rfl rfl ?_
        refine OL.q (Q1.pick_f rfl rfl) rfl rfl ?_
        refine OL.nil ?_
        refine r_cond_f rfl ?_
        refine r_skip ?_
        refine r_inBlock ?_
        refine r_region ?_
        refine OL.q (Q1.addI (((k + 1 : Nat) : Int)) rfl rfl (by omega)) rfl rfl ?_
        refine OL.q (Q1.move rfl) rfl rfl ?_
        refine OL.nil ?_
        exact (ih1 _ _ _ ⟨(v_l : Value), (g_l : Nat), (l : List Str), (k + 1 : Nat), rfl, rfl, hE2, (by omega), f3, (by omega), f4, f5, (by first | (rw [Ml.filter_take_yes hx1 (Ml.slP_yes hb2 hb3), hi]) | (rw [Ml.filter_take_no hx1 (Ml.slP_no2 hb3)]; exact hi) | (rw [Ml.filter_take_no hx1 (Ml.slP_no1 hb2)]; exact hi) | (exfalso; omega)), (by first | omega | (simp only [List.length_append, List.length_cons, List.length_nil]; omega) | (exfalso; omega))⟩ (by omega)).sub ⟨rfl, rfl, rfl, rfl, rfl, rfl, trivial⟩
    | false =>
      replace hb1 := of_decide_eq_false hb1.symm
      refine r_cond_f rfl ?_
      refine r_exit rfl ?_
      refine r_seq ?_
      refine r_region ?_
      refine OL.q (Q1.move rfl) rfl rfl ?_
      refine OL.q (Q1.assign rfl) rfl rfl ?_
      refine OL.nil ?_
      refine r_ret1 Try.func22 rfl rfl ?_
      exact Ret.mk ⟨(Sl.cast (ha1.fresh (by omega)) (by first | rw [hi, Ml.filter_take_all (by omega)]; rfl | (exfalso; omega))), hE1⟩
end Go.Proofs
