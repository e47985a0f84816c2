/-
  Walks through packages part and place.
-/
import Derived.Test.YtajedfbogchkcaaWText
set_option linter.unusedVariables false
set_option linter.unusedSimpArgs false
namespace Go.Proofs
open Go.Ik Go.Ml
set_option maxRecDepth 20000 in
set_option maxHeartbeats 4000000 in
theorem isnan_c {w0 : World}  (x : Int)  :
    Calls Try.prog 158 #[.int .i64 x] w0 (Ret fun rv w1 => (∃ rb : Bool, rb = false ∧ rv = .bool rb) ∧ Ext w0 w1) := by
  have hE0 : Ext w0 w0 := Mod.refl _ _
  refine calls_enter Try.func158 rfl Try.ntmps158 rfl ?_
  refine r_seq ?_
  refine r_region ?_
  refine OL.q (Q1.assign rfl) rfl rfl ?_
  refine OL.nil ?_
  refine r_seq ?_
  refine r_region ?_
  refine OL.q (Q1.move rfl) rfl rfl ?_
  refine OL.q (Q1.move rfl) rfl rfl ?_
  refine OL.qb (Q1.ne rfl rfl) rfl rfl ?_
  intro b1 hb1
  refine OL.q (Q1.assign rfl) rfl rfl ?_
  refine OL.nil ?_
  refine r_ret1 Try.func158 rfl rfl ?_
  exact Ret.mk ⟨⟨_, (by first | simpa using hb1 | (exfalso; omega)), rfl⟩, hE0⟩
set_option maxRecDepth 20000 in
set_option maxHeartbeats 4000000 in
theorem cmpc_c {w0 : World}  (x : Int) (y : Int)  :
    Calls Try.prog 152 #[.int .i64 x, .int .i64 y] w0 (Ret fun rv w1 => rv = .int .i64 (Ml.cmpI x y) ∧ Ext w0 w1) := by
  have hE0 : Ext w0 w0 := Mod.refl _ _
  refine calls_enter Try.func152 rfl Try.ntmps152 rfl ?_
  refine r_seq ?_
  refine r_region ?_
  refine OL.q (Q1.assign rfl) rfl rfl ?_
  refine OL.nil ?_
  refine r_seq ?_
  refine r_region ?_
  refine OL.q (Q1.move rfl) rfl rfl ?_
  refine OL.act rfl rfl (AW.callF cl158 rfl (isnan_c (w0 := w0)  (x) ) ?_)
  rintro _ w1 ⟨⟨_, rfl, rfl⟩, hm1⟩
  have hE1 := hE0.ext hm1
  have hs1 := hm1.size
  refine OL.q (Q1.assign rfl) rfl rfl ?_
  refine OL.nil ?_
  refine r_seq ?_
  refine r_region ?_
  refine OL.q (Q1.move rfl) rfl rfl ?_
  refine OL.act rfl rfl (AW.callF cl158 rfl (isnan_c (w0 := w1)  (y) ) ?_)
  rintro _ w2 ⟨⟨_, rfl, rfl⟩, hm2⟩
  have hE2 := hE1.ext hm2
  have hs2 := hm2.size
  refine OL.q (Q1.assign rfl) rfl rfl ?_
  refine OL.nil ?_
  refine r_seq ?_
  refine r_seq ?_
  refine r_region ?_
  refine OL.q (Q1.move rfl) rfl rfl ?_
  refine OL.nil ?_
  refine r_cond_f rfl ?_
  refine r_skip ?_
  refine r_seq ?_
  refine r_seq ?_
  refine r_region ?_
  refine OL.q (Q1.move rfl) rfl rfl ?_
  refine OL.nil ?_
  refine r_cond_f rfl ?_
  refine r_skip ?_
  refine r_seq ?_
  refine r_seq ?_
  refine r_region ?_
  refine OL.q (Q1.move rfl) rfl rfl ?_
  refine OL.q (Q1.move rfl) rfl rfl ?_
  refine OL.qb (Q1.lt rfl rfl) rfl rfl ?_
  intro b1 hb1
  refine OL.nil ?_
  cases b1 with
  | true =>
    replace hb1 := of_decide_eq_true hb1.symm
    refine r_cond_t rfl ?_
    refine r_seq ?_
    refine r_region ?_
    refine OL.q (Q1.assign rfl) rfl rfl ?_
    refine OL.nil ?_
    refine r_ret1 Try.func152 rfl rfl ?_
    exact Ret.mk ⟨(congrArg (Value.int .i64) (by first | (unfold Ml.cmpI; rw [if_pos (by omega)]) | (unfold Ml.cmpI; rw [if_neg (by omega), if_pos (by omega)]) | (unfold Ml.cmpI; rw [if_neg (by omega), if_neg (by omega)]) | (exfalso; omega))), hE2⟩
  | false =>
    replace hb1 := of_decide_eq_false hb1.symm
    refine r_cond_f rfl ?_
    refine r_skip ?_
    refine r_seq ?_
    refine r_seq ?_
    refine r_region ?_
    refine OL.q (Q1.move rfl) rfl rfl ?_
    refine OL.q (Q1.move rfl) rfl rfl ?_
    refine OL.qb (Q1.gt rfl rfl) rfl rfl ?_
    intro b2 hb2
    refine OL.nil ?_
    cases b2 with
    | true =>
      replace hb2 := of_decide_eq_true hb2.symm
      refine r_cond_t rfl ?_
      refine r_seq ?_
      refine r_region ?_
      refine OL.q (Q1.assign rfl) rfl rfl ?_
      refine OL.nil ?_
      refine r_ret1 Try.func152 rfl rfl ?_
      exact Ret.mk ⟨(congrArg (Value.int .i64) (by first | (unfold Ml.cmpI; rw [if_pos (by omega)]) | (unfold Ml.cmpI; rw [if_neg (by omega), if_pos (by omega)]) | (unfold Ml.cmpI; rw [if_neg (by omega), if_neg (by omega)]) | (exfalso; omega))), hE2⟩
    | false =>
      replace hb2 := of_decide_eq_false hb2.symm
      refine r_cond_f rfl ?_
      refine r_skip ?_
      refine r_seq ?_
      refine r_region ?_
      refine OL.q (Q1.assign rfl) rfl rfl ?_
      refine OL.nil ?_
      refine r_ret1 Try.func152 rfl rfl ?_
      exact Ret.mk ⟨(congrArg (Value.int .i64) (by first | (unfold Ml.cmpI; rw [if_pos (by omega)]) | (unfold Ml.cmpI; rw [if_neg (by omega), if_pos (by omega)]) | (unfold Ml.cmpI; rw [if_neg (by omega), if_neg (by omega)]) | (exfalso; omega))), hE2⟩
set_option maxRecDepth 20000 in
set_option maxHeartbeats 4000000 in
theorem cmpor_c {w0 : World}  {v_vals : Value} {vals : List Int} (h_vals : Sl Ik.encI w0 (Iv 0 w0.heap.size) v_vals vals) :
    Calls Try.prog 151 #[v_vals] w0 (Ret fun rv w1 => rv = .int .i64 (Ml.orI vals) ∧ Ext w0 w1) := by
  have hE0 : Ext w0 w0 := Mod.refl _ _
  have hle1 := h_vals.le
  refine calls_enter Try.func151 rfl Try.ntmps151 rfl ?_
  refine r_seq ?_
  refine r_region ?_
  refine OL.q (Q1.assign rfl) rfl rfl ?_
  refine OL.nil ?_
  refine r_seq ?_
  refine r_region ?_
  refine OL.q (Q1.assign rfl) rfl rfl ?_
  refine OL.nil ?_
  refine r_seq ?_
  refine r_seq ?_
  refine r_region ?_
  refine OL.q (Q1.move rfl) rfl rfl ?_
  refine OL.q (Q1.lenSl Try.underlying55 (h_vals) rfl) rfl rfl ?_
  refine OL.q (Q1.move rfl) rfl rfl ?_
  refine OL.nil ?_
  refine r_block ?_
  refine r_loop (I := fun m E W => ∃ (k : Nat), E = [(3, .int .i64 0), (6, v_vals), (7, .int .i64 (((vals.length : Nat) : Int))), (8, .int .i64 (((k : Nat) : Int)))] ∧ m = vals.length - k ∧ Ext w0 W ∧ w0.heap.size ≤ W.heap.size ∧ Sl Ik.encI W (Iv 0 w0.heap.size) v_vals vals ∧ (Ml.orI vals = Ml.orI (vals.drop k))) ?_ ?_
  · refine ⟨_, _, ⟨(0 : Nat), rfl, rfl, hE0, Nat.le_refl _, h_vals, (by rfl)⟩, ⟨rfl, rfl, rfl, rfl, trivial⟩⟩
  · rintro _ _ w1 ⟨k, rfl, rfl, hE1, hs1, f1, hi⟩ ih1
    refine r_seq ?_
    refine r_region ?_
    refine OL.qb (Q1.lt rfl rfl) rfl rfl ?_
    intro b1 hb1
    refine OL.nil ?_
    refine r_seq ?_
    cases b1 with
    | true =>
      replace hb1 := of_decide_eq_true hb1.symm
      refine r_cond_t rfl ?_
      refine r_skip ?_
      refine r_seq ?_
      refine r_block ?_
      refine r_seq ?_
      refine r_region ?_
      obtain ⟨x1, b2, o1, hx1, hr1, hl1, hu1, hw1⟩ := Sl.at' (P := Try.prog) f1 Try.underlying55 ti3 Ik.encI_len (k := .i64) (n := ((k : Nat) : Int)) (k) (by omega) (by first | assumption | omega)
      refine OL.q (Q1.indexAddr rfl rfl hr1) rfl rfl ?_
      refine OL.q (Q1.load1 ti3 rfl (fun _ e => e ▸ hw1)) rfl rfl ?_
      refine OL.q (Q1.assign rfl) rfl rfl ?_
      refine OL.nil ?_
      refine r_seq ?_
      refine r_region ?_
      refine OL.q (Q1.move rfl) rfl rfl ?_
      refine OL.q (Q1.move rfl) rfl rfl ?_
      refine OL.qb (Q1.ne rfl rfl) rfl rfl ?_
      intro b3 hb2
      refine OL.nil ?_
      cases b3 with
      | true =>
        replace hb2 := bne_iff_ne.1 hb2.symm
        refine r_cond_t rfl ?_
        refine r_seq ?_
        refine r_region ?_
        refine OL.q (Q1.move rfl) rfl rfl ?_
        refine OL.q (Q1.assign rfl) rfl rfl ?_
        refine OL.nil ?_
        refine r_ret1 Try.func151 rfl rfl ?_
        exact Ret.mk ⟨(congrArg (Value.int .i64) (by first | exact Ml.orI_found hi hx1 hb2 | exact Ml.orI_end hi (by omega) | (exfalso; omega))), hE1⟩
      | false =>
        replace hb2 := bne_eq_false_iff_eq.1 hb2.symm
        refine r_cond_f rfl ?_
        refine r_skip ?_
        refine r_inBlock ?_
        refine r_region ?_
        refine OL.q (Q1.addI (((k + 1 : Nat) : Int)) rfl rfl (by omega)) rfl rfl ?_
        refine OL.q (Q1.move rfl) rfl rfl ?_
        refine OL.nil ?_
        exact (ih1 _ _ _ ⟨(k + 1 : Nat), rfl, rfl, hE1, (by omega), f1, (by first | exact Ml.orI_drop hi hx1 (by simpa using hb2) | (exfalso; omega))⟩ (by omega)).sub ⟨rfl, rfl, rfl, rfl, trivial⟩
    | false =>
      replace hb1 := of_decide_eq_false hb1.symm
      refine r_cond_f rfl ?_
      refine r_exit rfl ?_
      refine r_seq ?_
      refine r_region ?_
      refine OL.q (Q1.move rfl) rfl rfl ?_
      refine OL.q (Q1.assign rfl) rfl rfl ?_
      refine OL.nil ?_
      refine r_ret1 Try.func151 rfl rfl ?_
      exact Ret.mk ⟨(congrArg (Value.int .i64) (by first | exact Ml.orI_found hi hx1 hb2 | exact Ml.orI_end hi (by omega) | (exfalso; omega))), hE1⟩
set_option maxRecDepth 20000 in
set_option maxHeartbeats 4000000 in
theorem kcmp_c {w0 : World}  {a : Key} {b : Key}  :
    Calls Try.prog 139 #[.agg #[.int .i64 a.len, strV a.text], .agg #[.int .i64 b.len, strV b.text]] w0 (Ret fun rv w1 => rv = .int .i64 (Ml.keyCmp a b) ∧ Ext w0 w1) := by
  have hE0 : Ext w0 w0 := Mod.refl _ _
  refine calls_enter Try.func139 rfl Try.ntmps139 rfl ?_
  refine r_seq ?_
  refine r_region ?_
  refine OL.act rfl rfl (AW.box [.int .i64 a.len, strV a.text] rfl rfl ?_)
  intro w1 b1 hm1 hb1 hz1 hk1
  have hE1 := hE0.ext hm1
  have hs1 := hm1.size
  refine OL.act rfl rfl (AW.box [.int .i64 b.len, strV b.text] rfl rfl ?_)
  intro w2 b2 hm2 hb2 hz2 hk2
  have f1 := hk1.ext hm2
  have hE2 := hE1.ext hm2
  have hs2 := hm2.size
  refine OL.q (Q1.assign rfl) rfl rfl ?_
  refine OL.nil ?_
  refine r_seq ?_
  refine r_draw1 (fun i => Nat.beq i 4 || Nat.beq i 9 || Nat.beq i 10 || Nat.beq i 11) 13 (fun w' => Mod (Mg 0) w2 w') mixed (by kernel_rfl) ?_
  intro w3 hm3
  have f2 := f1.ext hm3
  have f3 := hk2.ext hm3
  have hE3 := hE2.ext hm3
  have hs3 := hm3.size
  have hCw3 : Mod (Mg 0) w2 w3 := Mod.ofExt hm3
  refine ⟨hCw3, ?_⟩
  rw [show List.range' 0 (Array.size _) = [0, 1, 2, 3, 4, 5, 6, 7, 8, 9, 10, 11, 12] from rfl]
  refine OD.q rfl rfl (Q1.fieldAddr fl126_0 rfl) rfl rfl ?_
  refine OD.q rfl rfl (Q1.load1 ti3 rfl (fun _ hc => (f1.cell 0 _ rfl).keepG hc (by omega))) rfl rfl ?_
  refine OD.q rfl rfl (Q1.fieldAddr fl126_0 rfl) rfl rfl ?_
  refine OD.q rfl rfl (Q1.load1 ti3 rfl (fun _ hc => (hk2.cell 0 _ rfl).keepG hc (by omega))) rfl rfl ?_
  refine OD.act rfl rfl rfl rfl (AW.callF cl152 rfl (cmpc_c (w0 := w3)  (a.len) (b.len) ) ?_)
  rintro _ w4 ⟨rfl, hm4⟩
  have f4 := f2.ext hm4
  have f5 := f3.ext hm4
  have hE4 := hE3.ext hm4
  have hs4 := hm4.size
  have hCw4 := hCw3.ext hm4
  refine ⟨.inr hCw4, ?_⟩
  refine OD.q rfl rfl (Q1.fieldAddr fl126_1 rfl) rfl rfl ?_
  refine OD.q rfl rfl (Q1.load1 ti9 rfl (fun _ hc => (f1.cell 1 _ rfl).keepG hc (by omega))) rfl rfl ?_
  refine OD.q rfl rfl (Q1.fieldAddr fl126_1 rfl) rfl rfl ?_
  refine OD.q rfl rfl (Q1.load1 ti9 rfl (fun _ hc => (hk2.cell 1 _ rfl).keepG hc (by omega))) rfl rfl ?_
  refine OD.act rfl rfl rfl rfl (AW.callF cl76 rfl (tcmp_c (w0 := w4)  a.text b.text ) ?_)
  rintro _ w5 ⟨rfl, hm5, hp1⟩
  have f6 := f4.ext hm5
  have f7 := f5.ext hm5
  have hE5 := hE4.ext hm5
  have hs5 := hm5.size
  have hCw5 := hCw4.ext hm5
  refine ⟨.inr hCw5, ?_⟩
  refine OD.act rfl rfl rfl rfl (AW.buildSlice [(.int .i64 ((Ml.cmpI a.len b.len)) : Value), (.int .i64 ((Lib.compareBytes a.text b.text)) : Value)] Try.underlying55 ti3 rfl rfl rfl (by decide) ?_)
  intro w6 b3 hm6 hb3 hz3 hk3
  have f8 := f6.ext hm6
  have f9 := f7.ext hm6
  have hE6 := hE5.ext hm6
  have hs6 := hm6.size
  have hCw6 := hCw5.ext hm6
  refine ⟨.inr hCw6, ?_⟩
  have hl1 := Sl.of_blk (enc := Ik.encI) hk3 ([(Ml.cmpI a.len b.len), (Lib.compareBytes a.text b.text)] : List Int) 2 rfl rfl (by unfold maxLen; omega)
  refine OD.act rfl rfl rfl rfl (AW.callF cl151 rfl (cmpor_c (w0 := w6) (vals := [(Ml.cmpI a.len b.len), (Lib.compareBytes a.text b.text)])  ((hl1).iv (Nat.zero_le _) (by omega))) ?_)
  rintro _ w7 ⟨rfl, hm7⟩
  have f10 := f8.ext hm7
  have f11 := f9.ext hm7
  have f12 := hl1.ext hm7
  have hE7 := hE6.ext hm7
  have hs7 := hm7.size
  have hCw7 := hCw6.ext hm7
  refine ⟨.inr hCw7, ?_⟩
  refine OD.q rfl rfl (Q1.assign rfl) rfl rfl ?_
  refine OD.nil ?_
  refine r_ret1 Try.func139 rfl rfl ?_
  exact Ret.mk ⟨(congrArg (Value.int .i64) (by rfl)), hE7⟩
set_option maxRecDepth 20000 in
set_option maxHeartbeats 4000000 in
theorem kless_c {w0 : World}  {a : Key} {b : Key}  :
    Calls Try.prog 111 #[.agg #[.int .i64 a.len, strV a.text], .agg #[.int .i64 b.len, strV b.text]] w0 (Ret fun rv w1 => (∃ rb : Bool, rb = (Ml.keyLess a b) ∧ rv = .bool rb) ∧ Ext w0 w1) := by
  have hE0 : Ext w0 w0 := Mod.refl _ _
  refine calls_enter Try.func111 rfl Try.ntmps111 rfl ?_
  refine r_seq ?_
  refine r_region ?_
  refine OL.act rfl rfl (AW.box [.int .i64 a.len, strV a.text] rfl rfl ?_)
  intro w1 b1 hm1 hb1 hz1 hk1
  have hE1 := hE0.ext hm1
  have hs1 := hm1.size
  refine OL.act rfl rfl (AW.box [.int .i64 b.len, strV b.text] rfl rfl ?_)
  intro w2 b2 hm2 hb2 hz2 hk2
  have f1 := hk1.ext hm2
  have hE2 := hE1.ext hm2
  have hs2 := hm2.size
  refine OL.q (Q1.assign rfl) rfl rfl ?_
  refine OL.nil ?_
  refine r_seq ?_
  refine r_region ?_
  refine OL.q (Q1.loadN ti126 rfl (fun _ e => e ▸ f1.row) rfl) rfl rfl ?_
  refine OL.q (Q1.loadN ti126 rfl (fun _ e => e ▸ hk2.row) rfl) rfl rfl ?_
  refine OL.act rfl rfl (AW.callF cl139 rfl (kcmp_c (w0 := w2) (a := a) (b := b)  ) ?_)
  rintro _ w3 ⟨rfl, hm3⟩
  have f2 := f1.ext hm3
  have f3 := hk2.ext hm3
  have hE3 := hE2.ext hm3
  have hs3 := hm3.size
  refine OL.qb (Q1.lt rfl rfl) rfl rfl ?_
  intro b3 hb3
  refine OL.q (Q1.assign rfl) rfl rfl ?_
  refine OL.nil ?_
  refine r_ret1 Try.func111 rfl rfl ?_
  exact Ret.mk ⟨⟨_, (by first | simp only [Ml.keyLess, *] | (exfalso; omega)), rfl⟩, hE3⟩
set_option maxRecDepth 20000 in
set_option maxHeartbeats 4000000 in
theorem pgood_c {w0 : World}  {v_cuts : Value} {cuts : List Key} (h_cuts : Sl encKey w0 (Iv 0 w0.heap.size) v_cuts cuts) (hk : ∀ k ∈ cuts, k.text.length ≤ 9223372036854775807) :
    Calls Try.prog 84 #[v_cuts] w0 (Ret fun rv w1 => rv = .int .i64 (Ml.goodC cuts) ∧ Ext w0 w1) := by
  have hE0 : Ext w0 w0 := Mod.refl _ _
  have hle1 := h_cuts.le
  refine calls_enter Try.func84 rfl Try.ntmps84 rfl ?_
  refine r_seq ?_
  refine r_region ?_
  refine OL.q (Q1.assign rfl) rfl rfl ?_
  refine OL.nil ?_
  refine r_seq ?_
  refine r_seq ?_
  refine r_region ?_
  refine OL.q (Q1.move rfl) rfl rfl ?_
  refine OL.q (Q1.lenSl Try.underlying51 (h_cuts) rfl) rfl rfl ?_
  refine OL.qb (Q1.gt rfl rfl) rfl rfl ?_
  intro b1 hb1
  refine OL.nil ?_
  cases b1 with
  | true =>
    replace hb1 := of_decide_eq_true hb1.symm
    refine r_cond_t rfl ?_
    refine r_seq ?_
    refine r_region ?_
    refine OL.q (Q1.assign rfl) rfl rfl ?_
    refine OL.nil ?_
    refine r_ret1 Try.func84 rfl rfl ?_
    exact Ret.mk ⟨(congrArg (Value.int .i64) (by first | exact Ml.goodC_full (by omega) | exact Ml.goodC_key (by omega) hx1 (by simp only [Ml.keyOk]; simp; omega) | exact Ml.goodC_sort (by omega) ha hj hx1 hx2 (by assumption) | exact Ml.goodC_ok (by omega) ha hr (by omega) | (exfalso; omega))), hE0⟩
  | false =>
    replace hb1 := of_decide_eq_false hb1.symm
    refine r_cond_f rfl ?_
    refine r_skip ?_
    refine r_seq ?_
    refine r_seq ?_
    refine r_region ?_
    refine OL.q (Q1.move rfl) rfl rfl ?_
    refine OL.q (Q1.lenSl Try.underlying51 (h_cuts) rfl) rfl rfl ?_
    refine OL.q (Q1.move rfl) rfl rfl ?_
    refine OL.nil ?_
    refine r_block ?_
    refine r_loop (I := fun m E W => ∃ (k : Nat), E = [(0, v_cuts), (10, v_cuts), (11, .int .i64 (((cuts.length : Nat) : Int))), (12, .int .i64 (((k : Nat) : Int)))] ∧ m = cuts.length - k ∧ Ext w0 W ∧ w0.heap.size ≤ W.heap.size ∧ Sl encKey W (Iv 0 w0.heap.size) v_cuts cuts ∧ ((cuts.take k).all Ml.keyOk = true)) ?_ ?_
    · refine ⟨_, _, ⟨(0 : Nat), rfl, rfl, hE0, Nat.le_refl _, h_cuts, (by rfl)⟩, ⟨rfl, rfl, rfl, rfl, trivial⟩⟩
    · rintro _ _ w1 ⟨k, rfl, rfl, hE1, hs1, f1, hi⟩ ih1
      refine r_seq ?_
      refine r_region ?_
      refine OL.qb (Q1.lt rfl rfl) rfl rfl ?_
      intro b2 hb2
      refine OL.nil ?_
      refine r_seq ?_
      cases b2 with
      | true =>
        replace hb2 := of_decide_eq_true hb2.symm
        refine r_cond_t rfl ?_
        refine r_skip ?_
        refine r_seq ?_
        refine r_block ?_
        refine r_seq ?_
        refine r_region ?_
        obtain ⟨x1, b3, o1, hx1, hr1, hl1, hu1, hw1⟩ := Sl.at' (P := Try.prog) f1 Try.underlying51 ti126 encKey_len (k := .i64) (n := ((k : Nat) : Int)) (k) (by omega) (by first | assumption | omega)
        refine OL.q (Q1.indexAddr rfl rfl hr1) rfl rfl ?_
        refine OL.q (Q1.loadN ti126 rfl (fun _ e => e ▸ hw1) rfl) rfl rfl ?_
        refine OL.act rfl rfl (AW.alloc ti126 ?_)
        intro w2 b4 hm1 hb3 hz1 hk1
        have f2 := f1.ext hm1
        have hE2 := hE1.ext hm1
        have hs2 := hm1.size
        refine OL.act rfl rfl (AW.store ti126 rfl rfl rfl rfl rfl hk1 (Nat.le_of_ble_eq_true rfl) ?_)
        intro w3 hm2 hz2 hk2
        replace hk2 : Bk w3 b4 [.int .i64 x1.len, strV x1.text] 126 := hk2
        have f3 := f2.keepG hm2 (by omega)
        have hE3 := Ext.thenG hE2 hm2 (by omega)
        have hs3 := hm2.size
        refine OL.nil ?_
        refine r_seq ?_
        refine r_region ?_
        refine OL.q (Q1.fieldAddr fl126_1 rfl) rfl rfl ?_
        refine OL.q (Q1.load1 ti9 rfl (fun _ e => e ▸ (hk2.cell 1 _ rfl))) rfl rfl ?_
        refine OL.act rfl rfl (AW.callF cl105 rfl (tlen_c (w0 := w3)  x1.text (by exact hk _ (List.mem_of_getElem? (by assumption)))) ?_)
        rintro _ w4 ⟨rfl, hm3, hp1⟩
        have f4 := f3.ext hm3
        have f5 := hk2.ext hm3
        have hE4 := hE3.ext hm3
        have hs4 := hm3.size
        refine OL.q (Q1.assign rfl) rfl rfl ?_
        refine OL.nil ?_
        refine r_seq ?_
        refine r_region ?_
        refine OL.q (Q1.fieldAddr fl126_0 rfl) rfl rfl ?_
        refine OL.q (Q1.load1 ti3 rfl (fun _ e => e ▸ (f5.cell 0 _ rfl))) rfl rfl ?_
        refine OL.qb (Q1.lt rfl rfl) rfl rfl ?_
        intro b5 hb4
        refine OL.q (Q1.move rfl) rfl rfl ?_
        cases b5 with
        | true =>
          replace hb4 := of_decide_eq_true hb4.symm
          refine OL.sk rfl rfl ?_
          refine OL.sk rfl rfl ?_
          refine OL.sk rfl rfl ?_
          refine OL.q (Q1.pick_t rfl rfl) rfl rfl ?_
          refine OL.q (Q1.move rfl) rfl rfl ?_
          refine OL.sk rfl rfl ?_
          refine OL.sk rfl rfl ?_
          refine OL.q (Q1.pick_t rfl rfl) rfl rfl ?_
          refine OL.q (Q1.move rfl) rfl rfl ?_
          refine OL.sk rfl rfl ?_
          refine OL.sk rfl rfl ?_
          refine OL.q (Q1.pick_t rfl rfl) rfl rfl ?_
          refine OL.nil ?_
          refine r_cond_t rfl ?_
          refine r_seq ?_
          refine r_region ?_
          refine OL.q (Q1.assign rfl) rfl rfl ?_
          refine OL.nil ?_
          refine r_ret1 Try.func84 rfl rfl ?_
          exact Ret.mk ⟨(congrArg (Value.int .i64) (by first | exact Ml.goodC_full (by omega) | exact Ml.goodC_key (by omega) hx1 (by simp only [Ml.keyOk]; simp; omega) | exact Ml.goodC_sort (by omega) ha hj hx1 hx2 (by assumption) | exact Ml.goodC_ok (by omega) ha hr (by omega) | (exfalso; omega))), hE4⟩
        | false =>
          replace hb4 := of_decide_eq_false hb4.symm
          refine OL.q (Q1.fieldAddr fl126_0 rfl) rfl rfl ?_
          refine OL.q (Q1.load1 ti3 rfl (fun _ e => e ▸ (f5.cell 0 _ rfl))) rfl rfl ?_
          refine OL.qb (Q1.gt rfl rfl) rfl rfl ?_
          intro b6 hb5
          refine OL.q (Q1.pick_f rfl rfl) rfl rfl ?_
          refine OL.q (Q1.move rfl) rfl rfl ?_
          cases b6 with
          | true =>
            replace hb5 := of_decide_eq_true hb5.symm
            refine OL.sk rfl rfl ?_
            refine OL.sk rfl rfl ?_
            refine OL.q (Q1.pick_t rfl rfl) rfl rfl ?_
            refine OL.q (Q1.move rfl) rfl rfl ?_
            refine OL.sk rfl rfl ?_
            refine OL.sk rfl rfl ?_
            refine OL.q (Q1.pick_t rfl rfl) rfl rfl ?_
            refine OL.nil ?_
            refine r_cond_t rfl ?_
            refine r_seq ?_
            refine r_region ?_
            refine OL.q (Q1.assign rfl) rfl rfl ?_
            refine OL.nil ?_
            refine r_ret1 Try.func84 rfl rfl ?_
            exact Ret.mk ⟨(congrArg (Value.int .i64) (by first | exact Ml.goodC_full (by omega) | exact Ml.goodC_key (by omega) hx1 (by simp only [Ml.keyOk]; simp; omega) | exact Ml.goodC_sort (by omega) ha hj hx1 hx2 (by assumption) | exact Ml.goodC_ok (by omega) ha hr (by omega) | (exfalso; omega))), hE4⟩
          | false =>
            replace hb5 := of_decide_eq_false hb5.symm
            refine OL.q (Q1.move rfl) rfl rfl ?_
            refine OL.qb (Q1.lt rfl rfl) rfl rfl ?_
            intro b7 hb6
            refine OL.q (Q1.pick_f rfl rfl) rfl rfl ?_
            refine OL.q (Q1.move rfl) rfl rfl ?_
            cases b7 with
            | true =>
              replace hb6 := of_decide_eq_true hb6.symm
              refine OL.sk rfl rfl ?_
              refine OL.sk rfl rfl ?_
              refine OL.q (Q1.pick_t rfl rfl) rfl rfl ?_
              refine OL.nil ?_
              refine r_cond_t rfl ?_
              refine r_seq ?_
              refine r_region ?_
              refine OL.q (Q1.assign rfl) rfl rfl ?_
              refine OL.nil ?_
              refine r_ret1 Try.func84 rfl rfl ?_
              exact Ret.mk ⟨(congrArg (Value.int .i64) (by first | exact Ml.goodC_full (by omega) | exact Ml.goodC_key (by omega) hx1 (by simp only [Ml.keyOk]; simp; omega) | exact Ml.goodC_sort (by omega) ha hj hx1 hx2 (by assumption) | exact Ml.goodC_ok (by omega) ha hr (by omega) | (exfalso; omega))), hE4⟩
            | false =>
              replace hb6 := of_decide_eq_false hb6.symm
              refine OL.q (Q1.move rfl) rfl rfl ?_
              refine OL.qb (Q1.gt rfl rfl) rfl rfl ?_
              intro b8 hb7
              refine OL.q (Q1.pick_f rfl rfl) rfl rfl ?_
              refine OL.nil ?_
              cases b8 with
              | true =>
                replace hb7 := of_decide_eq_true hb7.symm
                refine r_cond_t rfl ?_
                refine r_seq ?_
                refine r_region ?_
                refine OL.q (Q1.assign rfl) rfl rfl ?_
                refine OL.nil ?_
                refine r_ret1 Try.func84 rfl rfl ?_
                exact Ret.mk ⟨(congrArg (Value.int .i64) (by first | exact Ml.goodC_full (by omega) | exact Ml.goodC_key (by omega) hx1 (by simp only [Ml.keyOk]; simp; omega) | exact Ml.goodC_sort (by omega) ha hj hx1 hx2 (by assumption) | exact Ml.goodC_ok (by omega) ha hr (by omega) | (exfalso; omega))), hE4⟩
              | false =>
                replace hb7 := of_decide_eq_false hb7.symm
                refine r_cond_f rfl ?_
                refine r_skip ?_
                refine r_inBlock ?_
                refine r_region ?_
                refine OL.q (Q1.addI (((k + 1 : Nat) : Int)) rfl rfl (by omega)) rfl rfl ?_
                refine OL.q (Q1.move rfl) rfl rfl ?_
                refine OL.nil ?_
                exact (ih1 _ _ _ ⟨(k + 1 : Nat), rfl, rfl, hE4, (by omega), f4, (by first | exact Ml.all_take_succ hi hx1 (by simp only [Ml.keyOk]; simp; omega) | (exfalso; omega))⟩ (by omega)).sub ⟨rfl, rfl, rfl, rfl, trivial⟩
      | false =>
        replace hb2 := of_decide_eq_false hb2.symm
        refine r_cond_f rfl ?_
        refine r_exit rfl ?_
        refine r_seq ?_
        refine r_seq ?_
        refine r_region ?_
        refine OL.q (Q1.assign rfl) rfl rfl ?_
        refine OL.nil ?_
        refine r_block ?_
        refine r_loop (I := fun m E W => ∃ (j : Nat), E = [(0, v_cuts), (6, .int .i64 (((j : Nat) : Int)))] ∧ m = cuts.length - j ∧ Ext w0 W ∧ w1.heap.size ≤ W.heap.size ∧ Sl encKey W (Iv 0 w0.heap.size) v_cuts cuts ∧ (1 ≤ j) ∧ (Ml.keysRise (cuts.take j) = true)) ?_ ?_
        · refine ⟨_, _, ⟨(1 : Nat), rfl, rfl, hE1, Nat.le_refl _, f1, (by omega), (by exact Ml.keysRise_one _)⟩, ⟨rfl, rfl, trivial⟩⟩
        · rintro _ _ w2 ⟨j, rfl, rfl, hE2, hs2, f2, hj, hr⟩ ih2
          have ha := Ml.all_of_take hi (by omega)
          refine r_seq ?_
          refine r_seq ?_
          refine r_region ?_
          refine OL.q (Q1.move rfl) rfl rfl ?_
          refine OL.q (Q1.move rfl) rfl rfl ?_
          refine OL.q (Q1.lenSl Try.underlying51 (f2) rfl) rfl rfl ?_
          refine OL.qb (Q1.lt rfl rfl) rfl rfl ?_
          intro b3 hb3
          refine OL.nil ?_
          cases b3 with
          | true =>
            replace hb3 := of_decide_eq_true hb3.symm
            refine r_cond_t rfl ?_
            refine r_skip ?_
            refine r_seq ?_
            refine r_block ?_
            refine r_seq ?_
            refine r_draw1 (fun i => Nat.beq i 9) 11 (fun w' => Mod (Mg 0) w2 w') mixed (by kernel_rfl) ?_
            intro w3 hm1
            have f3 := f2.ext hm1
            have hE3 := hE2.ext hm1
            have hs3 := hm1.size
            have hCw3 : Mod (Mg 0) w2 w3 := Mod.ofExt hm1
            refine ⟨hCw3, ?_⟩
            rw [show List.range' 0 (Array.size _) = [0, 1, 2, 3, 4, 5, 6, 7, 8, 9, 10] from rfl]
            refine OD.q rfl rfl (Q1.move rfl) rfl rfl ?_
            refine OD.q rfl rfl (Q1.move rfl) rfl rfl ?_
            refine OD.q rfl rfl (Q1.subI ((((j : Nat) : Int) - 1)) rfl rfl (by omega)) rfl rfl ?_
            obtain ⟨x1, b4, o1, hx1, hr1, hl1, hu1, hw1⟩ := Sl.at' (P := Try.prog) f2 Try.underlying51 ti126 encKey_len (k := .i64) (n := (((j : Nat) : Int) - 1)) ((j - 1)) (by omega) (by first | assumption | omega)
            refine OD.q rfl rfl (Q1.indexAddr rfl rfl hr1) rfl rfl ?_
            refine OD.q rfl rfl (Q1.loadN ti126 rfl (fun _ hc => hw1.keepG hc (by omega)) rfl) rfl rfl ?_
            refine OD.q rfl rfl (Q1.move rfl) rfl rfl ?_
            refine OD.q rfl rfl (Q1.move rfl) rfl rfl ?_
            obtain ⟨x2, b5, o2, hx2, hr2, hl2, hu2, hw2⟩ := Sl.at' (P := Try.prog) f2 Try.underlying51 ti126 encKey_len (k := .i64) (n := ((j : Nat) : Int)) (j) (by omega) (by first | assumption | omega)
            refine OD.q rfl rfl (Q1.indexAddr rfl rfl hr2) rfl rfl ?_
            refine OD.q rfl rfl (Q1.loadN ti126 rfl (fun _ hc => hw2.keepG hc (by omega)) rfl) rfl rfl ?_
            refine OD.act rfl rfl rfl rfl (AW.callF cl111 rfl (kless_c (w0 := w3) (a := x1) (b := x2)  ) ?_)
            rintro _ w4 ⟨⟨b6, hb4, rfl⟩, hm2⟩
            have f4 := f3.ext hm2
            have hE4 := hE3.ext hm2
            have hs4 := hm2.size
            have hCw4 := hCw3.ext hm2
            refine ⟨.inr hCw4, ?_⟩
            cases b6 with
            | true =>
              replace hb4 := hb4.symm
              refine OD.q rfl rfl (Q1.not rfl) rfl rfl ?_
              refine OD.nil ?_
              refine r_cond_f rfl ?_
              refine r_skip ?_
              refine r_inBlock ?_
              refine r_region ?_
              refine OL.q (Q1.move rfl) rfl rfl ?_
              refine OL.q (Q1.addI (((j + 1 : Nat) : Int)) rfl rfl (by omega)) rfl rfl ?_
              refine OL.q (Q1.assign rfl) rfl rfl ?_
              refine OL.nil ?_
              exact (ih2 _ _ _ ⟨(j + 1 : Nat), rfl, rfl, hE4, (by omega), f4, (by first | omega | (exfalso; omega)), (by first | exact Ml.keysRise_step hr hj hx1 hx2 (by assumption) | (exfalso; omega))⟩ (by omega)).sub ⟨rfl, rfl, trivial⟩
            | false =>
              replace hb4 := hb4.symm
              refine OD.q rfl rfl (Q1.not rfl) rfl rfl ?_
              refine OD.nil ?_
              refine r_cond_t rfl ?_
              refine r_seq ?_
              refine r_region ?_
              refine OL.q (Q1.assign rfl) rfl rfl ?_
              refine OL.nil ?_
              refine r_ret1 Try.func84 rfl rfl ?_
              exact Ret.mk ⟨(congrArg (Value.int .i64) (by first | exact Ml.goodC_full (by omega) | exact Ml.goodC_key (by omega) hx1 (by simp only [Ml.keyOk]; simp; omega) | exact Ml.goodC_sort (by omega) ha hj hx1 hx2 (by assumption) | exact Ml.goodC_ok (by omega) ha hr (by omega) | (exfalso; omega))), hE4⟩
          | false =>
            replace hb3 := of_decide_eq_false hb3.symm
            refine r_cond_f rfl ?_
            refine r_exit rfl ?_
            refine r_seq ?_
            refine r_region ?_
            refine OL.q (Q1.assign rfl) rfl rfl ?_
            refine OL.nil ?_
            refine r_ret1 Try.func84 rfl rfl ?_
            exact Ret.mk ⟨(congrArg (Value.int .i64) (by first | exact Ml.goodC_full (by omega) | exact Ml.goodC_key (by omega) hx1 (by simp only [Ml.keyOk]; simp; omega) | exact Ml.goodC_sort (by omega) ha hj hx1 hx2 (by assumption) | exact Ml.goodC_ok (by omega) ha hr (by omega) | (exfalso; omega))), hE2⟩
set_option maxRecDepth 20000 in
set_option maxHeartbeats 4000000 in
theorem pbelow_c {w0 : World}  {v_cuts : Value} {cuts : List Key} {k : Key} (h_cuts : Sl encKey w0 (Iv 0 w0.heap.size) v_cuts cuts) :
    Calls Try.prog 138 #[v_cuts, .agg #[.int .i64 k.len, strV k.text], .func (.func 111) #[] #[]] w0 (Ret fun rv w1 => rv = .int .i64 (((Ml.belowN cuts k : Nat) : Int)) ∧ Ext w0 w1) := by
  have hE0 : Ext w0 w0 := Mod.refl _ _
  have hle1 := h_cuts.le
  refine calls_enter Try.func138 rfl Try.ntmps138 rfl ?_
  refine r_seq ?_
  refine r_region ?_
  refine OL.act rfl rfl (AW.box [.int .i64 k.len, strV k.text] rfl rfl ?_)
  intro w1 b1 hm1 hb1 hz1 hk1
  have f1 := h_cuts.ext hm1
  have hE1 := hE0.ext hm1
  have hs1 := hm1.size
  refine OL.q (Q1.assign rfl) rfl rfl ?_
  refine OL.nil ?_
  refine r_seq ?_
  refine r_region ?_
  refine OL.q (Q1.assign rfl) rfl rfl ?_
  refine OL.nil ?_
  refine r_seq ?_
  refine r_seq ?_
  refine r_region ?_
  refine OL.q (Q1.move rfl) rfl rfl ?_
  refine OL.q (Q1.lenSl Try.underlying51 (f1) rfl) rfl rfl ?_
  refine OL.q (Q1.move rfl) rfl rfl ?_
  refine OL.nil ?_
  refine r_block ?_
  refine r_loop (I := fun m E W => ∃ (n : Nat) (j : Nat), E = [(2, .func (.func 111) #[] #[]), (4, ptr b1 0), (7, .int .i64 (((n : Nat) : Int))), (10, v_cuts), (11, .int .i64 (((cuts.length : Nat) : Int))), (12, .int .i64 (((j : Nat) : Int)))] ∧ m = cuts.length - j ∧ Ext w0 W ∧ w1.heap.size ≤ W.heap.size ∧ Bk W b1 [.int .i64 k.len, strV k.text] 126 ∧ Sl encKey W (Iv 0 w0.heap.size) v_cuts cuts ∧ (n = ((cuts.take j).filter fun c => !Ml.keyLess k c).length) ∧ (n ≤ j)) ?_ ?_
  · refine ⟨_, _, ⟨(0 : Nat), (0 : Nat), rfl, rfl, hE1, Nat.le_refl _, hk1, f1, (by rfl), (by omega)⟩, ⟨rfl, rfl, rfl, rfl, rfl, rfl, trivial⟩⟩
  · rintro _ _ w2 ⟨n, j, rfl, rfl, hE2, hs2, f2, f3, hi, hn⟩ ih1
    refine r_seq ?_
    refine r_region ?_
    refine OL.qb (Q1.lt rfl rfl) rfl rfl ?_
    intro b2 hb2
    refine OL.nil ?_
    refine r_seq ?_
    cases b2 with
    | true =>
      replace hb2 := of_decide_eq_true hb2.symm
      refine r_cond_t rfl ?_
      refine r_skip ?_
      refine r_seq ?_
      refine r_block ?_
      refine r_seq ?_
      refine r_region ?_
      obtain ⟨x1, b3, o1, hx1, hr1, hl1, hu1, hw1⟩ := Sl.at' (P := Try.prog) f3 Try.underlying51 ti126 encKey_len (k := .i64) (n := ((j : Nat) : Int)) (j) (by omega) (by first | assumption | omega)
      refine OL.q (Q1.indexAddr rfl rfl hr1) rfl rfl ?_
      refine OL.q (Q1.loadN ti126 rfl (fun _ e => e ▸ hw1) rfl) rfl rfl ?_
      refine OL.act rfl rfl (AW.alloc ti126 ?_)
      intro w3 b4 hm2 hb3 hz2 hk2
      have f4 := f2.ext hm2
      have f5 := f3.ext hm2
      have hE3 := hE2.ext hm2
      have hs3 := hm2.size
      refine OL.act rfl rfl (AW.store ti126 rfl rfl rfl rfl rfl hk2 (Nat.le_of_ble_eq_true rfl) ?_)
      intro w4 hm3 hz3 hk3
      replace hk3 : Bk w4 b4 [.int .i64 x1.len, strV x1.text] 126 := hk3
      have f6 := f4.keepG hm3 (by omega)
      have f7 := f5.keepG hm3 (by omega)
      have hE4 := Ext.thenG hE3 hm3 (by omega)
      have hs4 := hm3.size
      refine OL.nil ?_
      refine r_seq ?_
      refine r_region ?_
      refine OL.q (Q1.move rfl) rfl rfl ?_
      refine OL.q (Q1.loadN ti126 rfl (fun _ e => e ▸ f6.row) rfl) rfl rfl ?_
      refine OL.q (Q1.loadN ti126 rfl (fun _ e => e ▸ hk3.row) rfl) rfl rfl ?_
      refine OL.act rfl rfl (AW.call (first := []) (cap := []) cl111 rfl rfl (kless_c (w0 := w4) (a := k) (b := x1)  ) ?_)
      rintro _ w5 ⟨⟨b5, hb4, rfl⟩, hm4⟩
      have f8 := f6.ext hm4
      have f9 := f7.ext hm4
      have f10 := hk3.ext hm4
      have hE5 := hE4.ext hm4
      have hs5 := hm4.size
      cases b5 with
      | true =>
        replace hb4 := hb4.symm
        refine OL.q (Q1.not rfl) rfl rfl ?_
        refine OL.nil ?_
        refine r_cond_f rfl ?_
        refine r_skip ?_
        refine r_inBlock ?_
        refine r_region ?_
        refine OL.q (Q1.addI (((j + 1 : Nat) : Int)) rfl rfl (by omega)) rfl rfl ?_
        refine OL.q (Q1.move rfl) rfl rfl ?_
        refine OL.nil ?_
        exact (ih1 _ _ _ ⟨(n : Nat), (j + 1 : Nat), rfl, rfl, hE5, (by omega), f8, f9, (by first | (rw [Ml.filter_take_yes hx1 (by simp [*]), List.length_append, ← hi]; rfl) | (rw [Ml.filter_take_no hx1 (by simp [*])]; exact hi) | (exfalso; omega)), (by first | omega | (exfalso; omega))⟩ (by omega)).sub ⟨rfl, rfl, rfl, rfl, rfl, rfl, trivial⟩
      | false =>
        replace hb4 := hb4.symm
        refine OL.q (Q1.not rfl) rfl rfl ?_
        refine OL.nil ?_
        refine r_cond_t rfl ?_
        refine r_region ?_
        refine OL.q (Q1.move rfl) rfl rfl ?_
        refine OL.q (Q1.addI (((n + 1 : Nat) : Int)) rfl rfl (by omega)) rfl rfl ?_
        refine OL.q (Q1.assign rfl) rfl rfl ?_
        refine OL.nil ?_
        refine r_inBlock ?_
        refine r_region ?_
        refine OL.q (Q1.addI (((j + 1 : Nat) : Int)) rfl rfl (by omega)) rfl rfl ?_
        refine OL.q (Q1.move rfl) rfl rfl ?_
        refine OL.nil ?_
        exact (ih1 _ _ _ ⟨(n + 1 : Nat), (j + 1 : Nat), rfl, rfl, hE5, (by omega), f8, f9, (by first | (rw [Ml.filter_take_yes hx1 (by simp [*]), List.length_append, ← hi]; rfl) | (rw [Ml.filter_take_no hx1 (by simp [*])]; exact hi) | (exfalso; omega)), (by first | omega | (exfalso; omega))⟩ (by omega)).sub ⟨rfl, rfl, rfl, rfl, rfl, rfl, trivial⟩
    | false =>
      replace hb2 := of_decide_eq_false hb2.symm
      refine r_cond_f rfl ?_
      refine r_exit rfl ?_
      refine r_seq ?_
      refine r_region ?_
      refine OL.q (Q1.move rfl) rfl rfl ?_
      refine OL.q (Q1.assign rfl) rfl rfl ?_
      refine OL.nil ?_
      refine r_ret1 Try.func138 rfl rfl ?_
      exact Ret.mk ⟨(congrArg (Value.int .i64) (by first | rw [hi, Ml.filter_take_all (by omega)]; rfl | (exfalso; omega))), hE2⟩
set_option maxRecDepth 20000 in
set_option maxHeartbeats 4000000 in
theorem pof_c {w0 : World}  {v_cuts : Value} {cuts : List Key} (w : Str) (h_cuts : Sl encKey w0 (Iv 0 w0.heap.size) v_cuts cuts) (hs_w : w.length ≤ 9223372036854775807) :
    Calls Try.prog 110 #[v_cuts, strV w] w0 (Ret fun rv w1 => rv = .int .i64 (Ml.ofM cuts w) ∧ Ext w0 w1) := by
  have hE0 : Ext w0 w0 := Mod.refl _ _
  have hle1 := h_cuts.le
  refine calls_enter Try.func110 rfl Try.ntmps110 rfl ?_
  refine r_seq ?_
  refine r_region ?_
  refine OL.q (Q1.assign rfl) rfl rfl ?_
  refine OL.nil ?_
  refine r_seq ?_
  refine r_seq ?_
  refine r_region ?_
  refine OL.q (Q1.move rfl) rfl rfl ?_
  refine OL.act rfl rfl (AW.callF cl75 rfl (tword_c (w0 := w0)  w (by exact hs_w)) ?_)
  rintro _ w1 ⟨⟨b1, hb1, rfl⟩, hm1⟩
  have f1 := h_cuts.ext hm1
  have hE1 := hE0.ext hm1
  have hs1 := hm1.size
  cases b1 with
  | true =>
    replace hb1 := hb1.symm
    refine OL.q (Q1.not rfl) rfl rfl ?_
    refine OL.nil ?_
    refine r_cond_f rfl ?_
    refine r_skip ?_
    refine r_seq ?_
    refine r_region ?_
    refine OL.q (Q1.move rfl) rfl rfl ?_
    refine OL.q (Q1.move rfl) rfl rfl ?_
    refine OL.act rfl rfl (AW.callF cl105 rfl (tlen_c (w0 := w1)  w (by exact hs_w)) ?_)
    rintro _ w2 ⟨rfl, hm2, hp1⟩
    have f2 := f1.ext hm2
    have hE2 := hE1.ext hm2
    have hs2 := hm2.size
    refine OL.q (Q1.move rfl) rfl rfl ?_
    refine OL.q (Q1.build (vs := #[(0, (.int .i64 ((Ml.lenT w)) : Value)), (1, strV w)]) (v := .agg #[.int .i64 ((Ml.lenT w)), strV w]) rfl (fun _ => by kernel_rfl)) rfl rfl ?_
    refine OL.act rfl rfl (AW.callF cl138 rfl (pbelow_c (w0 := w2) (cuts := cuts) (k := (Key.mk ((Ml.lenT w)) w))  ((f2).iv (Nat.zero_le _) (by omega))) ?_)
    rintro _ w3 ⟨rfl, hm3⟩
    have f3 := f2.ext hm3
    have hE3 := hE2.ext hm3
    have hs3 := hm3.size
    refine OL.q (Q1.assign rfl) rfl rfl ?_
    refine OL.nil ?_
    refine r_ret1 Try.func110 rfl rfl ?_
    exact Ret.mk ⟨(congrArg (Value.int .i64) (by first | simp only [Ml.ofM, *]; rfl | (exfalso; omega))), hE3⟩
  | false =>
    replace hb1 := hb1.symm
    refine OL.q (Q1.not rfl) rfl rfl ?_
    refine OL.nil ?_
    refine r_cond_t rfl ?_
    refine r_seq ?_
    refine r_region ?_
    refine OL.q (Q1.assign rfl) rfl rfl ?_
    refine OL.nil ?_
    refine r_ret1 Try.func110 rfl rfl ?_
    exact Ret.mk ⟨(congrArg (Value.int .i64) (by first | simp only [Ml.ofM, *]; rfl | (exfalso; omega))), hE1⟩
set_option maxRecDepth 20000 in
set_option maxHeartbeats 4000000 in
theorem pslice_c {w0 : World}  {v_cuts : Value} {cuts : List Key} {v_words : Value} {words : List Str} (shard : Int) (h_cuts : Sl encKey w0 (Iv 0 w0.heap.size) v_cuts cuts) (h_words : Sl encS w0 (Iv 0 w0.heap.size) v_words words) (h_shard : I64 shard) (hok : Ml.LOk words) (hlen : words.length ≤ 1000000) :
    Calls Try.prog 83 #[v_cuts, v_words, .int .i64 shard] w0 (Ret fun rv w1 => (∃ gr, Acc encS 9 1 w1 gr rv (Ml.sliceM cuts words shard) ∧ (gr = 0 ∨ w0.heap.size < gr)) ∧ Ext w0 w1) := by
  have hE0 : Ext w0 w0 := Mod.refl _ _
  have hle1 := h_cuts.le
  have hle2 := h_words.le
  refine calls_enter Try.func83 rfl Try.ntmps83 rfl ?_
  refine r_seq ?_
  refine r_region ?_
  refine OL.q (Q1.assign rfl) rfl rfl ?_
  refine OL.nil ?_
  refine r_seq ?_
  refine r_region ?_
  refine OL.q (Q1.assign rfl) rfl rfl ?_
  refine OL.nil ?_
  refine r_seq ?_
  refine r_seq ?_
  refine r_region ?_
  refine OL.q (Q1.move rfl) rfl rfl ?_
  refine OL.q (Q1.lenSl Try.underlying22 (h_words) rfl) rfl rfl ?_
  refine OL.q (Q1.move rfl) rfl rfl ?_
  refine OL.nil ?_
  refine r_block ?_
  refine r_loop (I := fun m E W => ∃ (v_l : Value) (g_l : Nat) (l : List Str) (k : Nat), E = [(0, v_cuts), (2, .int .i64 shard), (7, v_l), (11, v_words), (12, .int .i64 (((words.length : Nat) : Int))), (13, .int .i64 (((k : Nat) : Int)))] ∧ m = words.length - k ∧ Ext w0 W ∧ w0.heap.size ≤ W.heap.size ∧ Acc encS 9 1 W g_l v_l l ∧ (g_l = 0 ∨ w0.heap.size < g_l) ∧ Sl encKey W (Iv 0 w0.heap.size) v_cuts cuts ∧ Sl encS W (Iv 0 w0.heap.size) v_words words ∧ (l = (words.take k).filter (Ml.slP cuts shard)) ∧ (l.length ≤ k)) ?_ ?_
  · refine ⟨_, _, ⟨(.slice none 0 0 : Value), (0 : Nat), ([] : List Str), (0 : Nat), rfl, rfl, hE0, Nat.le_refl _, Acc.nil, (by omega), h_cuts, h_words, (by rfl), (by exact Nat.zero_le _)⟩, ⟨rfl, rfl, rfl, rfl, rfl, rfl, trivial⟩⟩
  · rintro _ _ w1 ⟨v_l, g_l, l, k, rfl, rfl, hE1, hs1, ha1, hg1, f1, f2, hi, hn⟩ ih1
    refine r_seq ?_
    refine r_region ?_
    refine OL.qb (Q1.lt rfl rfl) rfl rfl ?_
    intro b1 hb1
    refine OL.nil ?_
    refine r_seq ?_
    cases b1 with
    | true =>
      replace hb1 := of_decide_eq_true hb1.symm
      refine r_cond_t rfl ?_
      refine r_skip ?_
      refine r_seq ?_
      refine r_block ?_
      refine r_seq ?_
      refine r_region ?_
      obtain ⟨x1, b2, o1, hx1, hr1, hl1, hu1, hw1⟩ := Sl.at' (P := Try.prog) f2 Try.underlying22 ti9 encS_len (k := .i64) (n := ((k : Nat) : Int)) (k) (by omega) (by first | assumption | omega)
      refine OL.q (Q1.indexAddr rfl rfl hr1) rfl rfl ?_
      refine OL.q (Q1.load1 ti9 rfl (fun _ e => e ▸ hw1)) rfl rfl ?_
      refine OL.q (Q1.assign rfl) rfl rfl ?_
      refine OL.nil ?_
      refine r_seq ?_
      refine r_region ?_
      refine OL.q (Q1.move rfl) rfl rfl ?_
      refine OL.q (Q1.move rfl) rfl rfl ?_
      refine OL.act rfl rfl (AW.callF cl110 rfl (pof_c (w0 := w1) (cuts := cuts) x1 ((f1).iv (Nat.zero_le _) (by omega)) (by exact hok.at (by assumption))) ?_)
      rintro _ w2 ⟨rfl, hm1⟩
      have hl2 := ha1.lt
      have f3 := ha1.ext hm1
      have f4 := f1.ext hm1
      have f5 := f2.ext hm1
      have hE2 := hE1.ext hm1
      have hs2 := hm1.size
      refine OL.q (Q1.assign rfl) rfl rfl ?_
      refine OL.nil ?_
      refine r_seq ?_
      refine r_region ?_
      refine OL.q (Q1.move rfl) rfl rfl ?_
      refine OL.qb (Q1.ge rfl rfl) rfl rfl ?_
      intro b3 hb2
      refine OL.q (Q1.move rfl) rfl rfl ?_
      cases b3 with
      | true =>
        replace hb2 := of_decide_eq_true hb2.symm
        refine OL.q (Q1.move rfl) rfl rfl ?_
        refine OL.q (Q1.move rfl) rfl rfl ?_
        refine OL.qb (Q1.eq rfl rfl) rfl rfl ?_
        intro b4 hb3
        refine OL.q (Q1.pick_t rfl rfl) rfl rfl ?_
        refine OL.nil ?_
        cases b4 with
        | true =>
          replace hb3 := eq_of_beq hb3.symm
          refine r_cond_t rfl ?_
          refine r_region ?_
          refine OL.q (Q1.move rfl) rfl rfl ?_
          refine OL.q (Q1.move rfl) rfl rfl ?_
          refine OL.act rfl rfl (AW.buildSlice [strV x1] Try.underlying22 ti9 rfl rfl rfl (by decide) ?_)
          intro w3 b5 hm2 hb4 hz1 hk1
          have hl3 := f3.lt
          have f6 := f3.ext hm2
          have f7 := f4.ext hm2
          have f8 := f5.ext hm2
          have hE3 := hE2.ext hm2
          have hs3 := hm2.size
          have hl4 := Sl.of_blk (enc := encS) hk1 ([x1] : List Str) 1 rfl rfl (by unfold maxLen; omega)
          have hl5 := f6.lt
          refine OL.act rfl rfl (AW.append f6 Try.underlying22 ti9 rfl encS_len encS_one rfl rfl (hl4) (by first | omega | (simp only [List.length_append, List.length_cons, List.length_nil]; omega) | (simp; omega)) (by unfold maxLen; first | omega | (simp only [List.length_append, List.length_cons, List.length_nil]; omega) | (simp; omega)) ?_)
          intro v1 g1 w4 ha2 hm3 hg2 hz2
          have hl6 := f6.lt
          have f9 := f7.keepG hm3 (by omega)
          have f10 := f8.keepG hm3 (by omega)
          have f11 := hl4.keepG hm3 (by omega)
          have hE4 := Ext.thenG hE3 hm3 (by omega)
          have hs4 := hm3.size
          refine OL.q (Q1.assign rfl) rfl rfl ?_
          refine OL.nil ?_
          refine r_inBlock ?_
          refine r_region ?_
          refine OL.q (Q1.addI (((k + 1 : Nat) : Int)) rfl rfl (by omega)) rfl rfl ?_
          refine OL.q (Q1.move rfl) rfl rfl ?_
          refine OL.nil ?_
          exact (ih1 _ _ _ ⟨(v1 : Value), (g1 : Nat), ((l ++ [x1]) : List Str), (k + 1 : Nat), rfl, rfl, hE4, (by omega), ha2, (by omega), f9, f10, (by first | (rw [Ml.filter_take_yes hx1 (Ml.slP_yes hb2 hb3), hi]) | (rw [Ml.filter_take_no hx1 (Ml.slP_no2 hb3)]; exact hi) | (rw [Ml.filter_take_no hx1 (Ml.slP_no1 hb2)]; exact hi) | (exfalso; omega)), (by first | omega | (simp only [List.length_append, List.length_cons, List.length_nil]; omega) | (exfalso; omega))⟩ (by omega)).sub ⟨rfl, rfl, rfl, rfl, rfl, rfl, trivial⟩
        | false =>
          replace hb3 := ne_of_beq_false hb3.symm
          refine r_cond_f rfl ?_
          refine r_skip ?_
          refine r_inBlock ?_
          refine r_region ?_
          refine OL.q (Q1.addI (((k + 1 : Nat) : Int)) rfl rfl (by omega)) rfl rfl ?_
          refine OL.q (Q1.move rfl) rfl rfl ?_
          refine OL.nil ?_
          exact (ih1 _ _ _ ⟨(v_l : Value), (g_l : Nat), (l : List Str), (k + 1 : Nat), rfl, rfl, hE2, (by omega), f3, (by omega), f4, f5, (by first | (rw [Ml.filter_take_yes hx1 (Ml.slP_yes hb2 hb3), hi]) | (rw [Ml.filter_take_no hx1 (Ml.slP_no2 hb3)]; exact hi) | (rw [Ml.filter_take_no hx1 (Ml.slP_no1 hb2)]; exact hi) | (exfalso; omega)), (by first | omega | (simp only [List.length_append, List.length_cons, List.length_nil]; omega) | (exfalso; omega))⟩ (by omega)).sub ⟨rfl, rfl, rfl, rfl, rfl, rfl, trivial⟩
      | false =>
        replace hb2 := of_decide_eq_false hb2.symm
        refine OL.sk rfl rfl ?_
        refine OL.sk rfl rfl ?_
        refine OL.sk rfl rfl ?_
        refine OL.q (Q1.pick_f rfl rfl) rfl rfl ?_
        refine OL.nil ?_
        refine r_cond_f rfl ?_
        refine r_skip ?_
        refine r_inBlock ?_
        refine r_region ?_
        refine OL.q (Q1.addI (((k + 1 : Nat) : Int)) rfl rfl (by omega)) rfl rfl ?_
        refine OL.q (Q1.move rfl) rfl rfl ?_
        refine OL.nil ?_
        exact (ih1 _ _ _ ⟨(v_l : Value), (g_l : Nat), (l : List Str), (k + 1 : Nat), rfl, rfl, hE2, (by omega), f3, (by omega), f4, f5, (by first | (rw [Ml.filter_take_yes hx1 (Ml.slP_yes hb2 hb3), hi]) | (rw [Ml.filter_take_no hx1 (Ml.slP_no2 hb3)]; exact hi) | (rw [Ml.filter_take_no hx1 (Ml.slP_no1 hb2)]; exact hi) | (exfalso; omega)), (by first | omega | (simp only [List.length_append, List.length_cons, List.length_nil]; omega) | (exfalso; omega))⟩ (by omega)).sub ⟨rfl, rfl, rfl, rfl, rfl, rfl, trivial⟩
    | false =>
      replace hb1 := of_decide_eq_false hb1.symm
      refine r_cond_f rfl ?_
      refine r_exit rfl ?_
      refine r_seq ?_
      refine r_region ?_
      refine OL.q (Q1.move rfl) rfl rfl ?_
      refine OL.q (Q1.assign rfl) rfl rfl ?_
      refine OL.nil ?_
      refine r_ret1 Try.func83 rfl rfl ?_
      exact Ret.mk ⟨⟨_, Acc.cast ha1 (by first | rw [hi, Ml.filter_take_all (by omega)]; rfl | (exfalso; omega)), by omega⟩, hE1⟩
set_option maxRecDepth 20000 in
set_option maxHeartbeats 4000000 in
theorem within_c {w0 : World}  (x : Int) (least : Int) (most : Int) (h_x : I64 x) (h_least : I64 least) (h_most : I64 most) :
    Calls Try.prog 81 #[.int .i64 x, .int .i64 least, .int .i64 most] w0 (Ret fun rv w1 => (∃ rb : Bool, rb = (Ml.within x least most) ∧ rv = .bool rb) ∧ Ext w0 w1) := by
  have hE0 : Ext w0 w0 := Mod.refl _ _
  refine calls_enter Try.func81 rfl Try.ntmps81 rfl ?_
  refine r_seq ?_
  refine r_region ?_
  refine OL.q (Q1.assign rfl) rfl rfl ?_
  refine OL.nil ?_
  refine r_seq ?_
  refine r_region ?_
  refine OL.q (Q1.move rfl) rfl rfl ?_
  refine OL.q (Q1.move rfl) rfl rfl ?_
  refine OL.qb (Q1.ge rfl rfl) rfl rfl ?_
  intro b1 hb1
  refine OL.q (Q1.move rfl) rfl rfl ?_
  cases b1 with
  | true =>
    replace hb1 := of_decide_eq_true hb1.symm
    refine OL.q (Q1.move rfl) rfl rfl ?_
    refine OL.q (Q1.move rfl) rfl rfl ?_
    refine OL.qb (Q1.le rfl rfl) rfl rfl ?_
    intro b2 hb2
    refine OL.q (Q1.pick_t rfl rfl) rfl rfl ?_
    refine OL.q (Q1.assign rfl) rfl rfl ?_
    refine OL.nil ?_
    refine r_ret1 Try.func81 rfl rfl ?_
    exact Ret.mk ⟨⟨_, (by first | simp only [Ml.within, *]; simp | (exfalso; omega)), rfl⟩, hE0⟩
  | false =>
    replace hb1 := of_decide_eq_false hb1.symm
    refine OL.sk rfl rfl ?_
    refine OL.sk rfl rfl ?_
    refine OL.sk rfl rfl ?_
    refine OL.q (Q1.pick_f rfl rfl) rfl rfl ?_
    refine OL.q (Q1.assign rfl) rfl rfl ?_
    refine OL.nil ?_
    refine r_ret1 Try.func81 rfl rfl ?_
    exact Ret.mk ⟨⟨_, (by first | simp only [Ml.within, *]; simp | (exfalso; omega)), rfl⟩, hE0⟩
set_option maxRecDepth 20000 in
set_option maxHeartbeats 4000000 in
theorem may_c {w0 : World}  {c : Cfg} {v_c_words : Value} {v_c_cuts : Value} (h_c_words : Sl encS w0 (Iv 0 w0.heap.size) v_c_words c.words) (h_c_cuts : Sl encKey w0 (Iv 0 w0.heap.size) v_c_cuts c.cuts) (h_c : Cfg.Ok c) :
    Calls Try.prog 39 #[.agg #[v_c_words, v_c_cuts, .int .i64 c.workers, .int .i64 c.copies, .int .i64 c.slots, .int .i64 c.batch, .int .i64 c.lease, .int .i64 c.hedge, .int .i64 c.first, .int .i64 c.cap, .int .i64 c.jitter, .int .i64 c.net]] w0 (Ret fun rv w1 => (∃ rb : Bool, rb = (Ml.may c) ∧ rv = .bool rb) ∧ Ext w0 w1) := by
  have hE0 : Ext w0 w0 := Mod.refl _ _
  have hle1 := h_c_words.le
  have hle2 := h_c_cuts.le
  have hc1 := h_c.workers
  have hc2 := h_c.copies
  have hc3 := h_c.slots
  have hc4 := h_c.batch
  have hc5 := h_c.lease
  have hc6 := h_c.hedge
  have hc7 := h_c.first
  have hc8 := h_c.cap
  have hc9 := h_c.jitter
  have hc10 := h_c.net
  refine calls_enter Try.func39 rfl Try.ntmps39 rfl ?_
  refine r_seq ?_
  refine r_region ?_
  refine OL.act rfl rfl (AW.box [v_c_words, v_c_cuts, .int .i64 c.workers, .int .i64 c.copies, .int .i64 c.slots, .int .i64 c.batch, .int .i64 c.lease, .int .i64 c.hedge, .int .i64 c.first, .int .i64 c.cap, .int .i64 c.jitter, .int .i64 c.net] rfl rfl ?_)
  intro w1 b1 hm1 hb1 hz1 hk1
  have f1 := h_c_words.ext hm1
  have f2 := h_c_cuts.ext hm1
  have hE1 := hE0.ext hm1
  have hs1 := hm1.size
  refine OL.q (Q1.assign rfl) rfl rfl ?_
  refine OL.nil ?_
  refine r_seq ?_
  refine r_seq ?_
  refine r_region ?_
  refine OL.q (Q1.fieldAddr fl53_0 rfl) rfl rfl ?_
  refine OL.q (Q1.load1 ti22 rfl (fun _ e => e ▸ (hk1.cell 0 _ rfl))) rfl rfl ?_
  refine OL.act rfl rfl (AW.callF cl61 rfl (lgood_c (w0 := w1) (words := c.words)  ((f1).iv (Nat.zero_le _) (by omega)) (by exact h_c.words)) ?_)
  rintro _ w2 ⟨rfl, hm2⟩
  have f3 := f1.ext hm2
  have f4 := f2.ext hm2
  have f5 := hk1.ext hm2
  have hE2 := hE1.ext hm2
  have hs2 := hm2.size
  have := Ml.goodL_range c.words
  refine OL.qb (Q1.ne rfl rfl) rfl rfl ?_
  intro b2 hb2
  refine OL.q (Q1.move rfl) rfl rfl ?_
  cases b2 with
  | true =>
    replace hb2 := bne_iff_ne.1 hb2.symm
    refine OL.sk rfl rfl ?_
    refine OL.sk rfl rfl ?_
    refine OL.sk rfl rfl ?_
    refine OL.sk rfl rfl ?_
    refine OL.q (Q1.pick_t rfl rfl) rfl rfl ?_
    refine OL.nil ?_
    refine r_cond_t rfl ?_
    refine r_seq ?_
    refine r_region ?_
    refine OL.q (Q1.assign rfl) rfl rfl ?_
    refine OL.nil ?_
    refine r_ret1 Try.func39 rfl rfl ?_
    exact Ret.mk ⟨⟨_, (by first | simp [Ml.may, *] | (exfalso; omega)), rfl⟩, hE2⟩
  | false =>
    replace hb2 := bne_eq_false_iff_eq.1 hb2.symm
    refine OL.q (Q1.fieldAddr fl53_1 rfl) rfl rfl ?_
    refine OL.q (Q1.load1 ti51 rfl (fun _ e => e ▸ (f5.cell 1 _ rfl))) rfl rfl ?_
    refine OL.act rfl rfl (AW.callF cl84 rfl (pgood_c (w0 := w2) (cuts := c.cuts)  ((f4).iv (Nat.zero_le _) (by omega)) (by exact fun k hk => (h_c.cuts k hk).2)) ?_)
    rintro _ w3 ⟨rfl, hm3⟩
    have f6 := f3.ext hm3
    have f7 := f4.ext hm3
    have f8 := f5.ext hm3
    have hE3 := hE2.ext hm3
    have hs3 := hm3.size
    refine OL.qb (Q1.ne rfl rfl) rfl rfl ?_
    intro b3 hb3
    refine OL.q (Q1.pick_f rfl rfl) rfl rfl ?_
    refine OL.nil ?_
    cases b3 with
    | true =>
      replace hb3 := bne_iff_ne.1 hb3.symm
      refine r_cond_t rfl ?_
      refine r_seq ?_
      refine r_region ?_
      refine OL.q (Q1.assign rfl) rfl rfl ?_
      refine OL.nil ?_
      refine r_ret1 Try.func39 rfl rfl ?_
      exact Ret.mk ⟨⟨_, (by first | simp [Ml.may, *] | (exfalso; omega)), rfl⟩, hE3⟩
    | false =>
      replace hb3 := bne_eq_false_iff_eq.1 hb3.symm
      refine r_cond_f rfl ?_
      refine r_skip ?_
      refine r_seq ?_
      refine r_join (J := fun E W => ∃ (q3 : Bool), E = [(1, ptr b1 0), (3, .bool q3)] ∧ Ext w3 W ∧ (q3 = Ml.nodesM c)) ?_ ?_
      · rintro _ w4 ⟨q3, rfl, hm4, hj1⟩
        have f9 := f8.ext hm4
        have f10 := f6.ext hm4
        have f11 := f7.ext hm4
        have hE4 := hE3.ext hm4
        have hs4 := hm4.size
        refine r_seq ?_
        refine r_join (J := fun E W => ∃ (q4 : Bool), E = [(1, ptr b1 0), (3, .bool q3), (4, .bool q4)] ∧ Ext w4 W ∧ (q4 = Ml.sizesM c)) ?_ ?_
        · rintro _ w5 ⟨q4, rfl, hm5, hj2⟩
          have f12 := f9.ext hm5
          have f13 := f10.ext hm5
          have f14 := f11.ext hm5
          have hE5 := hE4.ext hm5
          have hs5 := hm5.size
          refine r_seq ?_
          refine r_join (J := fun E W => ∃ (q5 : Bool), E = [(3, .bool q3), (4, .bool q4), (5, .bool q5)] ∧ Ext w5 W ∧ (q5 = Ml.timesM c)) ?_ ?_
          · rintro _ w6 ⟨q5, rfl, hm6, hj3⟩
            have hE6 := hE5.ext hm6
            have hs6 := hm6.size
            refine r_seq ?_
            refine r_region ?_
            refine OL.q (Q1.move rfl) rfl rfl ?_
            refine OL.q (Q1.move rfl) rfl rfl ?_
            cases q3 with
            | true =>
              replace hj1 := hj1.symm
              refine OL.q (Q1.move rfl) rfl rfl ?_
              refine OL.q (Q1.pick_t rfl rfl) rfl rfl ?_
              refine OL.q (Q1.move rfl) rfl rfl ?_
              cases q4 with
              | true =>
                replace hj2 := hj2.symm
                refine OL.q (Q1.move rfl) rfl rfl ?_
                refine OL.q (Q1.pick_t rfl rfl) rfl rfl ?_
                refine OL.q (Q1.assign rfl) rfl rfl ?_
                refine OL.nil ?_
                refine r_ret1 Try.func39 rfl rfl ?_
                exact Ret.mk ⟨⟨_, (by first | simp [Ml.may, *] | (exfalso; omega)), rfl⟩, hE6⟩
              | false =>
                replace hj2 := hj2.symm
                refine OL.sk rfl rfl ?_
                refine OL.q (Q1.pick_f rfl rfl) rfl rfl ?_
                refine OL.q (Q1.assign rfl) rfl rfl ?_
                refine OL.nil ?_
                refine r_ret1 Try.func39 rfl rfl ?_
                exact Ret.mk ⟨⟨_, (by first | simp [Ml.may, *] | (exfalso; omega)), rfl⟩, hE6⟩
            | false =>
              replace hj1 := hj1.symm
              refine OL.sk rfl rfl ?_
              refine OL.q (Q1.pick_f rfl rfl) rfl rfl ?_
              refine OL.q (Q1.move rfl) rfl rfl ?_
              refine OL.sk rfl rfl ?_
              refine OL.q (Q1.pick_f rfl rfl) rfl rfl ?_
              refine OL.q (Q1.assign rfl) rfl rfl ?_
              refine OL.nil ?_
              refine r_ret1 Try.func39 rfl rfl ?_
              exact Ret.mk ⟨⟨_, (by first | simp [Ml.may, *] | (exfalso; omega)), rfl⟩, hE6⟩
          · intro hJ3
            have hj01 : Ext w5 w5 := Mod.refl _ _
            refine r_region ?_
            refine OL.q (Q1.fieldAddr fl53_6 rfl) rfl rfl ?_
            refine OL.q (Q1.load1 ti3 rfl (fun _ e => e ▸ (f12.cell 6 _ rfl))) rfl rfl ?_
            refine OL.act rfl rfl (AW.callF cl81 rfl (within_c (w0 := w5)  (c.lease) (1) (1000) (by first | omega | assumption) (by first | omega | assumption) (by first | omega | assumption)) ?_)
            rintro _ w7 ⟨⟨b4, hb4, rfl⟩, hm7⟩
            have f15 := f12.ext hm7
            have f16 := f13.ext hm7
            have f17 := f14.ext hm7
            have hE6 := hE5.ext hm7
            have hb5 := hj01.ext hm7
            have hs6 := hm7.size
            refine OL.q (Q1.move rfl) rfl rfl ?_
            cases b4 with
            | true =>
              replace hb4 := hb4.symm
              have := Ml.within_true hb4
              refine OL.q (Q1.fieldAddr fl53_7 rfl) rfl rfl ?_
              refine OL.q (Q1.load1 ti3 rfl (fun _ e => e ▸ (f15.cell 7 _ rfl))) rfl rfl ?_
              refine OL.act rfl rfl (AW.callF cl81 rfl (within_c (w0 := w7)  (c.hedge) (1) (1000) (by first | omega | assumption) (by first | omega | assumption) (by first | omega | assumption)) ?_)
              rintro _ w8 ⟨⟨b5, hb6, rfl⟩, hm8⟩
              have f18 := f15.ext hm8
              have f19 := f16.ext hm8
              have f20 := f17.ext hm8
              have hE7 := hE6.ext hm8
              have hb7 := hb5.ext hm8
              have hs7 := hm8.size
              refine OL.q (Q1.pick_t rfl rfl) rfl rfl ?_
              refine OL.q (Q1.move rfl) rfl rfl ?_
              cases b5 with
              | true =>
                replace hb6 := hb6.symm
                have := Ml.within_true hb6
                refine OL.q (Q1.fieldAddr fl53_8 rfl) rfl rfl ?_
                refine OL.q (Q1.load1 ti3 rfl (fun _ e => e ▸ (f18.cell 8 _ rfl))) rfl rfl ?_
                refine OL.act rfl rfl (AW.callF cl81 rfl (within_c (w0 := w8)  (c.first) (1) (10) (by first | omega | assumption) (by first | omega | assumption) (by first | omega | assumption)) ?_)
                rintro _ w9 ⟨⟨b6, hb8, rfl⟩, hm9⟩
                have f21 := f18.ext hm9
                have f22 := f19.ext hm9
                have f23 := f20.ext hm9
                have hE8 := hE7.ext hm9
                have hb9 := hb7.ext hm9
                have hs8 := hm9.size
                refine OL.q (Q1.pick_t rfl rfl) rfl rfl ?_
                refine OL.q (Q1.move rfl) rfl rfl ?_
                cases b6 with
                | true =>
                  replace hb8 := hb8.symm
                  have := Ml.within_true hb8
                  refine OL.q (Q1.fieldAddr fl53_9 rfl) rfl rfl ?_
                  refine OL.q (Q1.load1 ti3 rfl (fun _ e => e ▸ (f21.cell 9 _ rfl))) rfl rfl ?_
                  refine OL.q (Q1.fieldAddr fl53_8 rfl) rfl rfl ?_
                  refine OL.q (Q1.load1 ti3 rfl (fun _ e => e ▸ (f21.cell 8 _ rfl))) rfl rfl ?_
                  refine OL.act rfl rfl (AW.callF cl81 rfl (within_c (w0 := w9)  (c.cap) (c.first) (50) (by first | omega | assumption) (by first | omega | assumption) (by first | omega | assumption)) ?_)
                  rintro _ w10 ⟨⟨b7, hb10, rfl⟩, hm10⟩
                  have f24 := f21.ext hm10
                  have f25 := f22.ext hm10
                  have f26 := f23.ext hm10
                  have hE9 := hE8.ext hm10
                  have hb11 := hb9.ext hm10
                  have hs9 := hm10.size
                  refine OL.q (Q1.pick_t rfl rfl) rfl rfl ?_
                  refine OL.q (Q1.move rfl) rfl rfl ?_
                  cases b7 with
                  | true =>
                    replace hb10 := hb10.symm
                    have := Ml.within_true hb10
                    refine OL.q (Q1.fieldAddr fl53_10 rfl) rfl rfl ?_
                    refine OL.q (Q1.load1 ti3 rfl (fun _ e => e ▸ (f24.cell 10 _ rfl))) rfl rfl ?_
                    refine OL.act rfl rfl (AW.callF cl81 rfl (within_c (w0 := w10)  (c.jitter) (0) (10) (by first | omega | assumption) (by first | omega | assumption) (by first | omega | assumption)) ?_)
                    rintro _ w11 ⟨⟨b8, hb12, rfl⟩, hm11⟩
                    have f27 := f24.ext hm11
                    have f28 := f25.ext hm11
                    have f29 := f26.ext hm11
                    have hE10 := hE9.ext hm11
                    have hb13 := hb11.ext hm11
                    have hs10 := hm11.size
                    refine OL.q (Q1.pick_t rfl rfl) rfl rfl ?_
                    refine OL.q (Q1.assign rfl) rfl rfl ?_
                    refine OL.nil ?_
                    exact (hJ3 _ _ ⟨b8, rfl, hb13, (by simp only [Ml.timesM]; simp only [*, Bool.and_true, Bool.and_false, Bool.true_and, Bool.false_and])⟩).sub ⟨rfl, rfl, rfl, trivial⟩
                  | false =>
                    replace hb10 := hb10.symm
                    have := Ml.within_false hb10
                    refine OL.sk rfl rfl ?_
                    refine OL.sk rfl rfl ?_
                    refine OL.sk rfl rfl ?_
                    refine OL.q (Q1.pick_f rfl rfl) rfl rfl ?_
                    refine OL.q (Q1.assign rfl) rfl rfl ?_
                    refine OL.nil ?_
                    exact (hJ3 _ _ ⟨false, rfl, hb11, (by simp only [Ml.timesM]; simp only [*, Bool.and_true, Bool.and_false, Bool.true_and, Bool.false_and])⟩).sub ⟨rfl, rfl, rfl, trivial⟩
                | false =>
                  replace hb8 := hb8.symm
                  have := Ml.within_false hb8
                  refine OL.sk rfl rfl ?_
                  refine OL.sk rfl rfl ?_
                  refine OL.sk rfl rfl ?_
                  refine OL.sk rfl rfl ?_
                  refine OL.sk rfl rfl ?_
                  refine OL.q (Q1.pick_f rfl rfl) rfl rfl ?_
                  refine OL.q (Q1.move rfl) rfl rfl ?_
                  refine OL.sk rfl rfl ?_
                  refine OL.sk rfl rfl ?_
                  refine OL.sk rfl rfl ?_
                  refine OL.q (Q1.pick_f rfl rfl) rfl rfl ?_
                  refine OL.q (Q1.assign rfl) rfl rfl ?_
                  refine OL.nil ?_
                  exact (hJ3 _ _ ⟨false, rfl, hb9, (by simp only [Ml.timesM]; simp only [*, Bool.and_true, Bool.and_false, Bool.true_and, Bool.false_and])⟩).sub ⟨rfl, rfl, rfl, trivial⟩
              | false =>
                replace hb6 := hb6.symm
                have := Ml.within_false hb6
                refine OL.sk rfl rfl ?_
                refine OL.sk rfl rfl ?_
                refine OL.sk rfl rfl ?_
                refine OL.q (Q1.pick_f rfl rfl) rfl rfl ?_
                refine OL.q (Q1.move rfl) rfl rfl ?_
                refine OL.sk rfl rfl ?_
                refine OL.sk rfl rfl ?_
                refine OL.sk rfl rfl ?_
                refine OL.sk rfl rfl ?_
                refine OL.sk rfl rfl ?_
                refine OL.q (Q1.pick_f rfl rfl) rfl rfl ?_
                refine OL.q (Q1.move rfl) rfl rfl ?_
                refine OL.sk rfl rfl ?_
                refine OL.sk rfl rfl ?_
                refine OL.sk rfl rfl ?_
                refine OL.q (Q1.pick_f rfl rfl) rfl rfl ?_
                refine OL.q (Q1.assign rfl) rfl rfl ?_
                refine OL.nil ?_
                exact (hJ3 _ _ ⟨false, rfl, hb7, (by simp only [Ml.timesM]; simp only [*, Bool.and_true, Bool.and_false, Bool.true_and, Bool.false_and])⟩).sub ⟨rfl, rfl, rfl, trivial⟩
            | false =>
              replace hb4 := hb4.symm
              have := Ml.within_false hb4
              refine OL.sk rfl rfl ?_
              refine OL.sk rfl rfl ?_
              refine OL.sk rfl rfl ?_
              refine OL.q (Q1.pick_f rfl rfl) rfl rfl ?_
              refine OL.q (Q1.move rfl) rfl rfl ?_
              refine OL.sk rfl rfl ?_
              refine OL.sk rfl rfl ?_
              refine OL.sk rfl rfl ?_
              refine OL.q (Q1.pick_f rfl rfl) rfl rfl ?_
              refine OL.q (Q1.move rfl) rfl rfl ?_
              refine OL.sk rfl rfl ?_
              refine OL.sk rfl rfl ?_
              refine OL.sk rfl rfl ?_
              refine OL.sk rfl rfl ?_
              refine OL.sk rfl rfl ?_
              refine OL.q (Q1.pick_f rfl rfl) rfl rfl ?_
              refine OL.q (Q1.move rfl) rfl rfl ?_
              refine OL.sk rfl rfl ?_
              refine OL.sk rfl rfl ?_
              refine OL.sk rfl rfl ?_
              refine OL.q (Q1.pick_f rfl rfl) rfl rfl ?_
              refine OL.q (Q1.assign rfl) rfl rfl ?_
              refine OL.nil ?_
              exact (hJ3 _ _ ⟨false, rfl, hb5, (by simp only [Ml.timesM]; simp only [*, Bool.and_true, Bool.and_false, Bool.true_and, Bool.false_and])⟩).sub ⟨rfl, rfl, rfl, trivial⟩
        · intro hJ2
          have hj01 : Ext w4 w4 := Mod.refl _ _
          refine r_region ?_
          refine OL.q (Q1.fieldAddr fl53_4 rfl) rfl rfl ?_
          refine OL.q (Q1.load1 ti3 rfl (fun _ e => e ▸ (f9.cell 4 _ rfl))) rfl rfl ?_
          refine OL.act rfl rfl (AW.callF cl81 rfl (within_c (w0 := w4)  (c.slots) (1) (4) (by first | omega | assumption) (by first | omega | assumption) (by first | omega | assumption)) ?_)
          rintro _ w6 ⟨⟨b4, hb4, rfl⟩, hm6⟩
          have f12 := f9.ext hm6
          have f13 := f10.ext hm6
          have f14 := f11.ext hm6
          have hE5 := hE4.ext hm6
          have hb5 := hj01.ext hm6
          have hs5 := hm6.size
          refine OL.q (Q1.move rfl) rfl rfl ?_
          cases b4 with
          | true =>
            replace hb4 := hb4.symm
            have := Ml.within_true hb4
            refine OL.q (Q1.fieldAddr fl53_5 rfl) rfl rfl ?_
            refine OL.q (Q1.load1 ti3 rfl (fun _ e => e ▸ (f12.cell 5 _ rfl))) rfl rfl ?_
            refine OL.act rfl rfl (AW.callF cl81 rfl (within_c (w0 := w6)  (c.batch) (1) (5) (by first | omega | assumption) (by first | omega | assumption) (by first | omega | assumption)) ?_)
            rintro _ w7 ⟨⟨b5, hb6, rfl⟩, hm7⟩
            have f15 := f12.ext hm7
            have f16 := f13.ext hm7
            have f17 := f14.ext hm7
            have hE6 := hE5.ext hm7
            have hb7 := hb5.ext hm7
            have hs6 := hm7.size
            refine OL.q (Q1.pick_t rfl rfl) rfl rfl ?_
            refine OL.q (Q1.move rfl) rfl rfl ?_
            cases b5 with
            | true =>
              replace hb6 := hb6.symm
              have := Ml.within_true hb6
              refine OL.q (Q1.fieldAddr fl53_11 rfl) rfl rfl ?_
              refine OL.q (Q1.load1 ti3 rfl (fun _ e => e ▸ (f15.cell 11 _ rfl))) rfl rfl ?_
              refine OL.act rfl rfl (AW.callF cl81 rfl (within_c (w0 := w7)  (c.net) (8) (64) (by first | omega | assumption) (by first | omega | assumption) (by first | omega | assumption)) ?_)
              rintro _ w8 ⟨⟨b6, hb8, rfl⟩, hm8⟩
              have f18 := f15.ext hm8
              have f19 := f16.ext hm8
              have f20 := f17.ext hm8
              have hE7 := hE6.ext hm8
              have hb9 := hb7.ext hm8
              have hs7 := hm8.size
              refine OL.q (Q1.pick_t rfl rfl) rfl rfl ?_
              refine OL.q (Q1.assign rfl) rfl rfl ?_
              refine OL.nil ?_
              exact (hJ2 _ _ ⟨b6, rfl, hb9, (by simp only [Ml.sizesM]; simp only [*, Bool.and_true, Bool.and_false, Bool.true_and, Bool.false_and])⟩).sub ⟨rfl, rfl, rfl, trivial⟩
            | false =>
              replace hb6 := hb6.symm
              have := Ml.within_false hb6
              refine OL.sk rfl rfl ?_
              refine OL.sk rfl rfl ?_
              refine OL.sk rfl rfl ?_
              refine OL.q (Q1.pick_f rfl rfl) rfl rfl ?_
              refine OL.q (Q1.assign rfl) rfl rfl ?_
              refine OL.nil ?_
              exact (hJ2 _ _ ⟨false, rfl, hb7, (by simp only [Ml.sizesM]; simp only [*, Bool.and_true, Bool.and_false, Bool.true_and, Bool.false_and])⟩).sub ⟨rfl, rfl, rfl, trivial⟩
          | false =>
            replace hb4 := hb4.symm
            have := Ml.within_false hb4
            refine OL.sk rfl rfl ?_
            refine OL.sk rfl rfl ?_
            refine OL.sk rfl rfl ?_
            refine OL.q (Q1.pick_f rfl rfl) rfl rfl ?_
            refine OL.q (Q1.move rfl) rfl rfl ?_
            refine OL.sk rfl rfl ?_
            refine OL.sk rfl rfl ?_
            refine OL.sk rfl rfl ?_
            refine OL.q (Q1.pick_f rfl rfl) rfl rfl ?_
            refine OL.q (Q1.assign rfl) rfl rfl ?_
            refine OL.nil ?_
            exact (hJ2 _ _ ⟨false, rfl, hb5, (by simp only [Ml.sizesM]; simp only [*, Bool.and_true, Bool.and_false, Bool.true_and, Bool.false_and])⟩).sub ⟨rfl, rfl, rfl, trivial⟩
      · intro hJ1
        have hj01 : Ext w3 w3 := Mod.refl _ _
        refine r_region ?_
        refine OL.q (Q1.fieldAddr fl53_2 rfl) rfl rfl ?_
        refine OL.q (Q1.load1 ti3 rfl (fun _ e => e ▸ (f8.cell 2 _ rfl))) rfl rfl ?_
        refine OL.act rfl rfl (AW.callF cl81 rfl (within_c (w0 := w3)  (c.workers) (1) (5) (by first | omega | assumption) (by first | omega | assumption) (by first | omega | assumption)) ?_)
        rintro _ w5 ⟨⟨b4, hb4, rfl⟩, hm5⟩
        have f9 := f6.ext hm5
        have f10 := f7.ext hm5
        have f11 := f8.ext hm5
        have hE4 := hE3.ext hm5
        have hb5 := hj01.ext hm5
        have hs4 := hm5.size
        refine OL.q (Q1.move rfl) rfl rfl ?_
        cases b4 with
        | true =>
          replace hb4 := hb4.symm
          have := Ml.within_true hb4
          refine OL.q (Q1.fieldAddr fl53_3 rfl) rfl rfl ?_
          refine OL.q (Q1.load1 ti3 rfl (fun _ e => e ▸ (f11.cell 3 _ rfl))) rfl rfl ?_
          refine OL.q (Q1.fieldAddr fl53_2 rfl) rfl rfl ?_
          refine OL.q (Q1.load1 ti3 rfl (fun _ e => e ▸ (f11.cell 2 _ rfl))) rfl rfl ?_
          refine OL.q (Q1.min rfl rfl) rfl rfl ?_
          refine OL.act rfl rfl (AW.callF cl81 rfl (within_c (w0 := w5)  (c.copies) (1) ((min 3 c.workers)) (by first | omega | assumption) (by first | omega | assumption) (by first | omega | assumption)) ?_)
          rintro _ w6 ⟨⟨b5, hb6, rfl⟩, hm6⟩
          have f12 := f9.ext hm6
          have f13 := f10.ext hm6
          have f14 := f11.ext hm6
          have hE5 := hE4.ext hm6
          have hb7 := hb5.ext hm6
          have hs5 := hm6.size
          refine OL.q (Q1.pick_t rfl rfl) rfl rfl ?_
          refine OL.q (Q1.assign rfl) rfl rfl ?_
          refine OL.nil ?_
          exact (hJ1 _ _ ⟨b5, rfl, hb7, (by simp only [Ml.nodesM]; simp only [*, Bool.and_true, Bool.and_false, Bool.true_and, Bool.false_and])⟩).sub ⟨rfl, rfl, trivial⟩
        | false =>
          replace hb4 := hb4.symm
          have := Ml.within_false hb4
          refine OL.sk rfl rfl ?_
          refine OL.sk rfl rfl ?_
          refine OL.sk rfl rfl ?_
          refine OL.sk rfl rfl ?_
          refine OL.sk rfl rfl ?_
          refine OL.sk rfl rfl ?_
          refine OL.q (Q1.pick_f rfl rfl) rfl rfl ?_
          refine OL.q (Q1.assign rfl) rfl rfl ?_
          refine OL.nil ?_
          exact (hJ1 _ _ ⟨false, rfl, hb5, (by simp only [Ml.nodesM]; simp only [*, Bool.and_true, Bool.and_false, Bool.true_and, Bool.false_and])⟩).sub ⟨rfl, rfl, trivial⟩
set_option maxRecDepth 20000 in
set_option maxHeartbeats 4000000 in
theorem shards_c {w0 : World}  {c : Cfg} {v_c_words : Value} {v_c_cuts : Value} (h_c_words : Sl encS w0 (Iv 0 w0.heap.size) v_c_words c.words) (h_c_cuts : Sl encKey w0 (Iv 0 w0.heap.size) v_c_cuts c.cuts) (h_c : Cfg.Ok c) :
    Calls Try.prog 41 #[.agg #[v_c_words, v_c_cuts, .int .i64 c.workers, .int .i64 c.copies, .int .i64 c.slots, .int .i64 c.batch, .int .i64 c.lease, .int .i64 c.hedge, .int .i64 c.first, .int .i64 c.cap, .int .i64 c.jitter, .int .i64 c.net]] w0 (Ret fun rv w1 => rv = .int .i64 (((Ml.shards c : Nat) : Int)) ∧ Ext w0 w1) := by
  have hE0 : Ext w0 w0 := Mod.refl _ _
  have hle1 := h_c_words.le
  have hle2 := h_c_cuts.le
  refine calls_enter Try.func41 rfl Try.ntmps41 rfl ?_
  refine r_seq ?_
  refine r_region ?_
  refine OL.act rfl rfl (AW.box [v_c_words, v_c_cuts, .int .i64 c.workers, .int .i64 c.copies, .int .i64 c.slots, .int .i64 c.batch, .int .i64 c.lease, .int .i64 c.hedge, .int .i64 c.first, .int .i64 c.cap, .int .i64 c.jitter, .int .i64 c.net] rfl rfl ?_)
  intro w1 b1 hm1 hb1 hz1 hk1
  have f1 := h_c_words.ext hm1
  have f2 := h_c_cuts.ext hm1
  have hE1 := hE0.ext hm1
  have hs1 := hm1.size
  refine OL.q (Q1.assign rfl) rfl rfl ?_
  refine OL.nil ?_
  refine r_seq ?_
  refine r_seq ?_
  refine r_region ?_
  refine OL.q (Q1.loadN ti53 rfl (fun _ e => e ▸ hk1.row) rfl) rfl rfl ?_
  refine OL.act rfl rfl (AW.callF cl39 rfl (may_c (w0 := w1) (c := c)  ((f1).iv (Nat.zero_le _) (by omega)) ((f2).iv (Nat.zero_le _) (by omega)) (by first | assumption | exact Ml.Cfg.ok_of (by decide +kernel))) ?_)
  rintro _ w2 ⟨⟨b2, hb2, rfl⟩, hm2⟩
  have f3 := f1.ext hm2
  have f4 := f2.ext hm2
  have f5 := hk1.ext hm2
  have hE2 := hE1.ext hm2
  have hs2 := hm2.size
  cases b2 with
  | true =>
    replace hb2 := hb2.symm
    have := Ml.may_bounds hb2
    refine OL.q (Q1.not rfl) rfl rfl ?_
    refine OL.nil ?_
    refine r_cond_f rfl ?_
    refine r_skip ?_
    refine r_seq ?_
    refine r_region ?_
    refine OL.q (Q1.fieldAddr fl53_1 rfl) rfl rfl ?_
    refine OL.q (Q1.load1 ti51 rfl (fun _ e => e ▸ (f5.cell 1 _ rfl))) rfl rfl ?_
    refine OL.q (Q1.lenSl Try.underlying51 (f4) rfl) rfl rfl ?_
    refine OL.q (Q1.addI (((c.cuts.length + 1 : Nat) : Int)) rfl rfl (by omega)) rfl rfl ?_
    refine OL.q (Q1.assign rfl) rfl rfl ?_
    refine OL.nil ?_
    refine r_ret1 Try.func41 rfl rfl ?_
    exact Ret.mk ⟨(congrArg (Value.int .i64) (by first | simp only [Ml.shards, *]; rfl | (exfalso; omega))), hE2⟩
  | false =>
    replace hb2 := hb2.symm
    refine OL.q (Q1.not rfl) rfl rfl ?_
    refine OL.nil ?_
    refine r_cond_t rfl ?_
    refine r_seq ?_
    refine r_region ?_
    refine OL.q (Q1.assign rfl) rfl rfl ?_
    refine OL.nil ?_
    refine r_ret1 Try.func41 rfl rfl ?_
    exact Ret.mk ⟨(congrArg (Value.int .i64) (by first | simp only [Ml.shards, *]; rfl | (exfalso; omega))), hE2⟩
set_option maxRecDepth 20000 in
set_option maxHeartbeats 4000000 in
theorem copies_c {w0 : World}  {c : Cfg} {v_c_words : Value} {v_c_cuts : Value} (shard : Int) (h_c_words : Sl encS w0 (Iv 0 w0.heap.size) v_c_words c.words) (h_c_cuts : Sl encKey w0 (Iv 0 w0.heap.size) v_c_cuts c.cuts) (h_c : Cfg.Ok c) (h_shard : I64 shard) :
    Calls Try.prog 34 #[.agg #[v_c_words, v_c_cuts, .int .i64 c.workers, .int .i64 c.copies, .int .i64 c.slots, .int .i64 c.batch, .int .i64 c.lease, .int .i64 c.hedge, .int .i64 c.first, .int .i64 c.cap, .int .i64 c.jitter, .int .i64 c.net], .int .i64 shard] w0 (Ret fun rv w1 => (∃ gr, Acc Ik.encI 3 1 w1 gr rv (Ml.copiesM c shard) ∧ (gr = 0 ∨ w0.heap.size < gr)) ∧ Ext w0 w1) := by
  have hE0 : Ext w0 w0 := Mod.refl _ _
  have hle1 := h_c_words.le
  have hle2 := h_c_cuts.le
  have hc1 := h_c.workers
  have hc2 := h_c.copies
  have hc3 := h_c.slots
  have hc4 := h_c.batch
  have hc5 := h_c.lease
  have hc6 := h_c.hedge
  have hc7 := h_c.first
  have hc8 := h_c.cap
  have hc9 := h_c.jitter
  have hc10 := h_c.net
  refine calls_enter Try.func34 rfl Try.ntmps34 rfl ?_
  refine r_seq ?_
  refine r_region ?_
  refine OL.act rfl rfl (AW.box [v_c_words, v_c_cuts, .int .i64 c.workers, .int .i64 c.copies, .int .i64 c.slots, .int .i64 c.batch, .int .i64 c.lease, .int .i64 c.hedge, .int .i64 c.first, .int .i64 c.cap, .int .i64 c.jitter, .int .i64 c.net] rfl rfl ?_)
  intro w1 b1 hm1 hb1 hz1 hk1
  have f1 := h_c_words.ext hm1
  have f2 := h_c_cuts.ext hm1
  have hE1 := hE0.ext hm1
  have hs1 := hm1.size
  refine OL.q (Q1.assign rfl) rfl rfl ?_
  refine OL.nil ?_
  refine r_seq ?_
  refine r_seq ?_
  refine r_region ?_
  refine OL.q (Q1.move rfl) rfl rfl ?_
  refine OL.q (Q1.loadN ti53 rfl (fun _ e => e ▸ hk1.row) rfl) rfl rfl ?_
  refine OL.act rfl rfl (AW.callF cl41 rfl (shards_c (w0 := w1) (c := c)  ((f1).iv (Nat.zero_le _) (by omega)) ((f2).iv (Nat.zero_le _) (by omega)) (by first | assumption | exact Ml.Cfg.ok_of (by decide +kernel))) ?_)
  rintro _ w2 ⟨rfl, hm2⟩
  have f3 := f1.ext hm2
  have f4 := f2.ext hm2
  have f5 := hk1.ext hm2
  have hE2 := hE1.ext hm2
  have hs2 := hm2.size
  have := Ml.shards_le c
  refine OL.q (Q1.subI (((((Ml.shards c : Nat) : Int)) - 1)) rfl rfl (by omega)) rfl rfl ?_
  refine OL.act rfl rfl (AW.callF cl81 rfl (within_c (w0 := w2)  (shard) (0) (((((Ml.shards c : Nat) : Int)) - 1)) (by first | omega | assumption) (by first | omega | assumption) (by first | omega | assumption)) ?_)
  rintro _ w3 ⟨⟨b2, hb2, rfl⟩, hm3⟩
  have f6 := f3.ext hm3
  have f7 := f4.ext hm3
  have f8 := f5.ext hm3
  have hE3 := hE2.ext hm3
  have hs3 := hm3.size
  cases b2 with
  | true =>
    replace hb2 := hb2.symm
    have := Ml.within_true hb2
    refine OL.q (Q1.not rfl) rfl rfl ?_
    refine OL.nil ?_
    refine r_cond_f rfl ?_
    refine r_skip ?_
    refine r_seq ?_
    refine r_region ?_
    refine OL.q (Q1.assign rfl) rfl rfl ?_
    refine OL.nil ?_
    refine r_seq ?_
    refine r_seq ?_
    refine r_region ?_
    refine OL.q (Q1.fieldAddr fl53_3 rfl) rfl rfl ?_
    refine OL.q (Q1.load1 ti3 rfl (fun _ e => e ▸ (f8.cell 3 _ rfl))) rfl rfl ?_
    refine OL.q (Q1.move rfl) rfl rfl ?_
    refine OL.nil ?_
    refine r_block ?_
    refine r_loop (I := fun m E W => ∃ (v_l : Value) (g_l : Nat) (l : List Int) (j : Nat), E = [(1, .int .i64 shard), (2, ptr b1 0), (5, v_l), (14, .int .i64 c.copies), (15, .int .i64 (((j : Nat) : Int)))] ∧ m = c.copies.toNat - j ∧ Ext w0 W ∧ w3.heap.size ≤ W.heap.size ∧ Acc Ik.encI 3 1 W g_l v_l l ∧ (g_l = 0 ∨ w0.heap.size < g_l) ∧ Bk W b1 [v_c_words, v_c_cuts, .int .i64 c.workers, .int .i64 c.copies, .int .i64 c.slots, .int .i64 c.batch, .int .i64 c.lease, .int .i64 c.hedge, .int .i64 c.first, .int .i64 c.cap, .int .i64 c.jitter, .int .i64 c.net] 53 ∧ Sl encS W (Iv 0 w0.heap.size) v_c_words c.words ∧ Sl encKey W (Iv 0 w0.heap.size) v_c_cuts c.cuts ∧ b1 + 1 ≠ g_l ∧ (l = (List.range j).map (fun j : Nat => 1 + (shard + (j : Int)) % c.workers)) ∧ (l.length = j) ∧ (j ≤ c.copies.toNat)) ?_ ?_
    · refine ⟨_, _, ⟨(.slice none 0 0 : Value), (0 : Nat), ([] : List Int), (0 : Nat), rfl, rfl, hE3, Nat.le_refl _, Acc.nil, (by omega), f8, f6, f7, (by omega), (by rfl), (by rfl), (by exact Nat.zero_le _)⟩, ⟨rfl, rfl, rfl, rfl, rfl, trivial⟩⟩
    · rintro _ _ w4 ⟨v_l, g_l, l, j, rfl, rfl, hE4, hs4, ha1, hg1, f9, f10, f11, hn1, hi, hl, hj⟩ ih1
      have hmy := Ml.may_bounds (Ml.may_of_shards (c := c) (by omega))
      refine r_seq ?_
      refine r_region ?_
      refine OL.qb (Q1.lt rfl rfl) rfl rfl ?_
      intro b3 hb3
      refine OL.nil ?_
      refine r_seq ?_
      cases b3 with
      | true =>
        replace hb3 := of_decide_eq_true hb3.symm
        refine r_cond_t rfl ?_
        refine r_skip ?_
        refine r_seq ?_
        refine r_block ?_
        refine r_seq ?_
        refine r_region ?_
        refine OL.q (Q1.move rfl) rfl rfl ?_
        refine OL.q (Q1.assign rfl) rfl rfl ?_
        refine OL.nil ?_
        refine r_region ?_
        refine OL.q (Q1.move rfl) rfl rfl ?_
        refine OL.q (Q1.move rfl) rfl rfl ?_
        refine OL.q (Q1.move rfl) rfl rfl ?_
        refine OL.q (Q1.addI ((shard + (((j : Nat) : Int)))) rfl rfl (by omega)) rfl rfl ?_
        refine OL.q (Q1.fieldAddr fl53_2 rfl) rfl rfl ?_
        refine OL.q (Q1.load1 ti3 rfl (fun _ e => e ▸ (f9.cell 2 _ rfl))) rfl rfl ?_
        have := Int.emod_nonneg ((shard + (((j : Nat) : Int))) : Int) (by omega : (c.workers : Int) ≠ 0)
        have := Int.emod_lt_of_pos ((shard + (((j : Nat) : Int))) : Int) (by omega : (0 : Int) < c.workers)
        refine OL.q (Q1.remI (((shard + (((j : Nat) : Int))) % c.workers)) rfl rfl ⟨by omega, by omega, rfl⟩) rfl rfl ?_
        refine OL.q (Q1.addI ((1 + (((shard + (((j : Nat) : Int))) % c.workers)))) rfl rfl (by omega)) rfl rfl ?_
        refine OL.act rfl rfl (AW.buildSlice [(.int .i64 ((1 + (((shard + (((j : Nat) : Int))) % c.workers)))) : Value)] Try.underlying55 ti3 rfl rfl rfl (by decide) ?_)
        intro w5 b4 hm4 hb4 hz2 hk2
        have hl1 := ha1.lt
        have f12 := ha1.ext hm4
        have f13 := f9.ext hm4
        have f14 := f10.ext hm4
        have f15 := f11.ext hm4
        have hE5 := hE4.ext hm4
        have hs5 := hm4.size
        have hl2 := Sl.of_blk (enc := Ik.encI) hk2 ([(1 + (((shard + (((j : Nat) : Int))) % c.workers)))] : List Int) 1 rfl rfl (by unfold maxLen; omega)
        have hl3 := f12.lt
        refine OL.act rfl rfl (AW.append f12 Try.underlying55 ti3 rfl Ik.encI_len Ik.encI_one rfl rfl (hl2) (by first | omega | (simp only [List.length_append, List.length_cons, List.length_nil]; omega) | (simp; omega)) (by unfold maxLen; first | omega | (simp only [List.length_append, List.length_cons, List.length_nil]; omega) | (simp; omega)) ?_)
        intro v1 g1 w6 ha2 hm5 hg2 hz3
        have hl4 := f12.lt
        have f16 := f13.keepG hm5 (by omega)
        have f17 := f14.keepG hm5 (by omega)
        have f18 := f15.keepG hm5 (by omega)
        have f19 := hl2.keepG hm5 (by omega)
        have hE6 := Ext.thenG hE5 hm5 (by omega)
        have hs6 := hm5.size
        refine OL.q (Q1.assign rfl) rfl rfl ?_
        refine OL.nil ?_
        refine r_inBlock ?_
        refine r_region ?_
        refine OL.q (Q1.addI (((j + 1 : Nat) : Int)) rfl rfl (by omega)) rfl rfl ?_
        refine OL.q (Q1.move rfl) rfl rfl ?_
        refine OL.nil ?_
        exact (ih1 _ _ _ ⟨(v1 : Value), (g1 : Nat), ((l ++ [(1 + (((shard + (((j : Nat) : Int))) % c.workers)))]) : List Int), (j + 1 : Nat), rfl, rfl, hE6, (by omega), ha2, (by omega), f16, f17, f18, (by omega), (by first | rw [hi, List.range_succ, List.map_append]; rfl | (exfalso; omega)), (by first | omega | (simp only [List.length_append, List.length_cons, List.length_nil]; omega) | (exfalso; omega)), (by first | omega | (exfalso; omega))⟩ (by omega)).sub ⟨rfl, rfl, rfl, rfl, rfl, trivial⟩
      | false =>
        replace hb3 := of_decide_eq_false hb3.symm
        refine r_cond_f rfl ?_
        refine r_exit rfl ?_
        refine r_seq ?_
        refine r_region ?_
        refine OL.q (Q1.move rfl) rfl rfl ?_
        refine OL.q (Q1.assign rfl) rfl rfl ?_
        refine OL.nil ?_
        refine r_ret1 Try.func34 rfl rfl ?_
        exact Ret.mk ⟨⟨_, Acc.cast ha1 (by first | exact Ml.copies_yes hb2 hi (by omega) | exact Ml.copies_no hb2 | (exfalso; omega)), by omega⟩, hE4⟩
  | false =>
    replace hb2 := hb2.symm
    have := Ml.within_false hb2
    refine OL.q (Q1.not rfl) rfl rfl ?_
    refine OL.nil ?_
    refine r_cond_t rfl ?_
    refine r_seq ?_
    refine r_region ?_
    refine OL.q (Q1.assign rfl) rfl rfl ?_
    refine OL.nil ?_
    refine r_ret1 Try.func34 rfl rfl ?_
    exact Ret.mk ⟨⟨0, Acc.cast Acc.nil (by first | exact Ml.copies_yes hb2 hi (by omega) | exact Ml.copies_no hb2 | (exfalso; omega)), .inl rfl⟩, hE3⟩
set_option maxRecDepth 20000 in
set_option maxHeartbeats 4000000 in
theorem sindex_c {w0 : World}  {v_s : Value} {s : List Int} (v : Int) (h_s : Sl Ik.encI w0 (Iv 0 w0.heap.size) v_s s) :
    Calls Try.prog 109 #[v_s, .int .i64 v] w0 (Ret fun rv w1 => rv = .int .i64 (Ml.indexI s v) ∧ Ext w0 w1) := by
  have hE0 : Ext w0 w0 := Mod.refl _ _
  have hle1 := h_s.le
  refine calls_enter Try.func109 rfl Try.ntmps109 rfl ?_
  refine r_seq ?_
  refine r_region ?_
  refine OL.q (Q1.assign rfl) rfl rfl ?_
  refine OL.nil ?_
  refine r_seq ?_
  refine r_seq ?_
  refine r_region ?_
  refine OL.q (Q1.move rfl) rfl rfl ?_
  refine OL.q (Q1.lenSl Try.underlying55 (h_s) rfl) rfl rfl ?_
  refine OL.q (Q1.move rfl) rfl rfl ?_
  refine OL.nil ?_
  refine r_block ?_
  refine r_loop (I := fun m E W => ∃ (k : Nat), E = [(0, v_s), (1, .int .i64 v), (7, .int .i64 (((s.length : Nat) : Int))), (8, .int .i64 (((k : Nat) : Int)))] ∧ m = s.length - k ∧ Ext w0 W ∧ w0.heap.size ≤ W.heap.size ∧ Sl Ik.encI W (Iv 0 w0.heap.size) v_s s ∧ (Ml.IndexInv s v k)) ?_ ?_
  · refine ⟨_, _, ⟨(0 : Nat), rfl, rfl, hE0, Nat.le_refl _, h_s, (by exact Ml.IndexInv.start s v)⟩, ⟨rfl, rfl, rfl, rfl, trivial⟩⟩
  · rintro _ _ w1 ⟨k, rfl, rfl, hE1, hs1, f1, hi⟩ ih1
    refine r_seq ?_
    refine r_region ?_
    refine OL.qb (Q1.lt rfl rfl) rfl rfl ?_
    intro b1 hb1
    refine OL.nil ?_
    refine r_seq ?_
    cases b1 with
    | true =>
      replace hb1 := of_decide_eq_true hb1.symm
      refine r_cond_t rfl ?_
      refine r_skip ?_
      refine r_seq ?_
      refine r_block ?_
      refine r_seq ?_
      refine r_region ?_
      refine OL.q (Q1.move rfl) rfl rfl ?_
      refine OL.q (Q1.assign rfl) rfl rfl ?_
      refine OL.nil ?_
      refine r_seq ?_
      refine r_region ?_
      refine OL.q (Q1.move rfl) rfl rfl ?_
      refine OL.q (Q1.move rfl) rfl rfl ?_
      refine OL.q (Q1.move rfl) rfl rfl ?_
      obtain ⟨x1, b2, o1, hx1, hr1, hl1, hu1, hw1⟩ := Sl.at' (P := Try.prog) f1 Try.underlying55 ti3 Ik.encI_len (k := .i64) (n := ((k : Nat) : Int)) (k) (by omega) (by first | assumption | omega)
      refine OL.q (Q1.indexAddr rfl rfl hr1) rfl rfl ?_
      refine OL.q (Q1.load1 ti3 rfl (fun _ e => e ▸ hw1)) rfl rfl ?_
      refine OL.qb (Q1.eq rfl rfl) rfl rfl ?_
      intro b3 hb2
      refine OL.nil ?_
      cases b3 with
      | true =>
        replace hb2 := eq_of_beq hb2.symm
        refine r_cond_t rfl ?_
        refine r_seq ?_
        refine r_region ?_
        refine OL.q (Q1.move rfl) rfl rfl ?_
        refine OL.q (Q1.assign rfl) rfl rfl ?_
        refine OL.nil ?_
        refine r_ret1 Try.func109 rfl rfl ?_
        exact Ret.mk ⟨(congrArg (Value.int .i64) (by first | exact hi.found hx1 hb2 | exact hi.fin (by omega) | (exfalso; omega))), hE1⟩
      | false =>
        replace hb2 := ne_of_beq_false hb2.symm
        refine r_cond_f rfl ?_
        refine r_skip ?_
        refine r_inBlock ?_
        refine r_region ?_
        refine OL.q (Q1.addI (((k + 1 : Nat) : Int)) rfl rfl (by omega)) rfl rfl ?_
        refine OL.q (Q1.move rfl) rfl rfl ?_
        refine OL.nil ?_
        exact (ih1 _ _ _ ⟨(k + 1 : Nat), rfl, rfl, hE1, (by omega), f1, (by first | exact hi.next hx1 hb2 | (exfalso; omega))⟩ (by omega)).sub ⟨rfl, rfl, rfl, rfl, trivial⟩
    | false =>
      replace hb1 := of_decide_eq_false hb1.symm
      refine r_cond_f rfl ?_
      refine r_exit rfl ?_
      refine r_seq ?_
      refine r_region ?_
      refine OL.q (Q1.assign rfl) rfl rfl ?_
      refine OL.nil ?_
      refine r_ret1 Try.func109 rfl rfl ?_
      exact Ret.mk ⟨(congrArg (Value.int .i64) (by first | exact hi.found hx1 hb2 | exact hi.fin (by omega) | (exfalso; omega))), hE1⟩
set_option maxRecDepth 20000 in
set_option maxHeartbeats 4000000 in
theorem scontains_c {w0 : World}  {v_s : Value} {s : List Int} (v : Int) (h_s : Sl Ik.encI w0 (Iv 0 w0.heap.size) v_s s) :
    Calls Try.prog 82 #[v_s, .int .i64 v] w0 (Ret fun rv w1 => (∃ rb : Bool, rb = (s.contains v) ∧ rv = .bool rb) ∧ Ext w0 w1) := by
  have hE0 : Ext w0 w0 := Mod.refl _ _
  have hle1 := h_s.le
  refine calls_enter Try.func82 rfl Try.ntmps82 rfl ?_
  refine r_seq ?_
  refine r_region ?_
  refine OL.q (Q1.assign rfl) rfl rfl ?_
  refine OL.nil ?_
  refine r_seq ?_
  refine r_region ?_
  refine OL.q (Q1.move rfl) rfl rfl ?_
  refine OL.q (Q1.move rfl) rfl rfl ?_
  refine OL.act rfl rfl (AW.callF cl109 rfl (sindex_c (w0 := w0) (s := s) (v) ((h_s).iv (Nat.zero_le _) (by omega))) ?_)
  rintro _ w1 ⟨rfl, hm1⟩
  have f1 := h_s.ext hm1
  have hE1 := hE0.ext hm1
  have hs1 := hm1.size
  refine OL.qb (Q1.ge rfl rfl) rfl rfl ?_
  intro b1 hb1
  refine OL.q (Q1.assign rfl) rfl rfl ?_
  refine OL.nil ?_
  refine r_ret1 Try.func82 rfl rfl ?_
  exact Ret.mk ⟨⟨_, (by first | rw [Ml.contains_index]; assumption | (exfalso; omega)), rfl⟩, hE1⟩
set_option maxRecDepth 20000 in
set_option maxHeartbeats 4000000 in
theorem keeps_c {w0 : World}  {c : Cfg} {v_c_words : Value} {v_c_cuts : Value} (worker : Int) (h_c_words : Sl encS w0 (Iv 0 w0.heap.size) v_c_words c.words) (h_c_cuts : Sl encKey w0 (Iv 0 w0.heap.size) v_c_cuts c.cuts) (h_c : Cfg.Ok c) (h_worker : I64 worker) :
    Calls Try.prog 35 #[.agg #[v_c_words, v_c_cuts, .int .i64 c.workers, .int .i64 c.copies, .int .i64 c.slots, .int .i64 c.batch, .int .i64 c.lease, .int .i64 c.hedge, .int .i64 c.first, .int .i64 c.cap, .int .i64 c.jitter, .int .i64 c.net], .int .i64 worker] w0 (Ret fun rv w1 => (∃ gr, Acc Ik.encI 3 1 w1 gr rv (Ml.keepsM c worker) ∧ (gr = 0 ∨ w0.heap.size < gr)) ∧ Ext w0 w1) := by
  have hE0 : Ext w0 w0 := Mod.refl _ _
  have hle1 := h_c_words.le
  have hle2 := h_c_cuts.le
  have hc1 := h_c.workers
  have hc2 := h_c.copies
  have hc3 := h_c.slots
  have hc4 := h_c.batch
  have hc5 := h_c.lease
  have hc6 := h_c.hedge
  have hc7 := h_c.first
  have hc8 := h_c.cap
  have hc9 := h_c.jitter
  have hc10 := h_c.net
  refine calls_enter Try.func35 rfl Try.ntmps35 rfl ?_
  refine r_seq ?_
  refine r_region ?_
  refine OL.act rfl rfl (AW.box [v_c_words, v_c_cuts, .int .i64 c.workers, .int .i64 c.copies, .int .i64 c.slots, .int .i64 c.batch, .int .i64 c.lease, .int .i64 c.hedge, .int .i64 c.first, .int .i64 c.cap, .int .i64 c.jitter, .int .i64 c.net] rfl rfl ?_)
  intro w1 b1 hm1 hb1 hz1 hk1
  have f1 := h_c_words.ext hm1
  have f2 := h_c_cuts.ext hm1
  have hE1 := hE0.ext hm1
  have hs1 := hm1.size
  refine OL.q (Q1.assign rfl) rfl rfl ?_
  refine OL.nil ?_
  refine r_seq ?_
  refine r_region ?_
  refine OL.q (Q1.assign rfl) rfl rfl ?_
  refine OL.nil ?_
  refine r_seq ?_
  refine r_seq ?_
  refine r_region ?_
  refine OL.q (Q1.loadN ti53 rfl (fun _ e => e ▸ hk1.row) rfl) rfl rfl ?_
  refine OL.act rfl rfl (AW.callF cl41 rfl (shards_c (w0 := w1) (c := c)  ((f1).iv (Nat.zero_le _) (by omega)) ((f2).iv (Nat.zero_le _) (by omega)) (by first | assumption | exact Ml.Cfg.ok_of (by decide +kernel))) ?_)
  rintro _ w2 ⟨rfl, hm2⟩
  have f3 := f1.ext hm2
  have f4 := f2.ext hm2
  have f5 := hk1.ext hm2
  have hE2 := hE1.ext hm2
  have hs2 := hm2.size
  have := Ml.shards_le c
  refine OL.q (Q1.move rfl) rfl rfl ?_
  refine OL.nil ?_
  refine r_block ?_
  refine r_loop (I := fun m E W => ∃ (v_l : Value) (g_l : Nat) (l : List Int) (k : Nat), E = [(1, .int .i64 worker), (2, ptr b1 0), (5, v_l), (8, .int .i64 ((((Ml.shards c : Nat) : Int)))), (9, .int .i64 (((k : Nat) : Int)))] ∧ m = Ml.shards c - k ∧ Ext w0 W ∧ w2.heap.size ≤ W.heap.size ∧ Acc Ik.encI 3 1 W g_l v_l l ∧ (g_l = 0 ∨ w0.heap.size < g_l) ∧ Bk W b1 [v_c_words, v_c_cuts, .int .i64 c.workers, .int .i64 c.copies, .int .i64 c.slots, .int .i64 c.batch, .int .i64 c.lease, .int .i64 c.hedge, .int .i64 c.first, .int .i64 c.cap, .int .i64 c.jitter, .int .i64 c.net] 53 ∧ Sl encS W (Iv 0 w0.heap.size) v_c_words c.words ∧ Sl encKey W (Iv 0 w0.heap.size) v_c_cuts c.cuts ∧ b1 + 1 ≠ g_l ∧ (l = ((List.range k).filter (fun s : Nat => (Ml.copiesM c (s : Int)).contains worker)).map (fun s : Nat => (s : Int))) ∧ (l.length ≤ k) ∧ (k ≤ Ml.shards c)) ?_ ?_
  · refine ⟨_, _, ⟨(.slice none 0 0 : Value), (0 : Nat), ([] : List Int), (0 : Nat), rfl, rfl, hE2, Nat.le_refl _, Acc.nil, (by omega), f5, f3, f4, (by omega), (by rfl), (by exact Nat.zero_le _), (by exact Nat.zero_le _)⟩, ⟨rfl, rfl, rfl, rfl, rfl, trivial⟩⟩
  · rintro _ _ w3 ⟨v_l, g_l, l, k, rfl, rfl, hE3, hs3, ha1, hg1, f6, f7, f8, hn1, hi, hl, hk⟩ ih1
    have hsh := Ml.shards_le c
    refine r_seq ?_
    refine r_region ?_
    refine OL.qb (Q1.lt rfl rfl) rfl rfl ?_
    intro b2 hb2
    refine OL.nil ?_
    refine r_seq ?_
    cases b2 with
    | true =>
      replace hb2 := of_decide_eq_true hb2.symm
      refine r_cond_t rfl ?_
      refine r_skip ?_
      refine r_seq ?_
      refine r_block ?_
      refine r_seq ?_
      refine r_region ?_
      refine OL.q (Q1.move rfl) rfl rfl ?_
      refine OL.q (Q1.assign rfl) rfl rfl ?_
      refine OL.nil ?_
      refine r_seq ?_
      refine r_region ?_
      refine OL.q (Q1.loadN ti53 rfl (fun _ e => e ▸ f6.row) rfl) rfl rfl ?_
      refine OL.q (Q1.move rfl) rfl rfl ?_
      refine OL.act rfl rfl (AW.callF cl34 rfl (copies_c (w0 := w3) (c := c) (((k : Nat) : Int)) ((f7).iv (Nat.zero_le _) (by omega)) ((f8).iv (Nat.zero_le _) (by omega)) (by first | assumption | exact Ml.Cfg.ok_of (by decide +kernel)) (by first | omega | assumption)) ?_)
      rintro v1 w4 ⟨⟨gr1, h1, hg2⟩, hm3⟩
      have hl1 := ha1.lt
      have f9 := ha1.ext hm3
      have f10 := f6.ext hm3
      have f11 := f7.ext hm3
      have f12 := f8.ext hm3
      have hE4 := hE3.ext hm3
      have hs4 := hm3.size
      have hle_1 := h1.le
      have hlt_1 := h1.lt
      have := copies_len c (((k : Nat) : Int))
      refine OL.q (Q1.move rfl) rfl rfl ?_
      refine OL.act rfl rfl (AW.callF cl82 rfl (scontains_c (w0 := w4) (s := (Ml.copiesM c (((k : Nat) : Int)))) (worker) ((h1.sl).iv (Nat.zero_le _) (by omega))) ?_)
      rintro _ w5 ⟨⟨b3, hb3, rfl⟩, hm4⟩
      have hl2 := f9.lt
      have hl3 := h1.lt
      have f13 := f9.ext hm4
      have f14 := f10.ext hm4
      have f15 := f11.ext hm4
      have f16 := f12.ext hm4
      have f17 := h1.ext hm4
      have hE5 := hE4.ext hm4
      have hs5 := hm4.size
      refine OL.nil ?_
      cases b3 with
      | true =>
        replace hb3 := hb3.symm
        refine r_cond_t rfl ?_
        refine r_region ?_
        refine OL.q (Q1.move rfl) rfl rfl ?_
        refine OL.q (Q1.move rfl) rfl rfl ?_
        refine OL.act rfl rfl (AW.buildSlice [(.int .i64 (((k : Nat) : Int)) : Value)] Try.underlying55 ti3 rfl rfl rfl (by decide) ?_)
        intro w6 b4 hm5 hb4 hz2 hk2
        have hl4 := f13.lt
        have hl5 := f17.lt
        have f18 := f13.ext hm5
        have f19 := f14.ext hm5
        have f20 := f15.ext hm5
        have f21 := f16.ext hm5
        have f22 := f17.ext hm5
        have hE6 := hE5.ext hm5
        have hs6 := hm5.size
        have hl6 := Sl.of_blk (enc := Ik.encI) hk2 ([((k : Nat) : Int)] : List Int) 1 rfl rfl (by unfold maxLen; omega)
        have hl7 := f18.lt
        refine OL.act rfl rfl (AW.append f18 Try.underlying55 ti3 rfl Ik.encI_len Ik.encI_one rfl rfl (hl6) (by first | omega | (simp only [List.length_append, List.length_cons, List.length_nil]; omega) | (simp; omega)) (by unfold maxLen; first | omega | (simp only [List.length_append, List.length_cons, List.length_nil]; omega) | (simp; omega)) ?_)
        intro v2 g1 w7 ha2 hm6 hg3 hz3
        have hl8 := f18.lt
        have hl9 := f22.lt
        have f23 := f19.keepG hm6 (by omega)
        have f24 := f20.keepG hm6 (by omega)
        have f25 := f21.keepG hm6 (by omega)
        have f26 := f22.keepG hm6 (by omega)
        have f27 := hl6.keepG hm6 (by omega)
        have hE7 := Ext.thenG hE6 hm6 (by omega)
        have hs7 := hm6.size
        refine OL.q (Q1.assign rfl) rfl rfl ?_
        refine OL.nil ?_
        refine r_inBlock ?_
        refine r_region ?_
        refine OL.q (Q1.addI (((k + 1 : Nat) : Int)) rfl rfl (by omega)) rfl rfl ?_
        refine OL.q (Q1.move rfl) rfl rfl ?_
        refine OL.nil ?_
        exact (ih1 _ _ _ ⟨(v2 : Value), (g1 : Nat), ((l ++ [((k : Nat) : Int)]) : List Int), (k + 1 : Nat), rfl, rfl, hE7, (by omega), ha2, (by omega), f23, f24, f25, (by omega), (by first | exact Ml.keeps_yes hi (by assumption) | exact Ml.keeps_no hi (by assumption) | (exfalso; omega)), (by first | omega | (simp only [List.length_append, List.length_cons, List.length_nil]; omega) | (exfalso; omega)), (by first | omega | (exfalso; omega))⟩ (by omega)).sub ⟨rfl, rfl, rfl, rfl, rfl, trivial⟩
      | false =>
        replace hb3 := hb3.symm
        refine r_cond_f rfl ?_
        refine r_skip ?_
        refine r_inBlock ?_
        refine r_region ?_
        refine OL.q (Q1.addI (((k + 1 : Nat) : Int)) rfl rfl (by omega)) rfl rfl ?_
        refine OL.q (Q1.move rfl) rfl rfl ?_
        refine OL.nil ?_
        exact (ih1 _ _ _ ⟨(v_l : Value), (g_l : Nat), (l : List Int), (k + 1 : Nat), rfl, rfl, hE5, (by omega), f13, (by omega), f14, f15, f16, (by omega), (by first | exact Ml.keeps_yes hi (by assumption) | exact Ml.keeps_no hi (by assumption) | (exfalso; omega)), (by first | omega | (simp only [List.length_append, List.length_cons, List.length_nil]; omega) | (exfalso; omega)), (by first | omega | (exfalso; omega))⟩ (by omega)).sub ⟨rfl, rfl, rfl, rfl, rfl, trivial⟩
    | false =>
      replace hb2 := of_decide_eq_false hb2.symm
      refine r_cond_f rfl ?_
      refine r_exit rfl ?_
      refine r_seq ?_
      refine r_region ?_
      refine OL.q (Q1.move rfl) rfl rfl ?_
      refine OL.q (Q1.assign rfl) rfl rfl ?_
      refine OL.nil ?_
      refine r_ret1 Try.func35 rfl rfl ?_
      exact Ret.mk ⟨⟨_, Acc.cast ha1 (by first | rw [hi, show k = Ml.shards c from by omega]; rfl | (exfalso; omega)), by omega⟩, hE3⟩
set_option maxRecDepth 20000 in
set_option maxHeartbeats 4000000 in
theorem pwords_c {w0 : World}  {c : Cfg} {v_c_words : Value} {v_c_cuts : Value} (shard : Int) (h_c_words : Sl encS w0 (Iv 0 w0.heap.size) v_c_words c.words) (h_c_cuts : Sl encKey w0 (Iv 0 w0.heap.size) v_c_cuts c.cuts) (h_c : Cfg.Ok c) (h_shard : I64 shard) (hlen : c.words.length ≤ 1000000) :
    Calls Try.prog 36 #[.agg #[v_c_words, v_c_cuts, .int .i64 c.workers, .int .i64 c.copies, .int .i64 c.slots, .int .i64 c.batch, .int .i64 c.lease, .int .i64 c.hedge, .int .i64 c.first, .int .i64 c.cap, .int .i64 c.jitter, .int .i64 c.net], .int .i64 shard] w0 (Ret fun rv w1 => (∃ gr, Acc encS 9 1 w1 gr rv (Ml.wordsM c shard) ∧ (gr = 0 ∨ w0.heap.size < gr)) ∧ Ext w0 w1) := by
  have hE0 : Ext w0 w0 := Mod.refl _ _
  have hle1 := h_c_words.le
  have hle2 := h_c_cuts.le
  refine calls_enter Try.func36 rfl Try.ntmps36 rfl ?_
  refine r_seq ?_
  refine r_region ?_
  refine OL.act rfl rfl (AW.box [v_c_words, v_c_cuts, .int .i64 c.workers, .int .i64 c.copies, .int .i64 c.slots, .int .i64 c.batch, .int .i64 c.lease, .int .i64 c.hedge, .int .i64 c.first, .int .i64 c.cap, .int .i64 c.jitter, .int .i64 c.net] rfl rfl ?_)
  intro w1 b1 hm1 hb1 hz1 hk1
  have f1 := h_c_words.ext hm1
  have f2 := h_c_cuts.ext hm1
  have hE1 := hE0.ext hm1
  have hs1 := hm1.size
  refine OL.q (Q1.assign rfl) rfl rfl ?_
  refine OL.nil ?_
  refine r_seq ?_
  refine r_region ?_
  refine OL.q (Q1.fieldAddr fl53_1 rfl) rfl rfl ?_
  refine OL.q (Q1.load1 ti51 rfl (fun _ e => e ▸ (hk1.cell 1 _ rfl))) rfl rfl ?_
  refine OL.q (Q1.fieldAddr fl53_0 rfl) rfl rfl ?_
  refine OL.q (Q1.load1 ti22 rfl (fun _ e => e ▸ (hk1.cell 0 _ rfl))) rfl rfl ?_
  refine OL.q (Q1.move rfl) rfl rfl ?_
  refine OL.act rfl rfl (AW.callF cl83 rfl (pslice_c (w0 := w1) (cuts := c.cuts) (words := c.words) (shard) ((f2).iv (Nat.zero_le _) (by omega)) ((f1).iv (Nat.zero_le _) (by omega)) (by first | omega | assumption) (by exact h_c.words) (by first | assumption | omega)) ?_)
  rintro v1 w2 ⟨⟨gr1, h1, hg1⟩, hm2⟩
  have f3 := f1.ext hm2
  have f4 := f2.ext hm2
  have f5 := hk1.ext hm2
  have hE2 := hE1.ext hm2
  have hs2 := hm2.size
  have hle_1 := h1.le
  have hlt_1 := h1.lt
  have := slice_len c.cuts c.words shard
  refine OL.q (Q1.assign rfl) rfl rfl ?_
  refine OL.nil ?_
  refine r_ret1 Try.func36 rfl rfl ?_
  exact Ret.mk ⟨⟨_, Acc.cast h1 (by rfl), by omega⟩, hE2⟩
end Go.Proofs
