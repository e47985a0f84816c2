/-
  Walks through package rank: what is ahead.
-/
import Derived.Test.YtjhbobjjkbppkaaWText
set_option linter.unusedVariables false
set_option linter.unusedSimpArgs false
namespace Go.Proofs
open Go.Ik Go.Ml
set_option maxRecDepth 20000 in
set_option maxHeartbeats 4000000 in
theorem isnan_c {w0 : World}  (x : Int)  :
    Calls Try.prog 100 #[.int .i64 x] w0 (Ret fun rv w1 => (∃ rb : Bool, rb = false ∧ rv = .bool rb) ∧ Ext w0 w1) := by
  have hE0 : Ext w0 w0 := Mod.refl _ _
  refine calls_enter Try.func100 rfl Try.ntmps100 rfl ?_
  refine r_seq ?_
  refine r_region ?_
  refine OL.q (Q1.assign rfl) rfl rfl ?_
  refine OL.nil ?_
  refine r_seq ?_
  refine r_region ?_
  refine OL.q (Q1.move rfl) rfl rfl ?_
  refine OL.q (Q1.move rfl) rfl rfl ?_
  refine OL.qb (Q1.ne rfl rfl) rfl rfl ?_
  intro b1 hb1
  refine OL.q (Q1.assign rfl) rfl rfl ?_
  refine OL.nil ?_
  refine r_ret1 Try.func100 rfl rfl ?_
  exact Ret.mk ⟨⟨_, (by first | simpa using hb1 | (exfalso; omega)), rfl⟩, hE0⟩
set_option maxRecDepth 20000 in
set_option maxHeartbeats 4000000 in
theorem cmpc_c {w0 : World}  (x : Int) (y : Int)  :
    Calls Try.prog 83 #[.int .i64 x, .int .i64 y] w0 (Ret fun rv w1 => rv = .int .i64 (Ml.cmpI x y) ∧ Ext w0 w1) := by
  have hE0 : Ext w0 w0 := Mod.refl _ _
  refine calls_enter Try.func83 rfl Try.ntmps83 rfl ?_
  refine r_seq ?_
  refine r_region ?_
  refine OL.q (Q1.assign rfl) rfl rfl ?_
  refine OL.nil ?_
  refine r_seq ?_
  refine r_region ?_
  refine OL.q (Q1.move rfl) rfl rfl ?_
  refine OL.act rfl rfl (AW.callF cl100 rfl (isnan_c (w0 := w0)  (x) ) ?_)
  rintro _ w1 ⟨⟨_, rfl, rfl⟩, hm1⟩
  have hE1 := hE0.ext hm1
  have hs1 := hm1.size
  refine OL.q (Q1.assign rfl) rfl rfl ?_
  refine OL.nil ?_
  refine r_seq ?_
  refine r_region ?_
  refine OL.q (Q1.move rfl) rfl rfl ?_
  refine OL.act rfl rfl (AW.callF cl100 rfl (isnan_c (w0 := w1)  (y) ) ?_)
  rintro _ w2 ⟨⟨_, rfl, rfl⟩, hm2⟩
  have hE2 := hE1.ext hm2
  have hs2 := hm2.size
  refine OL.q (Q1.assign rfl) rfl rfl ?_
  refine OL.nil ?_
  refine r_seq ?_
  refine r_seq ?_
  refine r_region ?_
  refine OL.q (Q1.move rfl) rfl rfl ?_
  refine OL.nil ?_
  refine r_cond_f rfl ?_
  refine r_skip ?_
  refine r_seq ?_
  refine r_seq ?_
  refine r_region ?_
  refine OL.q (Q1.move rfl) rfl rfl ?_
  refine OL.nil ?_
  refine r_cond_f rfl ?_
  refine r_skip ?_
  refine r_seq ?_
  refine r_seq ?_
  refine r_region ?_
  refine OL.q (Q1.move rfl) rfl rfl ?_
  refine OL.q (Q1.move rfl) rfl rfl ?_
  refine OL.qb (Q1.lt rfl rfl) rfl rfl ?_
  intro b1 hb1
  refine OL.nil ?_
  cases b1 with
  | true =>
    replace hb1 := of_decide_eq_true hb1.symm
    refine r_cond_t rfl ?_
    refine r_seq ?_
    refine r_region ?_
    refine OL.q (Q1.assign rfl) rfl rfl ?_
    refine OL.nil ?_
    refine r_ret1 Try.func83 rfl rfl ?_
    exact Ret.mk ⟨(congrArg (Value.int .i64) (by first | (unfold Ml.cmpI; rw [if_pos (by omega)]) | (unfold Ml.cmpI; rw [if_neg (by omega), if_pos (by omega)]) | (unfold Ml.cmpI; rw [if_neg (by omega), if_neg (by omega)]) | (exfalso; omega))), hE2⟩
  | false =>
    replace hb1 := of_decide_eq_false hb1.symm
    refine r_cond_f rfl ?_
    refine r_skip ?_
    refine r_seq ?_
    refine r_seq ?_
    refine r_region ?_
    refine OL.q (Q1.move rfl) rfl rfl ?_
    refine OL.q (Q1.move rfl) rfl rfl ?_
    refine OL.qb (Q1.gt rfl rfl) rfl rfl ?_
    intro b2 hb2
    refine OL.nil ?_
    cases b2 with
    | true =>
      replace hb2 := of_decide_eq_true hb2.symm
      refine r_cond_t rfl ?_
      refine r_seq ?_
      refine r_region ?_
      refine OL.q (Q1.assign rfl) rfl rfl ?_
      refine OL.nil ?_
      refine r_ret1 Try.func83 rfl rfl ?_
      exact Ret.mk ⟨(congrArg (Value.int .i64) (by first | (unfold Ml.cmpI; rw [if_pos (by omega)]) | (unfold Ml.cmpI; rw [if_neg (by omega), if_pos (by omega)]) | (unfold Ml.cmpI; rw [if_neg (by omega), if_neg (by omega)]) | (exfalso; omega))), hE2⟩
    | false =>
      replace hb2 := of_decide_eq_false hb2.symm
      refine r_cond_f rfl ?_
      refine r_skip ?_
      refine r_seq ?_
      refine r_region ?_
      refine OL.q (Q1.assign rfl) rfl rfl ?_
      refine OL.nil ?_
      refine r_ret1 Try.func83 rfl rfl ?_
      exact Ret.mk ⟨(congrArg (Value.int .i64) (by first | (unfold Ml.cmpI; rw [if_pos (by omega)]) | (unfold Ml.cmpI; rw [if_neg (by omega), if_pos (by omega)]) | (unfold Ml.cmpI; rw [if_neg (by omega), if_neg (by omega)]) | (exfalso; omega))), hE2⟩
set_option maxRecDepth 20000 in
set_option maxHeartbeats 4000000 in
theorem cmpor_c {w0 : World}  {v_vals : Value} {vals : List Int} (h_vals : Sl Ik.encI w0 (Iv 0 w0.heap.size) v_vals vals) :
    Calls Try.prog 82 #[v_vals] w0 (Ret fun rv w1 => rv = .int .i64 (Ml.orI vals) ∧ Ext w0 w1) := by
  have hE0 : Ext w0 w0 := Mod.refl _ _
  have hle1 := h_vals.le
  refine calls_enter Try.func82 rfl Try.ntmps82 rfl ?_
  refine r_seq ?_
  refine r_region ?_
  refine OL.q (Q1.assign rfl) rfl rfl ?_
  refine OL.nil ?_
  refine r_seq ?_
  refine r_region ?_
  refine OL.q (Q1.assign rfl) rfl rfl ?_
  refine OL.nil ?_
  refine r_seq ?_
  refine r_seq ?_
  refine r_region ?_
  refine OL.q (Q1.move rfl) rfl rfl ?_
  refine OL.q (Q1.lenSl Try.underlying55 (h_vals) rfl) rfl rfl ?_
  refine OL.q (Q1.move rfl) rfl rfl ?_
  refine OL.nil ?_
  refine r_block ?_
  refine r_loop (I := fun m E W => ∃ (k : Nat), E = [(3, .int .i64 0), (6, v_vals), (7, .int .i64 (((vals.length : Nat) : Int))), (8, .int .i64 (((k : Nat) : Int)))] ∧ m = vals.length - k ∧ Ext w0 W ∧ w0.heap.size ≤ W.heap.size ∧ Sl Ik.encI W (Iv 0 w0.heap.size) v_vals vals ∧ (Ml.orI vals = Ml.orI (vals.drop k))) ?_ ?_
  · refine ⟨_, _, ⟨(0 : Nat), rfl, rfl, hE0, Nat.le_refl _, h_vals, (by rfl)⟩, ⟨rfl, rfl, rfl, rfl, trivial⟩⟩
  · rintro _ _ w1 ⟨k, rfl, rfl, hE1, hs1, f1, hi⟩ ih1
    refine r_seq ?_
    refine r_region ?_
    refine OL.qb (Q1.lt rfl rfl) rfl rfl ?_
    intro b1 hb1
    refine OL.nil ?_
    refine r_seq ?_
    cases b1 with
    | true =>
      replace hb1 := of_decide_eq_true hb1.symm
      refine r_cond_t rfl ?_
      refine r_skip ?_
      refine r_seq ?_
      refine r_block ?_
      refine r_seq ?_
      refine r_region ?_
      obtain ⟨x1, b2, o1, hx1, hr1, hl1, hu1, hw1⟩ := Sl.at' (P := Try.prog) f1 Try.underlying55 ti3 Ik.encI_len (k := .i64) (n := ((k : Nat) : Int)) (k) (by omega) (by first | assumption | omega)
      refine OL.q (Q1.indexAddr rfl rfl hr1) rfl rfl ?_
      refine OL.q (Q1.load1 ti3 rfl (fun _ e => e ▸ hw1)) rfl rfl ?_
      refine OL.q (Q1.assign rfl) rfl rfl ?_
      refine OL.nil ?_
      refine r_seq ?_
      refine r_region ?_
      refine OL.q (Q1.move rfl) rfl rfl ?_
      refine OL.q (Q1.move rfl) rfl rfl ?_
      refine OL.qb (Q1.ne rfl rfl) rfl rfl ?_
      intro b3 hb2
      refine OL.nil ?_
      cases b3 with
      | true =>
        replace hb2 := bne_iff_ne.1 hb2.symm
        refine r_cond_t rfl ?_
        refine r_seq ?_
        refine r_region ?_
        refine OL.q (Q1.move rfl) rfl rfl ?_
        refine OL.q (Q1.assign rfl) rfl rfl ?_
        refine OL.nil ?_
        refine r_ret1 Try.func82 rfl rfl ?_
        exact Ret.mk ⟨(congrArg (Value.int .i64) (by first | exact Ml.orI_found hi hx1 hb2 | exact Ml.orI_end hi (by omega) | (exfalso; omega))), hE1⟩
      | false =>
        replace hb2 := bne_eq_false_iff_eq.1 hb2.symm
        refine r_cond_f rfl ?_
        refine r_skip ?_
        refine r_inBlock ?_
        refine r_region ?_
        refine OL.q (Q1.addI (((k + 1 : Nat) : Int)) rfl rfl (by omega)) rfl rfl ?_
        refine OL.q (Q1.move rfl) rfl rfl ?_
        refine OL.nil ?_
        exact (ih1 _ _ _ ⟨(k + 1 : Nat), rfl, rfl, hE1, (by omega), f1, (by first | exact Ml.orI_drop hi hx1 (by simpa using hb2) | (exfalso; omega))⟩ (by omega)).sub ⟨rfl, rfl, rfl, rfl, trivial⟩
    | false =>
      replace hb1 := of_decide_eq_false hb1.symm
      refine r_cond_f rfl ?_
      refine r_exit rfl ?_
      refine r_seq ?_
      refine r_region ?_
      refine OL.q (Q1.move rfl) rfl rfl ?_
      refine OL.q (Q1.assign rfl) rfl rfl ?_
      refine OL.nil ?_
      refine r_ret1 Try.func82 rfl rfl ?_
      exact Ret.mk ⟨(congrArg (Value.int .i64) (by first | exact Ml.orI_found hi hx1 hb2 | exact Ml.orI_end hi (by omega) | (exfalso; omega))), hE1⟩
set_option maxRecDepth 20000 in
set_option maxHeartbeats 4000000 in
theorem icmp_c {w0 : World}  {a : Itm} {b : Itm}  :
    Calls Try.prog 60 #[.agg #[.int .i64 a.dist, strV a.word], .agg #[.int .i64 b.dist, strV b.word]] w0 (Ret fun rv w1 => rv = .int .i64 (Ml.itmCmp a b) ∧ Ext w0 w1) := by
  have hE0 : Ext w0 w0 := Mod.refl _ _
  refine calls_enter Try.func60 rfl Try.ntmps60 rfl ?_
  refine r_seq ?_
  refine r_region ?_
  refine OL.act rfl rfl (AW.box [.int .i64 a.dist, strV a.word] rfl rfl ?_)
  intro w1 b1 hm1 hb1 hz1 hk1
  have hE1 := hE0.ext hm1
  have hs1 := hm1.size
  refine OL.act rfl rfl (AW.box [.int .i64 b.dist, strV b.word] rfl rfl ?_)
  intro w2 b2 hm2 hb2 hz2 hk2
  have f1 := hk1.ext hm2
  have hE2 := hE1.ext hm2
  have hs2 := hm2.size
  refine OL.q (Q1.assign rfl) rfl rfl ?_
  refine OL.nil ?_
  refine r_seq ?_
  refine r_draw1 (fun i => Nat.beq i 4 || Nat.beq i 9 || Nat.beq i 10 || Nat.beq i 11) 13 (fun w' => Mod (Mg 0) w2 w') mixed (by kernel_rfl) ?_
  intro w3 hm3
  have f2 := f1.ext hm3
  have f3 := hk2.ext hm3
  have hE3 := hE2.ext hm3
  have hs3 := hm3.size
  have hCw3 : Mod (Mg 0) w2 w3 := Mod.ofExt hm3
  refine ⟨hCw3, ?_⟩
  rw [show List.range' 0 (Array.size _) = [0, 1, 2, 3, 4, 5, 6, 7, 8, 9, 10, 11, 12] from rfl]
  refine OD.q rfl rfl (Q1.fieldAddr fl24_0 rfl) rfl rfl ?_
  refine OD.q rfl rfl (Q1.load1 ti3 rfl (fun _ hc => (f1.cell 0 _ rfl).keepG hc (by omega))) rfl rfl ?_
  refine OD.q rfl rfl (Q1.fieldAddr fl24_0 rfl) rfl rfl ?_
  refine OD.q rfl rfl (Q1.load1 ti3 rfl (fun _ hc => (hk2.cell 0 _ rfl).keepG hc (by omega))) rfl rfl ?_
  refine OD.act rfl rfl rfl rfl (AW.callF cl83 rfl (cmpc_c (w0 := w3)  (a.dist) (b.dist) ) ?_)
  rintro _ w4 ⟨rfl, hm4⟩
  have f4 := f2.ext hm4
  have f5 := f3.ext hm4
  have hE4 := hE3.ext hm4
  have hs4 := hm4.size
  have hCw4 := hCw3.ext hm4
  refine ⟨.inr hCw4, ?_⟩
  refine OD.q rfl rfl (Q1.fieldAddr fl24_1 rfl) rfl rfl ?_
  refine OD.q rfl rfl (Q1.load1 ti9 rfl (fun _ hc => (f1.cell 1 _ rfl).keepG hc (by omega))) rfl rfl ?_
  refine OD.q rfl rfl (Q1.fieldAddr fl24_1 rfl) rfl rfl ?_
  refine OD.q rfl rfl (Q1.load1 ti9 rfl (fun _ hc => (hk2.cell 1 _ rfl).keepG hc (by omega))) rfl rfl ?_
  refine OD.act rfl rfl rfl rfl (AW.callF cl44 rfl (tcmp_c (w0 := w4)  a.word b.word ) ?_)
  rintro _ w5 ⟨rfl, hm5, hp1⟩
  have f6 := f4.ext hm5
  have f7 := f5.ext hm5
  have hE5 := hE4.ext hm5
  have hs5 := hm5.size
  have hCw5 := hCw4.ext hm5
  refine ⟨.inr hCw5, ?_⟩
  refine OD.act rfl rfl rfl rfl (AW.buildSlice [(.int .i64 ((Ml.cmpI a.dist b.dist)) : Value), (.int .i64 ((Lib.compareBytes a.word b.word)) : Value)] Try.underlying55 ti3 rfl rfl rfl (by decide) ?_)
  intro w6 b3 hm6 hb3 hz3 hk3
  have f8 := f6.ext hm6
  have f9 := f7.ext hm6
  have hE6 := hE5.ext hm6
  have hs6 := hm6.size
  have hCw6 := hCw5.ext hm6
  refine ⟨.inr hCw6, ?_⟩
  have hl1 := Sl.of_blk (enc := Ik.encI) hk3 ([(Ml.cmpI a.dist b.dist), (Lib.compareBytes a.word b.word)] : List Int) 2 rfl rfl (by unfold maxLen; omega)
  refine OD.act rfl rfl rfl rfl (AW.callF cl82 rfl (cmpor_c (w0 := w6) (vals := [(Ml.cmpI a.dist b.dist), (Lib.compareBytes a.word b.word)])  ((hl1).iv (Nat.zero_le _) (by omega))) ?_)
  rintro _ w7 ⟨rfl, hm7⟩
  have f10 := f8.ext hm7
  have f11 := f9.ext hm7
  have f12 := hl1.ext hm7
  have hE7 := hE6.ext hm7
  have hs7 := hm7.size
  have hCw7 := hCw6.ext hm7
  refine ⟨.inr hCw7, ?_⟩
  refine OD.q rfl rfl (Q1.assign rfl) rfl rfl ?_
  refine OD.nil ?_
  refine r_ret1 Try.func60 rfl rfl ?_
  exact Ret.mk ⟨(congrArg (Value.int .i64) (by rfl)), hE7⟩
set_option maxRecDepth 20000 in
set_option maxHeartbeats 4000000 in
theorem iless_c {w0 : World}  {a : Itm} {b : Itm}  :
    Calls Try.prog 38 #[.agg #[.int .i64 a.dist, strV a.word], .agg #[.int .i64 b.dist, strV b.word]] w0 (Ret fun rv w1 => (∃ rb : Bool, rb = (Ml.itmLess a b) ∧ rv = .bool rb) ∧ Ext w0 w1) := by
  have hE0 : Ext w0 w0 := Mod.refl _ _
  refine calls_enter Try.func38 rfl Try.ntmps38 rfl ?_
  refine r_seq ?_
  refine r_region ?_
  refine OL.act rfl rfl (AW.box [.int .i64 a.dist, strV a.word] rfl rfl ?_)
  intro w1 b1 hm1 hb1 hz1 hk1
  have hE1 := hE0.ext hm1
  have hs1 := hm1.size
  refine OL.act rfl rfl (AW.box [.int .i64 b.dist, strV b.word] rfl rfl ?_)
  intro w2 b2 hm2 hb2 hz2 hk2
  have f1 := hk1.ext hm2
  have hE2 := hE1.ext hm2
  have hs2 := hm2.size
  refine OL.q (Q1.assign rfl) rfl rfl ?_
  refine OL.nil ?_
  refine r_seq ?_
  refine r_region ?_
  refine OL.q (Q1.loadN ti24 rfl (fun _ e => e ▸ f1.row) rfl) rfl rfl ?_
  refine OL.q (Q1.loadN ti24 rfl (fun _ e => e ▸ hk2.row) rfl) rfl rfl ?_
  refine OL.act rfl rfl (AW.callF cl60 rfl (icmp_c (w0 := w2) (a := a) (b := b)  ) ?_)
  rintro _ w3 ⟨rfl, hm3⟩
  have f2 := f1.ext hm3
  have f3 := hk2.ext hm3
  have hE3 := hE2.ext hm3
  have hs3 := hm3.size
  refine OL.qb (Q1.lt rfl rfl) rfl rfl ?_
  intro b3 hb3
  refine OL.q (Q1.assign rfl) rfl rfl ?_
  refine OL.nil ?_
  refine r_ret1 Try.func38 rfl rfl ?_
  exact Ret.mk ⟨⟨_, (by first | simp only [Ml.itmLess, *] | (exfalso; omega)), rfl⟩, hE3⟩
set_option maxRecDepth 20000 in
set_option maxHeartbeats 4000000 in
theorem may_c {w0 : World}  {q : Qry} (hqs : q.text.length ≤ 1000000) :
    Calls Try.prog 19 #[.agg #[strV q.text, .int .i64 q.k, .int .i64 q.n]] w0 (Ret fun rv w1 => (∃ rb : Bool, rb = (mayQ q) ∧ rv = .bool rb) ∧ Ext w0 w1) := by
  have hE0 : Ext w0 w0 := Mod.refl _ _
  refine calls_enter Try.func19 rfl Try.ntmps19 rfl ?_
  refine r_seq ?_
  refine r_region ?_
  refine OL.act rfl rfl (AW.box [strV q.text, .int .i64 q.k, .int .i64 q.n] rfl rfl ?_)
  intro w1 b1 hm1 hb1 hz1 hk1
  have hE1 := hE0.ext hm1
  have hs1 := hm1.size
  refine OL.q (Q1.assign rfl) rfl rfl ?_
  refine OL.nil ?_
  refine r_seq ?_
  refine r_region ?_
  refine OL.q (Q1.fieldAddr fl39_0 rfl) rfl rfl ?_
  refine OL.q (Q1.load1 ti9 rfl (fun _ e => e ▸ (hk1.cell 0 _ rfl))) rfl rfl ?_
  refine OL.act rfl rfl (AW.callF cl25 rfl (tasked_c (w0 := w1)  q.text (by first | assumption | omega)) ?_)
  rintro _ w2 ⟨⟨b2, hb2, rfl⟩, hm2⟩
  have f1 := hk1.ext hm2
  have hE2 := hE1.ext hm2
  have hs2 := hm2.size
  refine OL.q (Q1.move rfl) rfl rfl ?_
  cases b2 with
  | true =>
    replace hb2 := hb2.symm
    refine OL.q (Q1.fieldAddr fl39_1 rfl) rfl rfl ?_
    refine OL.q (Q1.load1 ti3 rfl (fun _ e => e ▸ (f1.cell 1 _ rfl))) rfl rfl ?_
    refine OL.qb (Q1.ge rfl rfl) rfl rfl ?_
    intro b3 hb3
    refine OL.q (Q1.pick_t rfl rfl) rfl rfl ?_
    refine OL.q (Q1.move rfl) rfl rfl ?_
    cases b3 with
    | true =>
      replace hb3 := of_decide_eq_true hb3.symm
      refine OL.q (Q1.fieldAddr fl39_1 rfl) rfl rfl ?_
      refine OL.q (Q1.load1 ti3 rfl (fun _ e => e ▸ (f1.cell 1 _ rfl))) rfl rfl ?_
      refine OL.qb (Q1.le rfl rfl) rfl rfl ?_
      intro b4 hb4
      refine OL.q (Q1.pick_t rfl rfl) rfl rfl ?_
      refine OL.q (Q1.move rfl) rfl rfl ?_
      cases b4 with
      | true =>
        replace hb4 := of_decide_eq_true hb4.symm
        refine OL.q (Q1.fieldAddr fl39_2 rfl) rfl rfl ?_
        refine OL.q (Q1.load1 ti3 rfl (fun _ e => e ▸ (f1.cell 2 _ rfl))) rfl rfl ?_
        refine OL.qb (Q1.ge rfl rfl) rfl rfl ?_
        intro b5 hb5
        refine OL.q (Q1.pick_t rfl rfl) rfl rfl ?_
        refine OL.q (Q1.move rfl) rfl rfl ?_
        cases b5 with
        | true =>
          replace hb5 := of_decide_eq_true hb5.symm
          refine OL.q (Q1.fieldAddr fl39_2 rfl) rfl rfl ?_
          refine OL.q (Q1.load1 ti3 rfl (fun _ e => e ▸ (f1.cell 2 _ rfl))) rfl rfl ?_
          refine OL.qb (Q1.le rfl rfl) rfl rfl ?_
          intro b6 hb6
          refine OL.q (Q1.pick_t rfl rfl) rfl rfl ?_
          refine OL.q (Q1.assign rfl) rfl rfl ?_
          refine OL.nil ?_
          refine r_ret1 Try.func19 rfl rfl ?_
          exact Ret.mk ⟨⟨_, (by first | exact mayQ_a (by assumption) | exact mayQ_b (by omega) | exact mayQ_y (by assumption) (by omega) (by assumption) | (exfalso; omega)), rfl⟩, hE2⟩
        | false =>
          replace hb5 := of_decide_eq_false hb5.symm
          refine OL.sk rfl rfl ?_
          refine OL.sk rfl rfl ?_
          refine OL.sk rfl rfl ?_
          refine OL.q (Q1.pick_f rfl rfl) rfl rfl ?_
          refine OL.q (Q1.assign rfl) rfl rfl ?_
          refine OL.nil ?_
          refine r_ret1 Try.func19 rfl rfl ?_
          exact Ret.mk ⟨⟨_, (by first | exact mayQ_a (by assumption) | exact mayQ_b (by omega) | exact mayQ_y (by assumption) (by omega) (by assumption) | (exfalso; omega)), rfl⟩, hE2⟩
      | false =>
        replace hb4 := of_decide_eq_false hb4.symm
        refine OL.sk rfl rfl ?_
        refine OL.sk rfl rfl ?_
        refine OL.sk rfl rfl ?_
        refine OL.q (Q1.pick_f rfl rfl) rfl rfl ?_
        refine OL.q (Q1.move rfl) rfl rfl ?_
        refine OL.sk rfl rfl ?_
        refine OL.sk rfl rfl ?_
        refine OL.sk rfl rfl ?_
        refine OL.q (Q1.pick_f rfl rfl) rfl rfl ?_
        refine OL.q (Q1.assign rfl) rfl rfl ?_
        refine OL.nil ?_
        refine r_ret1 Try.func19 rfl rfl ?_
        exact Ret.mk ⟨⟨_, (by first | exact mayQ_a (by assumption) | exact mayQ_b (by omega) | exact mayQ_y (by assumption) (by omega) (by assumption) | (exfalso; omega)), rfl⟩, hE2⟩
    | false =>
      replace hb3 := of_decide_eq_false hb3.symm
      refine OL.sk rfl rfl ?_
      refine OL.sk rfl rfl ?_
      refine OL.sk rfl rfl ?_
      refine OL.q (Q1.pick_f rfl rfl) rfl rfl ?_
      refine OL.q (Q1.move rfl) rfl rfl ?_
      refine OL.sk rfl rfl ?_
      refine OL.sk rfl rfl ?_
      refine OL.sk rfl rfl ?_
      refine OL.q (Q1.pick_f rfl rfl) rfl rfl ?_
      refine OL.q (Q1.move rfl) rfl rfl ?_
      refine OL.sk rfl rfl ?_
      refine OL.sk rfl rfl ?_
      refine OL.sk rfl rfl ?_
      refine OL.q (Q1.pick_f rfl rfl) rfl rfl ?_
      refine OL.q (Q1.assign rfl) rfl rfl ?_
      refine OL.nil ?_
      refine r_ret1 Try.func19 rfl rfl ?_
      exact Ret.mk ⟨⟨_, (by first | exact mayQ_a (by assumption) | exact mayQ_b (by omega) | exact mayQ_y (by assumption) (by omega) (by assumption) | (exfalso; omega)), rfl⟩, hE2⟩
  | false =>
    replace hb2 := hb2.symm
    refine OL.sk rfl rfl ?_
    refine OL.sk rfl rfl ?_
    refine OL.sk rfl rfl ?_
    refine OL.q (Q1.pick_f rfl rfl) rfl rfl ?_
    refine OL.q (Q1.move rfl) rfl rfl ?_
    refine OL.sk rfl rfl ?_
    refine OL.sk rfl rfl ?_
    refine OL.sk rfl rfl ?_
    refine OL.q (Q1.pick_f rfl rfl) rfl rfl ?_
    refine OL.q (Q1.move rfl) rfl rfl ?_
    refine OL.sk rfl rfl ?_
    refine OL.sk rfl rfl ?_
    refine OL.sk rfl rfl ?_
    refine OL.q (Q1.pick_f rfl rfl) rfl rfl ?_
    refine OL.q (Q1.move rfl) rfl rfl ?_
    refine OL.sk rfl rfl ?_
    refine OL.sk rfl rfl ?_
    refine OL.sk rfl rfl ?_
    refine OL.q (Q1.pick_f rfl rfl) rfl rfl ?_
    refine OL.q (Q1.assign rfl) rfl rfl ?_
    refine OL.nil ?_
    refine r_ret1 Try.func19 rfl rfl ?_
    exact Ret.mk ⟨⟨_, (by first | exact mayQ_a (by assumption) | exact mayQ_b (by omega) | exact mayQ_y (by assumption) (by omega) (by assumption) | (exfalso; omega)), rfl⟩, hE2⟩
end Go.Proofs
