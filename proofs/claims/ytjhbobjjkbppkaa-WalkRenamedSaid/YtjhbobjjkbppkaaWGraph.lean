/-
  Walks through package graph: what is asked of a node.
-/
import Derived.Test.YtjhbobjjkbppkaaWText
set_option linter.unusedVariables false
set_option linter.unusedSimpArgs false
namespace Go.Proofs
open Go.Ik Go.Ml
set_option maxRecDepth 20000 in
set_option maxHeartbeats 4000000 in
theorem first_c {w0 : World}  (s : Str) (hs : s.length ≤ 1000000) (hne : s ≠ []) :
    Calls Try.prog 51 #[strV s] w0 (Ret fun rv w1 => ∃ u0 u1, rv = .tuple #[u0, u1] ∧ u0 = .int .i32 ((Ml.hdN s : Int)) ∧ u1 = .int .i64 (((Ml.wdN s : Nat) : Int)) ∧ Ext w0 w1) := by
  have hE0 : Ext w0 w0 := Mod.refl _ _
  refine calls_enter Try.func51 rfl Try.ntmps51 rfl ?_
  refine r_seq ?_
  refine r_region ?_
  refine OL.q (Q1.assign rfl) rfl rfl ?_
  refine OL.q (Q1.assign rfl) rfl rfl ?_
  refine OL.nil ?_
  refine r_seq ?_
  refine r_region ?_
  refine OL.q (Q1.assign rfl) rfl rfl ?_
  refine OL.nil ?_
  refine r_seq ?_
  refine r_seq ?_
  refine r_region ?_
  refine OL.q (Q1.move rfl) rfl rfl ?_
  refine OL.act rfl rfl (AW.rangeS Try.underlying9 rfl ?_)
  intro w1 b1 hm1 hb1 hz1 hk1
  have hE1 := hE0.ext hm1
  have hs1 := hm1.size
  refine OL.nil ?_
  refine r_block ?_
  refine r_loop (I := fun m E W => ∃ (hd : Int) (p : Nat), E = [(0, strV s), (4, .int .i32 hd), (8, ptr b1 0)] ∧ m = s.length - p ∧ Ext w0 W ∧ w1.heap.size ≤ W.heap.size ∧ It W b1 s p ∧ (Ml.FirstInv s p hd) ∧ (0 ≤ hd ∧ hd ≤ 1114111)) ?_ ?_
  · refine ⟨_, _, ⟨(0 : Int), (0 : Nat), rfl, rfl, hE1, Nat.le_refl _, hk1, (by exact .inl ⟨rfl, rfl⟩), (by omega)⟩, ⟨rfl, rfl, rfl, trivial⟩⟩
  · rintro _ _ w2 ⟨hd, p, rfl, rfl, hE2, hs2, f1, hi, hr32⟩ ih1
    refine r_seq ?_
    refine r_region ?_
    refine OL.act rfl rfl (AW.nextS rfl f1 ?_ ?_)
    · intro he1
      refine OL.q (Q1.extract rfl rfl) rfl rfl ?_
      refine OL.nil ?_
      refine r_seq ?_
      refine r_cond_f rfl ?_
      refine r_exit rfl ?_
      refine r_seq ?_
      refine r_region ?_
      refine OL.q (Q1.move rfl) rfl rfl ?_
      refine OL.q (Q1.move rfl) rfl rfl ?_
      refine OL.q (Q1.lenS Try.underlying9 rfl) rfl rfl ?_
      refine OL.q (Q1.assign rfl) rfl rfl ?_
      refine OL.q (Q1.assign rfl) rfl rfl ?_
      refine OL.nil ?_
      refine r_ret2 Try.func51 rfl rfl rfl ?_
      exact Ret.mk ⟨_, _, rfl, (congrArg (Value.int .i32) (by first | (with_reducible exact (hi.ret (by omega)).1) | (with_reducible exact (hi.ret (by omega)).2) | (with_reducible exact (hi.fin hne (by assumption)).1) | (with_reducible exact (hi.fin hne (by assumption)).2) | (exfalso; omega))), (congrArg (Value.int .i64) (by first | (with_reducible exact (hi.ret (by omega)).1) | (with_reducible exact (hi.ret (by omega)).2) | (with_reducible exact (hi.fin hne (by assumption)).1) | (with_reducible exact (hi.fin hne (by assumption)).2) | (exfalso; omega))), hE2⟩
    · intro w3 he1 hm2 hz2 hk2
      have hE3 := Ext.thenG hE2 hm2 (by omega)
      have hs3 := hm2.size
      refine OL.q (Q1.extract rfl rfl) rfl rfl ?_
      refine OL.nil ?_
      refine r_seq ?_
      refine r_cond_t rfl ?_
      refine r_skip ?_
      refine r_block ?_
      refine r_seq ?_
      refine r_region ?_
      refine OL.q (Q1.extract rfl rfl) rfl rfl ?_
      refine OL.q (Q1.extract rfl rfl) rfl rfl ?_
      refine OL.q (Q1.assign rfl) rfl rfl ?_
      refine OL.q (Q1.assign rfl) rfl rfl ?_
      refine OL.nil ?_
      refine r_seq ?_
      refine r_seq ?_
      refine r_region ?_
      refine OL.q (Q1.move rfl) rfl rfl ?_
      refine OL.qb (Q1.gt rfl rfl) rfl rfl ?_
      intro b2 hb2
      refine OL.nil ?_
      cases b2 with
      | true =>
        replace hb2 := of_decide_eq_true hb2.symm
        refine r_cond_t rfl ?_
        refine r_seq ?_
        refine r_region ?_
        refine OL.q (Q1.move rfl) rfl rfl ?_
        refine OL.q (Q1.move rfl) rfl rfl ?_
        refine OL.q (Q1.assign rfl) rfl rfl ?_
        refine OL.q (Q1.assign rfl) rfl rfl ?_
        refine OL.nil ?_
        refine r_ret2 Try.func51 rfl rfl rfl ?_
        exact Ret.mk ⟨_, _, rfl, (congrArg (Value.int .i32) (by first | (with_reducible exact (hi.ret (by omega)).1) | (with_reducible exact (hi.ret (by omega)).2) | (with_reducible exact (hi.fin hne (by assumption)).1) | (with_reducible exact (hi.fin hne (by assumption)).2) | (exfalso; omega))), (congrArg (Value.int .i64) (by first | (with_reducible exact (hi.ret (by omega)).1) | (with_reducible exact (hi.ret (by omega)).2) | (with_reducible exact (hi.fin hne (by assumption)).1) | (with_reducible exact (hi.fin hne (by assumption)).2) | (exfalso; omega))), hE3⟩
      | false =>
        replace hb2 := of_decide_eq_false hb2.symm
        refine r_cond_f rfl ?_
        refine r_skip ?_
        refine r_region ?_
        refine OL.q (Q1.move rfl) rfl rfl ?_
        refine OL.q (Q1.assign rfl) rfl rfl ?_
        refine OL.nil ?_
        refine r_inBlock ?_
        exact (ih1 _ _ _ ⟨(((dec (s.drop p)).1 : Int) : Int), ((p + (dec (s.drop p)).2) : Nat), rfl, rfl, hE3, (by omega), hk2, (by first | exact Ml.FirstInv.next hi (by assumption) (by omega) | (exfalso; omega)), (by first | have := dec_rune (s.drop p); omega | (exfalso; omega))⟩ (by have := Ml.dec_lt (by assumption : List.drop p s ≠ []); omega)).sub ⟨rfl, rfl, rfl, trivial⟩
set_option maxRecDepth 20000 in
set_option maxHeartbeats 4000000 in
theorem slhp_c {w0 : World}  (s : Str) (p : Str)  :
    Calls Try.prog 75 #[strV s, strV p] w0 (Ret fun rv w1 => (∃ rb : Bool, rb = (p.isPrefixOf s) ∧ rv = .bool rb) ∧ Ext w0 w1) := by
  have hE0 : Ext w0 w0 := Mod.refl _ _
  refine calls_enter Try.func75 rfl Try.ntmps75 rfl ?_
  refine r_seq ?_
  refine r_region ?_
  refine OL.q (Q1.assign rfl) rfl rfl ?_
  refine OL.nil ?_
  refine r_seq ?_
  refine r_region ?_
  refine OL.q (Q1.move rfl) rfl rfl ?_
  refine OL.q (Q1.lenS Try.underlying9 rfl) rfl rfl ?_
  refine OL.q (Q1.move rfl) rfl rfl ?_
  refine OL.q (Q1.lenS Try.underlying9 rfl) rfl rfl ?_
  refine OL.qb (Q1.ge rfl rfl) rfl rfl ?_
  intro b1 hb1
  refine OL.q (Q1.move rfl) rfl rfl ?_
  cases b1 with
  | true =>
    replace hb1 := of_decide_eq_true hb1.symm
    refine OL.q (Q1.move rfl) rfl rfl ?_
    refine OL.q (Q1.move rfl) rfl rfl ?_
    refine OL.q (Q1.lenS Try.underlying9 rfl) rfl rfl ?_
    refine OL.q (Q1.sliceS_hi (p.length) Try.underlying9 rfl rfl (by omega) (by first | assumption | omega)) rfl rfl ?_
    refine OL.q (Q1.move rfl) rfl rfl ?_
    refine OL.qb (Q1.eqS rfl rfl) rfl rfl ?_
    intro b2 hb2
    refine OL.q (Q1.pick_t rfl rfl) rfl rfl ?_
    refine OL.q (Q1.assign rfl) rfl rfl ?_
    refine OL.nil ?_
    refine r_ret1 Try.func75 rfl rfl ?_
    exact Ret.mk ⟨⟨_, (by first | exact Ml.hp_yes (by omega) (by assumption) | exact Ml.hp_no (by omega) | (exfalso; omega)), rfl⟩, hE0⟩
  | false =>
    replace hb1 := of_decide_eq_false hb1.symm
    refine OL.sk rfl rfl ?_
    refine OL.sk rfl rfl ?_
    refine OL.sk rfl rfl ?_
    refine OL.sk rfl rfl ?_
    refine OL.sk rfl rfl ?_
    refine OL.sk rfl rfl ?_
    refine OL.q (Q1.pick_f rfl rfl) rfl rfl ?_
    refine OL.q (Q1.assign rfl) rfl rfl ?_
    refine OL.nil ?_
    refine r_ret1 Try.func75 rfl rfl ?_
    exact Ret.mk ⟨⟨_, (by first | exact Ml.hp_yes (by omega) (by assumption) | exact Ml.hp_no (by omega) | (exfalso; omega)), rfl⟩, hE0⟩
set_option maxRecDepth 20000 in
set_option maxHeartbeats 4000000 in
theorem shp_c {w0 : World}  (s : Str) (p : Str)  :
    Calls Try.prog 52 #[strV s, strV p] w0 (Ret fun rv w1 => (∃ rb : Bool, rb = (p.isPrefixOf s) ∧ rv = .bool rb) ∧ Ext w0 w1) := by
  have hE0 : Ext w0 w0 := Mod.refl _ _
  refine calls_enter Try.func52 rfl Try.ntmps52 rfl ?_
  refine r_seq ?_
  refine r_region ?_
  refine OL.q (Q1.assign rfl) rfl rfl ?_
  refine OL.nil ?_
  refine r_seq ?_
  refine r_region ?_
  refine OL.q (Q1.move rfl) rfl rfl ?_
  refine OL.q (Q1.move rfl) rfl rfl ?_
  refine OL.act rfl rfl (AW.callF cl75 rfl (slhp_c (w0 := w0)  s p ) ?_)
  rintro _ w1 ⟨⟨b1, hb1, rfl⟩, hm1⟩
  have hE1 := hE0.ext hm1
  have hs1 := hm1.size
  refine OL.q (Q1.assign rfl) rfl rfl ?_
  refine OL.nil ?_
  refine r_ret1 Try.func52 rfl rfl ?_
  exact Ret.mk ⟨⟨_, (by first | assumption | (exfalso; omega)), rfl⟩, hE1⟩
set_option maxRecDepth 20000 in
set_option maxHeartbeats 4000000 in
theorem cloneE_c {w0 : World}  {v_s : Value} {s : List Ed} (h_s : Sl encE w0 (Iv 0 w0.heap.size) v_s s) (hln : s.length ≤ 1000000) :
    Calls Try.prog 79 #[v_s] w0 (Ret fun rv w1 => (∃ gr, Acc encE 91 2 w1 gr rv (s) ∧ (gr = 0 ∨ w0.heap.size < gr)) ∧ Ext w0 w1) := by
  have hE0 : Ext w0 w0 := Mod.refl _ _
  have hle1 := h_s.le
  refine calls_enter Try.func79 rfl Try.ntmps79 rfl ?_
  refine r_seq ?_
  refine r_region ?_
  refine OL.q (Q1.assign rfl) rfl rfl ?_
  refine OL.nil ?_
  refine r_seq ?_
  refine r_seq ?_
  refine r_region ?_
  refine OL.q (Q1.move rfl) rfl rfl ?_
  obtain ⟨ad1, cp1, hv1, hz1⟩ := Sl.isNil (h_s)
  subst hv1
  refine OL.qb (Q1.eqNilSl Try.underlying70 rfl rfl) rfl rfl ?_
  intro b1 hb1
  refine OL.nil ?_
  cases b1 with
  | true =>
    replace hb1 := hb1.symm
    replace hz1 := hz1 hb1
    refine r_cond_t rfl ?_
    refine r_seq ?_
    refine r_region ?_
    refine OL.q (Q1.assign rfl) rfl rfl ?_
    refine OL.nil ?_
    refine r_ret1 Try.func79 rfl rfl ?_
    exact Ret.mk ⟨⟨0, Acc.cast Acc.nil (by first | (symm; assumption) | simp | (exfalso; omega)), .inl rfl⟩, hE0⟩
  | false =>
    replace hb1 := hb1.symm
    refine r_cond_f rfl ?_
    refine r_skip ?_
    refine r_seq ?_
    refine r_region ?_
    refine OL.act rfl rfl (AW.buildSlice [] Try.underlying70 ti91 rfl rfl rfl (by decide) ?_)
    intro w1 b2 hm1 hb2 hz2 hk1
    have f1 := h_s.ext hm1
    have hE1 := hE0.ext hm1
    have hs1 := hm1.size
    have hl1 := Acc.of_blk (enc := encE) hk1 ([] : List Ed) 0 rfl encE_len rfl (by unfold maxLen; omega)
    refine OL.q (Q1.move rfl) rfl rfl ?_
    have hl2 := hl1.lt
    refine OL.act rfl rfl (AW.append hl1 Try.underlying70 ti91 rfl encE_len encE_one rfl rfl (f1) (by first | omega | (simp only [List.length_append, List.length_cons, List.length_nil]; omega) | (simp; omega)) (by unfold maxLen; first | omega | (simp only [List.length_append, List.length_cons, List.length_nil]; omega) | (simp; omega)) ?_)
    intro v1 g1 w2 ha1 hm2 hg1 hz3
    have hl3 := hl1.lt
    have f2 := f1.keepG hm2 (by omega)
    have hE2 := Ext.thenG hE1 hm2 (by omega)
    have hs2 := hm2.size
    refine OL.q (Q1.assign rfl) rfl rfl ?_
    refine OL.nil ?_
    refine r_ret1 Try.func79 rfl rfl ?_
    exact Ret.mk ⟨⟨_, Acc.cast ha1 (by first | (symm; assumption) | simp | (exfalso; omega)), by omega⟩, hE2⟩
set_option maxRecDepth 20000 in
set_option maxHeartbeats 4000000 in
theorem nodes_c {w0 : World}  {v_g : Value} {lo_g hi_g : Nat} {g : List GN} (h_g : Gr 0 w0 lo_g hi_g v_g g) (hhi_g : hi_g ≤ w0.heap.size) :
    Calls Try.prog 33 #[v_g] w0 (Ret fun rv w1 => rv = .int .i64 (((g.length : Nat) : Int)) ∧ Ext w0 w1) := by
  have hE0 : Ext w0 w0 := Mod.refl _ _
  refine calls_enter Try.func33 rfl Try.ntmps33 rfl ?_
  refine r_seq ?_
  refine r_region ?_
  refine OL.q (Q1.assign rfl) rfl rfl ?_
  refine OL.nil ?_
  refine r_seq ?_
  refine r_seq ?_
  refine r_region ?_
  refine OL.q (Q1.move rfl) rfl rfl ?_
  have hgr1 := h_g
  rcases h_g with ⟨hv1, hN1⟩ | ⟨b1, vn1, nds1, hv1, hN1, hrw1, hsl1, hrel1⟩
  · subst hv1
    try subst hN1
    refine OL.q (Q1.eqNil Try.underlying27 rfl rfl) rfl rfl ?_
    refine OL.nil ?_
    refine r_cond_t rfl ?_
    refine r_seq ?_
    refine r_region ?_
    refine OL.q (Q1.assign rfl) rfl rfl ?_
    refine OL.nil ?_
    refine r_ret1 Try.func33 rfl rfl ?_
    exact Ret.mk ⟨(congrArg (Value.int .i64) (by first | rfl | exact congrArg (fun n : Nat => (n : Int)) hrel1.get.1 | (exfalso; omega))), hE0⟩
  · subst hv1
    have hnl1 := (All2.get hrel1).1
    refine OL.q (Q1.eqNil Try.underlying27 rfl rfl) rfl rfl ?_
    refine OL.nil ?_
    refine r_cond_f rfl ?_
    refine r_skip ?_
    refine r_seq ?_
    refine r_region ?_
    refine OL.q (Q1.move rfl) rfl rfl ?_
    refine OL.q (Q1.nilCheckP rfl) rfl rfl ?_
    refine OL.q (Q1.fieldAddr fl66_0 rfl) rfl rfl ?_
    refine OL.q (Q1.load1 ti64 rfl (fun _ e => e ▸ (hrw1.cell 0 _ rfl))) rfl rfl ?_
    refine OL.q (Q1.lenSl Try.underlying64 (hsl1) rfl) rfl rfl ?_
    refine OL.q (Q1.assign rfl) rfl rfl ?_
    refine OL.nil ?_
    refine r_ret1 Try.func33 rfl rfl ?_
    exact Ret.mk ⟨(congrArg (Value.int .i64) (by first | rfl | exact congrArg (fun n : Nat => (n : Int)) hrel1.get.1 | (exfalso; omega))), hE0⟩
set_option maxRecDepth 20000 in
set_option maxHeartbeats 4000000 in
theorem get_c {w0 : World}  {v_g : Value} {lo_g hi_g : Nat} {g : List GN} (n : Int) (h_g : Gr 0 w0 lo_g hi_g v_g g) (hhi_g : hi_g ≤ w0.heap.size) (h_n : I64 n) (hgl : g.length ≤ 1000000) :
    Calls Try.prog 78 #[v_g, .int .i64 n] w0 (Ret fun rv w1 => (∃ (fb : Bool) (ve : Value), rv = .agg #[.bool fb, ve] ∧ fb = (nodeAt g n).1 ∧ Sl encE w1 (Iv lo_g hi_g) ve (nodeAt g n).2) ∧ Ext w0 w1) := by
  have hE0 : Ext w0 w0 := Mod.refl _ _
  refine calls_enter Try.func78 rfl Try.ntmps78 rfl ?_
  refine r_seq ?_
  refine r_region ?_
  refine OL.act rfl rfl (AW.alloc ti72 ?_)
  intro w1 b1 hm1 hb1 hz1 hk1
  have f1 := h_g.ext hm1
  have hE1 := hE0.ext hm1
  have hs1 := hm1.size
  refine OL.nil ?_
  refine r_seq ?_
  refine r_seq ?_
  refine r_region ?_
  refine OL.q (Q1.move rfl) rfl rfl ?_
  refine OL.qb (Q1.lt rfl rfl) rfl rfl ?_
  intro b2 hb2
  refine OL.q (Q1.move rfl) rfl rfl ?_
  cases b2 with
  | true =>
    replace hb2 := of_decide_eq_true hb2.symm
    refine OL.sk rfl rfl ?_
    refine OL.sk rfl rfl ?_
    refine OL.sk rfl rfl ?_
    refine OL.sk rfl rfl ?_
    refine OL.q (Q1.pick_t rfl rfl) rfl rfl ?_
    refine OL.nil ?_
    refine r_cond_t rfl ?_
    refine r_seq ?_
    refine r_region ?_
    refine OL.q (Q1.build (vs := #[]) (v := .agg #[.bool false, .slice none 0 0]) rfl (fun _ => by kernel_rfl)) rfl rfl ?_
    refine OL.act rfl rfl (AW.store ti72 rfl rfl rfl rfl rfl hk1 (Nat.le_of_ble_eq_true rfl) ?_)
    intro w2 hm2 hz2 hk2
    replace hk2 : Bk w2 b1 [.bool false, .slice none 0 0] 72 := hk2
    have f2 := f1.keepG hm2 (by omega)
    have hE2 := Ext.thenG hE1 hm2 (by omega)
    have hs2 := hm2.size
    refine OL.nil ?_
    refine r_retC1 Try.func78 rfl rfl ti72 hk2.row rfl ?_
    exact Ret.mk ⟨⟨_, _, rfl, by rw [nodeAt_no (by omega)], by rw [nodeAt_no (by omega)]; exact Sl.nil⟩, hE2⟩
  | false =>
    replace hb2 := of_decide_eq_false hb2.symm
    refine OL.q (Q1.move rfl) rfl rfl ?_
    refine OL.q (Q1.move rfl) rfl rfl ?_
    refine OL.act rfl rfl (AW.callF cl33 rfl (nodes_c (w0 := w1)   f1 (by omega)) ?_)
    rintro _ w2 ⟨rfl, hm2⟩
    have f2 := f1.ext hm2
    have f3 := hk1.ext hm2
    have hE2 := hE1.ext hm2
    have hs2 := hm2.size
    refine OL.qb (Q1.ge rfl rfl) rfl rfl ?_
    intro b3 hb3
    refine OL.q (Q1.pick_f rfl rfl) rfl rfl ?_
    refine OL.nil ?_
    cases b3 with
    | true =>
      replace hb3 := of_decide_eq_true hb3.symm
      refine r_cond_t rfl ?_
      refine r_seq ?_
      refine r_region ?_
      refine OL.q (Q1.build (vs := #[]) (v := .agg #[.bool false, .slice none 0 0]) rfl (fun _ => by kernel_rfl)) rfl rfl ?_
      refine OL.act rfl rfl (AW.store ti72 rfl rfl rfl rfl rfl f3 (Nat.le_of_ble_eq_true rfl) ?_)
      intro w3 hm3 hz2 hk2
      replace hk2 : Bk w3 b1 [.bool false, .slice none 0 0] 72 := hk2
      have f4 := f2.keepG hm3 (by omega)
      have hE3 := Ext.thenG hE2 hm3 (by omega)
      have hs3 := hm3.size
      refine OL.nil ?_
      refine r_retC1 Try.func78 rfl rfl ti72 hk2.row rfl ?_
      exact Ret.mk ⟨⟨_, _, rfl, by rw [nodeAt_no (by omega)], by rw [nodeAt_no (by omega)]; exact Sl.nil⟩, hE3⟩
    | false =>
      replace hb3 := of_decide_eq_false hb3.symm
      refine r_cond_f rfl ?_
      refine r_skip ?_
      refine r_seq ?_
      refine r_region ?_
      refine OL.q (Q1.move rfl) rfl rfl ?_
      have hgr1 := f2
      obtain ⟨b4, vn1, nds1, hv1, hN1, hrw1, hsl1, hrel1⟩ := Gr.pos f2 (by omega)
      subst hv1
      have hnl1 := (All2.get hrel1).1
      refine OL.q (Q1.nilCheckP rfl) rfl rfl ?_
      refine OL.q (Q1.fieldAddr fl66_0 rfl) rfl rfl ?_
      refine OL.q (Q1.load1 ti64 rfl (fun _ e => e ▸ (hrw1.cell 0 _ rfl))) rfl rfl ?_
      refine OL.q (Q1.move rfl) rfl rfl ?_
      obtain ⟨x1, b5, o1, hx1, hr1, hl1, hu1, hw1⟩ := Sl.at' (P := Try.prog) hsl1 Try.underlying64 ti72 encN_len (k := .i64) (n := n) ((n).toNat) (by omega) (by first | assumption | omega)
      refine OL.q (Q1.indexAddr rfl rfl hr1) rfl rfl ?_
      refine OL.q (Q1.loadN ti72 rfl (fun _ e => e ▸ hw1) rfl) rfl rfl ?_
      obtain ⟨gn1, hn1, hf1, hs_1⟩ := NRel.at hrel1 hx1
      refine OL.act rfl rfl (AW.store ti72 rfl rfl rfl rfl rfl f3 (Nat.le_of_ble_eq_true rfl) ?_)
      intro w3 hm3 hz2 hk2
      replace hk2 : Bk w3 b1 [.bool x1.fin, x1.e.val] 72 := hk2
      have f4 := hgr1.keepG hm3 (by omega)
      have f5 := hrel1.keepG hm3 (by omega)
      have f6 := hsl1.keepG hm3 (by omega)
      have f7 := hrw1.keepG hm3 (by omega)
      have f8 := hs_1.keepG hm3 (by omega)
      have hE3 := Ext.thenG hE2 hm3 (by omega)
      have hs3 := hm3.size
      refine OL.nil ?_
      refine r_retC1 Try.func78 rfl rfl ti72 hk2.row rfl ?_
      have hna := nodeAt_yes (by omega) hn1
      exact Ret.mk ⟨⟨_, _, rfl, by rw [hna]; exact hf1, by rw [hna]; exact f8⟩, hE3⟩
set_option maxRecDepth 20000 in
set_option maxHeartbeats 4000000 in
theorem final_c {w0 : World}  {v_g : Value} {lo_g hi_g : Nat} {g : List GN} (n : Int) (h_g : Gr 0 w0 lo_g hi_g v_g g) (hhi_g : hi_g ≤ w0.heap.size) (h_n : I64 n) (hgl : g.length ≤ 1000000) :
    Calls Try.prog 56 #[v_g, .int .i64 n] w0 (Ret fun rv w1 => (∃ rb : Bool, rb = ((nodeAt g n).1) ∧ rv = .bool rb) ∧ Ext w0 w1) := by
  have hE0 : Ext w0 w0 := Mod.refl _ _
  refine calls_enter Try.func56 rfl Try.ntmps56 rfl ?_
  refine r_seq ?_
  refine r_region ?_
  refine OL.q (Q1.assign rfl) rfl rfl ?_
  refine OL.nil ?_
  refine r_seq ?_
  refine r_region ?_
  refine OL.q (Q1.move rfl) rfl rfl ?_
  refine OL.q (Q1.move rfl) rfl rfl ?_
  refine OL.act rfl rfl (AW.callF cl78 rfl (get_c (w0 := w0) (g := g) (n) h_g (by omega) (by first | omega | assumption) (by first | assumption | omega)) ?_)
  rintro _ w1 ⟨⟨fb1, ve1, rfl, hfb1, hs_1⟩, hm1⟩
  obtain ⟨ad1, cp1, hv1⟩ := hs_1.shape
  subst hv1
  have f1 := h_g.ext hm1
  have hE1 := hE0.ext hm1
  have hs1 := hm1.size
  have hle_1 := hs_1.le
  refine OL.q (Q1.field (v := (.bool fb1 : Value)) rfl (fun _ => by kernel_rfl)) rfl rfl ?_
  refine OL.q (Q1.assign rfl) rfl rfl ?_
  refine OL.nil ?_
  refine r_ret1 Try.func56 rfl rfl ?_
  exact Ret.mk ⟨⟨_, (by first | assumption | exact hfb1 | (exfalso; omega)), rfl⟩, hE1⟩
set_option maxRecDepth 20000 in
set_option maxHeartbeats 4000000 in
theorem edges_c {w0 : World}  {v_g : Value} {lo_g hi_g : Nat} {g : List GN} (n : Int) (h_g : Gr 0 w0 lo_g hi_g v_g g) (hhi_g : hi_g ≤ w0.heap.size) (h_n : I64 n) (hgl : g.length ≤ 1000000) (hel : ∀ x ∈ g, x.2.length ≤ 1000000) :
    Calls Try.prog 57 #[v_g, .int .i64 n] w0 (Ret fun rv w1 => (∃ gr, Acc encE 91 2 w1 gr rv ((nodeAt g n).2) ∧ (gr = 0 ∨ w0.heap.size < gr)) ∧ Ext w0 w1) := by
  have hE0 : Ext w0 w0 := Mod.refl _ _
  refine calls_enter Try.func57 rfl Try.ntmps57 rfl ?_
  refine r_seq ?_
  refine r_region ?_
  refine OL.q (Q1.assign rfl) rfl rfl ?_
  refine OL.nil ?_
  refine r_seq ?_
  refine r_region ?_
  refine OL.q (Q1.move rfl) rfl rfl ?_
  refine OL.q (Q1.move rfl) rfl rfl ?_
  refine OL.act rfl rfl (AW.callF cl78 rfl (get_c (w0 := w0) (g := g) (n) h_g (by omega) (by first | omega | assumption) (by first | assumption | omega)) ?_)
  rintro _ w1 ⟨⟨fb1, ve1, rfl, hfb1, hs_1⟩, hm1⟩
  obtain ⟨ad1, cp1, hv1⟩ := hs_1.shape
  subst hv1
  have f1 := h_g.ext hm1
  have hE1 := hE0.ext hm1
  have hs1 := hm1.size
  have hle_1 := hs_1.le
  refine OL.q (Q1.field (v := (.slice ad1 (nodeAt g n).2.length cp1)) rfl (fun _ => by kernel_rfl)) rfl rfl ?_
  have hnl := nodeAt_len hel n
  refine OL.act rfl rfl (AW.callF cl79 rfl (cloneE_c (w0 := w1) (s := (nodeAt g n).2)  ((hs_1).iv (Nat.zero_le _) (by omega)) (by first | assumption | omega)) ?_)
  rintro v1 w2 ⟨⟨gr1, h1, hg1⟩, hm2⟩
  have f2 := f1.ext hm2
  have f3 := hs_1.ext hm2
  have hE2 := hE1.ext hm2
  have hs2 := hm2.size
  have hle_2 := h1.le
  have hlt_1 := h1.lt
  refine OL.q (Q1.assign rfl) rfl rfl ?_
  refine OL.nil ?_
  refine r_ret1 Try.func57 rfl rfl ?_
  exact Ret.mk ⟨⟨_, Acc.cast h1 (by rfl), by omega⟩, hE2⟩
end Go.Proofs
