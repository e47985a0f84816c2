/-
  Walks through package graph: what is asked of a node.
-/
import Derived.Test.YtpdmkdhnppbllaaWText
import Derived.Test.YtpdmkdhnppbllaaMGraph
set_option linter.unusedVariables false
set_option linter.unusedSimpArgs false
namespace Go.Proofs
open Go.Ik Go.Ml
set_option maxRecDepth 20000 in
set_option maxHeartbeats 4000000 in
theorem trunes_c {w0 : World}  (s : Str) (hs : s.length ≤ 1000000) :
    Calls Try.prog 26 #[strV s] w0 (Ret fun rv w1 => ∃ u0 u1, rv = .tuple #[u0, u1] ∧ Sl encRn w1 (Iv w0.heap.size w1.heap.size) u0 (Ml.runesM s) ∧ (∃ rb : Bool, rb = (Ml.fineT s) ∧ u1 = .bool rb) ∧ Ext w0 w1) := by
  have hE0 : Ext w0 w0 := Mod.refl _ _
  refine calls_enter Try.func26 rfl Try.ntmps26 rfl ?_
  refine r_seq ?_
  refine r_region ?_
  refine OL.q (Q1.assign rfl) rfl rfl ?_
  refine OL.q (Q1.assign rfl) rfl rfl ?_
  refine OL.nil ?_
  refine r_seq ?_
  refine r_region ?_
  refine OL.q (Q1.assign rfl) rfl rfl ?_
  refine OL.nil ?_
  refine r_seq ?_
  refine r_seq ?_
  refine r_region ?_
  refine OL.q (Q1.move rfl) rfl rfl ?_
  refine OL.act rfl rfl (AW.rangeS Try.underlying9 rfl ?_)
  intro w1 b1 hm1 hb1 hz1 hk1
  have hE1 := hE0.ext hm1
  have hs1 := hm1.size
  refine OL.nil ?_
  refine r_block ?_
  refine r_loop (I := fun m E W => ∃ (v_l : Value) (g_l : Nat) (l : List Int) (p : Nat), E = [(4, v_l), (8, ptr b1 0)] ∧ m = s.length - p ∧ Ext w0 W ∧ w1.heap.size ≤ W.heap.size ∧ Acc encRn 21 1 W g_l v_l l ∧ (g_l = 0 ∨ w0.heap.size < g_l) ∧ It W b1 s p ∧ b1 + 1 ≠ g_l ∧ (Ml.RunInv s p l)) ?_ ?_
  · refine ⟨_, _, ⟨(.slice none 0 0 : Value), (0 : Nat), ([] : List Int), (0 : Nat), rfl, rfl, hE1, Nat.le_refl _, Acc.nil, (by omega), hk1, (by omega), (by exact Ml.RunInv.start s)⟩, ⟨rfl, rfl, trivial⟩⟩
  · rintro _ _ w2 ⟨v_l, g_l, l, p, rfl, rfl, hE2, hs2, ha1, hg1, f1, hn1, hr⟩ ih1
    have hll := hr.len
    have hle := hr.pos
    refine r_seq ?_
    refine r_region ?_
    refine OL.act rfl rfl (AW.nextS rfl f1 ?_ ?_)
    · intro he1
      refine OL.q (Q1.extract rfl rfl) rfl rfl ?_
      refine OL.nil ?_
      refine r_seq ?_
      refine r_cond_f rfl ?_
      refine r_exit rfl ?_
      refine r_seq ?_
      refine r_region ?_
      refine OL.q (Q1.move rfl) rfl rfl ?_
      refine OL.q (Q1.assign rfl) rfl rfl ?_
      refine OL.q (Q1.assign rfl) rfl rfl ?_
      refine OL.nil ?_
      refine r_ret2 Try.func26 rfl rfl rfl ?_
      exact Ret.mk ⟨_, _, rfl, (Sl.cast (ha1.fresh (by omega)) (by first | (with_reducible exact Ml.runesM_no (hr.odd (by assumption) (by assumption))) | (with_reducible exact hr.odd (by assumption) (by assumption)) | (with_reducible exact (hr.done (by assumption)).1.trans (Ml.runesM_yes (hr.done (by assumption)).2)) | (with_reducible exact (hr.done (by assumption)).2) | (exfalso; omega))), ⟨_, (by first | (with_reducible exact Ml.runesM_no (hr.odd (by assumption) (by assumption))) | (with_reducible exact hr.odd (by assumption) (by assumption)) | (with_reducible exact (hr.done (by assumption)).1.trans (Ml.runesM_yes (hr.done (by assumption)).2)) | (with_reducible exact (hr.done (by assumption)).2) | (exfalso; omega)), rfl⟩, hE2⟩
    · intro w3 he1 hm2 hz2 hk2
      have hl1 := ha1.lt
      have f2 := ha1.keepG hm2 (by omega)
      have hE3 := Ext.thenG hE2 hm2 (by omega)
      have hs3 := hm2.size
      refine OL.q (Q1.extract rfl rfl) rfl rfl ?_
      refine OL.nil ?_
      refine r_seq ?_
      refine r_cond_t rfl ?_
      refine r_skip ?_
      refine r_block ?_
      refine r_seq ?_
      refine r_region ?_
      refine OL.q (Q1.extract rfl rfl) rfl rfl ?_
      refine OL.q (Q1.assign rfl) rfl rfl ?_
      refine OL.nil ?_
      refine r_seq ?_
      refine r_seq ?_
      refine r_region ?_
      refine OL.q (Q1.move rfl) rfl rfl ?_
      refine OL.qb (Q1.eq rfl rfl) rfl rfl ?_
      intro b2 hb2
      refine OL.nil ?_
      cases b2 with
      | true =>
        replace hb2 := eq_of_beq hb2.symm
        refine r_cond_t rfl ?_
        refine r_seq ?_
        refine r_region ?_
        refine OL.q (Q1.assign rfl) rfl rfl ?_
        refine OL.q (Q1.assign rfl) rfl rfl ?_
        refine OL.nil ?_
        refine r_ret2 Try.func26 rfl rfl rfl ?_
        exact Ret.mk ⟨_, _, rfl, (Sl.cast Sl.nil (by first | (with_reducible exact Ml.runesM_no (hr.odd (by assumption) (by assumption))) | (with_reducible exact hr.odd (by assumption) (by assumption)) | (with_reducible exact (hr.done (by assumption)).1.trans (Ml.runesM_yes (hr.done (by assumption)).2)) | (with_reducible exact (hr.done (by assumption)).2) | (exfalso; omega))), ⟨_, (by first | (with_reducible exact Ml.runesM_no (hr.odd (by assumption) (by assumption))) | (with_reducible exact hr.odd (by assumption) (by assumption)) | (with_reducible exact (hr.done (by assumption)).1.trans (Ml.runesM_yes (hr.done (by assumption)).2)) | (with_reducible exact (hr.done (by assumption)).2) | (exfalso; omega)), rfl⟩, hE3⟩
      | false =>
        replace hb2 := ne_of_beq_false hb2.symm
        refine r_cond_f rfl ?_
        refine r_skip ?_
        refine r_region ?_
        refine OL.q (Q1.move rfl) rfl rfl ?_
        refine OL.q (Q1.move rfl) rfl rfl ?_
        refine OL.act rfl rfl (AW.buildSlice [(.int .i32 (((dec (s.drop p)).1 : Int)) : Value)] Try.underlying45 ti21 rfl rfl rfl (by decide) ?_)
        intro w4 b3 hm3 hb3 hz3 hk3
        have hl2 := f2.lt
        have f3 := f2.ext hm3
        have f4 := hk2.ext hm3
        have hE4 := hE3.ext hm3
        have hs4 := hm3.size
        have hl3 := Sl.of_blk (enc := encRn) hk3 ([((dec (s.drop p)).1 : Int)] : List Int) 1 rfl rfl (by unfold maxLen; omega)
        have hl4 := f3.lt
        refine OL.act rfl rfl (AW.append f3 Try.underlying45 ti21 rfl encRn_len encRn_one rfl rfl (hl3) (by first | omega | (simp only [List.length_append, List.length_cons, List.length_nil]; omega) | (simp; omega)) (by unfold maxLen; first | omega | (simp only [List.length_append, List.length_cons, List.length_nil]; omega) | (simp; omega)) ?_)
        intro v1 g1 w5 ha2 hm4 hg2 hz4
        have hl5 := f3.lt
        have f5 := f4.keepG hm4 (by omega)
        have f6 := hl3.keepG hm4 (by omega)
        have hE5 := Ext.thenG hE4 hm4 (by omega)
        have hs5 := hm4.size
        refine OL.q (Q1.assign rfl) rfl rfl ?_
        refine OL.nil ?_
        refine r_inBlock ?_
        exact (ih1 _ _ _ ⟨(v1 : Value), (g1 : Nat), ((l ++ [((dec (s.drop p)).1 : Int)]) : List Int), ((p + (dec (s.drop p)).2) : Nat), rfl, rfl, hE5, (by omega), ha2, (by omega), f5, (by omega), (by first | exact hr.step (by assumption) (by assumption) | (exfalso; omega))⟩ (by have := Ml.dec_lt (by assumption : List.drop p s ≠ []); omega)).sub ⟨rfl, rfl, trivial⟩
set_option maxRecDepth 20000 in
set_option maxHeartbeats 4000000 in
theorem first_c {w0 : World}  (s : Str) (hs : s.length ≤ 1000000) (hne : s ≠ []) :
    Calls Try.prog 55 #[strV s] w0 (Ret fun rv w1 => ∃ u0 u1, rv = .tuple #[u0, u1] ∧ u0 = .int .i32 ((Ml.hdN s : Int)) ∧ u1 = .int .i64 (((Ml.wdN s : Nat) : Int)) ∧ Ext w0 w1) := by
  have hE0 : Ext w0 w0 := Mod.refl _ _
  refine calls_enter Try.func55 rfl Try.ntmps55 rfl ?_
  refine r_seq ?_
  refine r_region ?_
  refine OL.q (Q1.assign rfl) rfl rfl ?_
  refine OL.q (Q1.assign rfl) rfl rfl ?_
  refine OL.nil ?_
  refine r_seq ?_
  refine r_region ?_
  refine OL.q (Q1.assign rfl) rfl rfl ?_
  refine OL.nil ?_
  refine r_seq ?_
  refine r_seq ?_
  refine r_region ?_
  refine OL.q (Q1.move rfl) rfl rfl ?_
  refine OL.act rfl rfl (AW.rangeS Try.underlying9 rfl ?_)
  intro w1 b1 hm1 hb1 hz1 hk1
  have hE1 := hE0.ext hm1
  have hs1 := hm1.size
  refine OL.nil ?_
  refine r_block ?_
  refine r_loop (I := fun m E W => ∃ (hd : Int) (p : Nat), E = [(0, strV s), (4, .int .i32 hd), (8, ptr b1 0)] ∧ m = s.length - p ∧ Ext w0 W ∧ w1.heap.size ≤ W.heap.size ∧ It W b1 s p ∧ (Ml.FirstInv s p hd) ∧ (0 ≤ hd ∧ hd ≤ 1114111)) ?_ ?_
  · refine ⟨_, _, ⟨(0 : Int), (0 : Nat), rfl, rfl, hE1, Nat.le_refl _, hk1, (by exact .inl ⟨rfl, rfl⟩), (by omega)⟩, ⟨rfl, rfl, rfl, trivial⟩⟩
  · rintro _ _ w2 ⟨hd, p, rfl, rfl, hE2, hs2, f1, hi, hr32⟩ ih1
    refine r_seq ?_
    refine r_region ?_
    refine OL.act rfl rfl (AW.nextS rfl f1 ?_ ?_)
    · intro he1
      refine OL.q (Q1.extract rfl rfl) rfl rfl ?_
      refine OL.nil ?_
      refine r_seq ?_
      refine r_cond_f rfl ?_
      refine r_exit rfl ?_
      refine r_seq ?_
      refine r_region ?_
      refine OL.q (Q1.move rfl) rfl rfl ?_
      refine OL.q (Q1.move rfl) rfl rfl ?_
      refine OL.q (Q1.lenS Try.underlying9 rfl) rfl rfl ?_
      refine OL.q (Q1.assign rfl) rfl rfl ?_
      refine OL.q (Q1.assign rfl) rfl rfl ?_
      refine OL.nil ?_
      refine r_ret2 Try.func55 rfl rfl rfl ?_
      exact Ret.mk ⟨_, _, rfl, (congrArg (Value.int .i32) (by first | (with_reducible exact (hi.ret (by omega)).1) | (with_reducible exact (hi.ret (by omega)).2) | (with_reducible exact (hi.fin hne (by assumption)).1) | (with_reducible exact (hi.fin hne (by assumption)).2) | (exfalso; omega))), (congrArg (Value.int .i64) (by first | (with_reducible exact (hi.ret (by omega)).1) | (with_reducible exact (hi.ret (by omega)).2) | (with_reducible exact (hi.fin hne (by assumption)).1) | (with_reducible exact (hi.fin hne (by assumption)).2) | (exfalso; omega))), hE2⟩
    · intro w3 he1 hm2 hz2 hk2
      have hE3 := Ext.thenG hE2 hm2 (by omega)
      have hs3 := hm2.size
      refine OL.q (Q1.extract rfl rfl) rfl rfl ?_
      refine OL.nil ?_
      refine r_seq ?_
      refine r_cond_t rfl ?_
      refine r_skip ?_
      refine r_block ?_
      refine r_seq ?_
      refine r_region ?_
      refine OL.q (Q1.extract rfl rfl) rfl rfl ?_
      refine OL.q (Q1.extract rfl rfl) rfl rfl ?_
      refine OL.q (Q1.assign rfl) rfl rfl ?_
      refine OL.q (Q1.assign rfl) rfl rfl ?_
      refine OL.nil ?_
      refine r_seq ?_
      refine r_seq ?_
      refine r_region ?_
      refine OL.q (Q1.move rfl) rfl rfl ?_
      refine OL.qb (Q1.gt rfl rfl) rfl rfl ?_
      intro b2 hb2
      refine OL.nil ?_
      cases b2 with
      | true =>
        replace hb2 := of_decide_eq_true hb2.symm
        refine r_cond_t rfl ?_
        refine r_seq ?_
        refine r_region ?_
        refine OL.q (Q1.move rfl) rfl rfl ?_
        refine OL.q (Q1.move rfl) rfl rfl ?_
        refine OL.q (Q1.assign rfl) rfl rfl ?_
        refine OL.q (Q1.assign rfl) rfl rfl ?_
        refine OL.nil ?_
        refine r_ret2 Try.func55 rfl rfl rfl ?_
        exact Ret.mk ⟨_, _, rfl, (congrArg (Value.int .i32) (by first | (with_reducible exact (hi.ret (by omega)).1) | (with_reducible exact (hi.ret (by omega)).2) | (with_reducible exact (hi.fin hne (by assumption)).1) | (with_reducible exact (hi.fin hne (by assumption)).2) | (exfalso; omega))), (congrArg (Value.int .i64) (by first | (with_reducible exact (hi.ret (by omega)).1) | (with_reducible exact (hi.ret (by omega)).2) | (with_reducible exact (hi.fin hne (by assumption)).1) | (with_reducible exact (hi.fin hne (by assumption)).2) | (exfalso; omega))), hE3⟩
      | false =>
        replace hb2 := of_decide_eq_false hb2.symm
        refine r_cond_f rfl ?_
        refine r_skip ?_
        refine r_region ?_
        refine OL.q (Q1.move rfl) rfl rfl ?_
        refine OL.q (Q1.assign rfl) rfl rfl ?_
        refine OL.nil ?_
        refine r_inBlock ?_
        exact (ih1 _ _ _ ⟨(((dec (s.drop p)).1 : Int) : Int), ((p + (dec (s.drop p)).2) : Nat), rfl, rfl, hE3, (by omega), hk2, (by first | exact Ml.FirstInv.next hi (by assumption) (by omega) | (exfalso; omega)), (by first | have := dec_rune (s.drop p); omega | (exfalso; omega))⟩ (by have := Ml.dec_lt (by assumption : List.drop p s ≠ []); omega)).sub ⟨rfl, rfl, rfl, trivial⟩
set_option maxRecDepth 20000 in
set_option maxHeartbeats 4000000 in
theorem slhp_c {w0 : World}  (s : Str) (p : Str)  :
    Calls Try.prog 67 #[strV s, strV p] w0 (Ret fun rv w1 => (∃ rb : Bool, rb = (p.isPrefixOf s) ∧ rv = .bool rb) ∧ Ext w0 w1) := by
  have hE0 : Ext w0 w0 := Mod.refl _ _
  refine calls_enter Try.func67 rfl Try.ntmps67 rfl ?_
  refine r_seq ?_
  refine r_region ?_
  refine OL.q (Q1.assign rfl) rfl rfl ?_
  refine OL.nil ?_
  refine r_seq ?_
  refine r_region ?_
  refine OL.q (Q1.move rfl) rfl rfl ?_
  refine OL.q (Q1.lenS Try.underlying9 rfl) rfl rfl ?_
  refine OL.q (Q1.move rfl) rfl rfl ?_
  refine OL.q (Q1.lenS Try.underlying9 rfl) rfl rfl ?_
  refine OL.qb (Q1.ge rfl rfl) rfl rfl ?_
  intro b1 hb1
  refine OL.q (Q1.move rfl) rfl rfl ?_
  cases b1 with
  | true =>
    replace hb1 := of_decide_eq_true hb1.symm
    refine OL.q (Q1.move rfl) rfl rfl ?_
    refine OL.q (Q1.move rfl) rfl rfl ?_
    refine OL.q (Q1.lenS Try.underlying9 rfl) rfl rfl ?_
    refine OL.q (Q1.sliceS_hi (p.length) Try.underlying9 rfl rfl (by omega) (by first | assumption | omega)) rfl rfl ?_
    refine OL.q (Q1.move rfl) rfl rfl ?_
    refine OL.qb (Q1.eqS rfl rfl) rfl rfl ?_
    intro b2 hb2
    refine OL.q (Q1.pick_t rfl rfl) rfl rfl ?_
    refine OL.q (Q1.assign rfl) rfl rfl ?_
    refine OL.nil ?_
    refine r_ret1 Try.func67 rfl rfl ?_
    exact Ret.mk ⟨⟨_, (by first | exact Ml.hp_yes (by omega) (by assumption) | exact Ml.hp_no (by omega) | (exfalso; omega)), rfl⟩, hE0⟩
  | false =>
    replace hb1 := of_decide_eq_false hb1.symm
    refine OL.sk rfl rfl ?_
    refine OL.sk rfl rfl ?_
    refine OL.sk rfl rfl ?_
    refine OL.sk rfl rfl ?_
    refine OL.sk rfl rfl ?_
    refine OL.sk rfl rfl ?_
    refine OL.q (Q1.pick_f rfl rfl) rfl rfl ?_
    refine OL.q (Q1.assign rfl) rfl rfl ?_
    refine OL.nil ?_
    refine r_ret1 Try.func67 rfl rfl ?_
    exact Ret.mk ⟨⟨_, (by first | exact Ml.hp_yes (by omega) (by assumption) | exact Ml.hp_no (by omega) | (exfalso; omega)), rfl⟩, hE0⟩
set_option maxRecDepth 20000 in
set_option maxHeartbeats 4000000 in
theorem shp_c {w0 : World}  (s : Str) (p : Str)  :
    Calls Try.prog 56 #[strV s, strV p] w0 (Ret fun rv w1 => (∃ rb : Bool, rb = (p.isPrefixOf s) ∧ rv = .bool rb) ∧ Ext w0 w1) := by
  have hE0 : Ext w0 w0 := Mod.refl _ _
  refine calls_enter Try.func56 rfl Try.ntmps56 rfl ?_
  refine r_seq ?_
  refine r_region ?_
  refine OL.q (Q1.assign rfl) rfl rfl ?_
  refine OL.nil ?_
  refine r_seq ?_
  refine r_region ?_
  refine OL.q (Q1.move rfl) rfl rfl ?_
  refine OL.q (Q1.move rfl) rfl rfl ?_
  refine OL.act rfl rfl (AW.callF cl67 rfl (slhp_c (w0 := w0)  s p ) ?_)
  rintro _ w1 ⟨⟨b1, hb1, rfl⟩, hm1⟩
  have hE1 := hE0.ext hm1
  have hs1 := hm1.size
  refine OL.q (Q1.assign rfl) rfl rfl ?_
  refine OL.nil ?_
  refine r_ret1 Try.func56 rfl rfl ?_
  exact Ret.mk ⟨⟨_, (by first | assumption | (exfalso; omega)), rfl⟩, hE1⟩
set_option maxRecDepth 20000 in
set_option maxHeartbeats 4000000 in
theorem cloneE_c {w0 : World}  {v_s : Value} {s : List Ed} (h_s : Sl encE w0 (Iv 0 w0.heap.size) v_s s) (hln : s.length ≤ 1000000) :
    Calls Try.prog 43 #[v_s] w0 (Ret fun rv w1 => (∃ gr, Acc encE 49 2 w1 gr rv (s) ∧ (gr = 0 ∨ w0.heap.size < gr)) ∧ Ext w0 w1) := by
  have hE0 : Ext w0 w0 := Mod.refl _ _
  have hle1 := h_s.le
  refine calls_enter Try.func43 rfl Try.ntmps43 rfl ?_
  refine r_seq ?_
  refine r_region ?_
  refine OL.q (Q1.assign rfl) rfl rfl ?_
  refine OL.nil ?_
  refine r_seq ?_
  refine r_seq ?_
  refine r_region ?_
  refine OL.q (Q1.move rfl) rfl rfl ?_
  obtain ⟨ad1, cp1, hv1, hz1⟩ := Sl.isNil (h_s)
  subst hv1
  refine OL.qb (Q1.eqNilSl Try.underlying39 rfl rfl) rfl rfl ?_
  intro b1 hb1
  refine OL.nil ?_
  cases b1 with
  | true =>
    replace hb1 := hb1.symm
    replace hz1 := hz1 hb1
    refine r_cond_t rfl ?_
    refine r_seq ?_
    refine r_region ?_
    refine OL.q (Q1.assign rfl) rfl rfl ?_
    refine OL.nil ?_
    refine r_ret1 Try.func43 rfl rfl ?_
    exact Ret.mk ⟨⟨0, Acc.cast Acc.nil (by first | (symm; assumption) | simp | (exfalso; omega)), .inl rfl⟩, hE0⟩
  | false =>
    replace hb1 := hb1.symm
    refine r_cond_f rfl ?_
    refine r_skip ?_
    refine r_seq ?_
    refine r_region ?_
    refine OL.act rfl rfl (AW.buildSlice [] Try.underlying39 ti49 rfl rfl rfl (by decide) ?_)
    intro w1 b2 hm1 hb2 hz2 hk1
    have f1 := h_s.ext hm1
    have hE1 := hE0.ext hm1
    have hs1 := hm1.size
    have hl1 := Acc.of_blk (enc := encE) hk1 ([] : List Ed) 0 rfl encE_len rfl (by unfold maxLen; omega)
    refine OL.q (Q1.move rfl) rfl rfl ?_
    have hl2 := hl1.lt
    refine OL.act rfl rfl (AW.append hl1 Try.underlying39 ti49 rfl encE_len encE_one rfl rfl (f1) (by first | omega | (simp only [List.length_append, List.length_cons, List.length_nil]; omega) | (simp; omega)) (by unfold maxLen; first | omega | (simp only [List.length_append, List.length_cons, List.length_nil]; omega) | (simp; omega)) ?_)
    intro v1 g1 w2 ha1 hm2 hg1 hz3
    have hl3 := hl1.lt
    have f2 := f1.keepG hm2 (by omega)
    have hE2 := Ext.thenG hE1 hm2 (by omega)
    have hs2 := hm2.size
    refine OL.q (Q1.assign rfl) rfl rfl ?_
    refine OL.nil ?_
    refine r_ret1 Try.func43 rfl rfl ?_
    exact Ret.mk ⟨⟨_, Acc.cast ha1 (by first | (symm; assumption) | simp | (exfalso; omega)), by omega⟩, hE2⟩
set_option maxRecDepth 20000 in
set_option maxHeartbeats 4000000 in
theorem nodes_c {w0 : World}  {v_g : Value} {lo_g hi_g : Nat} {g : List GN} (h_g : Gr 0 w0 lo_g hi_g v_g g) (hhi_g : hi_g ≤ w0.heap.size) :
    Calls Try.prog 18 #[v_g] w0 (Ret fun rv w1 => rv = .int .i64 (((g.length : Nat) : Int)) ∧ Ext w0 w1) := by
  have hE0 : Ext w0 w0 := Mod.refl _ _
  refine calls_enter Try.func18 rfl Try.ntmps18 rfl ?_
  refine r_seq ?_
  refine r_region ?_
  refine OL.q (Q1.assign rfl) rfl rfl ?_
  refine OL.nil ?_
  refine r_seq ?_
  refine r_seq ?_
  refine r_region ?_
  refine OL.q (Q1.move rfl) rfl rfl ?_
  have hgr1 := h_g
  rcases h_g with ⟨hv1, hN1⟩ | ⟨b1, vn1, nds1, hv1, hN1, hrw1, hsl1, hrel1⟩
  · subst hv1
    try subst hN1
    refine OL.q (Q1.eqNil Try.underlying26 rfl rfl) rfl rfl ?_
    refine OL.nil ?_
    refine r_cond_t rfl ?_
    refine r_seq ?_
    refine r_region ?_
    refine OL.q (Q1.assign rfl) rfl rfl ?_
    refine OL.nil ?_
    refine r_ret1 Try.func18 rfl rfl ?_
    exact Ret.mk ⟨(congrArg (Value.int .i64) (by first | rfl | exact congrArg (fun n : Nat => (n : Int)) hrel1.get.1 | (exfalso; omega))), hE0⟩
  · subst hv1
    have hnl1 := (All2.get hrel1).1
    refine OL.q (Q1.eqNil Try.underlying26 rfl rfl) rfl rfl ?_
    refine OL.nil ?_
    refine r_cond_f rfl ?_
    refine r_skip ?_
    refine r_seq ?_
    refine r_region ?_
    refine OL.q (Q1.move rfl) rfl rfl ?_
    refine OL.q (Q1.nilCheckP rfl) rfl rfl ?_
    refine OL.q (Q1.fieldAddr fl67_0 rfl) rfl rfl ?_
    refine OL.q (Q1.load1 ti65 rfl (fun _ e => e ▸ (hrw1.cell 0 _ rfl))) rfl rfl ?_
    refine OL.q (Q1.lenSl Try.underlying65 (hsl1) rfl) rfl rfl ?_
    refine OL.q (Q1.assign rfl) rfl rfl ?_
    refine OL.nil ?_
    refine r_ret1 Try.func18 rfl rfl ?_
    exact Ret.mk ⟨(congrArg (Value.int .i64) (by first | rfl | exact congrArg (fun n : Nat => (n : Int)) hrel1.get.1 | (exfalso; omega))), hE0⟩
set_option maxRecDepth 20000 in
set_option maxHeartbeats 4000000 in
theorem get_c {w0 : World}  {v_g : Value} {lo_g hi_g : Nat} {g : List GN} (n : Int) (h_g : Gr 0 w0 lo_g hi_g v_g g) (hhi_g : hi_g ≤ w0.heap.size) (h_n : I64 n) (hgl : g.length ≤ 1000000) :
    Calls Try.prog 44 #[v_g, .int .i64 n] w0 (Ret fun rv w1 => (∃ (fb : Bool) (ve : Value), rv = .agg #[.bool fb, ve] ∧ fb = (nodeAt g n).1 ∧ Sl encE w1 (Iv lo_g hi_g) ve (nodeAt g n).2) ∧ Ext w0 w1) := by
  have hE0 : Ext w0 w0 := Mod.refl _ _
  refine calls_enter Try.func44 rfl Try.ntmps44 rfl ?_
  refine r_seq ?_
  refine r_region ?_
  refine OL.act rfl rfl (AW.alloc ti72 ?_)
  intro w1 b1 hm1 hb1 hz1 hk1
  have f1 := h_g.ext hm1
  have hE1 := hE0.ext hm1
  have hs1 := hm1.size
  refine OL.nil ?_
  refine r_seq ?_
  refine r_seq ?_
  refine r_region ?_
  refine OL.q (Q1.move rfl) rfl rfl ?_
  refine OL.qb (Q1.lt rfl rfl) rfl rfl ?_
  intro b2 hb2
  refine OL.q (Q1.move rfl) rfl rfl ?_
  cases b2 with
  | true =>
    replace hb2 := of_decide_eq_true hb2.symm
    refine OL.sk rfl rfl ?_
    refine OL.sk rfl rfl ?_
    refine OL.sk rfl rfl ?_
    refine OL.sk rfl rfl ?_
    refine OL.q (Q1.pick_t rfl rfl) rfl rfl ?_
    refine OL.nil ?_
    refine r_cond_t rfl ?_
    refine r_seq ?_
    refine r_region ?_
    refine OL.q (Q1.build (vs := #[]) (v := .agg #[.bool false, .slice none 0 0]) rfl (fun _ => by kernel_rfl)) rfl rfl ?_
    refine OL.act rfl rfl (AW.store ti72 rfl rfl rfl rfl rfl hk1 (Nat.le_of_ble_eq_true rfl) ?_)
    intro w2 hm2 hz2 hk2
    replace hk2 : Bk w2 b1 [.bool false, .slice none 0 0] 72 := hk2
    have f2 := f1.keepG hm2 (by omega)
    have hE2 := Ext.thenG hE1 hm2 (by omega)
    have hs2 := hm2.size
    refine OL.nil ?_
    refine r_retC1 Try.func44 rfl rfl ti72 hk2.row rfl ?_
    exact Ret.mk ⟨⟨_, _, rfl, by rw [nodeAt_no (by omega)], by rw [nodeAt_no (by omega)]; exact Sl.nil⟩, hE2⟩
  | false =>
    replace hb2 := of_decide_eq_false hb2.symm
    refine OL.q (Q1.move rfl) rfl rfl ?_
    refine OL.q (Q1.move rfl) rfl rfl ?_
    refine OL.act rfl rfl (AW.callF cl18 rfl (nodes_c (w0 := w1)   f1 (by omega)) ?_)
    rintro _ w2 ⟨rfl, hm2⟩
    have f2 := f1.ext hm2
    have f3 := hk1.ext hm2
    have hE2 := hE1.ext hm2
    have hs2 := hm2.size
    refine OL.qb (Q1.ge rfl rfl) rfl rfl ?_
    intro b3 hb3
    refine OL.q (Q1.pick_f rfl rfl) rfl rfl ?_
    refine OL.nil ?_
    cases b3 with
    | true =>
      replace hb3 := of_decide_eq_true hb3.symm
      refine r_cond_t rfl ?_
      refine r_seq ?_
      refine r_region ?_
      refine OL.q (Q1.build (vs := #[]) (v := .agg #[.bool false, .slice none 0 0]) rfl (fun _ => by kernel_rfl)) rfl rfl ?_
      refine OL.act rfl rfl (AW.store ti72 rfl rfl rfl rfl rfl f3 (Nat.le_of_ble_eq_true rfl) ?_)
      intro w3 hm3 hz2 hk2
      replace hk2 : Bk w3 b1 [.bool false, .slice none 0 0] 72 := hk2
      have f4 := f2.keepG hm3 (by omega)
      have hE3 := Ext.thenG hE2 hm3 (by omega)
      have hs3 := hm3.size
      refine OL.nil ?_
      refine r_retC1 Try.func44 rfl rfl ti72 hk2.row rfl ?_
      exact Ret.mk ⟨⟨_, _, rfl, by rw [nodeAt_no (by omega)], by rw [nodeAt_no (by omega)]; exact Sl.nil⟩, hE3⟩
    | false =>
      replace hb3 := of_decide_eq_false hb3.symm
      refine r_cond_f rfl ?_
      refine r_skip ?_
      refine r_seq ?_
      refine r_region ?_
      refine OL.q (Q1.move rfl) rfl rfl ?_
      have hgr1 := f2
      obtain ⟨b4, vn1, nds1, hv1, hN1, hrw1, hsl1, hrel1⟩ := Gr.pos f2 (by omega)
      subst hv1
      have hnl1 := (All2.get hrel1).1
      refine OL.q (Q1.nilCheckP rfl) rfl rfl ?_
      refine OL.q (Q1.fieldAddr fl67_0 rfl) rfl rfl ?_
      refine OL.q (Q1.load1 ti65 rfl (fun _ e => e ▸ (hrw1.cell 0 _ rfl))) rfl rfl ?_
      refine OL.q (Q1.move rfl) rfl rfl ?_
      obtain ⟨x1, b5, o1, hx1, hr1, hl1, hu1, hw1⟩ := Sl.at' (P := Try.prog) hsl1 Try.underlying65 ti72 encN_len (k := .i64) (n := n) ((n).toNat) (by omega) (by first | assumption | omega)
      refine OL.q (Q1.indexAddr rfl rfl hr1) rfl rfl ?_
      refine OL.q (Q1.loadN ti72 rfl (fun _ e => e ▸ hw1) rfl) rfl rfl ?_
      obtain ⟨gn1, hn1, hf1, hs_1⟩ := NRel.at hrel1 hx1
      refine OL.act rfl rfl (AW.store ti72 rfl rfl rfl rfl rfl f3 (Nat.le_of_ble_eq_true rfl) ?_)
      intro w3 hm3 hz2 hk2
      replace hk2 : Bk w3 b1 [.bool x1.fin, x1.e.val] 72 := hk2
      have f4 := hgr1.keepG hm3 (by omega)
      have f5 := hrel1.keepG hm3 (by omega)
      have f6 := hsl1.keepG hm3 (by omega)
      have f7 := hrw1.keepG hm3 (by omega)
      have f8 := hs_1.keepG hm3 (by omega)
      have hE3 := Ext.thenG hE2 hm3 (by omega)
      have hs3 := hm3.size
      refine OL.nil ?_
      refine r_retC1 Try.func44 rfl rfl ti72 hk2.row rfl ?_
      have hna := nodeAt_yes (by omega) hn1
      exact Ret.mk ⟨⟨_, _, rfl, by rw [hna]; exact hf1, by rw [hna]; exact f8⟩, hE3⟩
set_option maxRecDepth 20000 in
set_option maxHeartbeats 4000000 in
theorem final_c {w0 : World}  {v_g : Value} {lo_g hi_g : Nat} {g : List GN} (n : Int) (h_g : Gr 0 w0 lo_g hi_g v_g g) (hhi_g : hi_g ≤ w0.heap.size) (h_n : I64 n) (hgl : g.length ≤ 1000000) :
    Calls Try.prog 20 #[v_g, .int .i64 n] w0 (Ret fun rv w1 => (∃ rb : Bool, rb = ((nodeAt g n).1) ∧ rv = .bool rb) ∧ Ext w0 w1) := by
  have hE0 : Ext w0 w0 := Mod.refl _ _
  refine calls_enter Try.func20 rfl Try.ntmps20 rfl ?_
  refine r_seq ?_
  refine r_region ?_
  refine OL.q (Q1.assign rfl) rfl rfl ?_
  refine OL.nil ?_
  refine r_seq ?_
  refine r_region ?_
  refine OL.q (Q1.move rfl) rfl rfl ?_
  refine OL.q (Q1.move rfl) rfl rfl ?_
  refine OL.act rfl rfl (AW.callF cl44 rfl (get_c (w0 := w0) (g := g) (n) h_g (by omega) (by first | omega | assumption) (by first | assumption | omega)) ?_)
  rintro _ w1 ⟨⟨fb1, ve1, rfl, hfb1, hs_1⟩, hm1⟩
  obtain ⟨ad1, cp1, hv1⟩ := hs_1.shape
  subst hv1
  have f1 := h_g.ext hm1
  have hE1 := hE0.ext hm1
  have hs1 := hm1.size
  have hle_1 := hs_1.le
  refine OL.q (Q1.field (v := (.bool fb1 : Value)) rfl (fun _ => by kernel_rfl)) rfl rfl ?_
  refine OL.q (Q1.assign rfl) rfl rfl ?_
  refine OL.nil ?_
  refine r_ret1 Try.func20 rfl rfl ?_
  exact Ret.mk ⟨⟨_, (by first | assumption | exact hfb1 | (exfalso; omega)), rfl⟩, hE1⟩
set_option maxRecDepth 20000 in
set_option maxHeartbeats 4000000 in
theorem edges_c {w0 : World}  {v_g : Value} {lo_g hi_g : Nat} {g : List GN} (n : Int) (h_g : Gr 0 w0 lo_g hi_g v_g g) (hhi_g : hi_g ≤ w0.heap.size) (h_n : I64 n) (hgl : g.length ≤ 1000000) (hel : ∀ x ∈ g, x.2.length ≤ 1000000) :
    Calls Try.prog 19 #[v_g, .int .i64 n] w0 (Ret fun rv w1 => (∃ gr, Acc encE 49 2 w1 gr rv ((nodeAt g n).2) ∧ (gr = 0 ∨ w0.heap.size < gr)) ∧ Ext w0 w1) := by
  have hE0 : Ext w0 w0 := Mod.refl _ _
  refine calls_enter Try.func19 rfl Try.ntmps19 rfl ?_
  refine r_seq ?_
  refine r_region ?_
  refine OL.q (Q1.assign rfl) rfl rfl ?_
  refine OL.nil ?_
  refine r_seq ?_
  refine r_region ?_
  refine OL.q (Q1.move rfl) rfl rfl ?_
  refine OL.q (Q1.move rfl) rfl rfl ?_
  refine OL.act rfl rfl (AW.callF cl44 rfl (get_c (w0 := w0) (g := g) (n) h_g (by omega) (by first | omega | assumption) (by first | assumption | omega)) ?_)
  rintro _ w1 ⟨⟨fb1, ve1, rfl, hfb1, hs_1⟩, hm1⟩
  obtain ⟨ad1, cp1, hv1⟩ := hs_1.shape
  subst hv1
  have f1 := h_g.ext hm1
  have hE1 := hE0.ext hm1
  have hs1 := hm1.size
  have hle_1 := hs_1.le
  refine OL.q (Q1.field (v := (.slice ad1 (nodeAt g n).2.length cp1)) rfl (fun _ => by kernel_rfl)) rfl rfl ?_
  have hnl := nodeAt_len hel n
  refine OL.act rfl rfl (AW.callF cl43 rfl (cloneE_c (w0 := w1) (s := (nodeAt g n).2)  ((hs_1).iv (Nat.zero_le _) (by omega)) (by first | assumption | omega)) ?_)
  rintro v1 w2 ⟨⟨gr1, h1, hg1⟩, hm2⟩
  have f2 := f1.ext hm2
  have f3 := hs_1.ext hm2
  have hE2 := hE1.ext hm2
  have hs2 := hm2.size
  have hle_2 := h1.le
  have hlt_1 := h1.lt
  refine OL.q (Q1.assign rfl) rfl rfl ?_
  refine OL.nil ?_
  refine r_ret1 Try.func19 rfl rfl ?_
  exact Ret.mk ⟨⟨_, Acc.cast h1 (by rfl), by omega⟩, hE2⟩
set_option maxRecDepth 20000 in
set_option maxHeartbeats 4000000 in
theorem next_c {w0 : World}  {v_g : Value} {lo_g hi_g : Nat} {g : List GN} (n : Int) (r : Int) (h_g : Gr 0 w0 lo_g hi_g v_g g) (hhi_g : hi_g ≤ w0.heap.size) (h_n : I64 n) (h_r : -2147483648 ≤ r ∧ r ≤ 2147483647) (hgl : g.length ≤ 1000000) (hI : ∀ x ∈ g, ∀ e ∈ x.2, I64 e.to ∧ -2147483648 ≤ e.rune ∧ e.rune ≤ 2147483647) :
    Calls Try.prog 29 #[v_g, .int .i64 n, .int .i32 r] w0 (Ret fun rv w1 => ∃ u0 u1, rv = .tuple #[u0, u1] ∧ u0 = .int .i64 ((Ml.nextM (nodeAt g n).2 r).getD 0) ∧ (∃ rb : Bool, rb = ((Ml.nextM (nodeAt g n).2 r).isSome) ∧ u1 = .bool rb) ∧ Ext w0 w1) := by
  have hE0 : Ext w0 w0 := Mod.refl _ _
  refine calls_enter Try.func29 rfl Try.ntmps29 rfl ?_
  refine r_seq ?_
  refine r_region ?_
  refine OL.q (Q1.assign rfl) rfl rfl ?_
  refine OL.q (Q1.assign rfl) rfl rfl ?_
  refine OL.nil ?_
  refine r_seq ?_
  refine r_seq ?_
  refine r_region ?_
  refine OL.q (Q1.move rfl) rfl rfl ?_
  refine OL.q (Q1.move rfl) rfl rfl ?_
  refine OL.act rfl rfl (AW.callF cl44 rfl (get_c (w0 := w0) (g := g) (n) h_g (by omega) (by first | omega | assumption) (by first | assumption | omega)) ?_)
  rintro _ w1 ⟨⟨fb1, ve1, rfl, hfb1, hs_1⟩, hm1⟩
  obtain ⟨ad1, cp1, hv1⟩ := hs_1.shape
  subst hv1
  have f1 := h_g.ext hm1
  have hE1 := hE0.ext hm1
  have hs1 := hm1.size
  have hle_1 := hs_1.le
  refine OL.q (Q1.field (v := (.slice ad1 (nodeAt g n).2.length cp1)) rfl (fun _ => by kernel_rfl)) rfl rfl ?_
  refine OL.q (Q1.lenSl Try.underlying39 (hs_1) rfl) rfl rfl ?_
  refine OL.q (Q1.move rfl) rfl rfl ?_
  refine OL.nil ?_
  refine r_block ?_
  refine r_loop (I := fun m E W => ∃ (k : Nat), E = [(2, .int .i32 r), (13, (.slice ad1 (nodeAt g n).2.length cp1)), (14, .int .i64 (((((nodeAt g n).2).length : Nat) : Int))), (15, .int .i64 (((k : Nat) : Int)))] ∧ m = (nodeAt g n).2.length - k ∧ Ext w0 W ∧ w1.heap.size ≤ W.heap.size ∧ Sl encE W (Iv lo_g hi_g) ((.slice ad1 (nodeAt g n).2.length cp1)) ((nodeAt g n).2) ∧ (Ml.NextInv (nodeAt g n).2 r k)) ?_ ?_
  · refine ⟨_, _, ⟨(0 : Nat), rfl, rfl, hE1, Nat.le_refl _, hs_1, (by exact Ml.NextInv.start _ _)⟩, ⟨rfl, rfl, rfl, rfl, trivial⟩⟩
  · rintro _ _ w2 ⟨k, rfl, rfl, hE2, hs2, f2, hi⟩ ih1
    refine r_seq ?_
    refine r_region ?_
    refine OL.qb (Q1.lt rfl rfl) rfl rfl ?_
    intro b1 hb1
    refine OL.nil ?_
    refine r_seq ?_
    cases b1 with
    | true =>
      replace hb1 := of_decide_eq_true hb1.symm
      refine r_cond_t rfl ?_
      refine r_skip ?_
      refine r_seq ?_
      refine r_block ?_
      refine r_seq ?_
      refine r_region ?_
      obtain ⟨x1, b2, o1, hx1, hr1, hl1, hu1, hw1⟩ := Sl.at' (P := Try.prog) f2 Try.underlying39 ti49 encE_len (k := .i64) (n := ((k : Nat) : Int)) (k) (by omega) (by first | assumption | omega)
      refine OL.q (Q1.indexAddr rfl rfl hr1) rfl rfl ?_
      refine OL.q (Q1.loadN ti49 rfl (fun _ e => e ▸ hw1) rfl) rfl rfl ?_
      refine OL.act rfl rfl (AW.alloc ti49 ?_)
      intro w3 b3 hm2 hb2 hz1 hk1
      have f3 := f2.ext hm2
      have hE3 := hE2.ext hm2
      have hs3 := hm2.size
      refine OL.act rfl rfl (AW.store ti49 rfl rfl rfl rfl rfl hk1 (Nat.le_of_ble_eq_true rfl) ?_)
      intro w4 hm3 hz2 hk2
      replace hk2 : Bk w4 b3 [.int .i32 x1.rune, .int .i64 x1.to] 49 := hk2
      have f4 := f3.keepG hm3 (by omega)
      have hE4 := Ext.thenG hE3 hm3 (by omega)
      have hs4 := hm3.size
      refine OL.nil ?_
      refine r_seq ?_
      refine r_region ?_
      refine OL.q (Q1.fieldAddr fl49_0 rfl) rfl rfl ?_
      refine OL.q (Q1.load1 ti21 rfl (fun _ e => e ▸ (hk2.cell 0 _ rfl))) rfl rfl ?_
      refine OL.q (Q1.move rfl) rfl rfl ?_
      refine OL.qb (Q1.eq rfl rfl) rfl rfl ?_
      intro b4 hb3
      refine OL.nil ?_
      cases b4 with
      | true =>
        replace hb3 := eq_of_beq hb3.symm
        refine r_cond_t rfl ?_
        refine r_seq ?_
        refine r_region ?_
        refine OL.q (Q1.fieldAddr fl49_1 rfl) rfl rfl ?_
        refine OL.q (Q1.load1 ti3 rfl (fun _ e => e ▸ (hk2.cell 1 _ rfl))) rfl rfl ?_
        refine OL.q (Q1.assign rfl) rfl rfl ?_
        refine OL.q (Q1.assign rfl) rfl rfl ?_
        refine OL.nil ?_
        refine r_ret2 Try.func29 rfl rfl rfl ?_
        exact Ret.mk ⟨_, _, rfl, (congrArg (Value.int .i64) (by first | (with_reducible exact (hi.found hx1 (by omega)).1) | (with_reducible exact (hi.found hx1 (by omega)).2) | (with_reducible exact (hi.none (by omega)).1) | (with_reducible exact (hi.none (by omega)).2) | (exfalso; omega))), ⟨_, (by first | (with_reducible exact (hi.found hx1 (by omega)).1) | (with_reducible exact (hi.found hx1 (by omega)).2) | (with_reducible exact (hi.none (by omega)).1) | (with_reducible exact (hi.none (by omega)).2) | (exfalso; omega)), rfl⟩, hE4⟩
      | false =>
        replace hb3 := ne_of_beq_false hb3.symm
        refine r_cond_f rfl ?_
        refine r_skip ?_
        refine r_inBlock ?_
        refine r_region ?_
        refine OL.q (Q1.addI (((k + 1 : Nat) : Int)) rfl rfl (by omega)) rfl rfl ?_
        refine OL.q (Q1.move rfl) rfl rfl ?_
        refine OL.nil ?_
        exact (ih1 _ _ _ ⟨(k + 1 : Nat), rfl, rfl, hE4, (by omega), f4, (by first | exact hi.next hx1 (by omega) | (exfalso; omega))⟩ (by omega)).sub ⟨rfl, rfl, rfl, rfl, trivial⟩
    | false =>
      replace hb1 := of_decide_eq_false hb1.symm
      refine r_cond_f rfl ?_
      refine r_exit rfl ?_
      refine r_seq ?_
      refine r_region ?_
      refine OL.q (Q1.assign rfl) rfl rfl ?_
      refine OL.q (Q1.assign rfl) rfl rfl ?_
      refine OL.nil ?_
      refine r_ret2 Try.func29 rfl rfl rfl ?_
      exact Ret.mk ⟨_, _, rfl, (congrArg (Value.int .i64) (by first | (with_reducible exact (hi.found hx1 (by omega)).1) | (with_reducible exact (hi.found hx1 (by omega)).2) | (with_reducible exact (hi.none (by omega)).1) | (with_reducible exact (hi.none (by omega)).2) | (exfalso; omega))), ⟨_, (by first | (with_reducible exact (hi.found hx1 (by omega)).1) | (with_reducible exact (hi.found hx1 (by omega)).2) | (with_reducible exact (hi.none (by omega)).1) | (with_reducible exact (hi.none (by omega)).2) | (exfalso; omega)), rfl⟩, hE2⟩
end Go.Proofs
