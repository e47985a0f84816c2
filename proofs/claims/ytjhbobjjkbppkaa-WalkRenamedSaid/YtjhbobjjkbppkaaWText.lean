/-
  Walks through package text, and list.Good.
-/
import Derived.Test.YtjhbobjjkbppkaaFacts
set_option linter.unusedVariables false
set_option linter.unusedSimpArgs false
namespace Go.Proofs
open Go.Ik Go.Ml
set_option maxRecDepth 20000 in
set_option maxHeartbeats 4000000 in
theorem cmpS_c {w0 : World}  (a : Str) (b : Str)  :
    Calls Try.prog 86 #[strV a, strV b] w0 (Ret fun rv w1 => rv = .int .i64 (Lib.compareBytes a b) ∧ Ext w0 w1 ∧ I64 (Lib.compareBytes a b)) := by
  have hE0 : Ext w0 w0 := Mod.refl _ _
  refine calls_enter Try.func86 rfl Try.ntmps86 rfl ?_
  refine r_seq ?_
  refine r_region ?_
  refine OL.q (Q1.assign rfl) rfl rfl ?_
  refine OL.nil ?_
  refine r_seq ?_
  refine r_region ?_
  refine OL.q (Q1.move rfl) rfl rfl ?_
  refine OL.q (Q1.move rfl) rfl rfl ?_
  refine OL.act rfl rfl (AW.callX Try.func104 (by kernel_rfl) (by kernel_rfl) (by kernel_rfl) (e := Extern.BytealgCompare.compare) (by kernel_rfl) rfl (Lib.run_compareString _ _ _) ?_)
  refine OL.q (Q1.assign rfl) rfl rfl ?_
  refine OL.nil ?_
  refine r_ret1 Try.func86 rfl rfl ?_
  exact Ret.mk ⟨(congrArg (Value.int .i64) (by rfl)), hE0, by exact Ml.cmp_I64 _ _⟩
set_option maxRecDepth 20000 in
set_option maxHeartbeats 4000000 in
theorem scmp_c {w0 : World}  (a : Str) (b : Str)  :
    Calls Try.prog 65 #[strV a, strV b] w0 (Ret fun rv w1 => rv = .int .i64 (Lib.compareBytes a b) ∧ Ext w0 w1 ∧ I64 (Lib.compareBytes a b)) := by
  have hE0 : Ext w0 w0 := Mod.refl _ _
  refine calls_enter Try.func65 rfl Try.ntmps65 rfl ?_
  refine r_seq ?_
  refine r_region ?_
  refine OL.q (Q1.assign rfl) rfl rfl ?_
  refine OL.nil ?_
  refine r_seq ?_
  refine r_region ?_
  refine OL.q (Q1.move rfl) rfl rfl ?_
  refine OL.q (Q1.move rfl) rfl rfl ?_
  refine OL.act rfl rfl (AW.callF cl86 rfl (cmpS_c (w0 := w0)  a b ) ?_)
  rintro _ w1 ⟨rfl, hm1, hp1⟩
  have hE1 := hE0.ext hm1
  have hs1 := hm1.size
  refine OL.q (Q1.assign rfl) rfl rfl ?_
  refine OL.nil ?_
  refine r_ret1 Try.func65 rfl rfl ?_
  exact Ret.mk ⟨(congrArg (Value.int .i64) (by rfl)), hE1, by exact Ml.cmp_I64 _ _⟩
set_option maxRecDepth 20000 in
set_option maxHeartbeats 4000000 in
theorem tcmp_c {w0 : World}  (a : Str) (b : Str)  :
    Calls Try.prog 44 #[strV a, strV b] w0 (Ret fun rv w1 => rv = .int .i64 (Lib.compareBytes a b) ∧ Ext w0 w1 ∧ I64 (Lib.compareBytes a b)) := by
  have hE0 : Ext w0 w0 := Mod.refl _ _
  refine calls_enter Try.func44 rfl Try.ntmps44 rfl ?_
  refine r_seq ?_
  refine r_region ?_
  refine OL.q (Q1.assign rfl) rfl rfl ?_
  refine OL.nil ?_
  refine r_seq ?_
  refine r_region ?_
  refine OL.q (Q1.move rfl) rfl rfl ?_
  refine OL.q (Q1.move rfl) rfl rfl ?_
  refine OL.act rfl rfl (AW.callF cl65 rfl (scmp_c (w0 := w0)  a b ) ?_)
  rintro _ w1 ⟨rfl, hm1, hp1⟩
  have hE1 := hE0.ext hm1
  have hs1 := hm1.size
  refine OL.q (Q1.assign rfl) rfl rfl ?_
  refine OL.nil ?_
  refine r_ret1 Try.func44 rfl rfl ?_
  exact Ret.mk ⟨(congrArg (Value.int .i64) (by rfl)), hE1, by exact Ml.cmp_I64 _ _⟩
set_option maxRecDepth 20000 in
set_option maxHeartbeats 4000000 in
theorem tlen_c {w0 : World}  (s : Str) (hs : s.length ≤ 9223372036854775807) :
    Calls Try.prog 26 #[strV s] w0 (Ret fun rv w1 => rv = .int .i64 (Ml.lenT s) ∧ Ext w0 w1 ∧ I64 (Ml.lenT s)) := by
  have hE0 : Ext w0 w0 := Mod.refl _ _
  refine calls_enter Try.func26 rfl Try.ntmps26 rfl ?_
  refine r_seq ?_
  refine r_region ?_
  refine OL.q (Q1.assign rfl) rfl rfl ?_
  refine OL.nil ?_
  refine r_seq ?_
  refine r_region ?_
  refine OL.q (Q1.assign rfl) rfl rfl ?_
  refine OL.nil ?_
  refine r_seq ?_
  refine r_seq ?_
  refine r_region ?_
  refine OL.q (Q1.move rfl) rfl rfl ?_
  refine OL.act rfl rfl (AW.rangeS Try.underlying9 rfl ?_)
  intro w1 b1 hm1 hb1 hz1 hk1
  have hE1 := hE0.ext hm1
  have hs1 := hm1.size
  refine OL.nil ?_
  refine r_block ?_
  refine r_loop (I := fun m E W => ∃ (k : Nat) (p : Nat), E = [(3, .int .i64 (((k : Nat) : Int))), (7, ptr b1 0)] ∧ m = s.length - p ∧ Ext w0 W ∧ w1.heap.size ≤ W.heap.size ∧ It W b1 s p ∧ (Ml.LenInv s p k)) ?_ ?_
  · refine ⟨_, _, ⟨(0 : Nat), (0 : Nat), rfl, rfl, hE1, Nat.le_refl _, hk1, (by exact Ml.LenInv.start s)⟩, ⟨rfl, rfl, trivial⟩⟩
  · rintro _ _ w2 ⟨k, p, rfl, rfl, hE2, hs2, f1, hi⟩ ih1
    refine r_seq ?_
    refine r_region ?_
    refine OL.act rfl rfl (AW.nextS rfl f1 ?_ ?_)
    · intro he1
      refine OL.q (Q1.extract rfl rfl) rfl rfl ?_
      refine OL.nil ?_
      refine r_seq ?_
      refine r_cond_f rfl ?_
      refine r_exit rfl ?_
      refine r_seq ?_
      refine r_region ?_
      refine OL.q (Q1.move rfl) rfl rfl ?_
      refine OL.q (Q1.assign rfl) rfl rfl ?_
      refine OL.nil ?_
      refine r_ret1 Try.func26 rfl rfl ?_
      exact Ret.mk ⟨(congrArg (Value.int .i64) (by first | exact hi.fin (by assumption) | (exfalso; omega))), hE2, by exact Ml.lenT_I64 hs⟩
    · intro w3 he1 hm2 hz2 hk2
      have hE3 := Ext.thenG hE2 hm2 (by omega)
      have hs3 := hm2.size
      have hk := hi.lt he1
      refine OL.q (Q1.extract rfl rfl) rfl rfl ?_
      refine OL.nil ?_
      refine r_seq ?_
      refine r_cond_t rfl ?_
      refine r_skip ?_
      refine r_block ?_
      refine r_seq ?_
      refine r_region ?_
      refine OL.q (Q1.extract rfl rfl) rfl rfl ?_
      refine OL.q (Q1.assign rfl) rfl rfl ?_
      refine OL.nil ?_
      refine r_seq ?_
      refine r_seq ?_
      refine r_region ?_
      refine OL.q (Q1.move rfl) rfl rfl ?_
      refine OL.qb (Q1.eq rfl rfl) rfl rfl ?_
      intro b2 hb2
      refine OL.nil ?_
      cases b2 with
      | true =>
        replace hb2 := eq_of_beq hb2.symm
        refine r_cond_t rfl ?_
        refine r_seq ?_
        refine r_region ?_
        refine OL.q (Q1.assign rfl) rfl rfl ?_
        refine OL.nil ?_
        refine r_ret1 Try.func26 rfl rfl ?_
        exact Ret.mk ⟨(congrArg (Value.int .i64) (by first | exact hi.odd (by assumption) (by assumption) | (exfalso; omega))), hE3, by exact Ml.lenT_I64 hs⟩
      | false =>
        replace hb2 := ne_of_beq_false hb2.symm
        refine r_cond_f rfl ?_
        refine r_skip ?_
        refine r_region ?_
        refine OL.q (Q1.move rfl) rfl rfl ?_
        refine OL.q (Q1.addI (((k + 1 : Nat) : Int)) rfl rfl (by omega)) rfl rfl ?_
        refine OL.q (Q1.assign rfl) rfl rfl ?_
        refine OL.nil ?_
        refine r_inBlock ?_
        exact (ih1 _ _ _ ⟨(k + 1 : Nat), ((p + (dec (s.drop p)).2) : Nat), rfl, rfl, hE3, (by omega), hk2, (by first | exact hi.next (by assumption) (by assumption) | (exfalso; omega))⟩ (by have := Ml.dec_lt (by assumption : List.drop p s ≠ []); omega)).sub ⟨rfl, rfl, trivial⟩
set_option maxRecDepth 20000 in
set_option maxHeartbeats 4000000 in
theorem tword_c {w0 : World}  (s : Str) (hs : s.length ≤ 9223372036854775807) :
    Calls Try.prog 43 #[strV s] w0 (Ret fun rv w1 => (∃ rb : Bool, rb = (Ml.word s) ∧ rv = .bool rb) ∧ Ext w0 w1) := by
  have hE0 : Ext w0 w0 := Mod.refl _ _
  refine calls_enter Try.func43 rfl Try.ntmps43 rfl ?_
  refine r_seq ?_
  refine r_region ?_
  refine OL.q (Q1.assign rfl) rfl rfl ?_
  refine OL.nil ?_
  refine r_seq ?_
  refine r_region ?_
  refine OL.q (Q1.move rfl) rfl rfl ?_
  refine OL.act rfl rfl (AW.callF cl26 rfl (tlen_c (w0 := w0)  s (by first | assumption | omega)) ?_)
  rintro _ w1 ⟨rfl, hm1, hp1⟩
  have hE1 := hE0.ext hm1
  have hs1 := hm1.size
  refine OL.q (Q1.assign rfl) rfl rfl ?_
  refine OL.nil ?_
  refine r_seq ?_
  refine r_region ?_
  refine OL.q (Q1.move rfl) rfl rfl ?_
  refine OL.qb (Q1.ge rfl rfl) rfl rfl ?_
  intro b1 hb1
  refine OL.q (Q1.move rfl) rfl rfl ?_
  cases b1 with
  | true =>
    replace hb1 := of_decide_eq_true hb1.symm
    refine OL.q (Q1.move rfl) rfl rfl ?_
    refine OL.qb (Q1.le rfl rfl) rfl rfl ?_
    intro b2 hb2
    refine OL.q (Q1.pick_t rfl rfl) rfl rfl ?_
    refine OL.q (Q1.assign rfl) rfl rfl ?_
    refine OL.nil ?_
    refine r_ret1 Try.func43 rfl rfl ?_
    exact Ret.mk ⟨⟨_, (by first | simp only [Ml.word, *]; simp | (exfalso; omega)), rfl⟩, hE1⟩
  | false =>
    replace hb1 := of_decide_eq_false hb1.symm
    refine OL.sk rfl rfl ?_
    refine OL.sk rfl rfl ?_
    refine OL.q (Q1.pick_f rfl rfl) rfl rfl ?_
    refine OL.q (Q1.assign rfl) rfl rfl ?_
    refine OL.nil ?_
    refine r_ret1 Try.func43 rfl rfl ?_
    exact Ret.mk ⟨⟨_, (by first | simp only [Ml.word, *]; simp | (exfalso; omega)), rfl⟩, hE1⟩
set_option maxRecDepth 20000 in
set_option maxHeartbeats 4000000 in
theorem tasked_c {w0 : World}  (s : Str) (hs : s.length ≤ 9223372036854775807) :
    Calls Try.prog 25 #[strV s] w0 (Ret fun rv w1 => (∃ rb : Bool, rb = (Ml.asked s) ∧ rv = .bool rb) ∧ Ext w0 w1) := by
  have hE0 : Ext w0 w0 := Mod.refl _ _
  refine calls_enter Try.func25 rfl Try.ntmps25 rfl ?_
  refine r_seq ?_
  refine r_region ?_
  refine OL.q (Q1.assign rfl) rfl rfl ?_
  refine OL.nil ?_
  refine r_seq ?_
  refine r_region ?_
  refine OL.q (Q1.move rfl) rfl rfl ?_
  refine OL.act rfl rfl (AW.callF cl26 rfl (tlen_c (w0 := w0)  s (by first | assumption | omega)) ?_)
  rintro _ w1 ⟨rfl, hm1, hp1⟩
  have hE1 := hE0.ext hm1
  have hs1 := hm1.size
  refine OL.q (Q1.assign rfl) rfl rfl ?_
  refine OL.nil ?_
  refine r_seq ?_
  refine r_region ?_
  refine OL.q (Q1.move rfl) rfl rfl ?_
  refine OL.qb (Q1.ge rfl rfl) rfl rfl ?_
  intro b1 hb1
  refine OL.q (Q1.move rfl) rfl rfl ?_
  cases b1 with
  | true =>
    replace hb1 := of_decide_eq_true hb1.symm
    refine OL.q (Q1.move rfl) rfl rfl ?_
    refine OL.qb (Q1.le rfl rfl) rfl rfl ?_
    intro b2 hb2
    refine OL.q (Q1.pick_t rfl rfl) rfl rfl ?_
    refine OL.q (Q1.assign rfl) rfl rfl ?_
    refine OL.nil ?_
    refine r_ret1 Try.func25 rfl rfl ?_
    exact Ret.mk ⟨⟨_, (by first | simp only [Ml.asked, *]; simp | (exfalso; omega)), rfl⟩, hE1⟩
  | false =>
    replace hb1 := of_decide_eq_false hb1.symm
    refine OL.sk rfl rfl ?_
    refine OL.sk rfl rfl ?_
    refine OL.q (Q1.pick_f rfl rfl) rfl rfl ?_
    refine OL.q (Q1.assign rfl) rfl rfl ?_
    refine OL.nil ?_
    refine r_ret1 Try.func25 rfl rfl ?_
    exact Ret.mk ⟨⟨_, (by first | simp only [Ml.asked, *]; simp | (exfalso; omega)), rfl⟩, hE1⟩
set_option maxRecDepth 20000 in
set_option maxHeartbeats 4000000 in
theorem trunes_c {w0 : World}  (s : Str) (hs : s.length ≤ 1000000) :
    Calls Try.prog 53 #[strV s] w0 (Ret fun rv w1 => ∃ u0 u1, rv = .tuple #[u0, u1] ∧ Sl encRn w1 (Iv w0.heap.size w1.heap.size) u0 (Ml.runesM s) ∧ (∃ rb : Bool, rb = (Ml.fineT s) ∧ u1 = .bool rb) ∧ Ext w0 w1) := by
  have hE0 : Ext w0 w0 := Mod.refl _ _
  refine calls_enter Try.func53 rfl Try.ntmps53 rfl ?_
  refine r_seq ?_
  refine r_region ?_
  refine OL.q (Q1.assign rfl) rfl rfl ?_
  refine OL.q (Q1.assign rfl) rfl rfl ?_
  refine OL.nil ?_
  refine r_seq ?_
  refine r_region ?_
  refine OL.q (Q1.assign rfl) rfl rfl ?_
  refine OL.nil ?_
  refine r_seq ?_
  refine r_seq ?_
  refine r_region ?_
  refine OL.q (Q1.move rfl) rfl rfl ?_
  refine OL.act rfl rfl (AW.rangeS Try.underlying9 rfl ?_)
  intro w1 b1 hm1 hb1 hz1 hk1
  have hE1 := hE0.ext hm1
  have hs1 := hm1.size
  refine OL.nil ?_
  refine r_block ?_
  refine r_loop (I := fun m E W => ∃ (v_l : Value) (g_l : Nat) (l : List Int) (p : Nat), E = [(4, v_l), (8, ptr b1 0)] ∧ m = s.length - p ∧ Ext w0 W ∧ w1.heap.size ≤ W.heap.size ∧ Acc encRn 21 1 W g_l v_l l ∧ (g_l = 0 ∨ w0.heap.size < g_l) ∧ It W b1 s p ∧ b1 + 1 ≠ g_l ∧ (Ml.RunInv s p l)) ?_ ?_
  · refine ⟨_, _, ⟨(.slice none 0 0 : Value), (0 : Nat), ([] : List Int), (0 : Nat), rfl, rfl, hE1, Nat.le_refl _, Acc.nil, (by omega), hk1, (by omega), (by exact Ml.RunInv.start s)⟩, ⟨rfl, rfl, trivial⟩⟩
  · rintro _ _ w2 ⟨v_l, g_l, l, p, rfl, rfl, hE2, hs2, ha1, hg1, f1, hn1, hr⟩ ih1
    have hll := hr.len
    have hle := hr.pos
    refine r_seq ?_
    refine r_region ?_
    refine OL.act rfl rfl (AW.nextS rfl f1 ?_ ?_)
    · intro he1
      refine OL.q (Q1.extract rfl rfl) rfl rfl ?_
      refine OL.nil ?_
      refine r_seq ?_
      refine r_cond_f rfl ?_
      refine r_exit rfl ?_
      refine r_seq ?_
      refine r_region ?_
      refine OL.q (Q1.move rfl) rfl rfl ?_
      refine OL.q (Q1.assign rfl) rfl rfl ?_
      refine OL.q (Q1.assign rfl) rfl rfl ?_
      refine OL.nil ?_
      refine r_ret2 Try.func53 rfl rfl rfl ?_
      exact Ret.mk ⟨_, _, rfl, (Sl.cast (ha1.fresh (by omega)) (by first | (with_reducible exact Ml.runesM_no (hr.odd (by assumption) (by assumption))) | (with_reducible exact hr.odd (by assumption) (by assumption)) | (with_reducible exact (hr.done (by assumption)).1.trans (Ml.runesM_yes (hr.done (by assumption)).2)) | (with_reducible exact (hr.done (by assumption)).2) | (exfalso; omega))), ⟨_, (by first | (with_reducible exact Ml.runesM_no (hr.odd (by assumption) (by assumption))) | (with_reducible exact hr.odd (by assumption) (by assumption)) | (with_reducible exact (hr.done (by assumption)).1.trans (Ml.runesM_yes (hr.done (by assumption)).2)) | (with_reducible exact (hr.done (by assumption)).2) | (exfalso; omega)), rfl⟩, hE2⟩
    · intro w3 he1 hm2 hz2 hk2
      have hl1 := ha1.lt
      have f2 := ha1.keepG hm2 (by omega)
      have hE3 := Ext.thenG hE2 hm2 (by omega)
      have hs3 := hm2.size
      refine OL.q (Q1.extract rfl rfl) rfl rfl ?_
      refine OL.nil ?_
      refine r_seq ?_
      refine r_cond_t rfl ?_
      refine r_skip ?_
      refine r_block ?_
      refine r_seq ?_
      refine r_region ?_
      refine OL.q (Q1.extract rfl rfl) rfl rfl ?_
      refine OL.q (Q1.assign rfl) rfl rfl ?_
      refine OL.nil ?_
      refine r_seq ?_
      refine r_seq ?_
      refine r_region ?_
      refine OL.q (Q1.move rfl) rfl rfl ?_
      refine OL.qb (Q1.eq rfl rfl) rfl rfl ?_
      intro b2 hb2
      refine OL.nil ?_
      cases b2 with
      | true =>
        replace hb2 := eq_of_beq hb2.symm
        refine r_cond_t rfl ?_
        refine r_seq ?_
        refine r_region ?_
        refine OL.q (Q1.assign rfl) rfl rfl ?_
        refine OL.q (Q1.assign rfl) rfl rfl ?_
        refine OL.nil ?_
        refine r_ret2 Try.func53 rfl rfl rfl ?_
        exact Ret.mk ⟨_, _, rfl, (Sl.cast Sl.nil (by first | (with_reducible exact Ml.runesM_no (hr.odd (by assumption) (by assumption))) | (with_reducible exact hr.odd (by assumption) (by assumption)) | (with_reducible exact (hr.done (by assumption)).1.trans (Ml.runesM_yes (hr.done (by assumption)).2)) | (with_reducible exact (hr.done (by assumption)).2) | (exfalso; omega))), ⟨_, (by first | (with_reducible exact Ml.runesM_no (hr.odd (by assumption) (by assumption))) | (with_reducible exact hr.odd (by assumption) (by assumption)) | (with_reducible exact (hr.done (by assumption)).1.trans (Ml.runesM_yes (hr.done (by assumption)).2)) | (with_reducible exact (hr.done (by assumption)).2) | (exfalso; omega)), rfl⟩, hE3⟩
      | false =>
        replace hb2 := ne_of_beq_false hb2.symm
        refine r_cond_f rfl ?_
        refine r_skip ?_
        refine r_region ?_
        refine OL.q (Q1.move rfl) rfl rfl ?_
        refine OL.q (Q1.move rfl) rfl rfl ?_
        refine OL.act rfl rfl (AW.buildSlice [(.int .i32 (((dec (s.drop p)).1 : Int)) : Value)] Try.underlying74 ti21 rfl rfl rfl (by decide) ?_)
        intro w4 b3 hm3 hb3 hz3 hk3
        have hl2 := f2.lt
        have f3 := f2.ext hm3
        have f4 := hk2.ext hm3
        have hE4 := hE3.ext hm3
        have hs4 := hm3.size
        have hl3 := Sl.of_blk (enc := encRn) hk3 ([((dec (s.drop p)).1 : Int)] : List Int) 1 rfl rfl (by unfold maxLen; omega)
        have hl4 := f3.lt
        refine OL.act rfl rfl (AW.append f3 Try.underlying74 ti21 rfl encRn_len encRn_one rfl rfl (hl3) (by first | omega | (simp only [List.length_append, List.length_cons, List.length_nil]; omega) | (simp; omega)) (by unfold maxLen; first | omega | (simp only [List.length_append, List.length_cons, List.length_nil]; omega) | (simp; omega)) ?_)
        intro v1 g1 w5 ha2 hm4 hg2 hz4
        have hl5 := f3.lt
        have f5 := f4.keepG hm4 (by omega)
        have f6 := hl3.keepG hm4 (by omega)
        have hE5 := Ext.thenG hE4 hm4 (by omega)
        have hs5 := hm4.size
        refine OL.q (Q1.assign rfl) rfl rfl ?_
        refine OL.nil ?_
        refine r_inBlock ?_
        exact (ih1 _ _ _ ⟨(v1 : Value), (g1 : Nat), ((l ++ [((dec (s.drop p)).1 : Int)]) : List Int), ((p + (dec (s.drop p)).2) : Nat), rfl, rfl, hE5, (by omega), ha2, (by omega), f5, (by omega), (by first | exact hr.step (by assumption) (by assumption) | (exfalso; omega))⟩ (by have := Ml.dec_lt (by assumption : List.drop p s ≠ []); omega)).sub ⟨rfl, rfl, trivial⟩
set_option maxRecDepth 20000 in
set_option maxHeartbeats 4000000 in
theorem lgood_c {w0 : World}  {v_words : Value} {words : List Str} (h_words : Sl encS w0 (Iv 0 w0.heap.size) v_words words) (hok : Ml.LOk words) :
    Calls Try.prog 28 #[v_words] w0 (Ret fun rv w1 => rv = .int .i64 (Ml.goodL words) ∧ Ext w0 w1) := by
  have hE0 : Ext w0 w0 := Mod.refl _ _
  have hle1 := h_words.le
  refine calls_enter Try.func28 rfl Try.ntmps28 rfl ?_
  refine r_seq ?_
  refine r_region ?_
  refine OL.q (Q1.assign rfl) rfl rfl ?_
  refine OL.nil ?_
  refine r_seq ?_
  refine r_seq ?_
  refine r_region ?_
  refine OL.q (Q1.move rfl) rfl rfl ?_
  refine OL.q (Q1.lenSl Try.underlying22 (h_words) rfl) rfl rfl ?_
  refine OL.qb (Q1.gt rfl rfl) rfl rfl ?_
  intro b1 hb1
  refine OL.nil ?_
  cases b1 with
  | true =>
    replace hb1 := of_decide_eq_true hb1.symm
    refine r_cond_t rfl ?_
    refine r_seq ?_
    refine r_region ?_
    refine OL.q (Q1.assign rfl) rfl rfl ?_
    refine OL.nil ?_
    refine r_ret1 Try.func28 rfl rfl ?_
    exact Ret.mk ⟨(congrArg (Value.int .i64) (by first | exact Ml.goodL_full (by omega) | exact Ml.goodL_word (by omega) hx1 (by assumption) | exact Ml.goodL_sort' (by omega) ha hj hx1 hx2 (by omega) | exact Ml.goodL_ok (by omega) ha hr (by omega) | (exfalso; omega))), hE0⟩
  | false =>
    replace hb1 := of_decide_eq_false hb1.symm
    refine r_cond_f rfl ?_
    refine r_skip ?_
    refine r_seq ?_
    refine r_seq ?_
    refine r_region ?_
    refine OL.q (Q1.move rfl) rfl rfl ?_
    refine OL.q (Q1.lenSl Try.underlying22 (h_words) rfl) rfl rfl ?_
    refine OL.q (Q1.move rfl) rfl rfl ?_
    refine OL.nil ?_
    refine r_block ?_
    refine r_loop (I := fun m E W => ∃ (k : Nat), E = [(0, v_words), (9, v_words), (10, .int .i64 (((words.length : Nat) : Int))), (11, .int .i64 (((k : Nat) : Int)))] ∧ m = words.length - k ∧ Ext w0 W ∧ w0.heap.size ≤ W.heap.size ∧ Sl encS W (Iv 0 w0.heap.size) v_words words ∧ ((words.take k).all Ml.word = true)) ?_ ?_
    · refine ⟨_, _, ⟨(0 : Nat), rfl, rfl, hE0, Nat.le_refl _, h_words, (by rfl)⟩, ⟨rfl, rfl, rfl, rfl, trivial⟩⟩
    · rintro _ _ w1 ⟨k, rfl, rfl, hE1, hs1, f1, hi⟩ ih1
      refine r_seq ?_
      refine r_region ?_
      refine OL.qb (Q1.lt rfl rfl) rfl rfl ?_
      intro b2 hb2
      refine OL.nil ?_
      refine r_seq ?_
      cases b2 with
      | true =>
        replace hb2 := of_decide_eq_true hb2.symm
        refine r_cond_t rfl ?_
        refine r_skip ?_
        refine r_seq ?_
        refine r_block ?_
        refine r_seq ?_
        refine r_region ?_
        obtain ⟨x1, b3, o1, hx1, hr1, hl1, hu1, hw1⟩ := Sl.at' (P := Try.prog) f1 Try.underlying22 ti9 encS_len (k := .i64) (n := ((k : Nat) : Int)) (k) (by omega) (by first | assumption | omega)
        refine OL.q (Q1.indexAddr rfl rfl hr1) rfl rfl ?_
        refine OL.q (Q1.load1 ti9 rfl (fun _ e => e ▸ hw1)) rfl rfl ?_
        refine OL.q (Q1.assign rfl) rfl rfl ?_
        refine OL.nil ?_
        refine r_seq ?_
        refine r_region ?_
        refine OL.q (Q1.move rfl) rfl rfl ?_
        refine OL.act rfl rfl (AW.callF cl43 rfl (tword_c (w0 := w1)  x1 (by exact hok.at (by assumption))) ?_)
        rintro _ w2 ⟨⟨b4, hb3, rfl⟩, hm1⟩
        have f2 := f1.ext hm1
        have hE2 := hE1.ext hm1
        have hs2 := hm1.size
        cases b4 with
        | true =>
          replace hb3 := hb3.symm
          refine OL.q (Q1.not rfl) rfl rfl ?_
          refine OL.nil ?_
          refine r_cond_f rfl ?_
          refine r_skip ?_
          refine r_inBlock ?_
          refine r_region ?_
          refine OL.q (Q1.addI (((k + 1 : Nat) : Int)) rfl rfl (by omega)) rfl rfl ?_
          refine OL.q (Q1.move rfl) rfl rfl ?_
          refine OL.nil ?_
          exact (ih1 _ _ _ ⟨(k + 1 : Nat), rfl, rfl, hE2, (by omega), f2, (by first | exact Ml.all_take_succ hi (by assumption) (by assumption) | (exfalso; omega))⟩ (by omega)).sub ⟨rfl, rfl, rfl, rfl, trivial⟩
        | false =>
          replace hb3 := hb3.symm
          refine OL.q (Q1.not rfl) rfl rfl ?_
          refine OL.nil ?_
          refine r_cond_t rfl ?_
          refine r_seq ?_
          refine r_region ?_
          refine OL.q (Q1.assign rfl) rfl rfl ?_
          refine OL.nil ?_
          refine r_ret1 Try.func28 rfl rfl ?_
          exact Ret.mk ⟨(congrArg (Value.int .i64) (by first | exact Ml.goodL_full (by omega) | exact Ml.goodL_word (by omega) hx1 (by assumption) | exact Ml.goodL_sort' (by omega) ha hj hx1 hx2 (by omega) | exact Ml.goodL_ok (by omega) ha hr (by omega) | (exfalso; omega))), hE2⟩
      | false =>
        replace hb2 := of_decide_eq_false hb2.symm
        refine r_cond_f rfl ?_
        refine r_exit rfl ?_
        refine r_seq ?_
        refine r_seq ?_
        refine r_region ?_
        refine OL.q (Q1.assign rfl) rfl rfl ?_
        refine OL.nil ?_
        refine r_block ?_
        refine r_loop (I := fun m E W => ∃ (j : Nat), E = [(0, v_words), (5, .int .i64 (((j : Nat) : Int)))] ∧ m = words.length - j ∧ Ext w0 W ∧ w1.heap.size ≤ W.heap.size ∧ Sl encS W (Iv 0 w0.heap.size) v_words words ∧ (1 ≤ j) ∧ (Ml.rising (words.take j) = true)) ?_ ?_
        · refine ⟨_, _, ⟨(1 : Nat), rfl, rfl, hE1, Nat.le_refl _, f1, (by omega), (by exact Ml.rising_one _)⟩, ⟨rfl, rfl, trivial⟩⟩
        · rintro _ _ w2 ⟨j, rfl, rfl, hE2, hs2, f2, hj, hr⟩ ih2
          have ha := Ml.all_of_take hi (by omega)
          refine r_seq ?_
          refine r_seq ?_
          refine r_region ?_
          refine OL.q (Q1.move rfl) rfl rfl ?_
          refine OL.q (Q1.move rfl) rfl rfl ?_
          refine OL.q (Q1.lenSl Try.underlying22 (f2) rfl) rfl rfl ?_
          refine OL.qb (Q1.lt rfl rfl) rfl rfl ?_
          intro b3 hb3
          refine OL.nil ?_
          cases b3 with
          | true =>
            replace hb3 := of_decide_eq_true hb3.symm
            refine r_cond_t rfl ?_
            refine r_skip ?_
            refine r_seq ?_
            refine r_block ?_
            refine r_seq ?_
            refine r_draw1 (fun i => Nat.beq i 9) 11 (fun w' => Mod (Mg 0) w2 w') mixed (by kernel_rfl) ?_
            intro w3 hm1
            have f3 := f2.ext hm1
            have hE3 := hE2.ext hm1
            have hs3 := hm1.size
            have hCw3 : Mod (Mg 0) w2 w3 := Mod.ofExt hm1
            refine ⟨hCw3, ?_⟩
            rw [show List.range' 0 (Array.size _) = [0, 1, 2, 3, 4, 5, 6, 7, 8, 9, 10] from rfl]
            refine OD.q rfl rfl (Q1.move rfl) rfl rfl ?_
            refine OD.q rfl rfl (Q1.move rfl) rfl rfl ?_
            refine OD.q rfl rfl (Q1.subI ((((j : Nat) : Int) - 1)) rfl rfl (by omega)) rfl rfl ?_
            obtain ⟨x1, b4, o1, hx1, hr1, hl1, hu1, hw1⟩ := Sl.at' (P := Try.prog) f2 Try.underlying22 ti9 encS_len (k := .i64) (n := (((j : Nat) : Int) - 1)) ((j - 1)) (by omega) (by first | assumption | omega)
            refine OD.q rfl rfl (Q1.indexAddr rfl rfl hr1) rfl rfl ?_
            refine OD.q rfl rfl (Q1.load1 ti9 rfl (fun _ hc => hw1.keepG hc (by omega))) rfl rfl ?_
            refine OD.q rfl rfl (Q1.move rfl) rfl rfl ?_
            refine OD.q rfl rfl (Q1.move rfl) rfl rfl ?_
            obtain ⟨x2, b5, o2, hx2, hr2, hl2, hu2, hw2⟩ := Sl.at' (P := Try.prog) f2 Try.underlying22 ti9 encS_len (k := .i64) (n := ((j : Nat) : Int)) (j) (by omega) (by first | assumption | omega)
            refine OD.q rfl rfl (Q1.indexAddr rfl rfl hr2) rfl rfl ?_
            refine OD.q rfl rfl (Q1.load1 ti9 rfl (fun _ hc => hw2.keepG hc (by omega))) rfl rfl ?_
            refine OD.act rfl rfl rfl rfl (AW.callF cl44 rfl (tcmp_c (w0 := w3)  x1 x2 ) ?_)
            rintro _ w4 ⟨rfl, hm2, hp1⟩
            have f4 := f3.ext hm2
            have hE4 := hE3.ext hm2
            have hs4 := hm2.size
            have hCw4 := hCw3.ext hm2
            refine ⟨.inr hCw4, ?_⟩
            refine OD.qb rfl rfl (Q1.ge rfl rfl) rfl rfl ?_
            intro b6 hb4
            refine OD.nil ?_
            cases b6 with
            | true =>
              replace hb4 := of_decide_eq_true hb4.symm
              refine r_cond_t rfl ?_
              refine r_seq ?_
              refine r_region ?_
              refine OL.q (Q1.assign rfl) rfl rfl ?_
              refine OL.nil ?_
              refine r_ret1 Try.func28 rfl rfl ?_
              exact Ret.mk ⟨(congrArg (Value.int .i64) (by first | exact Ml.goodL_full (by omega) | exact Ml.goodL_word (by omega) hx1 (by assumption) | exact Ml.goodL_sort' (by omega) ha hj hx1 hx2 (by omega) | exact Ml.goodL_ok (by omega) ha hr (by omega) | (exfalso; omega))), hE4⟩
            | false =>
              replace hb4 := of_decide_eq_false hb4.symm
              refine r_cond_f rfl ?_
              refine r_skip ?_
              refine r_inBlock ?_
              refine r_region ?_
              refine OL.q (Q1.move rfl) rfl rfl ?_
              refine OL.q (Q1.addI (((j + 1 : Nat) : Int)) rfl rfl (by omega)) rfl rfl ?_
              refine OL.q (Q1.assign rfl) rfl rfl ?_
              refine OL.nil ?_
              exact (ih2 _ _ _ ⟨(j + 1 : Nat), rfl, rfl, hE4, (by omega), f4, (by first | omega | (exfalso; omega)), (by first | exact Ml.rising_step hr hj (by assumption) (by assumption) (by omega) | (exfalso; omega))⟩ (by omega)).sub ⟨rfl, rfl, trivial⟩
          | false =>
            replace hb3 := of_decide_eq_false hb3.symm
            refine r_cond_f rfl ?_
            refine r_exit rfl ?_
            refine r_seq ?_
            refine r_region ?_
            refine OL.q (Q1.assign rfl) rfl rfl ?_
            refine OL.nil ?_
            refine r_ret1 Try.func28 rfl rfl ?_
            exact Ret.mk ⟨(congrArg (Value.int .i64) (by first | exact Ml.goodL_full (by omega) | exact Ml.goodL_word (by omega) hx1 (by assumption) | exact Ml.goodL_sort' (by omega) ha hj hx1 hx2 (by omega) | exact Ml.goodL_ok (by omega) ha hr (by omega) | (exfalso; omega))), hE2⟩
end Go.Proofs
