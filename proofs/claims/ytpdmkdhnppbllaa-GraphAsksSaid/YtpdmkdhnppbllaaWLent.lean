/-
  Walks: what is lent, kept, written over.
-/
import Derived.Test.YtpdmkdhnppbllaaWShared
set_option linter.unusedVariables false
set_option linter.unusedSimpArgs false
namespace Go.Proofs
open Go.Ik Go.Ml
set_option maxRecDepth 20000 in
set_option maxHeartbeats 4000000 in
theorem num_c {w0 : World}  (e : Int) (h_e : I64 e) :
    Calls Try.prog 16 #[.int .i64 e] w0 (Ret fun rv w1 => rv = .int .i64 (e) ∧ Ext w0 w1) := by
  have hE0 : Ext w0 w0 := Mod.refl _ _
  refine calls_enter Try.func16 rfl Try.ntmps16 rfl ?_
  refine r_seq ?_
  refine r_region ?_
  refine OL.q (Q1.assign rfl) rfl rfl ?_
  refine OL.nil ?_
  refine r_seq ?_
  refine r_region ?_
  refine OL.q (Q1.move rfl) rfl rfl ?_
  refine OL.q (Q1.assign rfl) rfl rfl ?_
  refine OL.nil ?_
  refine r_ret1 Try.func16 rfl rfl ?_
  exact Ret.mk ⟨(congrArg (Value.int .i64) (by rfl)), hE0⟩
set_option maxRecDepth 20000 in
set_option maxHeartbeats 4000000 in
theorem lendTexts_c {w0 : World}  {v_l : Value} {l : List Str} (h_l : Sl encS w0 (Iv 0 w0.heap.size) v_l l) (hln : l.length ≤ 1000000) :
    Calls Try.prog 13 #[v_l] w0 (Ret fun rv w1 => (∃ bl, rv = .slice (some ⟨bl, 0, none⟩) l.length (l.length + 3) ∧ Lent encS 9 w1 bl l (List.replicate 3 ([108, 101, 110, 116] : Str)) ∧ w0.heap.size ≤ bl) ∧ Ext w0 w1) := by
  have hE0 : Ext w0 w0 := Mod.refl _ _
  have hle1 := h_l.le
  refine calls_enter Try.func13 rfl Try.ntmps13 rfl ?_
  refine r_seq ?_
  refine r_region ?_
  refine OL.q (Q1.assign rfl) rfl rfl ?_
  refine OL.nil ?_
  refine r_seq ?_
  refine r_region ?_
  refine OL.q (Q1.move rfl) rfl rfl ?_
  refine OL.q (Q1.lenSl Try.underlying22 (h_l) rfl) rfl rfl ?_
  refine OL.q (Q1.addI (((l.length + 3 : Nat) : Int)) rfl rfl (by omega)) rfl rfl ?_
  refine OL.act rfl rfl (AW.makeRoom (enc := encS) (l.length + 3) ([] : Str) Try.underlying22 ti9 (by decide) rfl encS_len rfl rfl rfl (by omega) (by omega) (by unfold maxLen; omega) ?_)
  intro w1 b1 hm1 hb1 hz1 hk1
  have f1 := h_l.ext hm1
  have hE1 := hE0.ext hm1
  have hs1 := hm1.size
  refine OL.q (Q1.assign rfl) rfl rfl ?_
  refine OL.nil ?_
  refine r_seq ?_
  refine r_region ?_
  refine OL.q (Q1.move rfl) rfl rfl ?_
  refine OL.q (Q1.move rfl) rfl rfl ?_
  refine OL.act rfl rfl (AW.appendRoom hk1 (by simp) Try.underlying22 ti9 rfl encS_len encS_one (by simp) rfl rfl (f1) (by simp) ?_)
  intro w3 hm3 hz3 hk2
  replace hk2 : Lent encS 9 w3 b1 l ((List.replicate 3 ([] : Str))) := by simpa [List.drop_replicate] using hk2
  simp only [List.length_nil, Nat.zero_add]
  have f2 := f1.keepG hm3 (by omega)
  have hE2 := Ext.thenG hE1 hm3 (by omega)
  have hs2 := hm3.size
  refine OL.q (Q1.assign rfl) rfl rfl ?_
  refine OL.nil ?_
  refine r_seq ?_
  refine r_region ?_
  refine OL.q (Q1.move rfl) rfl rfl ?_
  refine OL.q (Q1.move rfl) rfl rfl ?_
  refine OL.q (Q1.lenSl Try.underlying22 (f2) rfl) rfl rfl ?_
  refine OL.q (Q1.move rfl) rfl rfl ?_
  refine OL.q (Q1.lenSl Try.underlying22 (f2) rfl) rfl rfl ?_
  refine OL.q (Q1.addI (((l.length + 3 : Nat) : Int)) rfl rfl (by omega)) rfl rfl ?_
  refine OL.q (Q1.room (n := 3) Try.underlying22 ti9 rfl rfl rfl (by omega) (by omega) (by omega) (by decide)) rfl rfl ?_
  refine OL.q (Q1.assign rfl) rfl rfl ?_
  refine OL.nil ?_
  refine r_seq ?_
  refine r_seq ?_
  refine r_region ?_
  refine OL.q (Q1.assign rfl) rfl rfl ?_
  refine OL.nil ?_
  refine r_block ?_
  refine r_loop (I := fun m E W => ∃ (k1 : Nat) (r : List Str), E = [(3, (.slice (some ⟨b1, 0, none⟩) l.length (l.length + 3))), (4, (.slice (some ⟨b1, l.length * 1, none⟩) 3 3)), (5, .int .i64 (((k1 : Nat) : Int)))] ∧ m = 3 - k1 ∧ Ext w0 W ∧ w3.heap.size ≤ W.heap.size ∧ Lent encS 9 W b1 l r ∧ (r = roomK ([] : Str) ([108, 101, 110, 116] : Str) k1)) ?_ ?_
  · refine ⟨_, _, ⟨(0 : Nat), ((List.replicate 3 ([] : Str)) : List Str), rfl, rfl, hE2, Nat.le_refl _, hk2, (by exact room_start _ _)⟩, ⟨rfl, rfl, rfl, trivial⟩⟩
  · rintro _ _ w4 ⟨k1, r, rfl, rfl, hE3, hs3, f3, hr⟩ ih1
    have hr3 := room_len hr
    refine r_seq ?_
    refine r_seq ?_
    refine r_region ?_
    refine OL.q (Q1.move rfl) rfl rfl ?_
    refine OL.qb (Q1.lt rfl rfl) rfl rfl ?_
    intro b2 hb2
    refine OL.nil ?_
    cases b2 with
    | true =>
      replace hb2 := of_decide_eq_true hb2.symm
      refine r_cond_t rfl ?_
      refine r_skip ?_
      refine r_seq ?_
      refine r_block ?_
      refine r_region ?_
      refine OL.q (Q1.move rfl) rfl rfl ?_
      refine OL.q (Q1.move rfl) rfl rfl ?_
      obtain ⟨x1, hx1⟩ : ∃ u, r[k1]? = some u := ⟨_, List.getElem?_eq_getElem (by first | (simp; omega) | omega)⟩
      refine OL.q (Q1.indexAddr rfl rfl (Lent.at .i64 l.length 3 Try.underlying22 ti9 (k1) (by omega) (by omega))) rfl rfl ?_
      refine OL.act rfl rfl (AW.storeRoom f3 encS_len (i := k1) (List.getElem?_eq_some_iff.1 hx1).1 (([108, 101, 110, 116] : Str)) ti9 rfl rfl rfl rfl rfl ?_)
      intro w5 hm4 hz4 hk3
      have hE4 := Ext.thenG hE3 hm4 (by omega)
      have hs4 := hm4.size
      refine OL.nil ?_
      refine r_inBlock ?_
      refine r_region ?_
      refine OL.q (Q1.move rfl) rfl rfl ?_
      refine OL.q (Q1.addI (((k1 + 1 : Nat) : Int)) rfl rfl (by omega)) rfl rfl ?_
      refine OL.q (Q1.assign rfl) rfl rfl ?_
      refine OL.nil ?_
      exact (ih1 _ _ _ ⟨(k1 + 1 : Nat), ((r.set k1 (([108, 101, 110, 116] : Str))) : List Str), rfl, rfl, hE4, (by omega), hk3, (by first | exact room_step hr (by omega) | (exfalso; omega))⟩ (by omega)).sub ⟨rfl, rfl, rfl, trivial⟩
    | false =>
      replace hb2 := of_decide_eq_false hb2.symm
      refine r_cond_f rfl ?_
      refine r_exit rfl ?_
      refine r_seq ?_
      refine r_region ?_
      refine OL.q (Q1.move rfl) rfl rfl ?_
      refine OL.q (Q1.assign rfl) rfl rfl ?_
      refine OL.nil ?_
      refine r_ret1 Try.func13 rfl rfl ?_
      exact Ret.mk ⟨⟨_, rfl, (by first | exact Lent.cast f3 (room_end hr (by omega)) | (exfalso; omega)), by omega⟩, hE3⟩
set_option maxRecDepth 20000 in
set_option maxHeartbeats 4000000 in
theorem keptTexts_c {w0 : World}  {b_lent : Nat} {lent : List Str} {v_l : Value} {l : List Str} (h_lent : Lent encS 9 w0 b_lent lent (List.replicate 3 ([108, 101, 110, 116] : Str))) (h_l : Sl encS w0 (Iv 0 w0.heap.size) v_l l) (hln : lent.length ≤ 1000000) :
    Calls Try.prog 17 #[(.slice (some ⟨b_lent, 0, none⟩) lent.length (lent.length + 3)), v_l] w0 (Ret fun rv w1 => (∃ rb : Bool, rb = (decide (lent = l)) ∧ rv = .bool rb) ∧ Ext w0 w1) := by
  have hE0 : Ext w0 w0 := Mod.refl _ _
  have hlt1 := h_lent.lt
  have hle2 := h_l.le
  refine calls_enter Try.func17 rfl Try.ntmps17 rfl ?_
  refine r_seq ?_
  refine r_region ?_
  refine OL.q (Q1.assign rfl) rfl rfl ?_
  refine OL.nil ?_
  refine r_seq ?_
  refine r_region ?_
  refine OL.q (Q1.move rfl) rfl rfl ?_
  refine OL.q (Q1.move rfl) rfl rfl ?_
  refine OL.q (Q1.lenSl Try.underlying22 ((h_lent.sl 3 (by simp) (by unfold maxLen; omega))) rfl) rfl rfl ?_
  refine OL.q (Q1.move rfl) rfl rfl ?_
  refine OL.q (Q1.lenSl Try.underlying22 ((h_lent.sl 3 (by simp) (by unfold maxLen; omega))) rfl) rfl rfl ?_
  refine OL.q (Q1.addI (((lent.length + 3 : Nat) : Int)) rfl rfl (by omega)) rfl rfl ?_
  refine OL.q (Q1.room (n := 3) Try.underlying22 ti9 rfl rfl rfl (by omega) (by omega) (by omega) (by decide)) rfl rfl ?_
  refine OL.q (Q1.assign rfl) rfl rfl ?_
  refine OL.nil ?_
  refine r_seq ?_
  refine r_seq ?_
  refine r_region ?_
  refine OL.q (Q1.assign rfl) rfl rfl ?_
  refine OL.nil ?_
  refine r_block ?_
  refine r_loop (I := fun m E W => ∃ (k1 : Nat), E = [(0, (.slice (some ⟨b_lent, 0, none⟩) lent.length (lent.length + 3))), (1, v_l), (5, (.slice (some ⟨b_lent, lent.length * 1, none⟩) 3 3)), (6, .int .i64 (((k1 : Nat) : Int)))] ∧ m = 3 - k1 ∧ Ext w0 W ∧ w0.heap.size ≤ W.heap.size ∧ Lent encS 9 W b_lent lent ((List.replicate 3 ([108, 101, 110, 116] : Str))) ∧ Sl encS W (Iv 0 w0.heap.size) v_l l) ?_ ?_
  · refine ⟨_, _, ⟨(0 : Nat), rfl, rfl, hE0, Nat.le_refl _, h_lent, h_l⟩, ⟨rfl, rfl, rfl, rfl, trivial⟩⟩
  · rintro _ _ w1 ⟨k1, rfl, rfl, hE1, hs1, f1, f2⟩ ih1
    refine r_seq ?_
    refine r_seq ?_
    refine r_region ?_
    refine OL.q (Q1.move rfl) rfl rfl ?_
    refine OL.qb (Q1.lt rfl rfl) rfl rfl ?_
    intro b1 hb1
    refine OL.nil ?_
    cases b1 with
    | true =>
      replace hb1 := of_decide_eq_true hb1.symm
      refine r_cond_t rfl ?_
      refine r_skip ?_
      refine r_seq ?_
      refine r_block ?_
      refine r_seq ?_
      refine r_region ?_
      refine OL.q (Q1.move rfl) rfl rfl ?_
      refine OL.q (Q1.move rfl) rfl rfl ?_
      obtain ⟨x1, hx1⟩ : ∃ u, ((List.replicate 3 ([108, 101, 110, 116] : Str)))[k1]? = some u := ⟨_, List.getElem?_eq_getElem (by first | (simp; omega) | omega)⟩
      refine OL.q (Q1.indexAddr rfl rfl (Lent.at .i64 lent.length 3 Try.underlying22 ti9 (k1) (by omega) (by omega))) rfl rfl ?_
      have hr1 := f1.row encS_len hx1
      refine OL.q (Q1.load1 ti9 rfl (fun _ e => e ▸ hr1)) rfl rfl ?_
      refine OL.qb (Q1.neS rfl rfl) rfl rfl ?_
      intro b2 hb2
      obtain rfl : b2 = false := hb2.trans (by rw [rep_at hx1]; rfl)
      refine OL.nil ?_
      refine r_cond_f rfl ?_
      refine r_skip ?_
      refine r_inBlock ?_
      refine r_region ?_
      refine OL.q (Q1.move rfl) rfl rfl ?_
      refine OL.q (Q1.addI (((k1 + 1 : Nat) : Int)) rfl rfl (by omega)) rfl rfl ?_
      refine OL.q (Q1.assign rfl) rfl rfl ?_
      refine OL.nil ?_
      exact (ih1 _ _ _ ⟨(k1 + 1 : Nat), rfl, rfl, hE1, (by omega), f1, f2⟩ (by omega)).sub ⟨rfl, rfl, rfl, rfl, trivial⟩
    | false =>
      replace hb1 := of_decide_eq_false hb1.symm
      refine r_cond_f rfl ?_
      refine r_exit rfl ?_
      refine r_seq ?_
      refine r_region ?_
      refine OL.q (Q1.move rfl) rfl rfl ?_
      refine OL.q (Q1.move rfl) rfl rfl ?_
      refine OL.act rfl rfl (AW.callF cl28 rfl (sameT_c (w0 := w1) (a := lent) (b := l)  (((f1.sl 3 (by simp) (by unfold maxLen; omega))).iv (Nat.zero_le _) (by omega)) ((f2).iv (Nat.zero_le _) (by omega))) ?_)
      rintro _ w2 ⟨⟨b2, hb2, rfl⟩, hm1⟩
      have f3 := f1.ext hm1
      have f4 := f2.ext hm1
      have hE2 := hE1.ext hm1
      have hs2 := hm1.size
      refine OL.q (Q1.assign rfl) rfl rfl ?_
      refine OL.nil ?_
      refine r_ret1 Try.func17 rfl rfl ?_
      exact Ret.mk ⟨⟨_, (by first | assumption | (exfalso; omega)), rfl⟩, hE2⟩
set_option maxRecDepth 20000 in
set_option maxHeartbeats 4000000 in
theorem overEdges_c {w0 : World}  {v_l : Value} {g_l : Nat} {l : List Ed} (h_l : Acc encE 49 2 w0 g_l v_l l) (hln : l.length ≤ 1000000) :
    Calls Try.prog 24 #[v_l] w0 (Ret fun rv w1 => rv = .tuple #[] ∧ Mod (Mg g_l) w0 w1) := by
  have hE0 : Mod (Mg g_l) w0 w0 := Mod.refl _ _
  have hle1 := h_l.le
  have hlt1 := h_l.lt
  refine calls_enter Try.func24 rfl Try.ntmps24 rfl ?_
  refine r_seq ?_
  refine r_seq ?_
  refine r_region ?_
  refine OL.q (Q1.assign rfl) rfl rfl ?_
  refine OL.nil ?_
  refine r_block ?_
  refine r_loop (I := fun m E W => ∃ (k1 : Nat) (l1 : List Ed), E = [(0, v_l), (2, .int .i64 (((k1 : Nat) : Int)))] ∧ m = l.length - k1 ∧ Mod (Mg g_l) w0 W ∧ w0.heap.size ≤ W.heap.size ∧ Acc encE 49 2 W g_l v_l l1 ∧ (l1.length = l.length)) ?_ ?_
  · refine ⟨_, _, ⟨(0 : Nat), (l : List Ed), rfl, rfl, hE0, Nat.le_refl _, h_l, (by rfl)⟩, ⟨rfl, rfl, trivial⟩⟩
  · rintro _ _ w1 ⟨k1, l1, rfl, rfl, hE1, hs1, f1, hl1⟩ ih1
    refine r_seq ?_
    refine r_seq ?_
    refine r_region ?_
    refine OL.q (Q1.move rfl) rfl rfl ?_
    refine OL.q (Q1.move rfl) rfl rfl ?_
    refine OL.q (Q1.lenSl Try.underlying39 (f1.sl) rfl) rfl rfl ?_
    refine OL.qb (Q1.lt rfl rfl) rfl rfl ?_
    intro b1 hb1
    refine OL.nil ?_
    cases b1 with
    | true =>
      replace hb1 := of_decide_eq_true hb1.symm
      refine r_cond_t rfl ?_
      refine r_skip ?_
      refine r_seq ?_
      refine r_block ?_
      refine r_region ?_
      refine OL.q (Q1.move rfl) rfl rfl ?_
      refine OL.q (Q1.move rfl) rfl rfl ?_
      refine OL.q (Q1.build (vs := #[(1, (.int .i64 ((-9)) : Value))]) (v := .agg #[.int .i32 0, .int .i64 ((-9))]) rfl (fun _ => by kernel_rfl)) rfl rfl ?_
      obtain ⟨hr1, x1, hx1⟩ := Acc.at (P := Try.prog) f1 Try.underlying39 ti49 (k := .i64) (n := ((k1 : Nat) : Int)) (k1) (by omega) (by first | assumption | omega | (simp; done))
      refine OL.q (Q1.indexAddr rfl rfl hr1) rfl rfl ?_
      have hl2 := f1.lt
      refine OL.act rfl rfl (AW.storeA f1 encE_len (i := k1) (o := 0) hx1 ((Ed.mk 0 ((-9)))) ti49 rfl (by omega) rfl rfl rfl rfl (by decide) (by first | rfl | simp [encE]) ?_)
      intro w2 hm1 hz1 ha1
      have hl3 := f1.lt
      have hE2 := Mod.thenG hE1 hm1 (by omega)
      have hs2 := hm1.size
      have hl1 : (l1.set k1 ((Ed.mk 0 ((-9))))).length = l1.length := List.length_set
      refine OL.nil ?_
      refine r_inBlock ?_
      refine r_region ?_
      refine OL.q (Q1.move rfl) rfl rfl ?_
      refine OL.q (Q1.addI (((k1 + 1 : Nat) : Int)) rfl rfl (by omega)) rfl rfl ?_
      refine OL.q (Q1.assign rfl) rfl rfl ?_
      refine OL.nil ?_
      exact (ih1 _ _ _ ⟨(k1 + 1 : Nat), ((l1.set k1 ((Ed.mk 0 ((-9))))) : List Ed), rfl, rfl, hE2, (by omega), ha1, (by first | omega | (simp only [List.length_set]; omega) | (exfalso; omega))⟩ (by omega)).sub ⟨rfl, rfl, trivial⟩
    | false =>
      replace hb1 := of_decide_eq_false hb1.symm
      refine r_cond_f rfl ?_
      refine r_exit rfl ?_
      refine r_region ?_
      refine OL.q (Q1.move rfl) rfl rfl ?_
      refine OL.q (Q1.build (vs := #[(1, (.int .i64 ((-9)) : Value))]) (v := .agg #[.int .i32 0, .int .i64 ((-9))]) rfl (fun _ => by kernel_rfl)) rfl rfl ?_
      refine OL.act rfl rfl (AW.buildSlice [(.agg #[.int .i32 0, .int .i64 ((-9))] : Value)] Try.underlying39 ti49 rfl rfl rfl (by decide) ?_)
      intro w2 b2 hm1 hb2 hz1 hk1
      have hl1 := f1.lt
      have f2 := f1.ext hm1
      have hE2 := hE1.ext hm1
      have hs2 := hm1.size
      have hl2 := Sl.of_blk (enc := encE) hk1 ([(Ed.mk 0 ((-9)))] : List Ed) 1 rfl rfl (by unfold maxLen; omega)
      have hl3 := f2.lt
      refine OL.act rfl rfl (AW.append f2 Try.underlying39 ti49 rfl encE_len encE_one rfl rfl (hl2) (by first | omega | (simp only [List.length_append, List.length_cons, List.length_nil]; omega) | (simp; omega)) (by unfold maxLen; first | omega | (simp only [List.length_append, List.length_cons, List.length_nil]; omega) | (simp; omega)) ?_)
      intro v1 g1 w3 ha1 hm2 hg1 hz2
      have hl4 := f2.lt
      have f3 := hl2.keepG hm2 (by omega)
      have hE3 := Mod.thenG hE2 hm2 (by omega)
      have hs3 := hm2.size
      refine OL.nil ?_
      refine r_end0 Try.func24 rfl ?_
      exact Ret.mk ⟨rfl, hE3⟩
end Go.Proofs
