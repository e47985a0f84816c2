/-
  Walks through package list.
-/
import Derived.Test.YtjfjanaddcddlaaWText
set_option linter.unusedVariables false
set_option linter.unusedSimpArgs false
namespace Go.Proofs
open Go.Ik Go.Ml
set_option maxRecDepth 20000 in
set_option maxHeartbeats 4000000 in
theorem lmerge_c {w0 : World} {v_a : Value} {a : List Str} {v_b : Value} {b : List Str} (h_a : Sl encS w0 (Iv 0 w0.heap.size) v_a a) (h_b : Sl encS w0 (Iv 0 w0.heap.size) v_b b) (hlen : a.length + b.length ≤ 1000000) :
    Calls Try.prog 23 #[v_a, v_b] w0 (Ret fun rv w1 => (∃ gr, Acc encS 9 1 w1 gr rv (Ml.mergeL a b) ∧ (gr = 0 ∨ w0.heap.size < gr)) ∧ Ext w0 w1) := by
  have hE0 : Ext w0 w0 := Mod.refl _ _
  have hle1 := h_a.le
  have hle2 := h_b.le
  refine calls_enter Try.func23 rfl Try.ntmps23 rfl ?_
  refine r_seq ?_
  refine r_region ?_
  refine OL.q (Q1.assign rfl) rfl rfl ?_
  refine OL.nil ?_
  refine r_seq ?_
  refine r_region ?_
  refine OL.q (Q1.assign rfl) rfl rfl ?_
  refine OL.nil ?_
  refine r_seq ?_
  refine r_block ?_
  refine r_loop (I := fun m E W => ∃ (v_a1 : Value) (a1 : List Str) (v_b1 : Value) (b1 : List Str) (v_l : Value) (g_l : Nat) (l : List Str), E = [(0, v_a1), (1, v_b1), (5, v_l)] ∧ m = a1.length + b1.length ∧ Ext w0 W ∧ w0.heap.size ≤ W.heap.size ∧ Sl encS W (Iv 0 w0.heap.size) v_a1 a1 ∧ Sl encS W (Iv 0 w0.heap.size) v_b1 b1 ∧ Acc encS 9 1 W g_l v_l l ∧ (g_l = 0 ∨ w0.heap.size < g_l) ∧ (l ++ Ml.mergeL a1 b1 = Ml.mergeL a b) ∧ (l.length + a1.length + b1.length ≤ a.length + b.length)) ?_ ?_
  · refine ⟨_, _, ⟨(v_a : Value), (a : List Str), (v_b : Value), (b : List Str), (.slice none 0 0 : Value), (0 : Nat), ([] : List Str), rfl, rfl, hE0, Nat.le_refl _, h_a, h_b, Acc.nil, (by omega), (by rfl), (by simp)⟩, ⟨rfl, rfl, rfl, trivial⟩⟩
  · rintro _ _ w1 ⟨v_a1, a1, v_b1, b1, v_l, g_l, l, rfl, rfl, hE1, hs1, ha1, ha2, ha3, hg1, hi, hl⟩ ih1
    refine r_seq ?_
    refine r_seq ?_
    refine r_region ?_
    refine OL.q (Q1.move rfl) rfl rfl ?_
    refine OL.q (Q1.lenSl Try.underlying22 (ha1) rfl) rfl rfl ?_
    refine OL.qb (Q1.gt rfl rfl) rfl rfl ?_
    intro b1 hb1
    refine OL.q (Q1.move rfl) rfl rfl ?_
    cases b1 with
    | true =>
      replace hb1 := of_decide_eq_true hb1.symm
      refine OL.sk rfl rfl ?_
      refine OL.sk rfl rfl ?_
      refine OL.sk rfl rfl ?_
      refine OL.q (Q1.pick_t rfl rfl) rfl rfl ?_
      refine OL.nil ?_
      refine r_cond_t rfl ?_
      refine r_skip ?_
      refine r_block ?_
      refine r_block ?_
      refine r_seq ?_
      refine r_draw1 (fun i => Nat.beq i 14) 19 (fun w' => Mod (Mg 0) w1 w') mixed (by kernel_rfl) ?_
      intro w2 hm1
      have hl1 := ha3.lt
      have f1 := ha1.ext hm1
      have f2 := ha2.ext hm1
      have f3 := ha3.ext hm1
      have hE2 := hE1.ext hm1
      have hs2 := hm1.size
      have hCw2 : Mod (Mg 0) w1 w2 := Mod.ofExt hm1
      refine ⟨hCw2, ?_⟩
      rw [show List.range' 0 (Array.size _) = [0, 1, 2, 3, 4, 5, 6, 7, 8, 9, 10, 11, 12, 13, 14, 15, 16, 17, 18] from rfl]
      refine OD.q rfl rfl (Q1.move rfl) rfl rfl ?_
      refine OD.q rfl rfl (Q1.lenSl Try.underlying22 (f2) rfl) rfl rfl ?_
      refine OD.qb rfl rfl (Q1.eq rfl rfl) rfl rfl ?_
      intro b2 hb2
      refine OD.q rfl rfl (Q1.move rfl) rfl rfl ?_
      cases b2 with
      | true =>
        replace hb2 := eq_of_beq hb2.symm
        refine OD.sk rfl rfl rfl ?_
        refine OD.sk rfl rfl rfl ?_
        refine OD.sk rfl rfl rfl ?_
        refine OD.sk rfl rfl rfl ?_
        refine OD.sk rfl rfl rfl ?_
        refine OD.sk rfl rfl rfl ?_
        refine OD.sk rfl rfl rfl ?_
        refine OD.sk rfl rfl rfl ?_
        refine OD.sk rfl rfl rfl ?_
        refine OD.sk rfl rfl rfl ?_
        refine OD.sk rfl rfl rfl ?_
        refine OD.sk rfl rfl rfl ?_
        refine OD.sk rfl rfl rfl ?_
        refine OD.q rfl rfl (Q1.pick_t rfl rfl) rfl rfl ?_
        refine OD.q rfl rfl (Q1.assign rfl) rfl rfl ?_
        refine OD.nil ?_
        refine r_cond_t rfl ?_
        refine r_draw1 (fun i => Nat.beq i 4 || Nat.beq i 5) 10 (fun w' => Mod (Mg g_l) w2 w') mixed (by kernel_rfl) ?_
        intro w3 hm2
        have hl2 := f3.lt
        have f4 := f1.ext hm2
        have f5 := f2.ext hm2
        have f6 := f3.ext hm2
        have hE3 := hE2.ext hm2
        have hs3 := hm2.size
        have hCw3 : Mod (Mg g_l) w2 w3 := Mod.ofExt hm2
        refine ⟨hCw3, ?_⟩
        rw [show List.range' 0 (Array.size _) = [0, 1, 2, 3, 4, 5, 6, 7, 8, 9] from rfl]
        refine OD.q rfl rfl (Q1.move rfl) rfl rfl ?_
        refine OD.q rfl rfl (Q1.move rfl) rfl rfl ?_
        obtain ⟨x1, b3, o1, hx1, hr1, hl3, hu1, hw1⟩ := Sl.at' (P := Try.prog) f1 Try.underlying22 ti9 encS_len (k := .i64) (n := 0) (0) (by omega) (by first | assumption | omega)
        refine OD.q rfl rfl (Q1.indexAddr rfl rfl hr1) rfl rfl ?_
        refine OD.q rfl rfl (Q1.load1 ti9 rfl (fun _ hc => hw1.keepG hc (by omega))) rfl rfl ?_
        refine OD.act rfl rfl rfl rfl (AW.buildSlice [strV x1] Try.underlying22 ti9 rfl rfl rfl (by decide) ?_)
        intro w4 b4 hm3 hb3 hz1 hk1
        have hl4 := f6.lt
        have f7 := f4.ext hm3
        have f8 := f5.ext hm3
        have f9 := f6.ext hm3
        have hE4 := hE3.ext hm3
        have hs4 := hm3.size
        have hCw4 := hCw3.ext hm3
        refine ⟨.inr hCw4, ?_⟩
        have hl5 := Sl.of_blk (enc := encS) hk1 ([x1] : List Str) 1 rfl rfl (by unfold maxLen; omega)
        have hl6 := f9.lt
        refine OD.act rfl rfl rfl rfl (AW.append f9 Try.underlying22 ti9 rfl encS_len encS_one rfl rfl (hl5) (by first | omega | (simp only [List.length_append, List.length_cons, List.length_nil]; omega) | (simp; omega)) (by unfold maxLen; first | omega | (simp only [List.length_append, List.length_cons, List.length_nil]; omega) | (simp; omega)) ?_)
        intro v1 g1 w5 ha4 hm4 hg2 hz2
        have hl7 := f9.lt
        have f10 := f7.keepG hm4 (by omega)
        have f11 := f8.keepG hm4 (by omega)
        have f12 := hl5.keepG hm4 (by omega)
        have hE5 := Ext.thenG hE4 hm4 (by omega)
        have hs5 := hm4.size
        have hCw5 := hCw4.trans hm4
        refine ⟨.inr hCw5, ?_⟩
        refine OD.q rfl rfl (Q1.move rfl) rfl rfl ?_
        obtain ⟨v2, hr2, hl8⟩ := Sl.part (P := Try.prog) f1 Try.underlying22 ti9 encS_len (1) (a1.length) (.inr ⟨.i64, 1, rfl, by omega⟩) (.inl ⟨rfl, rfl⟩) (by omega) (by first | assumption | omega)
        refine OD.q rfl rfl (Q1.sliceV rfl rfl rfl rfl hr2) rfl rfl ?_
        replace hl8 : Sl encS w2 (Iv 0 w0.heap.size) v2 (a1.drop 1) := by simpa using hl8
        have f13 := hl8.keepG hCw5 (by omega)
        refine OD.q rfl rfl (Q1.assign rfl) rfl rfl ?_
        refine OD.q rfl rfl (Q1.assign rfl) rfl rfl ?_
        refine OD.nil ?_
        refine r_inBlock ?_
        refine r_inBlock ?_
        exact (ih1 _ _ _ ⟨(v2 : Value), ((a1.drop 1) : List Str), (v_b1 : Value), (b1 : List Str), (v1 : Value), (g1 : Nat), ((l ++ [x1]) : List Str), rfl, rfl, hE5, (by omega), f13, f11, ha4, (by omega), (by first | exact Ml.merge_step_a hi (Ml.merge_a0 (by assumption) (by omega)) | exact Ml.merge_step_a hi (Ml.merge_a1 hx1 hx2 (by assumption)) | exact Ml.merge_step_b hi (Ml.merge_b1 hx1 hx2 (by assumption) (by assumption)) | exact Ml.merge_step_b hi (Ml.merge_b0 (by assumption) (by omega)) | exact Ml.merge_step_e hi (Ml.merge_eq hx1 hx2 (by assumption) (by assumption)) | (exfalso; omega)), (by first | (simp only [List.length_append, List.length_drop, List.length_cons, List.length_nil]; omega) | (exfalso; omega))⟩ (by (simp only [List.length_drop]; omega))).sub ⟨rfl, rfl, rfl, trivial⟩
      | false =>
        replace hb2 := ne_of_beq_false hb2.symm
        refine OD.q rfl rfl (Q1.move rfl) rfl rfl ?_
        refine OD.q rfl rfl (Q1.lenSl Try.underlying22 (f1) rfl) rfl rfl ?_
        refine OD.qb rfl rfl (Q1.gt rfl rfl) rfl rfl ?_
        intro b3 hb3
        obtain rfl : b3 = true := hb3.trans (decide_eq_true hb1)
        refine OD.q rfl rfl (Q1.move rfl) rfl rfl ?_
        refine OD.q rfl rfl (Q1.move rfl) rfl rfl ?_
        obtain ⟨x1, b4, o1, hx1, hr1, hl2, hu1, hw1⟩ := Sl.at' (P := Try.prog) ha1 Try.underlying22 ti9 encS_len (k := .i64) (n := 0) (0) (by omega) (by first | assumption | omega)
        refine OD.q rfl rfl (Q1.indexAddr rfl rfl hr1) rfl rfl ?_
        refine OD.q rfl rfl (Q1.load1 ti9 rfl (fun _ hc => hw1.keepG hc (by omega))) rfl rfl ?_
        refine OD.q rfl rfl (Q1.move rfl) rfl rfl ?_
        obtain ⟨x2, b5, o2, hx2, hr2, hl3, hu2, hw2⟩ := Sl.at' (P := Try.prog) ha2 Try.underlying22 ti9 encS_len (k := .i64) (n := 0) (0) (by omega) (by first | assumption | omega)
        refine OD.q rfl rfl (Q1.indexAddr rfl rfl hr2) rfl rfl ?_
        refine OD.q rfl rfl (Q1.load1 ti9 rfl (fun _ hc => hw2.keepG hc (by omega))) rfl rfl ?_
        refine OD.act rfl rfl rfl rfl (AW.callF cl21 rfl (tcmp_c (w0 := w2)  x1 x2 ) ?_)
        rintro _ w3 ⟨rfl, hm2, hp1⟩
        have hl4 := f3.lt
        have f4 := f1.ext hm2
        have f5 := f2.ext hm2
        have f6 := f3.ext hm2
        have hE3 := hE2.ext hm2
        have hs3 := hm2.size
        have hCw3 := hCw2.ext hm2
        refine ⟨.inr hCw3, ?_⟩
        refine OD.qb rfl rfl (Q1.lt rfl rfl) rfl rfl ?_
        intro b6 hb4
        refine OD.q rfl rfl (Q1.pick_t rfl rfl) rfl rfl ?_
        refine OD.q rfl rfl (Q1.pick_f rfl rfl) rfl rfl ?_
        refine OD.q rfl rfl (Q1.assign rfl) rfl rfl ?_
        refine OD.nil ?_
        cases b6 with
        | true =>
          replace hb4 := of_decide_eq_true hb4.symm
          refine r_cond_t rfl ?_
          refine r_draw1 (fun i => Nat.beq i 4 || Nat.beq i 5) 10 (fun w' => Mod (Mg g_l) w3 w') mixed (by kernel_rfl) ?_
          intro w4 hm3
          have hl5 := f6.lt
          have f7 := f4.ext hm3
          have f8 := f5.ext hm3
          have f9 := f6.ext hm3
          have hE4 := hE3.ext hm3
          have hs4 := hm3.size
          have hCw4 : Mod (Mg g_l) w3 w4 := Mod.ofExt hm3
          refine ⟨hCw4, ?_⟩
          rw [show List.range' 0 (Array.size _) = [0, 1, 2, 3, 4, 5, 6, 7, 8, 9] from rfl]
          refine OD.q rfl rfl (Q1.move rfl) rfl rfl ?_
          refine OD.q rfl rfl (Q1.move rfl) rfl rfl ?_
          obtain ⟨x3, b7, o3, hx3, hr3, hl6, hu3, hw3⟩ := Sl.at' (P := Try.prog) f4 Try.underlying22 ti9 encS_len (k := .i64) (n := 0) (0) (by omega) (by first | assumption | omega)
          obtain rfl : x1 = x3 := Option.some.inj (hx1.symm.trans hx3)
          refine OD.q rfl rfl (Q1.indexAddr rfl rfl hr3) rfl rfl ?_
          refine OD.q rfl rfl (Q1.load1 ti9 rfl (fun _ hc => hw3.keepG hc (by omega))) rfl rfl ?_
          refine OD.act rfl rfl rfl rfl (AW.buildSlice [strV x1] Try.underlying22 ti9 rfl rfl rfl (by decide) ?_)
          intro w5 b8 hm4 hb5 hz1 hk1
          have hl7 := f9.lt
          have f10 := f7.ext hm4
          have f11 := f8.ext hm4
          have f12 := f9.ext hm4
          have hE5 := hE4.ext hm4
          have hs5 := hm4.size
          have hCw5 := hCw4.ext hm4
          refine ⟨.inr hCw5, ?_⟩
          have hl8 := Sl.of_blk (enc := encS) hk1 ([x1] : List Str) 1 rfl rfl (by unfold maxLen; omega)
          have hl9 := f12.lt
          refine OD.act rfl rfl rfl rfl (AW.append f12 Try.underlying22 ti9 rfl encS_len encS_one rfl rfl (hl8) (by first | omega | (simp only [List.length_append, List.length_cons, List.length_nil]; omega) | (simp; omega)) (by unfold maxLen; first | omega | (simp only [List.length_append, List.length_cons, List.length_nil]; omega) | (simp; omega)) ?_)
          intro v1 g1 w6 ha4 hm5 hg2 hz2
          have hl10 := f12.lt
          have f13 := f10.keepG hm5 (by omega)
          have f14 := f11.keepG hm5 (by omega)
          have f15 := hl8.keepG hm5 (by omega)
          have hE6 := Ext.thenG hE5 hm5 (by omega)
          have hs6 := hm5.size
          have hCw6 := hCw5.trans hm5
          refine ⟨.inr hCw6, ?_⟩
          refine OD.q rfl rfl (Q1.move rfl) rfl rfl ?_
          obtain ⟨v2, hr4, hl11⟩ := Sl.part (P := Try.prog) f4 Try.underlying22 ti9 encS_len (1) (a1.length) (.inr ⟨.i64, 1, rfl, by omega⟩) (.inl ⟨rfl, rfl⟩) (by omega) (by first | assumption | omega)
          refine OD.q rfl rfl (Q1.sliceV rfl rfl rfl rfl hr4) rfl rfl ?_
          replace hl11 : Sl encS w3 (Iv 0 w0.heap.size) v2 (a1.drop 1) := by simpa using hl11
          have f16 := hl11.keepG hCw6 (by omega)
          refine OD.q rfl rfl (Q1.assign rfl) rfl rfl ?_
          refine OD.q rfl rfl (Q1.assign rfl) rfl rfl ?_
          refine OD.nil ?_
          refine r_inBlock ?_
          refine r_inBlock ?_
          exact (ih1 _ _ _ ⟨(v2 : Value), ((a1.drop 1) : List Str), (v_b1 : Value), (b1 : List Str), (v1 : Value), (g1 : Nat), ((l ++ [x1]) : List Str), rfl, rfl, hE6, (by omega), f16, f14, ha4, (by omega), (by first | exact Ml.merge_step_a hi (Ml.merge_a0 (by assumption) (by omega)) | exact Ml.merge_step_a hi (Ml.merge_a1 hx1 hx2 (by assumption)) | exact Ml.merge_step_b hi (Ml.merge_b1 hx1 hx2 (by assumption) (by assumption)) | exact Ml.merge_step_b hi (Ml.merge_b0 (by assumption) (by omega)) | exact Ml.merge_step_e hi (Ml.merge_eq hx1 hx2 (by assumption) (by assumption)) | (exfalso; omega)), (by first | (simp only [List.length_append, List.length_drop, List.length_cons, List.length_nil]; omega) | (exfalso; omega))⟩ (by (simp only [List.length_drop]; omega))).sub ⟨rfl, rfl, rfl, trivial⟩
        | false =>
          replace hb4 := of_decide_eq_false hb4.symm
          refine r_cond_f rfl ?_
          refine r_seq ?_
          refine r_draw1 (fun i => false) 13 (fun w' => Mod (Mg 0) w3 w') mixed (by kernel_rfl) ?_
          intro w4 hm3
          have hl5 := f6.lt
          have f7 := f4.ext hm3
          have f8 := f5.ext hm3
          have f9 := f6.ext hm3
          have hE4 := hE3.ext hm3
          have hs4 := hm3.size
          have hCw4 : Mod (Mg 0) w3 w4 := Mod.ofExt hm3
          refine ⟨hCw4, ?_⟩
          rw [show List.range' 0 (Array.size _) = [0, 1, 2, 3, 4, 5, 6, 7, 8, 9, 10, 11, 12] from rfl]
          refine OD.q rfl rfl (Q1.move rfl) rfl rfl ?_
          refine OD.q rfl rfl (Q1.lenSl Try.underlying22 (f7) rfl) rfl rfl ?_
          refine OD.qb rfl rfl (Q1.gt rfl rfl) rfl rfl ?_
          intro b7 hb5
          obtain rfl : b7 = true := hb5.trans (decide_eq_true hb1)
          refine OD.q rfl rfl (Q1.move rfl) rfl rfl ?_
          refine OD.q rfl rfl (Q1.move rfl) rfl rfl ?_
          obtain ⟨x3, b8, o3, hx3, hr3, hl6, hu3, hw3⟩ := Sl.at' (P := Try.prog) f4 Try.underlying22 ti9 encS_len (k := .i64) (n := 0) (0) (by omega) (by first | assumption | omega)
          obtain rfl : x1 = x3 := Option.some.inj (hx1.symm.trans hx3)
          refine OD.q rfl rfl (Q1.indexAddr rfl rfl hr3) rfl rfl ?_
          refine OD.q rfl rfl (Q1.load1 ti9 rfl (fun _ hc => hw3.keepG hc (by omega))) rfl rfl ?_
          refine OD.q rfl rfl (Q1.move rfl) rfl rfl ?_
          obtain ⟨x4, b9, o4, hx4, hr4, hl7, hu4, hw4⟩ := Sl.at' (P := Try.prog) f5 Try.underlying22 ti9 encS_len (k := .i64) (n := 0) (0) (by omega) (by first | assumption | omega)
          obtain rfl : x2 = x4 := Option.some.inj (hx2.symm.trans hx4)
          refine OD.q rfl rfl (Q1.indexAddr rfl rfl hr4) rfl rfl ?_
          refine OD.q rfl rfl (Q1.load1 ti9 rfl (fun _ hc => hw4.keepG hc (by omega))) rfl rfl ?_
          refine OD.qb rfl rfl (Q1.eqS rfl rfl) rfl rfl ?_
          intro b10 hb6
          refine OD.q rfl rfl (Q1.pick_t rfl rfl) rfl rfl ?_
          refine OD.q rfl rfl (Q1.assign rfl) rfl rfl ?_
          refine OD.nil ?_
          cases b10 with
          | true =>
            replace hb6 := eq_of_beq hb6.symm
            refine r_cond_t rfl ?_
            refine r_region ?_
            refine OL.q (Q1.move rfl) rfl rfl ?_
            obtain ⟨v1, hr5, hl8⟩ := Sl.part (P := Try.prog) f7 Try.underlying22 ti9 encS_len (1) (a1.length) (.inr ⟨.i64, 1, rfl, by omega⟩) (.inl ⟨rfl, rfl⟩) (by omega) (by first | assumption | omega)
            refine OL.q (Q1.sliceV rfl rfl rfl rfl hr5) rfl rfl ?_
            replace hl8 : Sl encS w4 (Iv 0 w0.heap.size) v1 (a1.drop 1) := by simpa using hl8
            refine OL.q (Q1.assign rfl) rfl rfl ?_
            refine OL.nil ?_
            refine r_inBlock ?_
            refine r_inBlock ?_
            exact (ih1 _ _ _ ⟨(v1 : Value), ((a1.drop 1) : List Str), (v_b1 : Value), (b1 : List Str), (v_l : Value), (g_l : Nat), (l : List Str), rfl, rfl, hE4, (by omega), hl8, f8, f9, (by omega), (by first | exact Ml.merge_step_a hi (Ml.merge_a0 (by assumption) (by omega)) | exact Ml.merge_step_a hi (Ml.merge_a1 hx1 hx2 (by assumption)) | exact Ml.merge_step_b hi (Ml.merge_b1 hx1 hx2 (by assumption) (by assumption)) | exact Ml.merge_step_b hi (Ml.merge_b0 (by assumption) (by omega)) | exact Ml.merge_step_e hi (Ml.merge_eq hx1 hx2 (by assumption) (by assumption)) | (exfalso; omega)), (by first | (simp only [List.length_append, List.length_drop, List.length_cons, List.length_nil]; omega) | (exfalso; omega))⟩ (by (simp only [List.length_drop]; omega))).sub ⟨rfl, rfl, rfl, trivial⟩
          | false =>
            replace hb6 := ne_of_beq_false hb6.symm
            refine r_cond_f rfl ?_
            refine r_draw1 (fun i => Nat.beq i 4 || Nat.beq i 5) 10 (fun w' => Mod (Mg g_l) w4 w') mixed (by kernel_rfl) ?_
            intro w5 hm4
            have hl8 := f9.lt
            have f10 := f7.ext hm4
            have f11 := f8.ext hm4
            have f12 := f9.ext hm4
            have hE5 := hE4.ext hm4
            have hs5 := hm4.size
            have hCw5 : Mod (Mg g_l) w4 w5 := Mod.ofExt hm4
            refine ⟨hCw5, ?_⟩
            rw [show List.range' 0 (Array.size _) = [0, 1, 2, 3, 4, 5, 6, 7, 8, 9] from rfl]
            refine OD.q rfl rfl (Q1.move rfl) rfl rfl ?_
            refine OD.q rfl rfl (Q1.move rfl) rfl rfl ?_
            obtain ⟨x5, b11, o5, hx5, hr5, hl9, hu5, hw5⟩ := Sl.at' (P := Try.prog) f8 Try.underlying22 ti9 encS_len (k := .i64) (n := 0) (0) (by omega) (by first | assumption | omega)
            obtain rfl : x2 = x5 := Option.some.inj (hx2.symm.trans hx5)
            refine OD.q rfl rfl (Q1.indexAddr rfl rfl hr5) rfl rfl ?_
            refine OD.q rfl rfl (Q1.load1 ti9 rfl (fun _ hc => hw5.keepG hc (by omega))) rfl rfl ?_
            refine OD.act rfl rfl rfl rfl (AW.buildSlice [strV x2] Try.underlying22 ti9 rfl rfl rfl (by decide) ?_)
            intro w6 b12 hm5 hb7 hz1 hk1
            have hl10 := f12.lt
            have f13 := f10.ext hm5
            have f14 := f11.ext hm5
            have f15 := f12.ext hm5
            have hE6 := hE5.ext hm5
            have hs6 := hm5.size
            have hCw6 := hCw5.ext hm5
            refine ⟨.inr hCw6, ?_⟩
            have hl11 := Sl.of_blk (enc := encS) hk1 ([x2] : List Str) 1 rfl rfl (by unfold maxLen; omega)
            have hl12 := f15.lt
            refine OD.act rfl rfl rfl rfl (AW.append f15 Try.underlying22 ti9 rfl encS_len encS_one rfl rfl (hl11) (by first | omega | (simp only [List.length_append, List.length_cons, List.length_nil]; omega) | (simp; omega)) (by unfold maxLen; first | omega | (simp only [List.length_append, List.length_cons, List.length_nil]; omega) | (simp; omega)) ?_)
            intro v1 g1 w7 ha4 hm6 hg2 hz2
            have hl13 := f15.lt
            have f16 := f13.keepG hm6 (by omega)
            have f17 := f14.keepG hm6 (by omega)
            have f18 := hl11.keepG hm6 (by omega)
            have hE7 := Ext.thenG hE6 hm6 (by omega)
            have hs7 := hm6.size
            have hCw7 := hCw6.trans hm6
            refine ⟨.inr hCw7, ?_⟩
            refine OD.q rfl rfl (Q1.move rfl) rfl rfl ?_
            obtain ⟨v2, hr6, hl14⟩ := Sl.part (P := Try.prog) f8 Try.underlying22 ti9 encS_len (1) (b1.length) (.inr ⟨.i64, 1, rfl, by omega⟩) (.inl ⟨rfl, rfl⟩) (by omega) (by first | assumption | omega)
            refine OD.q rfl rfl (Q1.sliceV rfl rfl rfl rfl hr6) rfl rfl ?_
            replace hl14 : Sl encS w4 (Iv 0 w0.heap.size) v2 (b1.drop 1) := by simpa using hl14
            have f19 := hl14.keepG hCw7 (by omega)
            refine OD.q rfl rfl (Q1.assign rfl) rfl rfl ?_
            refine OD.q rfl rfl (Q1.assign rfl) rfl rfl ?_
            refine OD.nil ?_
            refine r_inBlock ?_
            refine r_inBlock ?_
            exact (ih1 _ _ _ ⟨(v_a1 : Value), (a1 : List Str), (v2 : Value), ((b1.drop 1) : List Str), (v1 : Value), (g1 : Nat), ((l ++ [x2]) : List Str), rfl, rfl, hE7, (by omega), f16, f19, ha4, (by omega), (by first | exact Ml.merge_step_a hi (Ml.merge_a0 (by assumption) (by omega)) | exact Ml.merge_step_a hi (Ml.merge_a1 hx1 hx2 (by assumption)) | exact Ml.merge_step_b hi (Ml.merge_b1 hx1 hx2 (by assumption) (by assumption)) | exact Ml.merge_step_b hi (Ml.merge_b0 (by assumption) (by omega)) | exact Ml.merge_step_e hi (Ml.merge_eq hx1 hx2 (by assumption) (by assumption)) | (exfalso; omega)), (by first | (simp only [List.length_append, List.length_drop, List.length_cons, List.length_nil]; omega) | (exfalso; omega))⟩ (by (simp only [List.length_drop]; omega))).sub ⟨rfl, rfl, rfl, trivial⟩
    | false =>
      replace hb1 := of_decide_eq_false hb1.symm
      refine OL.q (Q1.move rfl) rfl rfl ?_
      refine OL.q (Q1.lenSl Try.underlying22 (ha2) rfl) rfl rfl ?_
      refine OL.qb (Q1.gt rfl rfl) rfl rfl ?_
      intro b2 hb2
      refine OL.q (Q1.pick_f rfl rfl) rfl rfl ?_
      refine OL.nil ?_
      cases b2 with
      | true =>
        replace hb2 := of_decide_eq_true hb2.symm
        refine r_cond_t rfl ?_
        refine r_skip ?_
        refine r_block ?_
        refine r_block ?_
        refine r_seq ?_
        refine r_draw1 (fun i => Nat.beq i 14) 19 (fun w' => Mod (Mg 0) w1 w') mixed (by kernel_rfl) ?_
        intro w2 hm1
        have hl1 := ha3.lt
        have f1 := ha1.ext hm1
        have f2 := ha2.ext hm1
        have f3 := ha3.ext hm1
        have hE2 := hE1.ext hm1
        have hs2 := hm1.size
        have hCw2 : Mod (Mg 0) w1 w2 := Mod.ofExt hm1
        refine ⟨hCw2, ?_⟩
        rw [show List.range' 0 (Array.size _) = [0, 1, 2, 3, 4, 5, 6, 7, 8, 9, 10, 11, 12, 13, 14, 15, 16, 17, 18] from rfl]
        refine OD.q rfl rfl (Q1.move rfl) rfl rfl ?_
        refine OD.q rfl rfl (Q1.lenSl Try.underlying22 (f2) rfl) rfl rfl ?_
        refine OD.qb rfl rfl (Q1.eq rfl rfl) rfl rfl ?_
        intro b3 hb3
        refine OD.q rfl rfl (Q1.move rfl) rfl rfl ?_
        cases b3 with
        | true =>
          replace hb3 := eq_of_beq hb3.symm
          refine OD.sk rfl rfl rfl ?_
          refine OD.sk rfl rfl rfl ?_
          refine OD.sk rfl rfl rfl ?_
          refine OD.sk rfl rfl rfl ?_
          refine OD.sk rfl rfl rfl ?_
          refine OD.sk rfl rfl rfl ?_
          refine OD.sk rfl rfl rfl ?_
          refine OD.sk rfl rfl rfl ?_
          refine OD.sk rfl rfl rfl ?_
          refine OD.sk rfl rfl rfl ?_
          refine OD.sk rfl rfl rfl ?_
          refine OD.sk rfl rfl rfl ?_
          refine OD.sk rfl rfl rfl ?_
          refine OD.q rfl rfl (Q1.pick_t rfl rfl) rfl rfl ?_
          refine OD.q rfl rfl (Q1.assign rfl) rfl rfl ?_
          refine OD.nil ?_
          refine r_cond_t rfl ?_
          refine r_draw1 (fun i => Nat.beq i 4 || Nat.beq i 5) 10 (fun w' => Mod (Mg g_l) w2 w') mixed (by kernel_rfl) ?_
          intro w3 hm2
          have hl2 := f3.lt
          have f4 := f1.ext hm2
          have f5 := f2.ext hm2
          have f6 := f3.ext hm2
          have hE3 := hE2.ext hm2
          have hs3 := hm2.size
          have hCw3 : Mod (Mg g_l) w2 w3 := Mod.ofExt hm2
          refine ⟨hCw3, ?_⟩
          rw [show List.range' 0 (Array.size _) = [0, 1, 2, 3, 4, 5, 6, 7, 8, 9] from rfl]
          refine OD.q rfl rfl (Q1.move rfl) rfl rfl ?_
          refine OD.q rfl rfl (Q1.move rfl) rfl rfl ?_
          obtain ⟨x1, b4, o1, hx1, hr1, hl3, hu1, hw1⟩ := Sl.at' (P := Try.prog) f1 Try.underlying22 ti9 encS_len (k := .i64) (n := 0) (0) (by omega) (by first | assumption | omega)
          refine OD.q rfl rfl (Q1.indexAddr rfl rfl hr1) rfl rfl ?_
          refine OD.q rfl rfl (Q1.load1 ti9 rfl (fun _ hc => hw1.keepG hc (by omega))) rfl rfl ?_
          refine OD.act rfl rfl rfl rfl (AW.buildSlice [strV x1] Try.underlying22 ti9 rfl rfl rfl (by decide) ?_)
          intro w4 b5 hm3 hb4 hz1 hk1
          have hl4 := f6.lt
          have f7 := f4.ext hm3
          have f8 := f5.ext hm3
          have f9 := f6.ext hm3
          have hE4 := hE3.ext hm3
          have hs4 := hm3.size
          have hCw4 := hCw3.ext hm3
          refine ⟨.inr hCw4, ?_⟩
          have hl5 := Sl.of_blk (enc := encS) hk1 ([x1] : List Str) 1 rfl rfl (by unfold maxLen; omega)
          have hl6 := f9.lt
          refine OD.act rfl rfl rfl rfl (AW.append f9 Try.underlying22 ti9 rfl encS_len encS_one rfl rfl (hl5) (by first | omega | (simp only [List.length_append, List.length_cons, List.length_nil]; omega) | (simp; omega)) (by unfold maxLen; first | omega | (simp only [List.length_append, List.length_cons, List.length_nil]; omega) | (simp; omega)) ?_)
          intro v1 g1 w5 ha4 hm4 hg2 hz2
          have hl7 := f9.lt
          have f10 := f7.keepG hm4 (by omega)
          have f11 := f8.keepG hm4 (by omega)
          have f12 := hl5.keepG hm4 (by omega)
          have hE5 := Ext.thenG hE4 hm4 (by omega)
          have hs5 := hm4.size
          have hCw5 := hCw4.trans hm4
          refine ⟨.inr hCw5, ?_⟩
          refine OD.q rfl rfl (Q1.move rfl) rfl rfl ?_
          obtain ⟨v2, hr2, hl8⟩ := Sl.part (P := Try.prog) f1 Try.underlying22 ti9 encS_len (1) (a1.length) (.inr ⟨.i64, 1, rfl, by omega⟩) (.inl ⟨rfl, rfl⟩) (by omega) (by first | assumption | omega)
          refine OD.q rfl rfl (Q1.sliceV rfl rfl rfl rfl hr2) rfl rfl ?_
          replace hl8 : Sl encS w2 (Iv 0 w0.heap.size) v2 (a1.drop 1) := by simpa using hl8
          have f13 := hl8.keepG hCw5 (by omega)
          refine OD.q rfl rfl (Q1.assign rfl) rfl rfl ?_
          refine OD.q rfl rfl (Q1.assign rfl) rfl rfl ?_
          refine OD.nil ?_
          refine r_inBlock ?_
          refine r_inBlock ?_
          exact (ih1 _ _ _ ⟨(v2 : Value), ((a1.drop 1) : List Str), (v_b1 : Value), (b1 : List Str), (v1 : Value), (g1 : Nat), ((l ++ [x1]) : List Str), rfl, rfl, hE5, (by omega), f13, f11, ha4, (by omega), (by first | exact Ml.merge_step_a hi (Ml.merge_a0 (by assumption) (by omega)) | exact Ml.merge_step_a hi (Ml.merge_a1 hx1 hx2 (by assumption)) | exact Ml.merge_step_b hi (Ml.merge_b1 hx1 hx2 (by assumption) (by assumption)) | exact Ml.merge_step_b hi (Ml.merge_b0 (by assumption) (by omega)) | exact Ml.merge_step_e hi (Ml.merge_eq hx1 hx2 (by assumption) (by assumption)) | (exfalso; omega)), (by first | (simp only [List.length_append, List.length_drop, List.length_cons, List.length_nil]; omega) | (exfalso; omega))⟩ (by (simp only [List.length_drop]; omega))).sub ⟨rfl, rfl, rfl, trivial⟩
        | false =>
          replace hb3 := ne_of_beq_false hb3.symm
          refine OD.q rfl rfl (Q1.move rfl) rfl rfl ?_
          refine OD.q rfl rfl (Q1.lenSl Try.underlying22 (f1) rfl) rfl rfl ?_
          refine OD.qb rfl rfl (Q1.gt rfl rfl) rfl rfl ?_
          intro b4 hb4
          obtain rfl : b4 = false := hb4.trans (decide_eq_false hb1)
          refine OD.q rfl rfl (Q1.move rfl) rfl rfl ?_
          refine OD.sk rfl rfl rfl ?_
          refine OD.sk rfl rfl rfl ?_
          refine OD.sk rfl rfl rfl ?_
          refine OD.sk rfl rfl rfl ?_
          refine OD.sk rfl rfl rfl ?_
          refine OD.sk rfl rfl rfl ?_
          refine OD.sk rfl rfl rfl ?_
          refine OD.sk rfl rfl rfl ?_
          refine OD.q rfl rfl (Q1.pick_f rfl rfl) rfl rfl ?_
          refine OD.q rfl rfl (Q1.pick_f rfl rfl) rfl rfl ?_
          refine OD.q rfl rfl (Q1.assign rfl) rfl rfl ?_
          refine OD.nil ?_
          refine r_cond_f rfl ?_
          refine r_seq ?_
          refine r_draw1 (fun i => false) 13 (fun w' => Mod (Mg 0) w2 w') mixed (by kernel_rfl) ?_
          intro w3 hm2
          have hl2 := f3.lt
          have f4 := f1.ext hm2
          have f5 := f2.ext hm2
          have f6 := f3.ext hm2
          have hE3 := hE2.ext hm2
          have hs3 := hm2.size
          have hCw3 : Mod (Mg 0) w2 w3 := Mod.ofExt hm2
          refine ⟨hCw3, ?_⟩
          rw [show List.range' 0 (Array.size _) = [0, 1, 2, 3, 4, 5, 6, 7, 8, 9, 10, 11, 12] from rfl]
          refine OD.q rfl rfl (Q1.move rfl) rfl rfl ?_
          refine OD.q rfl rfl (Q1.lenSl Try.underlying22 (f4) rfl) rfl rfl ?_
          refine OD.qb rfl rfl (Q1.gt rfl rfl) rfl rfl ?_
          intro b5 hb5
          obtain rfl : b5 = false := hb5.trans (decide_eq_false hb1)
          refine OD.q rfl rfl (Q1.move rfl) rfl rfl ?_
          refine OD.sk rfl rfl rfl ?_
          refine OD.sk rfl rfl rfl ?_
          refine OD.sk rfl rfl rfl ?_
          refine OD.sk rfl rfl rfl ?_
          refine OD.sk rfl rfl rfl ?_
          refine OD.sk rfl rfl rfl ?_
          refine OD.sk rfl rfl rfl ?_
          refine OD.q rfl rfl (Q1.pick_f rfl rfl) rfl rfl ?_
          refine OD.q rfl rfl (Q1.assign rfl) rfl rfl ?_
          refine OD.nil ?_
          refine r_cond_f rfl ?_
          refine r_draw1 (fun i => Nat.beq i 4 || Nat.beq i 5) 10 (fun w' => Mod (Mg g_l) w3 w') mixed (by kernel_rfl) ?_
          intro w4 hm3
          have hl3 := f6.lt
          have f7 := f4.ext hm3
          have f8 := f5.ext hm3
          have f9 := f6.ext hm3
          have hE4 := hE3.ext hm3
          have hs4 := hm3.size
          have hCw4 : Mod (Mg g_l) w3 w4 := Mod.ofExt hm3
          refine ⟨hCw4, ?_⟩
          rw [show List.range' 0 (Array.size _) = [0, 1, 2, 3, 4, 5, 6, 7, 8, 9] from rfl]
          refine OD.q rfl rfl (Q1.move rfl) rfl rfl ?_
          refine OD.q rfl rfl (Q1.move rfl) rfl rfl ?_
          obtain ⟨x1, b6, o1, hx1, hr1, hl4, hu1, hw1⟩ := Sl.at' (P := Try.prog) f5 Try.underlying22 ti9 encS_len (k := .i64) (n := 0) (0) (by omega) (by first | assumption | omega)
          refine OD.q rfl rfl (Q1.indexAddr rfl rfl hr1) rfl rfl ?_
          refine OD.q rfl rfl (Q1.load1 ti9 rfl (fun _ hc => hw1.keepG hc (by omega))) rfl rfl ?_
          refine OD.act rfl rfl rfl rfl (AW.buildSlice [strV x1] Try.underlying22 ti9 rfl rfl rfl (by decide) ?_)
          intro w5 b7 hm4 hb6 hz1 hk1
          have hl5 := f9.lt
          have f10 := f7.ext hm4
          have f11 := f8.ext hm4
          have f12 := f9.ext hm4
          have hE5 := hE4.ext hm4
          have hs5 := hm4.size
          have hCw5 := hCw4.ext hm4
          refine ⟨.inr hCw5, ?_⟩
          have hl6 := Sl.of_blk (enc := encS) hk1 ([x1] : List Str) 1 rfl rfl (by unfold maxLen; omega)
          have hl7 := f12.lt
          refine OD.act rfl rfl rfl rfl (AW.append f12 Try.underlying22 ti9 rfl encS_len encS_one rfl rfl (hl6) (by first | omega | (simp only [List.length_append, List.length_cons, List.length_nil]; omega) | (simp; omega)) (by unfold maxLen; first | omega | (simp only [List.length_append, List.length_cons, List.length_nil]; omega) | (simp; omega)) ?_)
          intro v1 g1 w6 ha4 hm5 hg2 hz2
          have hl8 := f12.lt
          have f13 := f10.keepG hm5 (by omega)
          have f14 := f11.keepG hm5 (by omega)
          have f15 := hl6.keepG hm5 (by omega)
          have hE6 := Ext.thenG hE5 hm5 (by omega)
          have hs6 := hm5.size
          have hCw6 := hCw5.trans hm5
          refine ⟨.inr hCw6, ?_⟩
          refine OD.q rfl rfl (Q1.move rfl) rfl rfl ?_
          obtain ⟨v2, hr2, hl9⟩ := Sl.part (P := Try.prog) f5 Try.underlying22 ti9 encS_len (1) (b1.length) (.inr ⟨.i64, 1, rfl, by omega⟩) (.inl ⟨rfl, rfl⟩) (by omega) (by first | assumption | omega)
          refine OD.q rfl rfl (Q1.sliceV rfl rfl rfl rfl hr2) rfl rfl ?_
          replace hl9 : Sl encS w3 (Iv 0 w0.heap.size) v2 (b1.drop 1) := by simpa using hl9
          have f16 := hl9.keepG hCw6 (by omega)
          refine OD.q rfl rfl (Q1.assign rfl) rfl rfl ?_
          refine OD.q rfl rfl (Q1.assign rfl) rfl rfl ?_
          refine OD.nil ?_
          refine r_inBlock ?_
          refine r_inBlock ?_
          exact (ih1 _ _ _ ⟨(v_a1 : Value), (a1 : List Str), (v2 : Value), ((b1.drop 1) : List Str), (v1 : Value), (g1 : Nat), ((l ++ [x1]) : List Str), rfl, rfl, hE6, (by omega), f13, f16, ha4, (by omega), (by first | exact Ml.merge_step_a hi (Ml.merge_a0 (by assumption) (by omega)) | exact Ml.merge_step_a hi (Ml.merge_a1 hx1 hx2 (by assumption)) | exact Ml.merge_step_b hi (Ml.merge_b1 hx1 hx2 (by assumption) (by assumption)) | exact Ml.merge_step_b hi (Ml.merge_b0 (by assumption) (by omega)) | exact Ml.merge_step_e hi (Ml.merge_eq hx1 hx2 (by assumption) (by assumption)) | (exfalso; omega)), (by first | (simp only [List.length_append, List.length_drop, List.length_cons, List.length_nil]; omega) | (exfalso; omega))⟩ (by (simp only [List.length_drop]; omega))).sub ⟨rfl, rfl, rfl, trivial⟩
      | false =>
        replace hb2 := of_decide_eq_false hb2.symm
        refine r_cond_f rfl ?_
        refine r_exit rfl ?_
        refine r_seq ?_
        refine r_region ?_
        refine OL.q (Q1.move rfl) rfl rfl ?_
        refine OL.q (Q1.assign rfl) rfl rfl ?_
        refine OL.nil ?_
        refine r_ret1 Try.func23 rfl rfl ?_
        exact Ret.mk ⟨⟨_, Acc.cast ha3 (by first | exact Ml.merge_end hi (by omega) (by omega) | (exfalso; omega)), by omega⟩, hE1⟩
set_option maxRecDepth 20000 in
set_option maxHeartbeats 4000000 in
theorem bsearch_c {w0 : World} {v_x : Value} {x : List Str} (target : Str) (h_x : Sl encS w0 (Iv 0 w0.heap.size) v_x x) (hso_x : Ml.Sorted x) (hln_x : x.length ≤ 1000000) :
    Calls Try.prog 35 #[v_x, strV target, .func (.func 21) #[] #[]] w0 (Ret fun rv w1 => ∃ u0 u1, rv = .tuple #[u0, u1] ∧ u0 = .int .i64 (((Ml.belowW x target : Nat) : Int)) ∧ (∃ rb : Bool, rb = (x.contains target) ∧ u1 = .bool rb) ∧ Ext w0 w1) := by
  have hE0 : Ext w0 w0 := Mod.refl _ _
  have hle1 := h_x.le
  refine calls_enter Try.func35 rfl Try.ntmps35 rfl ?_
  refine r_seq ?_
  refine r_region ?_
  refine OL.q (Q1.assign rfl) rfl rfl ?_
  refine OL.q (Q1.assign rfl) rfl rfl ?_
  refine OL.nil ?_
  refine r_seq ?_
  refine r_region ?_
  refine OL.q (Q1.move rfl) rfl rfl ?_
  refine OL.q (Q1.lenSl Try.underlying22 (h_x) rfl) rfl rfl ?_
  refine OL.q (Q1.assign rfl) rfl rfl ?_
  refine OL.nil ?_
  refine r_seq ?_
  refine r_region ?_
  refine OL.q (Q1.move rfl) rfl rfl ?_
  refine OL.q (Q1.assign rfl) rfl rfl ?_
  refine OL.q (Q1.assign rfl) rfl rfl ?_
  refine OL.nil ?_
  refine r_seq ?_
  refine r_block ?_
  refine r_loop (I := fun m E W => ∃ (i : Nat) (j : Nat), E = [(0, v_x), (1, strV target), (2, .func (.func 21) #[] #[]), (8, .int .i64 (((x.length : Nat) : Int))), (9, .int .i64 (((i : Nat) : Int))), (10, .int .i64 (((j : Nat) : Int)))] ∧ m = j - i ∧ Ext w0 W ∧ w0.heap.size ≤ W.heap.size ∧ Sl encS W (Iv 0 w0.heap.size) v_x x ∧ (Ml.BsInv x target i j) ∧ (i ≤ j) ∧ (j ≤ x.length)) ?_ ?_
  · refine ⟨_, _, ⟨(0 : Nat), (x.length : Nat), rfl, rfl, hE0, Nat.le_refl _, h_x, (by exact Ml.BsInv.start x target), (by omega), (by omega)⟩, ⟨rfl, rfl, rfl, rfl, rfl, rfl, trivial⟩⟩
  · rintro _ _ w1 ⟨i, j, rfl, rfl, hE1, hs1, f1, hi, hij, hj⟩ ih1
    refine r_seq ?_
    refine r_seq ?_
    refine r_region ?_
    refine OL.q (Q1.move rfl) rfl rfl ?_
    refine OL.q (Q1.move rfl) rfl rfl ?_
    refine OL.qb (Q1.lt rfl rfl) rfl rfl ?_
    intro b1 hb1
    refine OL.nil ?_
    cases b1 with
    | true =>
      replace hb1 := of_decide_eq_true hb1.symm
      refine r_cond_t rfl ?_
      refine r_skip ?_
      refine r_block ?_
      refine r_seq ?_
      refine r_region ?_
      refine OL.q (Q1.move rfl) rfl rfl ?_
      refine OL.q (Q1.move rfl) rfl rfl ?_
      refine OL.q (Q1.addI (((i + j : Nat) : Int)) rfl rfl (by omega)) rfl rfl ?_
      refine OL.q (Q1.convN (by kernel_rfl) Try.underlying46 rfl (IntWalk.u64_in _ (by omega))) rfl rfl ?_
      refine OL.q (Q1.shr1 ((((i + j) / 2 : Nat) : Int)) rfl rfl (by omega)) rfl rfl ?_
      refine OL.q (Q1.convN (by kernel_rfl) Try.underlying3 rfl (IntWalk.i64_in _ (by omega))) rfl rfl ?_
      refine OL.q (Q1.assign rfl) rfl rfl ?_
      refine OL.nil ?_
      refine r_seq ?_
      refine r_region ?_
      refine OL.q (Q1.move rfl) rfl rfl ?_
      refine OL.q (Q1.move rfl) rfl rfl ?_
      refine OL.q (Q1.move rfl) rfl rfl ?_
      obtain ⟨x1, b2, o1, hx1, hr1, hl1, hu1, hw1⟩ := Sl.at' (P := Try.prog) f1 Try.underlying22 ti9 encS_len (k := .i64) (n := (((i + j) / 2 : Nat) : Int)) ((i + j) / 2) (by omega) (by first | assumption | omega)
      refine OL.q (Q1.indexAddr rfl rfl hr1) rfl rfl ?_
      refine OL.q (Q1.load1 ti9 rfl (fun _ e => e ▸ hw1)) rfl rfl ?_
      refine OL.q (Q1.move rfl) rfl rfl ?_
      refine OL.act rfl rfl (AW.call (first := []) (cap := []) cl21 rfl rfl (tcmp_c (w0 := w1)  x1 target ) ?_)
      rintro _ w2 ⟨rfl, hm1, hp1⟩
      have f2 := f1.ext hm1
      have hE2 := hE1.ext hm1
      have hs2 := hm1.size
      refine OL.qb (Q1.lt rfl rfl) rfl rfl ?_
      intro b3 hb2
      refine OL.nil ?_
      cases b3 with
      | true =>
        replace hb2 := of_decide_eq_true hb2.symm
        refine r_cond_t rfl ?_
        refine r_region ?_
        refine OL.q (Q1.move rfl) rfl rfl ?_
        refine OL.q (Q1.addI (((((i + j) / 2) + 1 : Nat) : Int)) rfl rfl (by omega)) rfl rfl ?_
        refine OL.q (Q1.assign rfl) rfl rfl ?_
        refine OL.nil ?_
        refine r_inBlock ?_
        exact (ih1 _ _ _ ⟨(((i + j) / 2) + 1 : Nat), (j : Nat), rfl, rfl, hE2, (by omega), f2, (by first | exact hi.up hso_x hx1 (by omega) | exact hi.dn hso_x hx1 (by omega) | (exfalso; omega)), (by first | omega | (exfalso; omega)), (by first | omega | (exfalso; omega))⟩ (by omega)).sub ⟨rfl, rfl, rfl, rfl, rfl, rfl, trivial⟩
      | false =>
        replace hb2 := of_decide_eq_false hb2.symm
        refine r_cond_f rfl ?_
        refine r_region ?_
        refine OL.q (Q1.move rfl) rfl rfl ?_
        refine OL.q (Q1.assign rfl) rfl rfl ?_
        refine OL.nil ?_
        refine r_inBlock ?_
        exact (ih1 _ _ _ ⟨(i : Nat), ((i + j) / 2 : Nat), rfl, rfl, hE2, (by omega), f2, (by first | exact hi.up hso_x hx1 (by omega) | exact hi.dn hso_x hx1 (by omega) | (exfalso; omega)), (by first | omega | (exfalso; omega)), (by first | omega | (exfalso; omega))⟩ (by omega)).sub ⟨rfl, rfl, rfl, rfl, rfl, rfl, trivial⟩
    | false =>
      replace hb1 := of_decide_eq_false hb1.symm
      refine r_cond_f rfl ?_
      refine r_exit rfl ?_
      refine r_seq ?_
      refine r_region ?_
      refine OL.q (Q1.move rfl) rfl rfl ?_
      refine OL.q (Q1.move rfl) rfl rfl ?_
      refine OL.q (Q1.move rfl) rfl rfl ?_
      refine OL.qb (Q1.lt rfl rfl) rfl rfl ?_
      intro b2 hb2
      refine OL.q (Q1.move rfl) rfl rfl ?_
      cases b2 with
      | true =>
        replace hb2 := of_decide_eq_true hb2.symm
        refine OL.q (Q1.move rfl) rfl rfl ?_
        refine OL.q (Q1.move rfl) rfl rfl ?_
        refine OL.q (Q1.move rfl) rfl rfl ?_
        obtain ⟨x1, b3, o1, hx1, hr1, hl1, hu1, hw1⟩ := Sl.at' (P := Try.prog) f1 Try.underlying22 ti9 encS_len (k := .i64) (n := ((i : Nat) : Int)) (i) (by omega) (by first | assumption | omega)
        refine OL.q (Q1.indexAddr rfl rfl hr1) rfl rfl ?_
        refine OL.q (Q1.load1 ti9 rfl (fun _ e => e ▸ hw1)) rfl rfl ?_
        refine OL.q (Q1.move rfl) rfl rfl ?_
        refine OL.act rfl rfl (AW.call (first := []) (cap := []) cl21 rfl rfl (tcmp_c (w0 := w1)  x1 target ) ?_)
        rintro _ w2 ⟨rfl, hm1, hp1⟩
        have f2 := f1.ext hm1
        have hE2 := hE1.ext hm1
        have hs2 := hm1.size
        refine OL.qb (Q1.eq rfl rfl) rfl rfl ?_
        intro b4 hb3
        refine OL.q (Q1.pick_t rfl rfl) rfl rfl ?_
        refine OL.q (Q1.assign rfl) rfl rfl ?_
        refine OL.q (Q1.assign rfl) rfl rfl ?_
        refine OL.nil ?_
        refine r_ret2 Try.func35 rfl rfl rfl ?_
        exact Ret.mk ⟨_, _, rfl, (congrArg (Value.int .i64) (by first | (rw [hi.count (by omega) (by omega)]) | exact hi.at hso_x (by omega) hx1 (by assumption) | exact hi.none (by omega) | (exfalso; omega))), ⟨_, (by first | (rw [hi.count (by omega) (by omega)]) | exact hi.at hso_x (by omega) hx1 (by assumption) | exact hi.none (by omega) | (exfalso; omega)), rfl⟩, hE2⟩
      | false =>
        replace hb2 := of_decide_eq_false hb2.symm
        refine OL.sk rfl rfl ?_
        refine OL.sk rfl rfl ?_
        refine OL.sk rfl rfl ?_
        refine OL.sk rfl rfl ?_
        refine OL.sk rfl rfl ?_
        refine OL.sk rfl rfl ?_
        refine OL.sk rfl rfl ?_
        refine OL.sk rfl rfl ?_
        refine OL.q (Q1.pick_f rfl rfl) rfl rfl ?_
        refine OL.q (Q1.assign rfl) rfl rfl ?_
        refine OL.q (Q1.assign rfl) rfl rfl ?_
        refine OL.nil ?_
        refine r_ret2 Try.func35 rfl rfl rfl ?_
        exact Ret.mk ⟨_, _, rfl, (congrArg (Value.int .i64) (by first | (rw [hi.count (by omega) (by omega)]) | exact hi.at hso_x (by omega) hx1 (by assumption) | exact hi.none (by omega) | (exfalso; omega))), ⟨_, (by first | (rw [hi.count (by omega) (by omega)]) | exact hi.at hso_x (by omega) hx1 (by assumption) | exact hi.none (by omega) | (exfalso; omega)), rfl⟩, hE1⟩
set_option maxRecDepth 20000 in
set_option maxHeartbeats 4000000 in
theorem lat_c {w0 : World} {v_words : Value} {words : List Str} (w : Str) (h_words : Sl encS w0 (Iv 0 w0.heap.size) v_words words) (hso_words : Ml.Sorted words) (hln_words : words.length ≤ 1000000) :
    Calls Try.prog 22 #[v_words, strV w] w0 (Ret fun rv w1 => ∃ u0 u1, rv = .tuple #[u0, u1] ∧ u0 = .int .i64 (((Ml.belowW words w : Nat) : Int)) ∧ (∃ rb : Bool, rb = (words.contains w) ∧ u1 = .bool rb) ∧ Ext w0 w1) := by
  have hE0 : Ext w0 w0 := Mod.refl _ _
  have hle1 := h_words.le
  refine calls_enter Try.func22 rfl Try.ntmps22 rfl ?_
  refine r_seq ?_
  refine r_region ?_
  refine OL.q (Q1.assign rfl) rfl rfl ?_
  refine OL.q (Q1.assign rfl) rfl rfl ?_
  refine OL.nil ?_
  refine r_seq ?_
  refine r_region ?_
  refine OL.q (Q1.move rfl) rfl rfl ?_
  refine OL.q (Q1.move rfl) rfl rfl ?_
  refine OL.act rfl rfl (AW.callF cl35 rfl (bsearch_c (w0 := w0) (x := words) w ((h_words).iv (Nat.zero_le _) (by omega)) (by first | assumption | exact Ml.rising_sorted (by decide +kernel)) (by first | assumption | omega | (simp; done))) ?_)
  rintro _ w1 ⟨_, _, rfl, rfl, ⟨b1, hb1, rfl⟩, hm1⟩
  have f1 := h_words.ext hm1
  have hE1 := hE0.ext hm1
  have hs1 := hm1.size
  have := Ml.belowW_le words w
  refine OL.q (Q1.extract rfl rfl) rfl rfl ?_
  refine OL.q (Q1.extract rfl rfl) rfl rfl ?_
  refine OL.q (Q1.assign rfl) rfl rfl ?_
  refine OL.q (Q1.assign rfl) rfl rfl ?_
  refine OL.nil ?_
  refine r_ret2 Try.func22 rfl rfl rfl ?_
  exact Ret.mk ⟨_, _, rfl, (congrArg (Value.int .i64) (by first | rfl | assumption | (exfalso; omega))), ⟨_, (by first | rfl | assumption | (exfalso; omega)), rfl⟩, hE1⟩
set_option maxRecDepth 20000 in
set_option maxHeartbeats 4000000 in
theorem lwithout_c {w0 : World} {v_a : Value} {a : List Str} {v_b : Value} {b : List Str} (h_a : Sl encS w0 (Iv 0 w0.heap.size) v_a a) (h_b : Sl encS w0 (Iv 0 w0.heap.size) v_b b) (hso_b : Ml.Sorted b) (hln_a : a.length ≤ 1000000) (hln_b : b.length ≤ 1000000) :
    Calls Try.prog 24 #[v_a, v_b] w0 (Ret fun rv w1 => (∃ gr, Acc encS 9 1 w1 gr rv (Ml.withoutM a b) ∧ (gr = 0 ∨ w0.heap.size < gr)) ∧ Ext w0 w1) := by
  have hE0 : Ext w0 w0 := Mod.refl _ _
  have hle1 := h_a.le
  have hle2 := h_b.le
  refine calls_enter Try.func24 rfl Try.ntmps24 rfl ?_
  refine r_seq ?_
  refine r_region ?_
  refine OL.q (Q1.assign rfl) rfl rfl ?_
  refine OL.nil ?_
  refine r_seq ?_
  refine r_region ?_
  refine OL.q (Q1.assign rfl) rfl rfl ?_
  refine OL.nil ?_
  refine r_seq ?_
  refine r_seq ?_
  refine r_region ?_
  refine OL.q (Q1.move rfl) rfl rfl ?_
  refine OL.q (Q1.lenSl Try.underlying22 (h_a) rfl) rfl rfl ?_
  refine OL.q (Q1.move rfl) rfl rfl ?_
  refine OL.nil ?_
  refine r_block ?_
  refine r_loop (I := fun m E W => ∃ (v_l : Value) (g_l : Nat) (l : List Str) (k : Nat), E = [(1, v_b), (5, v_l), (10, v_a), (11, .int .i64 (((a.length : Nat) : Int))), (12, .int .i64 (((k : Nat) : Int)))] ∧ m = a.length - k ∧ Ext w0 W ∧ w0.heap.size ≤ W.heap.size ∧ Acc encS 9 1 W g_l v_l l ∧ (g_l = 0 ∨ w0.heap.size < g_l) ∧ Sl encS W (Iv 0 w0.heap.size) v_b b ∧ Sl encS W (Iv 0 w0.heap.size) v_a a ∧ (l = (a.take k).filter fun w => !b.contains w) ∧ (l.length ≤ k)) ?_ ?_
  · refine ⟨_, _, ⟨(.slice none 0 0 : Value), (0 : Nat), ([] : List Str), (0 : Nat), rfl, rfl, hE0, Nat.le_refl _, Acc.nil, (by omega), h_b, h_a, (by rfl), (by exact Nat.zero_le _)⟩, ⟨rfl, rfl, rfl, rfl, rfl, trivial⟩⟩
  · rintro _ _ w1 ⟨v_l, g_l, l, k, rfl, rfl, hE1, hs1, ha1, hg1, f1, f2, hi, hl⟩ ih1
    refine r_seq ?_
    refine r_region ?_
    refine OL.qb (Q1.lt rfl rfl) rfl rfl ?_
    intro b1 hb1
    refine OL.nil ?_
    refine r_seq ?_
    cases b1 with
    | true =>
      replace hb1 := of_decide_eq_true hb1.symm
      refine r_cond_t rfl ?_
      refine r_skip ?_
      refine r_seq ?_
      refine r_block ?_
      refine r_seq ?_
      refine r_region ?_
      obtain ⟨x1, b2, o1, hx1, hr1, hl1, hu1, hw1⟩ := Sl.at' (P := Try.prog) f2 Try.underlying22 ti9 encS_len (k := .i64) (n := ((k : Nat) : Int)) (k) (by omega) (by first | assumption | omega)
      refine OL.q (Q1.indexAddr rfl rfl hr1) rfl rfl ?_
      refine OL.q (Q1.load1 ti9 rfl (fun _ e => e ▸ hw1)) rfl rfl ?_
      refine OL.q (Q1.assign rfl) rfl rfl ?_
      refine OL.nil ?_
      refine r_seq ?_
      refine r_region ?_
      refine OL.q (Q1.move rfl) rfl rfl ?_
      refine OL.q (Q1.move rfl) rfl rfl ?_
      refine OL.act rfl rfl (AW.callF cl22 rfl (lat_c (w0 := w1) (words := b) x1 ((f1).iv (Nat.zero_le _) (by omega)) (by first | assumption | exact Ml.rising_sorted (by decide +kernel)) (by first | assumption | omega | (simp; done))) ?_)
      rintro _ w2 ⟨_, _, rfl, rfl, ⟨b3, hb2, rfl⟩, hm1⟩
      have hl2 := ha1.lt
      have f3 := ha1.ext hm1
      have f4 := f1.ext hm1
      have f5 := f2.ext hm1
      have hE2 := hE1.ext hm1
      have hs2 := hm1.size
      have := Ml.belowW_le b x1
      refine OL.q (Q1.move rfl) rfl rfl ?_
      refine OL.q (Q1.extract rfl rfl) rfl rfl ?_
      refine OL.q (Q1.extract rfl rfl) rfl rfl ?_
      refine OL.q (Q1.assign rfl) rfl rfl ?_
      refine OL.q (Q1.assign rfl) rfl rfl ?_
      refine OL.nil ?_
      refine r_seq ?_
      refine r_region ?_
      refine OL.q (Q1.move rfl) rfl rfl ?_
      cases b3 with
      | true =>
        replace hb2 := hb2.symm
        refine OL.q (Q1.not rfl) rfl rfl ?_
        refine OL.nil ?_
        refine r_cond_f rfl ?_
        refine r_skip ?_
        refine r_inBlock ?_
        refine r_region ?_
        refine OL.q (Q1.addI (((k + 1 : Nat) : Int)) rfl rfl (by omega)) rfl rfl ?_
        refine OL.q (Q1.move rfl) rfl rfl ?_
        refine OL.nil ?_
        exact (ih1 _ _ _ ⟨(v_l : Value), (g_l : Nat), (l : List Str), (k + 1 : Nat), rfl, rfl, hE2, (by omega), f3, (by omega), f4, f5, (by first | exact Ml.wo_yes hi hx1 (by assumption) | exact Ml.wo_no hi hx1 (by assumption) | (exfalso; omega)), (by first | omega | (simp only [List.length_append, List.length_cons, List.length_nil]; omega) | (exfalso; omega))⟩ (by omega)).sub ⟨rfl, rfl, rfl, rfl, rfl, trivial⟩
      | false =>
        replace hb2 := hb2.symm
        refine OL.q (Q1.not rfl) rfl rfl ?_
        refine OL.nil ?_
        refine r_cond_t rfl ?_
        refine r_region ?_
        refine OL.q (Q1.move rfl) rfl rfl ?_
        refine OL.q (Q1.move rfl) rfl rfl ?_
        refine OL.act rfl rfl (AW.buildSlice [strV x1] Try.underlying22 ti9 rfl rfl rfl (by decide) ?_)
        intro w3 b4 hm2 hb3 hz1 hk1
        have hl3 := f3.lt
        have f6 := f3.ext hm2
        have f7 := f4.ext hm2
        have f8 := f5.ext hm2
        have hE3 := hE2.ext hm2
        have hs3 := hm2.size
        have hl4 := Sl.of_blk (enc := encS) hk1 ([x1] : List Str) 1 rfl rfl (by unfold maxLen; omega)
        have hl5 := f6.lt
        refine OL.act rfl rfl (AW.append f6 Try.underlying22 ti9 rfl encS_len encS_one rfl rfl (hl4) (by first | omega | (simp only [List.length_append, List.length_cons, List.length_nil]; omega) | (simp; omega)) (by unfold maxLen; first | omega | (simp only [List.length_append, List.length_cons, List.length_nil]; omega) | (simp; omega)) ?_)
        intro v1 g1 w4 ha2 hm3 hg2 hz2
        have hl6 := f6.lt
        have f9 := f7.keepG hm3 (by omega)
        have f10 := f8.keepG hm3 (by omega)
        have f11 := hl4.keepG hm3 (by omega)
        have hE4 := Ext.thenG hE3 hm3 (by omega)
        have hs4 := hm3.size
        refine OL.q (Q1.assign rfl) rfl rfl ?_
        refine OL.nil ?_
        refine r_inBlock ?_
        refine r_region ?_
        refine OL.q (Q1.addI (((k + 1 : Nat) : Int)) rfl rfl (by omega)) rfl rfl ?_
        refine OL.q (Q1.move rfl) rfl rfl ?_
        refine OL.nil ?_
        exact (ih1 _ _ _ ⟨(v1 : Value), (g1 : Nat), ((l ++ [x1]) : List Str), (k + 1 : Nat), rfl, rfl, hE4, (by omega), ha2, (by omega), f9, f10, (by first | exact Ml.wo_yes hi hx1 (by assumption) | exact Ml.wo_no hi hx1 (by assumption) | (exfalso; omega)), (by first | omega | (simp only [List.length_append, List.length_cons, List.length_nil]; omega) | (exfalso; omega))⟩ (by omega)).sub ⟨rfl, rfl, rfl, rfl, rfl, trivial⟩
    | false =>
      replace hb1 := of_decide_eq_false hb1.symm
      refine r_cond_f rfl ?_
      refine r_exit rfl ?_
      refine r_seq ?_
      refine r_region ?_
      refine OL.q (Q1.move rfl) rfl rfl ?_
      refine OL.q (Q1.assign rfl) rfl rfl ?_
      refine OL.nil ?_
      refine r_ret1 Try.func24 rfl rfl ?_
      exact Ret.mk ⟨⟨_, Acc.cast ha1 (by first | rw [hi, Ml.filter_take_all (by omega)]; rfl | (exfalso; omega)), by omega⟩, hE1⟩
end Go.Proofs
