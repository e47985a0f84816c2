/-
  The walk through list.Merge.
-/
import Derived.Test.YtgoellomgmgjnaaFacts2
import Derived.Test.YtgoellomgmgjnaaWText
set_option linter.unusedVariables false
set_option linter.unusedSimpArgs false
namespace Go.Proofs
open Go.Ik Go.Ml
set_option maxHeartbeats 4000000 in
theorem lmerge_c {w0 : World} {v_a : Value} {a : List Str} {v_b : Value} {b : List Str} (h_a : Sl encS w0 (Iv 0 w0.heap.size) v_a a) (h_b : Sl encS w0 (Iv 0 w0.heap.size) v_b b) (hlen : a.length + b.length ≤ 1000000) :
    Calls Try.prog 12 #[v_a, v_b] w0 (Ret fun rv w1 => Sl encS w1 (Iv w0.heap.size w1.heap.size) rv (Ml.mergeL a b) ∧ Ext w0 w1) := by
  have hE0 : Ext w0 w0 := Mod.refl _ _
  have hle1 := h_a.le
  have hle2 := h_b.le
  refine calls_enter Try.func12 rfl Try.ntmps12 rfl ?_
  refine r_seq ?_
  refine r_region ?_
  refine OL.q (Q1.assign rfl) rfl rfl ?_
  refine OL.nil ?_
  refine r_seq ?_
  refine r_region ?_
  refine OL.q (Q1.assign rfl) rfl rfl ?_
  refine OL.nil ?_
  refine r_seq ?_
  refine r_block ?_
  refine r_loop (I := fun m E W => ∃ (v_a1 : Value) (a1 : List Str) (v_b1 : Value) (b1 : List Str) (v_l : Value) (g_l : Nat) (l : List Str), E = [(0, v_a1), (1, v_b1), (5, v_l)] ∧ m = a1.length + b1.length ∧ Ext w0 W ∧ w0.heap.size ≤ W.heap.size ∧ Sl encS W (Iv 0 w0.heap.size) v_a1 a1 ∧ Sl encS W (Iv 0 w0.heap.size) v_b1 b1 ∧ Acc encS 9 1 W g_l v_l l ∧ (g_l = 0 ∨ w0.heap.size < g_l) ∧ (l ++ Ml.mergeL a1 b1 = Ml.mergeL a b) ∧ (l.length + a1.length + b1.length ≤ a.length + b.length)) ?_ ?_
  · refine ⟨_, _, ⟨(v_a : Value), (a : List Str), (v_b : Value), (b : List Str), (.slice none 0 0 : Value), (0 : Nat), ([] : List Str), rfl, rfl, hE0, Nat.le_refl _, h_a, h_b, Acc.nil, (by omega), (by rfl), (by simp)⟩, ⟨rfl, rfl, rfl, trivial⟩⟩
  · rintro _ _ w1 ⟨v_a1, a1, v_b1, b1, v_l, g_l, l, rfl, rfl, hE1, hs1, ha1, ha2, ha3, hg1, hi, hl⟩ ih1
    refine r_seq ?_
    refine r_seq ?_
    refine r_region ?_
    refine OL.q (Q1.move rfl) rfl rfl ?_
    refine OL.q (Q1.lenSl Try.underlying22 (ha1) rfl) rfl rfl ?_
    refine OL.qb (Q1.gt rfl rfl) rfl rfl ?_
    intro b1 hb1
    refine OL.q (Q1.move rfl) rfl rfl ?_
    cases b1 with
    | true =>
      replace hb1 := of_decide_eq_true hb1.symm
      refine OL.sk rfl rfl ?_
      refine OL.sk rfl rfl ?_
      refine OL.sk rfl rfl ?_
      refine OL.q (Q1.pick_t rfl rfl) rfl rfl ?_
      refine OL.nil ?_
      refine r_cond_t rfl ?_
      refine r_skip ?_
      refine r_block ?_
      refine r_block ?_
      refine r_seq ?_
      refine r_draw1 (fun i => Nat.beq i 14) (fun w' => Mod (Mg 0) w1 w') mixed (by kernel_rfl) ?_
      intro w2 hm1
      have hl1 := ha3.lt
      have f1 := ha1.ext hm1
      have f2 := ha2.ext hm1
      have f3 := ha3.ext hm1
      have hE2 := hE1.ext hm1
      have hs2 := hm1.size
      have hCw2 : Mod (Mg 0) w1 w2 := Mod.ofExt hm1
      refine ⟨hCw2, ?_⟩
      rw [show List.range' 0 (Array.size _) = [0, 1, 2, 3, 4, 5, 6, 7, 8, 9, 10, 11, 12, 13, 14, 15, 16, 17, 18] from rfl]
      refine OD.q rfl rfl (Q1.move rfl) rfl rfl ?_
      refine OD.q rfl rfl (Q1.lenSl Try.underlying22 (f2) rfl) rfl rfl ?_
      refine OD.qb rfl rfl (Q1.eq rfl rfl) rfl rfl ?_
      intro b2 hb2
      refine OD.q rfl rfl (Q1.move rfl) rfl rfl ?_
      cases b2 with
      | true =>
        replace hb2 := eq_of_beq hb2.symm
        refine OD.sk rfl rfl rfl ?_
        refine OD.sk rfl rfl rfl ?_
        refine OD.sk rfl rfl rfl ?_
        refine OD.sk rfl rfl rfl ?_
        refine OD.sk rfl rfl rfl ?_
        refine OD.sk rfl rfl rfl ?_
        refine OD.sk rfl rfl rfl ?_
        refine OD.sk rfl rfl rfl ?_
        refine OD.sk rfl rfl rfl ?_
        refine OD.sk rfl rfl rfl ?_
        refine OD.sk rfl rfl rfl ?_
        refine OD.sk rfl rfl rfl ?_
        refine OD.sk rfl rfl rfl ?_
        refine OD.q rfl rfl (Q1.pick_t rfl rfl) rfl rfl ?_
        refine OD.q rfl rfl (Q1.assign rfl) rfl rfl ?_
        refine OD.nil ?_
        refine r_cond_t rfl ?_
        refine r_draw1 (fun i => Nat.beq i 4 || Nat.beq i 5) (fun w' => Mod (Mg g_l) w2 w') mixed (by kernel_rfl) ?_
        intro w3 hm2
        have hl2 := f3.lt
        have f4 := f1.ext hm2
        have f5 := f2.ext hm2
        have f6 := f3.ext hm2
        have hE3 := hE2.ext hm2
        have hs3 := hm2.size
        have hCw3 : Mod (Mg g_l) w2 w3 := Mod.ofExt hm2
        refine ⟨hCw3, ?_⟩
        rw [show List.range' 0 (Array.size _) = [0, 1, 2, 3, 4, 5, 6, 7, 8, 9] from rfl]
        refine OD.q rfl rfl (Q1.move rfl) rfl rfl ?_
        refine OD.q rfl rfl (Q1.move rfl) rfl rfl ?_
        obtain ⟨x1, b3, o1, hx1, hr1, hl3, hu1, hw1⟩ := Sl.at' (P := Try.prog) f1 Try.underlying22 ti9 encS_len (k := .i64) (n := 0) (0) (by omega) (by first | assumption | omega)
        refine OD.q rfl rfl (Q1.indexAddr rfl rfl hr1) rfl rfl ?_
        refine OD.q rfl rfl (Q1.load1 ti9 rfl (fun _ hc => hw1.keepG hc (by omega))) rfl rfl ?_
        refine OD.act rfl rfl rfl rfl (AW.buildSlice [strV x1] Try.underlying22 ti9 rfl rfl rfl (by decide) ?_)
        intro w4 b4 hm3 hb3 hz1 hk1
        have hl4 := f6.lt
        have f7 := f4.ext hm3
        have f8 := f5.ext hm3
        have f9 := f6.ext hm3
        have hE4 := hE3.ext hm3
        have hs4 := hm3.size
        have hCw4 := hCw3.ext hm3
        refine ⟨hCw4, ?_⟩
        have hl5 := Sl.of_blk (enc := encS) hk1 ([x1] : List Str) 1 rfl rfl (by unfold maxLen; omega)
        have hl6 := f9.lt
        refine OD.act rfl rfl rfl rfl (AW.append f9 Try.underlying22 ti9 rfl encS_len encS_one rfl rfl (hl5) (by first | omega | (simp only [List.length_append, List.length_cons, List.length_nil]; omega) | (simp; omega)) (by unfold maxLen; first | omega | (simp only [List.length_append, List.length_cons, List.length_nil]; omega) | (simp; omega)) ?_)
        intro v1 g1 w5 ha4 hm4 hg2 hz2
        have hl7 := f9.lt
        have f10 := f7.keepG hm4 (by omega)
        have f11 := f8.keepG hm4 (by omega)
        have f12 := hl5.keepG hm4 (by omega)
        have hE5 := Ext.thenG hE4 hm4 (by omega)
        have hs5 := hm4.size
        have hCw5 := hCw4.trans hm4
        refine ⟨hCw5, ?_⟩
        refine OD.q rfl rfl (Q1.move rfl) rfl rfl ?_
        obtain ⟨v2, hr2, hl8⟩ := Sl.part (P := Try.prog) f1 Try.underlying22 ti9 encS_len (1) (a1.length) (.inr ⟨.i64, 1, rfl, by omega⟩) (.inl ⟨rfl, rfl⟩) (by omega) (by first | assumption | omega)
        refine OD.q rfl rfl (Q1.sliceV rfl rfl rfl rfl hr2) rfl rfl ?_
        replace hl8 : Sl encS w2 (Iv 0 w0.heap.size) v2 (a1.drop 1) := by simpa using hl8
        have f13 := hl8.keepG hCw5 (by omega)
        refine OD.q rfl rfl (Q1.assign rfl) rfl rfl ?_
        refine OD.q rfl rfl (Q1.assign rfl) rfl rfl ?_
        refine OD.nil ?_
        refine r_inBlock ?_
        refine r_inBlock ?_
        exact (ih1 _ _ _ ⟨(v2 : Value), ((a1.drop 1) : List Str), (v_b1 : Value), (b1 : List Str), (v1 : Value), (g1 : Nat), ((l ++ [x1]) : List Str), rfl, rfl, hE5, (by omega), f13, f11, ha4, (by omega), (by first | exact Ml.merge_step_a hi (Ml.merge_a0 (by assumption) (by omega)) | exact Ml.merge_step_a hi (Ml.merge_a1 hx1 hx2 (by assumption)) | exact Ml.merge_step_b hi (Ml.merge_b1 hx1 hx2 (by assumption) (by assumption)) | exact Ml.merge_step_b hi (Ml.merge_b0 (by assumption) (by omega)) | exact Ml.merge_step_e hi (Ml.merge_eq hx1 hx2 (by assumption) (by assumption)) | (exfalso; omega)), (by first | (simp only [List.length_append, List.length_drop, List.length_cons, List.length_nil]; omega) | (exfalso; omega))⟩ (by (simp only [List.length_drop]; omega))).sub ⟨rfl, rfl, rfl, trivial⟩
      | false =>
        replace hb2 := ne_of_beq_false hb2.symm
        refine OD.q rfl rfl (Q1.move rfl) rfl rfl ?_
        refine OD.q rfl rfl (Q1.lenSl Try.underlying22 (f1) rfl) rfl rfl ?_
        refine OD.qb rfl rfl (Q1.gt rfl rfl) rfl rfl ?_
        intro b3 hb3
        obtain rfl : b3 = true := hb3.trans (decide_eq_true hb1)
        refine OD.q rfl rfl (Q1.move rfl) rfl rfl ?_
        refine OD.q rfl rfl (Q1.move rfl) rfl rfl ?_
        obtain ⟨x1, b4, o1, hx1, hr1, hl2, hu1, hw1⟩ := Sl.at' (P := Try.prog) ha1 Try.underlying22 ti9 encS_len (k := .i64) (n := 0) (0) (by omega) (by first | assumption | omega)
        refine OD.q rfl rfl (Q1.indexAddr rfl rfl hr1) rfl rfl ?_
        refine OD.q rfl rfl (Q1.load1 ti9 rfl (fun _ hc => hw1.keepG hc (by omega))) rfl rfl ?_
        refine OD.q rfl rfl (Q1.move rfl) rfl rfl ?_
        obtain ⟨x2, b5, o2, hx2, hr2, hl3, hu2, hw2⟩ := Sl.at' (P := Try.prog) ha2 Try.underlying22 ti9 encS_len (k := .i64) (n := 0) (0) (by omega) (by first | assumption | omega)
        refine OD.q rfl rfl (Q1.indexAddr rfl rfl hr2) rfl rfl ?_
        refine OD.q rfl rfl (Q1.load1 ti9 rfl (fun _ hc => hw2.keepG hc (by omega))) rfl rfl ?_
        refine OD.act rfl rfl rfl rfl (AW.callF cl21 rfl (tcmp_c (w0 := w2)  x1 x2 ) ?_)
        rintro _ w3 ⟨rfl, hm2, hp1⟩
        have hl4 := f3.lt
        have f4 := f1.ext hm2
        have f5 := f2.ext hm2
        have f6 := f3.ext hm2
        have hE3 := hE2.ext hm2
        have hs3 := hm2.size
        have hCw3 := hCw2.ext hm2
        refine ⟨hCw3, ?_⟩
        refine OD.qb rfl rfl (Q1.lt rfl rfl) rfl rfl ?_
        intro b6 hb4
        refine OD.q rfl rfl (Q1.pick_t rfl rfl) rfl rfl ?_
        refine OD.q rfl rfl (Q1.pick_f rfl rfl) rfl rfl ?_
        refine OD.q rfl rfl (Q1.assign rfl) rfl rfl ?_
        refine OD.nil ?_
        cases b6 with
        | true =>
          replace hb4 := of_decide_eq_true hb4.symm
          refine r_cond_t rfl ?_
          refine r_draw1 (fun i => Nat.beq i 4 || Nat.beq i 5) (fun w' => Mod (Mg g_l) w3 w') mixed (by kernel_rfl) ?_
          intro w4 hm3
          have hl5 := f6.lt
          have f7 := f4.ext hm3
          have f8 := f5.ext hm3
          have f9 := f6.ext hm3
          have hE4 := hE3.ext hm3
          have hs4 := hm3.size
          have hCw4 : Mod (Mg g_l) w3 w4 := Mod.ofExt hm3
          refine ⟨hCw4, ?_⟩
          rw [show List.range' 0 (Array.size _) = [0, 1, 2, 3, 4, 5, 6, 7, 8, 9] from rfl]
          refine OD.q rfl rfl (Q1.move rfl) rfl rfl ?_
          refine OD.q rfl rfl (Q1.move rfl) rfl rfl ?_
          obtain ⟨x3, b7, o3, hx3, hr3, hl6, hu3, hw3⟩ := Sl.at' (P := Try.prog) f4 Try.underlying22 ti9 encS_len (k := .i64) (n := 0) (0) (by omega) (by first | assumption | omega)
          obtain rfl : x1 = x3 := Option.some.inj (hx1.symm.trans hx3)
          refine OD.q rfl rfl (Q1.indexAddr rfl rfl hr3) rfl rfl ?_
          refine OD.q rfl rfl (Q1.load1 ti9 rfl (fun _ hc => hw3.keepG hc (by omega))) rfl rfl ?_
          refine OD.act rfl rfl rfl rfl (AW.buildSlice [strV x1] Try.underlying22 ti9 rfl rfl rfl (by decide) ?_)
          intro w5 b8 hm4 hb5 hz1 hk1
          have hl7 := f9.lt
          have f10 := f7.ext hm4
          have f11 := f8.ext hm4
          have f12 := f9.ext hm4
          have hE5 := hE4.ext hm4
          have hs5 := hm4.size
          have hCw5 := hCw4.ext hm4
          refine ⟨hCw5, ?_⟩
          have hl8 := Sl.of_blk (enc := encS) hk1 ([x1] : List Str) 1 rfl rfl (by unfold maxLen; omega)
          have hl9 := f12.lt
          refine OD.act rfl rfl rfl rfl (AW.append f12 Try.underlying22 ti9 rfl encS_len encS_one rfl rfl (hl8) (by first | omega | (simp only [List.length_append, List.length_cons, List.length_nil]; omega) | (simp; omega)) (by unfold maxLen; first | omega | (simp only [List.length_append, List.length_cons, List.length_nil]; omega) | (simp; omega)) ?_)
          intro v1 g1 w6 ha4 hm5 hg2 hz2
          have hl10 := f12.lt
          have f13 := f10.keepG hm5 (by omega)
          have f14 := f11.keepG hm5 (by omega)
          have f15 := hl8.keepG hm5 (by omega)
          have hE6 := Ext.thenG hE5 hm5 (by omega)
          have hs6 := hm5.size
          have hCw6 := hCw5.trans hm5
          refine ⟨hCw6, ?_⟩
          refine OD.q rfl rfl (Q1.move rfl) rfl rfl ?_
          obtain ⟨v2, hr4, hl11⟩ := Sl.part (P := Try.prog) f4 Try.underlying22 ti9 encS_len (1) (a1.length) (.inr ⟨.i64, 1, rfl, by omega⟩) (.inl ⟨rfl, rfl⟩) (by omega) (by first | assumption | omega)
          refine OD.q rfl rfl (Q1.sliceV rfl rfl rfl rfl hr4) rfl rfl ?_
          replace hl11 : Sl encS w3 (Iv 0 w0.heap.size) v2 (a1.drop 1) := by simpa using hl11
          have f16 := hl11.keepG hCw6 (by omega)
          refine OD.q rfl rfl (Q1.assign rfl) rfl rfl ?_
          refine OD.q rfl rfl (Q1.assign rfl) rfl rfl ?_
          refine OD.nil ?_
          refine r_inBlock ?_
          refine r_inBlock ?_
          exact (ih1 _ _ _ ⟨(v2 : Value), ((a1.drop 1) : List Str), (v_b1 : Value), (b1 : List Str), (v1 : Value), (g1 : Nat), ((l ++ [x1]) : List Str), rfl, rfl, hE6, (by omega), f16, f14, ha4, (by omega), (by first | exact Ml.merge_step_a hi (Ml.merge_a0 (by assumption) (by omega)) | exact Ml.merge_step_a hi (Ml.merge_a1 hx1 hx2 (by assumption)) | exact Ml.merge_step_b hi (Ml.merge_b1 hx1 hx2 (by assumption) (by assumption)) | exact Ml.merge_step_b hi (Ml.merge_b0 (by assumption) (by omega)) | exact Ml.merge_step_e hi (Ml.merge_eq hx1 hx2 (by assumption) (by assumption)) | (exfalso; omega)), (by first | (simp only [List.length_append, List.length_drop, List.length_cons, List.length_nil]; omega) | (exfalso; omega))⟩ (by (simp only [List.length_drop]; omega))).sub ⟨rfl, rfl, rfl, trivial⟩
        | false =>
          replace hb4 := of_decide_eq_false hb4.symm
          refine r_cond_f rfl ?_
          refine r_seq ?_
          refine r_draw1 (fun i => false) (fun w' => Mod (Mg 0) w3 w') mixed (by kernel_rfl) ?_
          intro w4 hm3
          have hl5 := f6.lt
          have f7 := f4.ext hm3
          have f8 := f5.ext hm3
          have f9 := f6.ext hm3
          have hE4 := hE3.ext hm3
          have hs4 := hm3.size
          have hCw4 : Mod (Mg 0) w3 w4 := Mod.ofExt hm3
          refine ⟨hCw4, ?_⟩
          rw [show List.range' 0 (Array.size _) = [0, 1, 2, 3, 4, 5, 6, 7, 8, 9, 10, 11, 12] from rfl]
          refine OD.q rfl rfl (Q1.move rfl) rfl rfl ?_
          refine OD.q rfl rfl (Q1.lenSl Try.underlying22 (f7) rfl) rfl rfl ?_
          refine OD.qb rfl rfl (Q1.gt rfl rfl) rfl rfl ?_
          intro b7 hb5
          obtain rfl : b7 = true := hb5.trans (decide_eq_true hb1)
          refine OD.q rfl rfl (Q1.move rfl) rfl rfl ?_
          refine OD.q rfl rfl (Q1.move rfl) rfl rfl ?_
          obtain ⟨x3, b8, o3, hx3, hr3, hl6, hu3, hw3⟩ := Sl.at' (P := Try.prog) f4 Try.underlying22 ti9 encS_len (k := .i64) (n := 0) (0) (by omega) (by first | assumption | omega)
          obtain rfl : x1 = x3 := Option.some.inj (hx1.symm.trans hx3)
          refine OD.q rfl rfl (Q1.indexAddr rfl rfl hr3) rfl rfl ?_
          refine OD.q rfl rfl (Q1.load1 ti9 rfl (fun _ hc => hw3.keepG hc (by omega))) rfl rfl ?_
          refine OD.q rfl rfl (Q1.move rfl) rfl rfl ?_
          obtain ⟨x4, b9, o4, hx4, hr4, hl7, hu4, hw4⟩ := Sl.at' (P := Try.prog) f5 Try.underlying22 ti9 encS_len (k := .i64) (n := 0) (0) (by omega) (by first | assumption | omega)
          obtain rfl : x2 = x4 := Option.some.inj (hx2.symm.trans hx4)
          refine OD.q rfl rfl (Q1.indexAddr rfl rfl hr4) rfl rfl ?_
          refine OD.q rfl rfl (Q1.load1 ti9 rfl (fun _ hc => hw4.keepG hc (by omega))) rfl rfl ?_
          refine OD.qb rfl rfl (Q1.eqS rfl rfl) rfl rfl ?_
          intro b10 hb6
          refine OD.q rfl rfl (Q1.pick_t rfl rfl) rfl rfl ?_
          refine OD.q rfl rfl (Q1.assign rfl) rfl rfl ?_
          refine OD.nil ?_
          cases b10 with
          | true =>
            replace hb6 := eq_of_beq hb6.symm
            refine r_cond_t rfl ?_
            refine r_region ?_
            refine OL.q (Q1.move rfl) rfl rfl ?_
            obtain ⟨v1, hr5, hl8⟩ := Sl.part (P := Try.prog) f7 Try.underlying22 ti9 encS_len (1) (a1.length) (.inr ⟨.i64, 1, rfl, by omega⟩) (.inl ⟨rfl, rfl⟩) (by omega) (by first | assumption | omega)
            refine OL.q (Q1.sliceV rfl rfl rfl rfl hr5) rfl rfl ?_
            replace hl8 : Sl encS w4 (Iv 0 w0.heap.size) v1 (a1.drop 1) := by simpa using hl8
            refine OL.q (Q1.assign rfl) rfl rfl ?_
            refine OL.nil ?_
            refine r_inBlock ?_
            refine r_inBlock ?_
            exact (ih1 _ _ _ ⟨(v1 : Value), ((a1.drop 1) : List Str), (v_b1 : Value), (b1 : List Str), (v_l : Value), (g_l : Nat), (l : List Str), rfl, rfl, hE4, (by omega), hl8, f8, f9, (by omega), (by first | exact Ml.merge_step_a hi (Ml.merge_a0 (by assumption) (by omega)) | exact Ml.merge_step_a hi (Ml.merge_a1 hx1 hx2 (by assumption)) | exact Ml.merge_step_b hi (Ml.merge_b1 hx1 hx2 (by assumption) (by assumption)) | exact Ml.merge_step_b hi (Ml.merge_b0 (by assumption) (by omega)) | exact Ml.merge_step_e hi (Ml.merge_eq hx1 hx2 (by assumption) (by assumption)) | (exfalso; omega)), (by first | (simp only [List.length_append, List.length_drop, List.length_cons, List.length_nil]; omega) | (exfalso; omega))⟩ (by (simp only [List.length_drop]; omega))).sub ⟨rfl, rfl, rfl, trivial⟩
          | false =>
            replace hb6 := ne_of_beq_false hb6.symm
            refine r_cond_f rfl ?_
            refine r_draw1 (fun i => Nat.beq i 4 || Nat.beq i 5) (fun w' => Mod (Mg g_l) w4 w') mixed (by kernel_rfl) ?_
            intro w5 hm4
            have hl8 := f9.lt
            have f10 := f7.ext hm4
            have f11 := f8.ext hm4
            have f12 := f9.ext hm4
            have hE5 := hE4.ext hm4
            have hs5 := hm4.size
            have hCw5 : Mod (Mg g_l) w4 w5 := Mod.ofExt hm4
            refine ⟨hCw5, ?_⟩
            rw [show List.range' 0 (Array.size _) = [0, 1, 2, 3, 4, 5, 6, 7, 8, 9] from rfl]
            refine OD.q rfl rfl (Q1.move rfl) rfl rfl ?_
            refine OD.q rfl rfl (Q1.move rfl) rfl rfl ?_
            obtain ⟨x5, b11, o5, hx5, hr5, hl9, hu5, hw5⟩ := Sl.at' (P := Try.prog) f8 Try.underlying22 ti9 encS_len (k := .i64) (n := 0) (0) (by omega) (by first | assumption | omega)
            obtain rfl : x2 = x5 := Option.some.inj (hx2.symm.trans hx5)
            refine OD.q rfl rfl (Q1.indexAddr rfl rfl hr5) rfl rfl ?_
            refine OD.q rfl rfl (Q1.load1 ti9 rfl (fun _ hc => hw5.keepG hc (by omega))) rfl rfl ?_
            refine OD.act rfl rfl rfl rfl (AW.buildSlice [strV x2] Try.underlying22 ti9 rfl rfl rfl (by decide) ?_)
            intro w6 b12 hm5 hb7 hz1 hk1
            have hl10 := f12.lt
            have f13 := f10.ext hm5
            have f14 := f11.ext hm5
            have f15 := f12.ext hm5
            have hE6 := hE5.ext hm5
            have hs6 := hm5.size
            have hCw6 := hCw5.ext hm5
            refine ⟨hCw6, ?_⟩
            have hl11 := Sl.of_blk (enc := encS) hk1 ([x2] : List Str) 1 rfl rfl (by unfold maxLen; omega)
            have hl12 := f15.lt
            refine OD.act rfl rfl rfl rfl (AW.append f15 Try.underlying22 ti9 rfl encS_len encS_one rfl rfl (hl11) (by first | omega | (simp only [List.length_append, List.length_cons, List.length_nil]; omega) | (simp; omega)) (by unfold maxLen; first | omega | (simp only [List.length_append, List.length_cons, List.length_nil]; omega) | (simp; omega)) ?_)
            intro v1 g1 w7 ha4 hm6 hg2 hz2
            have hl13 := f15.lt
            have f16 := f13.keepG hm6 (by omega)
            have f17 := f14.keepG hm6 (by omega)
            have f18 := hl11.keepG hm6 (by omega)
            have hE7 := Ext.thenG hE6 hm6 (by omega)
            have hs7 := hm6.size
            have hCw7 := hCw6.trans hm6
            refine ⟨hCw7, ?_⟩
            refine OD.q rfl rfl (Q1.move rfl) rfl rfl ?_
            obtain ⟨v2, hr6, hl14⟩ := Sl.part (P := Try.prog) f8 Try.underlying22 ti9 encS_len (1) (b1.length) (.inr ⟨.i64, 1, rfl, by omega⟩) (.inl ⟨rfl, rfl⟩) (by omega) (by first | assumption | omega)
            refine OD.q rfl rfl (Q1.sliceV rfl rfl rfl rfl hr6) rfl rfl ?_
            replace hl14 : Sl encS w4 (Iv 0 w0.heap.size) v2 (b1.drop 1) := by simpa using hl14
            have f19 := hl14.keepG hCw7 (by omega)
            refine OD.q rfl rfl (Q1.assign rfl) rfl rfl ?_
            refine OD.q rfl rfl (Q1.assign rfl) rfl rfl ?_
            refine OD.nil ?_
            refine r_inBlock ?_
            refine r_inBlock ?_
            exact (ih1 _ _ _ ⟨(v_a1 : Value), (a1 : List Str), (v2 : Value), ((b1.drop 1) : List Str), (v1 : Value), (g1 : Nat), ((l ++ [x2]) : List Str), rfl, rfl, hE7, (by omega), f16, f19, ha4, (by omega), (by first | exact Ml.merge_step_a hi (Ml.merge_a0 (by assumption) (by omega)) | exact Ml.merge_step_a hi (Ml.merge_a1 hx1 hx2 (by assumption)) | exact Ml.merge_step_b hi (Ml.merge_b1 hx1 hx2 (by assumption) (by assumption)) | exact Ml.merge_step_b hi (Ml.merge_b0 (by assumption) (by omega)) | exact Ml.merge_step_e hi (Ml.merge_eq hx1 hx2 (by assumption) (by assumption)) | (exfalso; omega)), (by first | (simp only [List.length_append, List.length_drop, List.length_cons, List.length_nil]; omega) | (exfalso; omega))⟩ (by (simp only [List.length_drop]; omega))).sub ⟨rfl, rfl, rfl, trivial⟩
    | false =>
      replace hb1 := of_decide_eq_false hb1.symm
      refine OL.q (Q1.move rfl) rfl rfl ?_
      refine OL.q (Q1.lenSl Try.underlying22 (ha2) rfl) rfl rfl ?_
      refine OL.qb (Q1.gt rfl rfl) rfl rfl ?_
      intro b2 hb2
      refine OL.q (Q1.pick_f rfl rfl) rfl rfl ?_
      refine OL.nil ?_
      cases b2 with
      | true =>
        replace hb2 := of_decide_eq_true hb2.symm
        refine r_cond_t rfl ?_
        refine r_skip ?_
        refine r_block ?_
        refine r_block ?_
        refine r_seq ?_
        refine r_draw1 (fun i => Nat.beq i 14) (fun w' => Mod (Mg 0) w1 w') mixed (by kernel_rfl) ?_
        intro w2 hm1
        have hl1 := ha3.lt
        have f1 := ha1.ext hm1
        have f2 := ha2.ext hm1
        have f3 := ha3.ext hm1
        have hE2 := hE1.ext hm1
        have hs2 := hm1.size
        have hCw2 : Mod (Mg 0) w1 w2 := Mod.ofExt hm1
        refine ⟨hCw2, ?_⟩
        rw [show List.range' 0 (Array.size _) = [0, 1, 2, 3, 4, 5, 6, 7, 8, 9, 10, 11, 12, 13, 14, 15, 16, 17, 18] from rfl]
        refine OD.q rfl rfl (Q1.move rfl) rfl rfl ?_
        refine OD.q rfl rfl (Q1.lenSl Try.underlying22 (f2) rfl) rfl rfl ?_
        refine OD.qb rfl rfl (Q1.eq rfl rfl) rfl rfl ?_
        intro b3 hb3
        refine OD.q rfl rfl (Q1.move rfl) rfl rfl ?_
        cases b3 with
        | true =>
          replace hb3 := eq_of_beq hb3.symm
          refine OD.sk rfl rfl rfl ?_
          refine OD.sk rfl rfl rfl ?_
          refine OD.sk rfl rfl rfl ?_
          refine OD.sk rfl rfl rfl ?_
          refine OD.sk rfl rfl rfl ?_
          refine OD.sk rfl rfl rfl ?_
          refine OD.sk rfl rfl rfl ?_
          refine OD.sk rfl rfl rfl ?_
          refine OD.sk rfl rfl rfl ?_
          refine OD.sk rfl rfl rfl ?_
          refine OD.sk rfl rfl rfl ?_
          refine OD.sk rfl rfl rfl ?_
          refine OD.sk rfl rfl rfl ?_
          refine OD.q rfl rfl (Q1.pick_t rfl rfl) rfl rfl ?_
          refine OD.q rfl rfl (Q1.assign rfl) rfl rfl ?_
          refine OD.nil ?_
          refine r_cond_t rfl ?_
          refine r_draw1 (fun i => Nat.beq i 4 || Nat.beq i 5) (fun w' => Mod (Mg g_l) w2 w') mixed (by kernel_rfl) ?_
          intro w3 hm2
          have hl2 := f3.lt
          have f4 := f1.ext hm2
          have f5 := f2.ext hm2
          have f6 := f3.ext hm2
          have hE3 := hE2.ext hm2
          have hs3 := hm2.size
          have hCw3 : Mod (Mg g_l) w2 w3 := Mod.ofExt hm2
          refine ⟨hCw3, ?_⟩
          rw [show List.range' 0 (Array.size _) = [0, 1, 2, 3, 4, 5, 6, 7, 8, 9] from rfl]
          refine OD.q rfl rfl (Q1.move rfl) rfl rfl ?_
          refine OD.q rfl rfl (Q1.move rfl) rfl rfl ?_
          obtain ⟨x1, b4, o1, hx1, hr1, hl3, hu1, hw1⟩ := Sl.at' (P := Try.prog) f1 Try.underlying22 ti9 encS_len (k := .i64) (n := 0) (0) (by omega) (by first | assumption | omega)
          refine OD.q rfl rfl (Q1.indexAddr rfl rfl hr1) rfl rfl ?_
          refine OD.q rfl rfl (Q1.load1 ti9 rfl (fun _ hc => hw1.keepG hc (by omega))) rfl rfl ?_
          refine OD.act rfl rfl rfl rfl (AW.buildSlice [strV x1] Try.underlying22 ti9 rfl rfl rfl (by decide) ?_)
          intro w4 b5 hm3 hb4 hz1 hk1
          have hl4 := f6.lt
          have f7 := f4.ext hm3
          have f8 := f5.ext hm3
          have f9 := f6.ext hm3
          have hE4 := hE3.ext hm3
          have hs4 := hm3.size
          have hCw4 := hCw3.ext hm3
          refine ⟨hCw4, ?_⟩
          have hl5 := Sl.of_blk (enc := encS) hk1 ([x1] : List Str) 1 rfl rfl (by unfold maxLen; omega)
          have hl6 := f9.lt
          refine OD.act rfl rfl rfl rfl (AW.append f9 Try.underlying22 ti9 rfl encS_len encS_one rfl rfl (hl5) (by first | omega | (simp only [List.length_append, List.length_cons, List.length_nil]; omega) | (simp; omega)) (by unfold maxLen; first | omega | (simp only [List.length_append, List.length_cons, List.length_nil]; omega) | (simp; omega)) ?_)
          intro v1 g1 w5 ha4 hm4 hg2 hz2
          have hl7 := f9.lt
          have f10 := f7.keepG hm4 (by omega)
          have f11 := f8.keepG hm4 (by omega)
          have f12 := hl5.keepG hm4 (by omega)
          have hE5 := Ext.thenG hE4 hm4 (by omega)
          have hs5 := hm4.size
          have hCw5 := hCw4.trans hm4
          refine ⟨hCw5, ?_⟩
          refine OD.q rfl rfl (Q1.move rfl) rfl rfl ?_
          obtain ⟨v2, hr2, hl8⟩ := Sl.part (P := Try.prog) f1 Try.underlying22 ti9 encS_len (1) (a1.length) (.inr ⟨.i64, 1, rfl, by omega⟩) (.inl ⟨rfl, rfl⟩) (by omega) (by first | assumption | omega)
          refine OD.q rfl rfl (Q1.sliceV rfl rfl rfl rfl hr2) rfl rfl ?_
          replace hl8 : Sl encS w2 (Iv 0 w0.heap.size) v2 (a1.drop 1) := by simpa using hl8
          have f13 := hl8.keepG hCw5 (by omega)
          refine OD.q rfl rfl (Q1.assign rfl) rfl rfl ?_
          refine OD.q rfl rfl (Q1.assign rfl) rfl rfl ?_
          refine OD.nil ?_
          refine r_inBlock ?_
          refine r_inBlock ?_
          exact (ih1 _ _ _ ⟨(v2 : Value), ((a1.drop 1) : List Str), (v_b1 : Value), (b1 : List Str), (v1 : Value), (g1 : Nat), ((l ++ [x1]) : List Str), rfl, rfl, hE5, (by omega), f13, f11, ha4, (by omega), (by first | exact Ml.merge_step_a hi (Ml.merge_a0 (by assumption) (by omega)) | exact Ml.merge_step_a hi (Ml.merge_a1 hx1 hx2 (by assumption)) | exact Ml.merge_step_b hi (Ml.merge_b1 hx1 hx2 (by assumption) (by assumption)) | exact Ml.merge_step_b hi (Ml.merge_b0 (by assumption) (by omega)) | exact Ml.merge_step_e hi (Ml.merge_eq hx1 hx2 (by assumption) (by assumption)) | (exfalso; omega)), (by first | (simp only [List.length_append, List.length_drop, List.length_cons, List.length_nil]; omega) | (exfalso; omega))⟩ (by (simp only [List.length_drop]; omega))).sub ⟨rfl, rfl, rfl, trivial⟩
        | false =>
          replace hb3 := ne_of_beq_false hb3.symm
          refine OD.q rfl rfl (Q1.move rfl) rfl rfl ?_
          refine OD.q rfl rfl (Q1.lenSl Try.underlying22 (f1) rfl) rfl rfl ?_
          refine OD.qb rfl rfl (Q1.gt rfl rfl) rfl rfl ?_
          intro b4 hb4
          obtain rfl : b4 = false := hb4.trans (decide_eq_false hb1)
          refine OD.q rfl rfl (Q1.move rfl) rfl rfl ?_
          refine OD.sk rfl rfl rfl ?_
          refine OD.sk rfl rfl rfl ?_
          refine OD.sk rfl rfl rfl ?_
          refine OD.sk rfl rfl rfl ?_
          refine OD.sk rfl rfl rfl ?_
          refine OD.sk rfl rfl rfl ?_
          refine OD.sk rfl rfl rfl ?_
          refine OD.sk rfl rfl rfl ?_
          refine OD.q rfl rfl (Q1.pick_f rfl rfl) rfl rfl ?_
          refine OD.q rfl rfl (Q1.pick_f rfl rfl) rfl rfl ?_
          refine OD.q rfl rfl (Q1.assign rfl) rfl rfl ?_
          refine OD.nil ?_
          refine r_cond_f rfl ?_
          refine r_seq ?_
          refine r_draw1 (fun i => false) (fun w' => Mod (Mg 0) w2 w') mixed (by kernel_rfl) ?_
          intro w3 hm2
          have hl2 := f3.lt
          have f4 := f1.ext hm2
          have f5 := f2.ext hm2
          have f6 := f3.ext hm2
          have hE3 := hE2.ext hm2
          have hs3 := hm2.size
          have hCw3 : Mod (Mg 0) w2 w3 := Mod.ofExt hm2
          refine ⟨hCw3, ?_⟩
          rw [show List.range' 0 (Array.size _) = [0, 1, 2, 3, 4, 5, 6, 7, 8, 9, 10, 11, 12] from rfl]
          refine OD.q rfl rfl (Q1.move rfl) rfl rfl ?_
          refine OD.q rfl rfl (Q1.lenSl Try.underlying22 (f4) rfl) rfl rfl ?_
          refine OD.qb rfl rfl (Q1.gt rfl rfl) rfl rfl ?_
          intro b5 hb5
          obtain rfl : b5 = false := hb5.trans (decide_eq_false hb1)
          refine OD.q rfl rfl (Q1.move rfl) rfl rfl ?_
          refine OD.sk rfl rfl rfl ?_
          refine OD.sk rfl rfl rfl ?_
          refine OD.sk rfl rfl rfl ?_
          refine OD.sk rfl rfl rfl ?_
          refine OD.sk rfl rfl rfl ?_
          refine OD.sk rfl rfl rfl ?_
          refine OD.sk rfl rfl rfl ?_
          refine OD.q rfl rfl (Q1.pick_f rfl rfl) rfl rfl ?_
          refine OD.q rfl rfl (Q1.assign rfl) rfl rfl ?_
          refine OD.nil ?_
          refine r_cond_f rfl ?_
          refine r_draw1 (fun i => Nat.beq i 4 || Nat.beq i 5) (fun w' => Mod (Mg g_l) w3 w') mixed (by kernel_rfl) ?_
          intro w4 hm3
          have hl3 := f6.lt
          have f7 := f4.ext hm3
          have f8 := f5.ext hm3
          have f9 := f6.ext hm3
          have hE4 := hE3.ext hm3
          have hs4 := hm3.size
          have hCw4 : Mod (Mg g_l) w3 w4 := Mod.ofExt hm3
          refine ⟨hCw4, ?_⟩
          rw [show List.range' 0 (Array.size _) = [0, 1, 2, 3, 4, 5, 6, 7, 8, 9] from rfl]
          refine OD.q rfl rfl (Q1.move rfl) rfl rfl ?_
          refine OD.q rfl rfl (Q1.move rfl) rfl rfl ?_
          obtain ⟨x1, b6, o1, hx1, hr1, hl4, hu1, hw1⟩ := Sl.at' (P := Try.prog) f5 Try.underlying22 ti9 encS_len (k := .i64) (n := 0) (0) (by omega) (by first | assumption | omega)
          refine OD.q rfl rfl (Q1.indexAddr rfl rfl hr1) rfl rfl ?_
          refine OD.q rfl rfl (Q1.load1 ti9 rfl (fun _ hc => hw1.keepG hc (by omega))) rfl rfl ?_
          refine OD.act rfl rfl rfl rfl (AW.buildSlice [strV x1] Try.underlying22 ti9 rfl rfl rfl (by decide) ?_)
          intro w5 b7 hm4 hb6 hz1 hk1
          have hl5 := f9.lt
          have f10 := f7.ext hm4
          have f11 := f8.ext hm4
          have f12 := f9.ext hm4
          have hE5 := hE4.ext hm4
          have hs5 := hm4.size
          have hCw5 := hCw4.ext hm4
          refine ⟨hCw5, ?_⟩
          have hl6 := Sl.of_blk (enc := encS) hk1 ([x1] : List Str) 1 rfl rfl (by unfold maxLen; omega)
          have hl7 := f12.lt
          refine OD.act rfl rfl rfl rfl (AW.append f12 Try.underlying22 ti9 rfl encS_len encS_one rfl rfl (hl6) (by first | omega | (simp only [List.length_append, List.length_cons, List.length_nil]; omega) | (simp; omega)) (by unfold maxLen; first | omega | (simp only [List.length_append, List.length_cons, List.length_nil]; omega) | (simp; omega)) ?_)
          intro v1 g1 w6 ha4 hm5 hg2 hz2
          have hl8 := f12.lt
          have f13 := f10.keepG hm5 (by omega)
          have f14 := f11.keepG hm5 (by omega)
          have f15 := hl6.keepG hm5 (by omega)
          have hE6 := Ext.thenG hE5 hm5 (by omega)
          have hs6 := hm5.size
          have hCw6 := hCw5.trans hm5
          refine ⟨hCw6, ?_⟩
          refine OD.q rfl rfl (Q1.move rfl) rfl rfl ?_
          obtain ⟨v2, hr2, hl9⟩ := Sl.part (P := Try.prog) f5 Try.underlying22 ti9 encS_len (1) (b1.length) (.inr ⟨.i64, 1, rfl, by omega⟩) (.inl ⟨rfl, rfl⟩) (by omega) (by first | assumption | omega)
          refine OD.q rfl rfl (Q1.sliceV rfl rfl rfl rfl hr2) rfl rfl ?_
          replace hl9 : Sl encS w3 (Iv 0 w0.heap.size) v2 (b1.drop 1) := by simpa using hl9
          have f16 := hl9.keepG hCw6 (by omega)
          refine OD.q rfl rfl (Q1.assign rfl) rfl rfl ?_
          refine OD.q rfl rfl (Q1.assign rfl) rfl rfl ?_
          refine OD.nil ?_
          refine r_inBlock ?_
          refine r_inBlock ?_
          exact (ih1 _ _ _ ⟨(v_a1 : Value), (a1 : List Str), (v2 : Value), ((b1.drop 1) : List Str), (v1 : Value), (g1 : Nat), ((l ++ [x1]) : List Str), rfl, rfl, hE6, (by omega), f13, f16, ha4, (by omega), (by first | exact Ml.merge_step_a hi (Ml.merge_a0 (by assumption) (by omega)) | exact Ml.merge_step_a hi (Ml.merge_a1 hx1 hx2 (by assumption)) | exact Ml.merge_step_b hi (Ml.merge_b1 hx1 hx2 (by assumption) (by assumption)) | exact Ml.merge_step_b hi (Ml.merge_b0 (by assumption) (by omega)) | exact Ml.merge_step_e hi (Ml.merge_eq hx1 hx2 (by assumption) (by assumption)) | (exfalso; omega)), (by first | (simp only [List.length_append, List.length_drop, List.length_cons, List.length_nil]; omega) | (exfalso; omega))⟩ (by (simp only [List.length_drop]; omega))).sub ⟨rfl, rfl, rfl, trivial⟩
      | false =>
        replace hb2 := of_decide_eq_false hb2.symm
        refine r_cond_f rfl ?_
        refine r_exit rfl ?_
        refine r_seq ?_
        refine r_region ?_
        refine OL.q (Q1.move rfl) rfl rfl ?_
        refine OL.q (Q1.assign rfl) rfl rfl ?_
        refine OL.nil ?_
        refine r_ret1 Try.func12 rfl rfl ?_
        exact Ret.mk ⟨(Sl.cast (ha3.fresh (by omega)) (by first | exact Ml.merge_end hi (by omega) (by omega) | (exfalso; omega))), hE1⟩
end Go.Proofs
