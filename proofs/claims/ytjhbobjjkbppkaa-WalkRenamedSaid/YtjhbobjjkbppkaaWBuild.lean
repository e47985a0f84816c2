/-
  The walk through graph.Build.
-/
import Derived.Test.YtjhbobjjkbppkaaWNode
set_option linter.unusedVariables false
set_option linter.unusedSimpArgs false
namespace Go.Proofs
open Go.Ik Go.Ml
set_option maxRecDepth 20000 in
set_option maxHeartbeats 8000000 in
theorem build_c {w0 : World}  {v_words : Value} {words : List Str} (h_words : Sl encS w0 (Iv 0 w0.heap.size) v_words words) (hok : Ml.LOk words) (hsz : words.length ≤ 1000000) :
    Calls Try.prog 14 #[v_words] w0 (Ret fun rv w1 => ∃ u0 u1, rv = .tuple #[u0, u1] ∧ (∃ lo hi, Gr 0 w1 lo hi u0 (Ml.gnodes words) ∧ w0.heap.size ≤ lo ∧ hi ≤ w1.heap.size) ∧ u1 = .int .i64 (Ml.goodL words) ∧ Ext w0 w1) := by
  have hle_words := h_words.le
  have hS0 := St.start0 w0
  refine calls_enter Try.func14 rfl Try.ntmps14 rfl ?_
  refine r_seq ?_
  refine r_region ?_
  refine OL.q (Q1.assign rfl) rfl rfl ?_
  refine OL.q (Q1.assign rfl) rfl rfl ?_
  refine OL.nil ?_
  refine r_seq ?_
  refine r_seq ?_
  refine r_region ?_
  refine OL.q (Q1.move rfl) rfl rfl ?_
  refine OL.act rfl rfl (AW.callF cl28 rfl (lgood_c (w0 := w0) (words := words)  h_words (by assumption)) ?_)
  rintro _ w1 ⟨rfl, hm1⟩
  have hS1 := hS0.ext hm1
  have := Ml.goodL_range words
  refine OL.q (Q1.assign rfl) rfl rfl ?_
  refine OL.nil ?_
  refine r_seq ?_
  refine r_region ?_
  refine OL.q (Q1.move rfl) rfl rfl ?_
  refine OL.qb (Q1.ne rfl rfl) rfl rfl ?_
  intro b1 hb1
  refine OL.nil ?_
  cases b1 with
  | true =>
    replace hb1 := bne_iff_ne.1 hb1.symm
    refine r_cond_t rfl ?_
    refine r_seq ?_
    refine r_region ?_
    refine OL.q (Q1.move rfl) rfl rfl ?_
    refine OL.q (Q1.assign rfl) rfl rfl ?_
    refine OL.q (Q1.assign rfl) rfl rfl ?_
    refine OL.nil ?_
    refine r_ret2 Try.func14 rfl rfl rfl ?_
    exact Ret.mk ⟨_, _, rfl, ⟨w0.heap.size, w0.heap.size, .inl ⟨rfl, gnodes_no (by assumption)⟩, Nat.le_refl _, hS1.mod.size⟩, rfl, hS1.mod⟩
  | false =>
    replace hb1 := bne_eq_false_iff_eq.1 hb1.symm
    refine r_cond_f rfl ?_
    refine r_skip ?_
    refine r_seq ?_
    refine r_region ?_
    refine OL.q (Q1.build (vs := #[]) (v := .agg #[.slice none 0 0]) rfl (fun _ => by kernel_rfl)) rfl rfl ?_
    have hg0 : goodL words = 0 := by assumption
    have hgd := good_deep hg0
    have hgs := good_sum hg0
    refine OL.act rfl rfl (AW.box [.slice none 0 0] rfl rfl ?_)
    intro w2 b2 hm2 hb2 hz1 hk1
    have hS2 := hS1.ext hm2
    have hS3 : St (fun _ => False) (fun _ => False) w0 w2 [bkR b2 [.slice none 0 0] 66] := hS1.newBk hm2 hb2 hk1
    refine OL.act rfl rfl (AW.makeMap (key := strV) (val := intV) ?_)
    intro w3 b3 hm3 hb3 hz2 hk2
    have hS4 := hS3.ext hm3
    have hS5 : St (fun _ => False) (fun _ => False) w0 w3 [bkR b2 [.slice none 0 0] 66, mapR strV intV b3 []] := hS3.newMap hm3 hb3 hk2
    refine OL.q (Q1.build (vs := #[(0, ptr b2 0), (1, (.map (some b3) : Value))]) (v := .agg #[ptr b2 0, .map (some b3)]) rfl (fun _ => by kernel_rfl)) rfl rfl ?_
    refine OL.act rfl rfl (AW.box [ptr b2 0, .map (some b3)] rfl rfl ?_)
    intro w4 b4 hm4 hb4 hz3 hk3
    have hS6 := hS5.ext hm4
    have hS7 : St (fun _ => False) (fun _ => False) w0 w4 [bkR b2 [.slice none 0 0] 66, mapR strV intV b3 [], bkR b4 [ptr b2 0, .map (some b3)] 69] := hS5.newBk hm4 hb4 hk3
    refine OL.q (Q1.assign rfl) rfl rfl ?_
    refine OL.nil ?_
    refine r_seq ?_
    refine r_seq ?_
    refine r_region ?_
    refine OL.q (Q1.move rfl) rfl rfl ?_
    have f1 := hS7.out h_words (fun _ _ h => h)
    refine OL.q (Q1.lenSl Try.underlying22 (f1) rfl) rfl rfl ?_
    refine OL.qb (Q1.eq rfl rfl) rfl rfl ?_
    intro b5 hb5
    refine OL.nil ?_
    cases b5 with
    | true =>
      replace hb5 := eq_of_beq hb5.symm
      refine r_cond_t rfl ?_
      refine r_seq ?_
      refine r_region ?_
      refine OL.q (Q1.move rfl) rfl rfl ?_
      refine OL.q (Q1.nilCheckP rfl) rfl rfl ?_
      refine OL.q (Q1.fieldAddr fl69_0 rfl) rfl rfl ?_
      have f2 := hS7.bk (i := 2) rfl
      refine OL.q (Q1.load1 ti27 rfl (fun _ e => e ▸ (f2.cell 0 _ rfl))) rfl rfl ?_
      refine OL.q (Q1.build (vs := #[]) (v := .agg #[.bool false, .slice none 0 0]) rfl (fun _ => by kernel_rfl)) rfl rfl ?_
      refine OL.act rfl rfl (AW.buildSlice [(.agg #[.bool false, .slice none 0 0] : Value)] Try.underlying64 ti72 rfl rfl rfl (by decide) ?_)
      intro w5 b6 hm5 hb6 hz4 hk4
      have hS8 := hS7.ext hm5
      have hl1 := Sl.of_blk (enc := encN) hk4 ([(RNode.mk false (SH.mk none 0 0))] : List RNode) 1 rfl rfl (by unfold maxLen; omega)
      have hS9 : St (fun _ => False) (fun _ => False) w0 w5 [bkR b2 [.slice none 0 0] 66, mapR strV intV b3 [], bkR b4 [ptr b2 0, .map (some b3)] 69, slR encN [((.slice (some ⟨b6, 0, none⟩) 1 1), [(RNode.mk false (SH.mk none 0 0))])]] := hS7.newSlB hm5 hb6 hz4 hl1
      refine OL.q (Q1.nilCheckP rfl) rfl rfl ?_
      refine OL.q (Q1.fieldAddr fl66_0 rfl) rfl rfl ?_
      have f3 := hS9.bk (i := 0) rfl
      refine OL.act rfl rfl (AW.store ti64 rfl rfl rfl rfl rfl f3 (Nat.le_of_ble_eq_true rfl) ?_)
      intro w6 hm6 hz5 hk5
      have hS10 : St (fun _ => False) (fun _ => False) w0 w6 [bkR b2 [(.slice (some ⟨b6, 0, none⟩) 1 1)] 66, mapR strV intV b3 [], bkR b4 [ptr b2 0, .map (some b3)] 69, slR encN [((.slice (some ⟨b6, 0, none⟩) 1 1), [(RNode.mk false (SH.mk none 0 0))])]] := hS9.bkK (i := 0) rfl hm6 hk5
      refine OL.nil ?_
      refine r_seq ?_
      refine r_region ?_
      refine OL.q (Q1.move rfl) rfl rfl ?_
      refine OL.q (Q1.nilCheckP rfl) rfl rfl ?_
      refine OL.q (Q1.fieldAddr fl69_0 rfl) rfl rfl ?_
      have f4 := hS10.bk (i := 2) rfl
      refine OL.q (Q1.load1 ti27 rfl (fun _ e => e ▸ (f4.cell 0 _ rfl))) rfl rfl ?_
      refine OL.q (Q1.assign rfl) rfl rfl ?_
      refine OL.q (Q1.assign rfl) rfl rfl ?_
      refine OL.nil ?_
      refine r_ret2 Try.func14 rfl rfl rfl ?_
      have hS11 : St (fun _ => False) (fun _ => False) w0 w6 [bkR b2 [(.slice (some ⟨b6, 0, none⟩) 1 1)] 66, slR encN [((.slice (some ⟨b6, 0, none⟩) 1 1), [(RNode.mk false (SH.mk none 0 0))])]] := hS10.sel [0, 3] (by rfl) (by decide)
      have hwn : words = [] := List.eq_nil_of_length_eq_zero (by omega)
      exact Ret.mk ⟨_, _, rfl, ⟨w0.heap.size, _, by rw [gnodes_nil hwn]; exact hS11.gr1, Nat.le_refl _, Nat.le_refl _⟩, (congrArg (Value.int .i64) hg0.symm), hS11.mod⟩
    | false =>
      replace hb5 := ne_of_beq_false hb5.symm
      refine r_cond_f rfl ?_
      refine r_skip ?_
      refine r_seq ?_
      refine r_region ?_
      refine OL.q (Q1.move rfl) rfl rfl ?_
      refine OL.q (Q1.move rfl) rfl rfl ?_
      have hne0 : words ≠ [] := fun e => by subst e; simp at *
      have hS8 : St (fun _ => False) (fun _ => False) w0 w4 [bkR b2 [.slice none 0 0] 66, mapR strV intV b3 [], bkR b4 [ptr b2 0, .map (some b3)] 69, accR encN 72 2 (.slice none 0 0) []] := hS7.newAcc (Mod.refl _ _) Acc.nil (.inl rfl)
      change St (fun _ => False) (fun _ => False) w0 w4 [bkR b2 [.slice none 0 0] 66, mapR strV intV b3 ((mapK [])), bkR b4 [ptr b2 0, .map (some b3)] 69, accR encN 72 2 (.slice none 0 0) []] at hS8
      have hS9 : St (fun _ => False) (fun _ => False) w0 w4 [bkR b4 [ptr b2 0, .map (some b3)] 69, bkR b2 [.slice none 0 0] 66, mapR strV intV b3 ((mapK [])), accR encN 72 2 (.slice none 0 0) []] := hS8.sel [2, 0, 1, 3] (by rfl) (by decide)
      have hS10 : St (fun _ => False) (fun _ => False) w0 w4 [boxR [bkR b4 [ptr b2 0, .map (some b3)] 69, bkR b2 [.slice none 0 0] 66, mapR strV intV b3 ((mapK [])), accR encN 72 2 (.slice none 0 0) []]] := St.close (L1 := []) hS9
      have hS11 : St (fun _ => False) (fun _ => False) w0 w4 [bldR 69 66 72 b4 [] []] := hS10.exi (b2, b3, .slice none 0 0) (i := 0) rfl
      have f2 := hS11.out h_words (fun _ _ h => h)
      obtain ⟨Fb, hAb, hFb, hkb⟩ := hS11.act (i := 0) rfl
      refine OL.act rfl rfl (AW.callF cl34 rfl (node_c 12 (G := Iv 0 w0.heap.size) hAb (fun b hb => (hFb b hb).2) f2 (far_iv hFb) (fun b hb => Nat.lt_of_lt_of_le hb.2 hS11.mod.size) rfl hgd.2 hgd.1 hne0 (by simp [names]) (by simp [NamesOk]) (by simp only [List.length_nil]; omega) (by omega)) ?_)
      rintro _ w5 ⟨rfl, hm5, t2, xs2, hqe, F2b, hB2, hF2b⟩
      have hS12 : St (fun _ => False) (fun _ => False) w0 w5 [boxR [bldR 69 66 72 b4 ([] ++ xs2) ([] ++ t2), nrR t2 xs2]] := hkb _ _ _ hm5 hB2 hF2b
      have hS13 : St (fun _ => False) (fun _ => False) w0 w5 [bldR 69 66 72 b4 ([] ++ xs2) ([] ++ t2), nrR t2 xs2] := St.open (L1 := []) hS12
      have hS14 : St (fun _ => False) (fun _ => False) w0 w5 [bldR 69 66 72 b4 xs2 t2, nrR t2 xs2] := hS13.imp (i := 0) rfl (fun F_ h_ => by simpa only [List.nil_append] using h_)
      obtain ⟨⟨bG1, bM1, vN1⟩, hS15⟩ := hS14.exo (i := 0) rfl
      change St (fun _ => False) (fun _ => False) w0 w5 [boxR [bkR b4 [ptr bG1 0, .map (some bM1)] 69, bkR bG1 [vN1] 66, mapR strV intV bM1 (mapK xs2), accR encN 72 2 vN1 t2], nrR t2 xs2] at hS15
      have hS16 : St (fun _ => False) (fun _ => False) w0 w5 [nrR t2 xs2, boxR [bkR b4 [ptr bG1 0, .map (some bM1)] 69, bkR bG1 [vN1] 66, mapR strV intV bM1 (mapK xs2), accR encN 72 2 vN1 t2]] := hS15.sel [1, 0] (by rfl) (by decide)
      have hS17 : St (fun _ => False) (fun _ => False) w0 w5 [nrR t2 xs2, boxR [bkR b4 [ptr bG1 0, .map (some bM1)] 69, bkR bG1 [vN1] 66, mapR strV intV bM1 (mapK xs2), accR encN 72 2 vN1 t2]] := hS16
      have hS18 : St (fun _ => False) (fun _ => False) w0 w5 [nrR t2 xs2, bkR b4 [ptr bG1 0, .map (some bM1)] 69, bkR bG1 [vN1] 66, mapR strV intV bM1 ((mapK xs2)), accR encN 72 2 vN1 t2] := St.open (L1 := [nrR t2 xs2]) hS17
      refine OL.nil ?_
      refine r_seq ?_
      refine r_region ?_
      refine OL.q (Q1.move rfl) rfl rfl ?_
      refine OL.q (Q1.nilCheckP rfl) rfl rfl ?_
      refine OL.q (Q1.fieldAddr fl69_0 rfl) rfl rfl ?_
      have f3 := hS18.bk (i := 1) rfl
      refine OL.q (Q1.load1 ti27 rfl (fun _ e => e ▸ (f3.cell 0 _ rfl))) rfl rfl ?_
      refine OL.q (Q1.assign rfl) rfl rfl ?_
      refine OL.q (Q1.assign rfl) rfl rfl ?_
      refine OL.nil ?_
      refine r_ret2 Try.func14 rfl rfl rfl ?_
      have hS19 : St (fun _ => False) (fun _ => False) w0 w5 [bkR bG1 [vN1] 66, accR encN 72 2 vN1 t2, nrR t2 xs2] := hS18.sel [2, 4, 0] (by rfl) (by decide)
      have hgm : (addM 13 [] words).1 = graphM words := rfl
      have hxs : xs2 = graphM words := by rw [← hgm, hqe]; simp
      have hgn : gnodes words = gnOf xs2 := by rw [gnodes_yes hg0, hxs]; unfold graphB; rw [if_neg hne0]
      have hxn : xs2 ≠ [] := fun e => by have := (graphM_ok hgd.2 hgd.1 hne0).root; rw [← hxs, e] at this; simp at this
      exact Ret.mk ⟨_, _, rfl, ⟨w0.heap.size, _, by rw [hgn]; exact hS19.gr hxn, Nat.le_refl _, Nat.le_refl _⟩, (congrArg (Value.int .i64) hg0.symm), hS19.mod⟩
end Go.Proofs
