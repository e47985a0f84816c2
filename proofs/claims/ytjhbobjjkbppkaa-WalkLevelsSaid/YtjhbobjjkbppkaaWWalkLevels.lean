/-
  The walk through the law WalkLevels.
-/
import Derived.Test.YtjhbobjjkbppkaaWAwake
import Derived.Test.YtjhbobjjkbppkaaWList
import Derived.Test.YtjhbobjjkbppkaaLwWalk2
set_option linter.unusedVariables false
set_option linter.unusedSimpArgs false
namespace Go.Proofs
open Go.Ik Go.Ml
set_option maxRecDepth 20000 in
set_option maxHeartbeats 4000000 in
theorem WalkLevels_c {w0 : World}  {v_words : Value} {words : List Str} {v_part : Value} {part : List Str} {q : Qry} (h_words : Sl encS w0 (Iv 0 w0.heap.size) v_words words) (h_part : Sl encS w0 (Iv 0 w0.heap.size) v_part part) (hok : Ml.LOk words) (hokp : Ml.LOk part) (hqk : I64 q.k) (hqn : I64 q.n) :
    Calls Try.prog 7 #[v_words, v_part, .agg #[strV q.text, .int .i64 q.k, .int .i64 q.n]] w0 (Ret fun rv w1 => (∃ rb : Bool, rb = true ∧ rv = .bool rb) ∧ Ext w0 w1) := by
  have hE0 : Ext w0 w0 := Mod.refl _ _
  have hle1 := h_words.le
  have hle2 := h_part.le
  refine calls_enter Try.func7 rfl Try.ntmps7 rfl ?_
  refine r_seq ?_
  refine r_region ?_
  refine OL.act rfl rfl (AW.box [strV q.text, .int .i64 q.k, .int .i64 q.n] rfl rfl ?_)
  intro w1 b1 hm1 hb1 hz1 hk1
  have f1 := h_words.ext hm1
  have f2 := h_part.ext hm1
  have hE1 := hE0.ext hm1
  have hs1 := hm1.size
  refine OL.q (Q1.assign rfl) rfl rfl ?_
  refine OL.nil ?_
  refine r_seq ?_
  refine r_seq ?_
  refine r_region ?_
  refine OL.q (Q1.move rfl) rfl rfl ?_
  refine OL.q (Q1.fieldAddr fl39_0 rfl) rfl rfl ?_
  refine OL.q (Q1.load1 ti9 rfl (fun _ e => e ▸ (hk1.cell 0 _ rfl))) rfl rfl ?_
  refine OL.act rfl rfl (AW.callF cl12 rfl (great11_c (w0 := w1) (words := words) q.text ((f1).iv (Nat.zero_le _) (by omega))) ?_)
  rintro _ w2 ⟨⟨b2, hb2, rfl⟩, hm2⟩
  have f3 := f1.ext hm2
  have f4 := f2.ext hm2
  have f5 := hk1.ext hm2
  have hE2 := hE1.ext hm2
  have hs2 := hm2.size
  refine OL.q (Q1.move rfl) rfl rfl ?_
  cases b2 with
  | true =>
    replace hb2 := hb2.symm
    refine OL.sk rfl rfl ?_
    refine OL.sk rfl rfl ?_
    refine OL.q (Q1.pick_t rfl rfl) rfl rfl ?_
    refine OL.q (Q1.move rfl) rfl rfl ?_
    refine OL.sk rfl rfl ?_
    refine OL.sk rfl rfl ?_
    refine OL.sk rfl rfl ?_
    refine OL.q (Q1.pick_t rfl rfl) rfl rfl ?_
    refine OL.q (Q1.move rfl) rfl rfl ?_
    refine OL.sk rfl rfl ?_
    refine OL.sk rfl rfl ?_
    refine OL.sk rfl rfl ?_
    refine OL.q (Q1.pick_t rfl rfl) rfl rfl ?_
    refine OL.q (Q1.move rfl) rfl rfl ?_
    refine OL.sk rfl rfl ?_
    refine OL.sk rfl rfl ?_
    refine OL.sk rfl rfl ?_
    refine OL.q (Q1.pick_t rfl rfl) rfl rfl ?_
    refine OL.nil ?_
    refine r_cond_t rfl ?_
    refine r_seq ?_
    refine r_region ?_
    refine OL.act rfl rfl (AW.callF cl13 rfl (awake11_c (w0 := w2)   ) ?_)
    rintro _ w3 ⟨⟨_, rfl, rfl⟩, hm3⟩
    have f6 := f3.ext hm3
    have f7 := f4.ext hm3
    have f8 := f5.ext hm3
    have hE3 := hE2.ext hm3
    have hs3 := hm3.size
    refine OL.q (Q1.assign rfl) rfl rfl ?_
    refine OL.nil ?_
    refine r_ret1 Try.func7 rfl rfl ?_
    exact Ret.mk ⟨⟨_, (by rfl), rfl⟩, hE3⟩
  | false =>
    replace hb2 := hb2.symm
    refine OL.q (Q1.move rfl) rfl rfl ?_
    refine OL.act rfl rfl (AW.callF cl27 rfl (greatT_c (w0 := w2) (l := part)  ((f4).iv (Nat.zero_le _) (by omega))) ?_)
    rintro _ w3 ⟨⟨b3, hb3, rfl⟩, hm3⟩
    have f6 := f3.ext hm3
    have f7 := f4.ext hm3
    have f8 := f5.ext hm3
    have hE3 := hE2.ext hm3
    have hs3 := hm3.size
    refine OL.q (Q1.pick_f rfl rfl) rfl rfl ?_
    refine OL.q (Q1.move rfl) rfl rfl ?_
    cases b3 with
    | true =>
      replace hb3 := hb3.symm
      refine OL.sk rfl rfl ?_
      refine OL.sk rfl rfl ?_
      refine OL.sk rfl rfl ?_
      refine OL.q (Q1.pick_t rfl rfl) rfl rfl ?_
      refine OL.q (Q1.move rfl) rfl rfl ?_
      refine OL.sk rfl rfl ?_
      refine OL.sk rfl rfl ?_
      refine OL.sk rfl rfl ?_
      refine OL.q (Q1.pick_t rfl rfl) rfl rfl ?_
      refine OL.q (Q1.move rfl) rfl rfl ?_
      refine OL.sk rfl rfl ?_
      refine OL.sk rfl rfl ?_
      refine OL.sk rfl rfl ?_
      refine OL.q (Q1.pick_t rfl rfl) rfl rfl ?_
      refine OL.nil ?_
      refine r_cond_t rfl ?_
      refine r_seq ?_
      refine r_region ?_
      refine OL.act rfl rfl (AW.callF cl13 rfl (awake11_c (w0 := w3)   ) ?_)
      rintro _ w4 ⟨⟨_, rfl, rfl⟩, hm4⟩
      have f9 := f6.ext hm4
      have f10 := f7.ext hm4
      have f11 := f8.ext hm4
      have hE4 := hE3.ext hm4
      have hs4 := hm4.size
      refine OL.q (Q1.assign rfl) rfl rfl ?_
      refine OL.nil ?_
      refine r_ret1 Try.func7 rfl rfl ?_
      exact Ret.mk ⟨⟨_, (by rfl), rfl⟩, hE4⟩
    | false =>
      replace hb3 := hb3.symm
      refine OL.q (Q1.loadN ti39 rfl (fun _ e => e ▸ f8.row) rfl) rfl rfl ?_
      refine OL.act rfl rfl (AW.callF cl19 rfl (may_c (w0 := w3) (q := q)  (by have := (greatS_no (by assumption : greatS words q.text = false)).2; omega)) ?_)
      rintro _ w4 ⟨⟨b4, hb4, rfl⟩, hm4⟩
      have f9 := f6.ext hm4
      have f10 := f7.ext hm4
      have f11 := f8.ext hm4
      have hE4 := hE3.ext hm4
      have hs4 := hm4.size
      cases b4 with
      | true =>
        replace hb4 := hb4.symm
        refine OL.q (Q1.not rfl) rfl rfl ?_
        refine OL.q (Q1.pick_f rfl rfl) rfl rfl ?_
        refine OL.q (Q1.move rfl) rfl rfl ?_
        refine OL.q (Q1.move rfl) rfl rfl ?_
        refine OL.act rfl rfl (AW.callF cl28 rfl (lgood_c (w0 := w4) (words := words)  ((f9).iv (Nat.zero_le _) (by omega)) (by assumption)) ?_)
        rintro _ w5 ⟨rfl, hm5⟩
        have f12 := f9.ext hm5
        have f13 := f10.ext hm5
        have f14 := f11.ext hm5
        have hE5 := hE4.ext hm5
        have hs5 := hm5.size
        have := Ml.goodL_range words
        refine OL.qb (Q1.ne rfl rfl) rfl rfl ?_
        intro b5 hb5
        refine OL.q (Q1.pick_f rfl rfl) rfl rfl ?_
        refine OL.q (Q1.move rfl) rfl rfl ?_
        cases b5 with
        | true =>
          replace hb5 := bne_iff_ne.1 hb5.symm
          refine OL.sk rfl rfl ?_
          refine OL.sk rfl rfl ?_
          refine OL.sk rfl rfl ?_
          refine OL.q (Q1.pick_t rfl rfl) rfl rfl ?_
          refine OL.nil ?_
          refine r_cond_t rfl ?_
          refine r_seq ?_
          refine r_region ?_
          refine OL.act rfl rfl (AW.callF cl13 rfl (awake11_c (w0 := w5)   ) ?_)
          rintro _ w6 ⟨⟨_, rfl, rfl⟩, hm6⟩
          have f15 := f12.ext hm6
          have f16 := f13.ext hm6
          have f17 := f14.ext hm6
          have hE6 := hE5.ext hm6
          have hs6 := hm6.size
          refine OL.q (Q1.assign rfl) rfl rfl ?_
          refine OL.nil ?_
          refine r_ret1 Try.func7 rfl rfl ?_
          exact Ret.mk ⟨⟨_, (by rfl), rfl⟩, hE6⟩
        | false =>
          replace hb5 := bne_eq_false_iff_eq.1 hb5.symm
          refine OL.q (Q1.move rfl) rfl rfl ?_
          refine OL.act rfl rfl (AW.callF cl28 rfl (lgood_c (w0 := w5) (words := part)  ((f13).iv (Nat.zero_le _) (by omega)) (by assumption)) ?_)
          rintro _ w6 ⟨rfl, hm6⟩
          have f15 := f12.ext hm6
          have f16 := f13.ext hm6
          have f17 := f14.ext hm6
          have hE6 := hE5.ext hm6
          have hs6 := hm6.size
          have := Ml.goodL_range part
          refine OL.qb (Q1.ne rfl rfl) rfl rfl ?_
          intro b6 hb6
          refine OL.q (Q1.pick_f rfl rfl) rfl rfl ?_
          refine OL.nil ?_
          cases b6 with
          | true =>
            replace hb6 := bne_iff_ne.1 hb6.symm
            refine r_cond_t rfl ?_
            refine r_seq ?_
            refine r_region ?_
            refine OL.act rfl rfl (AW.callF cl13 rfl (awake11_c (w0 := w6)   ) ?_)
            rintro _ w7 ⟨⟨_, rfl, rfl⟩, hm7⟩
            have f18 := f15.ext hm7
            have f19 := f16.ext hm7
            have f20 := f17.ext hm7
            have hE7 := hE6.ext hm7
            have hs7 := hm7.size
            refine OL.q (Q1.assign rfl) rfl rfl ?_
            refine OL.nil ?_
            refine r_ret1 Try.func7 rfl rfl ?_
            exact Ret.mk ⟨⟨_, (by rfl), rfl⟩, hE7⟩
          | false =>
            replace hb6 := bne_eq_false_iff_eq.1 hb6.symm
            refine r_cond_f rfl ?_
            refine r_skip ?_
            refine r_seq ?_
            refine r_region ?_
            refine OL.q (Q1.move rfl) rfl rfl ?_
            have hg3 := greatS_no (by assumption : greatS words q.text = false)
            have hl8 := Ml.greatT_len hg3.1
            have hmq := mayQ_iff (q := q) (by assumption)
            have hg0 : Ml.goodL words = 0 := by assumption
            have hgp0 : Ml.goodL part = 0 := by assumption
            have hgW := good_without (b := part) hg0
            have hwl := Ml.without_len words part
            have hl60 := Ml.good_len hg0
            have hpl60 := Ml.good_len hgp0
            have hws := good_len48 hg0
            have hgok : GOk (Ml.gnodes words) (Ml.graphB words) words := Ml.gok_of hg0
            obtain ⟨hI, hgl, hel⟩ := hgok.edges
            have hgok2 : GOk (Ml.gnodes (Ml.withoutM words part)) (Ml.graphB (Ml.withoutM words part)) (Ml.withoutM words part) := Ml.gok_of hgW
            obtain ⟨hI2, hgl2, hel2⟩ := hgok2.edges
            refine OL.act rfl rfl (AW.callF cl14 rfl (build_c (w0 := w6) (words := words)  ((f15).iv (Nat.zero_le _) (by omega)) (by first | assumption | exact fun s hs => hok s (without_mem.1 hs).1) (by first | assumption | omega)) ?_)
            rintro _ w7 ⟨vg1, _, rfl, ⟨lo1, hi1, hgr_1, hlo1, hhi1⟩, rfl, hm7⟩
            have f18 := f15.ext hm7
            have f19 := f16.ext hm7
            have f20 := f17.ext hm7
            have hE7 := hE6.ext hm7
            have hs7 := hm7.size
            have := Ml.goodL_range words
            refine OL.q (Q1.move rfl) rfl rfl ?_
            refine OL.q (Q1.extract rfl rfl) rfl rfl ?_
            refine OL.q (Q1.extract rfl rfl) rfl rfl ?_
            refine OL.q (Q1.assign rfl) rfl rfl ?_
            refine OL.q (Q1.assign rfl) rfl rfl ?_
            refine OL.nil ?_
            refine r_seq ?_
            refine r_region ?_
            refine OL.q (Q1.move rfl) rfl rfl ?_
            refine OL.q (Q1.move rfl) rfl rfl ?_
            refine OL.act rfl rfl (AW.callF cl29 rfl (lwithout_c (w0 := w7) (a := words) (b := part)  ((f18).iv (Nat.zero_le _) (by omega)) ((f19).iv (Nat.zero_le _) (by omega)) (by exact (good_words hgp0).2.2) (by first | assumption | omega | (simp; done)) (by first | assumption | omega | (simp; done))) ?_)
            rintro v1 w8 ⟨⟨gr1, h1, hg1⟩, hm8⟩
            have f21 := f18.ext hm8
            have f22 := f19.ext hm8
            have f23 := f20.ext hm8
            have f24 := hgr_1.ext hm8
            have hE8 := hE7.ext hm8
            have hs8 := hm8.size
            have hle_1 := h1.le
            have hlt_1 := h1.lt
            have := Ml.without_len words part
            refine OL.act rfl rfl (AW.callF cl14 rfl (build_c (w0 := w8) (words := (Ml.withoutM words part))  ((h1.sl).iv (Nat.zero_le _) (by omega)) (by first | assumption | exact fun s hs => hok s (without_mem.1 hs).1) (by first | assumption | omega)) ?_)
            rintro _ w9 ⟨vg2, _, rfl, ⟨lo2, hi2, hgr_2, hlo2, hhi2⟩, rfl, hm9⟩
            have hl1 := h1.lt
            have f25 := f21.ext hm9
            have f26 := f22.ext hm9
            have f27 := f23.ext hm9
            have f28 := f24.ext hm9
            have f29 := h1.ext hm9
            have hE9 := hE8.ext hm9
            have hs9 := hm9.size
            have := Ml.goodL_range ((Ml.withoutM words part))
            refine OL.q (Q1.move rfl) rfl rfl ?_
            refine OL.q (Q1.extract rfl rfl) rfl rfl ?_
            refine OL.q (Q1.extract rfl rfl) rfl rfl ?_
            refine OL.q (Q1.assign rfl) rfl rfl ?_
            refine OL.q (Q1.assign rfl) rfl rfl ?_
            refine OL.nil ?_
            refine r_seq ?_
            refine r_seq ?_
            refine r_region ?_
            refine OL.q (Q1.move rfl) rfl rfl ?_
            refine OL.qb (Q1.ne rfl rfl) rfl rfl ?_
            intro b7 hb7
            obtain rfl : b7 = false := hb7.trans (bne_eq_false_iff_eq.2 hb5)
            refine OL.q (Q1.move rfl) rfl rfl ?_
            refine OL.q (Q1.move rfl) rfl rfl ?_
            refine OL.qb (Q1.ne rfl rfl) rfl rfl ?_
            intro b8 hb8
            obtain rfl : b8 = false := hb8.trans (by exact bne_eq_false_iff_eq.2 hgW)
            refine OL.q (Q1.pick_f rfl rfl) rfl rfl ?_
            refine OL.q (Q1.move rfl) rfl rfl ?_
            refine OL.q (Q1.move rfl) rfl rfl ?_
            have hgr1 := f28
            rcases f28 with ⟨hv1, hN1⟩ | ⟨b9, vn1, nds1, hv1, hN1, hrw1, hsl1, hrel1⟩
            · exact absurd hN1 (by exact Ml.gnodes_ne hg0)
            · subst hv1
              have hnl1 := (All2.get hrel1).1
              refine OL.q (Q1.eqNil Try.underlying27 rfl rfl) rfl rfl ?_
              refine OL.q (Q1.pick_f rfl rfl) rfl rfl ?_
              refine OL.q (Q1.move rfl) rfl rfl ?_
              refine OL.q (Q1.move rfl) rfl rfl ?_
              have hgr2 := hgr_2
              rcases hgr_2 with ⟨hv2, hN2⟩ | ⟨b10, vn2, nds2, hv2, hN2, hrw2, hsl2, hrel2⟩
              · exact absurd hN2 (by exact Ml.gnodes_ne hgW)
              · subst hv2
                have hnl2 := (All2.get hrel2).1
                refine OL.q (Q1.eqNil Try.underlying27 rfl rfl) rfl rfl ?_
                refine OL.q (Q1.pick_f rfl rfl) rfl rfl ?_
                refine OL.nil ?_
                refine r_cond_f rfl ?_
                refine r_skip ?_
                refine r_seq ?_
                refine r_region ?_
                refine OL.q (Q1.assign rfl) rfl rfl ?_
                refine OL.nil ?_
                refine r_seq ?_
                refine r_seq ?_
                refine r_region ?_
                refine OL.q (Q1.assign rfl) rfl rfl ?_
                refine OL.nil ?_
                refine r_block ?_
                refine r_loop (I := fun m E W => ∃ (v_all : Value) (g_all : Nat) (all : List Itm) (d : Nat), E = [(1, v_part), (5, ptr b1 0), (7, ptr b9 0), (9, ptr b10 0), (11, v_all), (12, .int .i64 (((d : Nat) : Int)))] ∧ m = (q.k + 1).toNat - d ∧ Ext w0 W ∧ w9.heap.size ≤ W.heap.size ∧ Acc encItm 24 2 W g_all v_all all ∧ (g_all = 0 ∨ w0.heap.size < g_all) ∧ Sl encS W (Iv 0 w0.heap.size) v_part part ∧ Bk W b1 [strV q.text, .int .i64 q.k, .int .i64 q.n] 39 ∧ Rw W lo1 hi1 b9 [vn1] ∧ Sl encN W (Iv lo1 hi1) vn1 nds1 ∧ NRel W (Iv lo1 hi1) nds1 ((Ml.gnodes words)) ∧ Gr 0 W lo1 hi1 ((ptr b9 0)) ((Ml.gnodes words)) ∧ Rw W lo2 hi2 b10 [vn2] ∧ Sl encN W (Iv lo2 hi2) vn2 nds2 ∧ NRel W (Iv lo2 hi2) nds2 ((Ml.gnodes ((Ml.withoutM words part)))) ∧ Gr 0 W lo2 hi2 ((ptr b10 0)) ((Ml.gnodes ((Ml.withoutM words part)))) ∧ b1 + 1 ≠ g_all ∧ (g_all ≤ lo1 ∨ hi1 < g_all) ∧ (g_all ≤ lo2 ∨ hi2 < g_all) ∧ (all = itemsM words (runesI q.text) d) ∧ ((d : Int) ≤ q.k + 1) ∧ (all.length ≤ 60)) ?_ ?_
                · refine ⟨_, _, ⟨(.slice none 0 0 : Value), (0 : Nat), ([] : List Itm), (0 : Nat), rfl, rfl, hE9, Nat.le_refl _, Acc.nil, (by omega), f26, f27, hrw1, hsl1, hrel1, hgr1, hrw2, hsl2, hrel2, hgr2, (by omega), (by omega), (by omega), (by rfl), (by omega), (by simp)⟩, ⟨rfl, rfl, rfl, rfl, rfl, rfl, trivial⟩⟩
                · rintro _ _ w10 ⟨v_all, g_all, all, d, rfl, rfl, hE10, hs10, ha1, hg2, f30, f31, f32, f33, f34, f35, f36, f37, f38, f39, hn1, hn2, hn3, hal, hdl, hall⟩ ih1
                  refine r_seq ?_
                  refine r_seq ?_
                  refine r_region ?_
                  refine OL.q (Q1.move rfl) rfl rfl ?_
                  refine OL.q (Q1.fieldAddr fl39_1 rfl) rfl rfl ?_
                  refine OL.q (Q1.load1 ti3 rfl (fun _ e => e ▸ (f31.cell 1 _ rfl))) rfl rfl ?_
                  refine OL.qb (Q1.le rfl rfl) rfl rfl ?_
                  intro b11 hb9
                  refine OL.nil ?_
                  cases b11 with
                  | true =>
                    replace hb9 := of_decide_eq_true hb9.symm
                    refine r_cond_t rfl ?_
                    refine r_skip ?_
                    refine r_seq ?_
                    refine r_block ?_
                    refine r_seq ?_
                    refine r_region ?_
                    refine OL.q (Q1.move rfl) rfl rfl ?_
                    refine OL.q (Q1.fieldAddr fl39_0 rfl) rfl rfl ?_
                    refine OL.q (Q1.load1 ti9 rfl (fun _ e => e ▸ (f31.cell 0 _ rfl))) rfl rfl ?_
                    refine OL.q (Q1.move rfl) rfl rfl ?_
                    refine OL.act rfl rfl (AW.callF cl21 rfl (wdists_c (w0 := w10)  q.text (((d : Nat) : Int)) f35 (by omega) (by first | omega | assumption) (by first | exact hgok | exact hgok2) (by first | assumption | omega | (simp; done)) (by first | assumption | omega)) ?_)
                    rintro v2 w11 ⟨⟨gr2, h2, hg3⟩, hm10⟩
                    have hl2 := ha1.lt
                    have f40 := ha1.ext hm10
                    have f41 := f30.ext hm10
                    have f42 := f31.ext hm10
                    have f43 := f32.ext hm10
                    have f44 := f33.ext hm10
                    have f45 := f34.ext hm10
                    have f46 := f35.ext hm10
                    have f47 := f36.ext hm10
                    have f48 := f37.ext hm10
                    have f49 := f38.ext hm10
                    have f50 := f39.ext hm10
                    have hE11 := hE10.ext hm10
                    have hs11 := hm10.size
                    have hle_2 := h2.le
                    have hlt_2 := h2.lt
                    have := distsA_len ((Ml.gnodes words)) words q.text (((d : Nat) : Int))
                    refine OL.q (Q1.assign rfl) rfl rfl ?_
                    refine OL.nil ?_
                    refine r_seq ?_
                    refine r_seq ?_
                    refine r_region ?_
                    refine OL.q (Q1.move rfl) rfl rfl ?_
                    refine OL.q (Q1.fieldAddr fl39_0 rfl) rfl rfl ?_
                    refine OL.q (Q1.load1 ti9 rfl (fun _ e => e ▸ (f42.cell 0 _ rfl))) rfl rfl ?_
                    refine OL.q (Q1.move rfl) rfl rfl ?_
                    refine OL.act rfl rfl (AW.callF cl21 rfl (wdists_c (w0 := w11)  q.text (((d : Nat) : Int)) f50 (by omega) (by first | omega | assumption) (by first | exact hgok | exact hgok2) (by first | assumption | omega | (simp; done)) (by first | assumption | omega)) ?_)
                    rintro v3 w12 ⟨⟨gr3, h3, hg4⟩, hm11⟩
                    have hl3 := f40.lt
                    have hl4 := h2.lt
                    have f51 := f40.ext hm11
                    have f52 := f41.ext hm11
                    have f53 := f42.ext hm11
                    have f54 := f43.ext hm11
                    have f55 := f44.ext hm11
                    have f56 := f45.ext hm11
                    have f57 := f46.ext hm11
                    have f58 := f47.ext hm11
                    have f59 := f48.ext hm11
                    have f60 := f49.ext hm11
                    have f61 := f50.ext hm11
                    have f62 := h2.ext hm11
                    have hE12 := hE11.ext hm11
                    have hs12 := hm11.size
                    have hle_3 := h3.le
                    have hlt_3 := h3.lt
                    have := distsA_len ((Ml.gnodes ((Ml.withoutM words part)))) ((Ml.withoutM words part)) q.text (((d : Nat) : Int))
                    refine OL.q (Q1.move rfl) rfl rfl ?_
                    refine OL.q (Q1.move rfl) rfl rfl ?_
                    refine OL.act rfl rfl (AW.callF cl29 rfl (lwithout_c (w0 := w12) (a := (distsA ((Ml.gnodes words)) words q.text (((d : Nat) : Int)))) (b := part)  ((f62.sl).iv (Nat.zero_le _) (by omega)) ((f52).iv (Nat.zero_le _) (by omega)) (by exact (good_words hgp0).2.2) (by first | assumption | omega | (simp; done)) (by first | assumption | omega | (simp; done))) ?_)
                    rintro v4 w13 ⟨⟨gr4, h4, hg5⟩, hm12⟩
                    have hl5 := f51.lt
                    have hl6 := f62.lt
                    have hl7 := h3.lt
                    have f63 := f51.ext hm12
                    have f64 := f52.ext hm12
                    have f65 := f53.ext hm12
                    have f66 := f54.ext hm12
                    have f67 := f55.ext hm12
                    have f68 := f56.ext hm12
                    have f69 := f57.ext hm12
                    have f70 := f58.ext hm12
                    have f71 := f59.ext hm12
                    have f72 := f60.ext hm12
                    have f73 := f61.ext hm12
                    have f74 := f62.ext hm12
                    have f75 := h3.ext hm12
                    have hE13 := hE12.ext hm12
                    have hs13 := hm12.size
                    have hle_4 := h4.le
                    have hlt_4 := h4.lt
                    have := Ml.without_len ((distsA ((Ml.gnodes words)) words q.text (((d : Nat) : Int)))) part
                    refine OL.act rfl rfl (AW.callF cl22 rfl (sameT_c (w0 := w13) (a := (distsA ((Ml.gnodes ((Ml.withoutM words part)))) ((Ml.withoutM words part)) q.text (((d : Nat) : Int)))) (b := (Ml.withoutM ((distsA ((Ml.gnodes words)) words q.text (((d : Nat) : Int)))) part))  ((f75.sl).iv (Nat.zero_le _) (by omega)) ((h4.sl).iv (Nat.zero_le _) (by omega))) ?_)
                    rintro _ w14 ⟨⟨b12, hb10, rfl⟩, hm13⟩
                    have hl8 := f63.lt
                    have hl9 := f74.lt
                    have hl10 := f75.lt
                    have hl11 := h4.lt
                    have f76 := f63.ext hm13
                    have f77 := f64.ext hm13
                    have f78 := f65.ext hm13
                    have f79 := f66.ext hm13
                    have f80 := f67.ext hm13
                    have f81 := f68.ext hm13
                    have f82 := f69.ext hm13
                    have f83 := f70.ext hm13
                    have f84 := f71.ext hm13
                    have f85 := f72.ext hm13
                    have f86 := f73.ext hm13
                    have f87 := f74.ext hm13
                    have f88 := f75.ext hm13
                    have f89 := h4.ext hm13
                    have hE14 := hE13.ext hm13
                    have hs14 := hm13.size
                    obtain rfl : b12 = true := hb10.trans (by exact decide_eq_true (levels_dists hg0))
                    refine OL.q (Q1.not rfl) rfl rfl ?_
                    refine OL.nil ?_
                    refine r_cond_f rfl ?_
                    refine r_skip ?_
                    refine r_seq ?_
                    refine r_region ?_
                    refine OL.q (Q1.assign rfl) rfl rfl ?_
                    refine OL.nil ?_
                    refine r_block ?_
                    refine r_loop (I := fun m E W => ∃ (v_al2 : Value) (g_al2 : Nat) (al2 : List Itm) (i : Nat), E = [(1, v_part), (5, ptr b1 0), (7, ptr b9 0), (9, ptr b10 0), (11, v_al2), (12, .int .i64 (((d : Nat) : Int))), (13, v2), (14, .int .i64 (((i : Nat) : Int)))] ∧ m = (distsA (Ml.gnodes words) words q.text d).length - i ∧ Ext w0 W ∧ w14.heap.size ≤ W.heap.size ∧ Acc encItm 24 2 W g_al2 v_al2 al2 ∧ (g_al2 = 0 ∨ w0.heap.size < g_al2) ∧ Sl encS W (Iv 0 w0.heap.size) v_part part ∧ Bk W b1 [strV q.text, .int .i64 q.k, .int .i64 q.n] 39 ∧ Rw W lo1 hi1 b9 [vn1] ∧ Sl encN W (Iv lo1 hi1) vn1 nds1 ∧ NRel W (Iv lo1 hi1) nds1 ((Ml.gnodes words)) ∧ Gr 0 W lo1 hi1 ((ptr b9 0)) ((Ml.gnodes words)) ∧ Rw W lo2 hi2 b10 [vn2] ∧ Sl encN W (Iv lo2 hi2) vn2 nds2 ∧ NRel W (Iv lo2 hi2) nds2 ((Ml.gnodes ((Ml.withoutM words part)))) ∧ Gr 0 W lo2 hi2 ((ptr b10 0)) ((Ml.gnodes ((Ml.withoutM words part)))) ∧ Acc encS 9 1 W gr2 v2 ((distsA ((Ml.gnodes words)) words q.text (((d : Nat) : Int)))) ∧ b1 + 1 ≠ g_al2 ∧ (g_al2 ≤ lo1 ∨ hi1 < g_al2) ∧ (g_al2 ≤ lo2 ∨ hi2 < g_al2) ∧ (g_al2 ≠ gr2 ∨ gr2 = 0) ∧ (al2 = itemsM words (runesI q.text) d ++ ((distsA (Ml.gnodes words) words q.text d).take i).map (Itm.mk (d : Int))) ∧ (i ≤ (distsA (Ml.gnodes words) words q.text d).length) ∧ (al2.length ≤ 60 + i)) ?_ ?_
                    · refine ⟨_, _, ⟨(v_all : Value), (g_all : Nat), (all : List Itm), (0 : Nat), rfl, rfl, hE14, Nat.le_refl _, f76, (by omega), f77, f78, f79, f80, f81, f82, f83, f84, f85, f86, f87, (by omega), (by omega), (by omega), (by omega), (by exact lv_start hal), (by omega), (by omega)⟩, ⟨rfl, rfl, rfl, rfl, rfl, rfl, rfl, rfl, trivial⟩⟩
                    · rintro _ _ w15 ⟨v_al2, g_al2, al2, i, rfl, rfl, hE15, hs15, ha2, hg6, f90, f91, f92, f93, f94, f95, f96, f97, f98, f99, f100, hn4, hn5, hn6, hn7, hal2, hil, hal2l⟩ ih2
                      refine r_seq ?_
                      refine r_seq ?_
                      refine r_region ?_
                      refine OL.q (Q1.move rfl) rfl rfl ?_
                      refine OL.q (Q1.move rfl) rfl rfl ?_
                      refine OL.q (Q1.lenSl Try.underlying22 (f100.sl) rfl) rfl rfl ?_
                      refine OL.qb (Q1.lt rfl rfl) rfl rfl ?_
                      intro b13 hb11
                      refine OL.nil ?_
                      cases b13 with
                      | true =>
                        replace hb11 := of_decide_eq_true hb11.symm
                        refine r_cond_t rfl ?_
                        refine r_skip ?_
                        refine r_seq ?_
                        refine r_block ?_
                        refine r_region ?_
                        refine OL.q (Q1.move rfl) rfl rfl ?_
                        refine OL.q (Q1.move rfl) rfl rfl ?_
                        refine OL.q (Q1.move rfl) rfl rfl ?_
                        refine OL.q (Q1.move rfl) rfl rfl ?_
                        obtain ⟨x1, b14, o1, hx1, hr1, hl12, hu1, hw1⟩ := Sl.at' (P := Try.prog) f100.sl Try.underlying22 ti9 encS_len (k := .i64) (n := ((i : Nat) : Int)) (i) (by omega) (by first | assumption | omega)
                        refine OL.q (Q1.indexAddr rfl rfl hr1) rfl rfl ?_
                        refine OL.q (Q1.load1 ti9 rfl (fun _ e => e ▸ hw1)) rfl rfl ?_
                        refine OL.q (Q1.build (vs := #[(0, (.int .i64 (((d : Nat) : Int)) : Value)), (1, strV x1)]) (v := .agg #[.int .i64 (((d : Nat) : Int)), strV x1]) rfl (fun _ => by kernel_rfl)) rfl rfl ?_
                        refine OL.act rfl rfl (AW.buildSlice [(.agg #[.int .i64 (((d : Nat) : Int)), strV x1] : Value)] Try.underlying31 ti24 rfl rfl rfl (by decide) ?_)
                        intro w16 b15 hm14 hb12 hz2 hk2
                        have hl13 := ha2.lt
                        have hl14 := f100.lt
                        have f101 := ha2.ext hm14
                        have f102 := f90.ext hm14
                        have f103 := f91.ext hm14
                        have f104 := f92.ext hm14
                        have f105 := f93.ext hm14
                        have f106 := f94.ext hm14
                        have f107 := f95.ext hm14
                        have f108 := f96.ext hm14
                        have f109 := f97.ext hm14
                        have f110 := f98.ext hm14
                        have f111 := f99.ext hm14
                        have f112 := f100.ext hm14
                        have hE16 := hE15.ext hm14
                        have hs16 := hm14.size
                        have hl15 := Sl.of_blk (enc := encItm) hk2 ([(Itm.mk (((d : Nat) : Int)) x1)] : List Itm) 1 rfl rfl (by unfold maxLen; omega)
                        have hl16 := f101.lt
                        refine OL.act rfl rfl (AW.append f101 Try.underlying31 ti24 rfl encItm_len encItm_one rfl rfl (hl15) (by first | omega | (simp only [List.length_append, List.length_cons, List.length_nil]; omega) | (simp; omega)) (by unfold maxLen; first | omega | (simp only [List.length_append, List.length_cons, List.length_nil]; omega) | (simp; omega)) ?_)
                        intro v5 g1 w17 ha3 hm15 hg7 hz3
                        have hl17 := f101.lt
                        have hl18 := f112.lt
                        have f113 := f102.keepG hm15 (by omega)
                        have f114 := f103.keepG hm15 (by omega)
                        have f115 := f104.keepG hm15 (by omega)
                        have f116 := f105.keepG hm15 (by omega)
                        have f117 := f106.keepG hm15 (by omega)
                        have f118 := f107.keepG hm15 (by omega)
                        have f119 := f108.keepG hm15 (by omega)
                        have f120 := f109.keepG hm15 (by omega)
                        have f121 := f110.keepG hm15 (by omega)
                        have f122 := f111.keepG hm15 (by omega)
                        have f123 := f112.keepG hm15 (by omega)
                        have f124 := hl15.keepG hm15 (by omega)
                        have hE17 := Ext.thenG hE16 hm15 (by omega)
                        have hs17 := hm15.size
                        have hl19 := ha3.lt
                        refine OL.q (Q1.assign rfl) rfl rfl ?_
                        refine OL.nil ?_
                        refine r_inBlock ?_
                        refine r_region ?_
                        refine OL.q (Q1.move rfl) rfl rfl ?_
                        refine OL.q (Q1.addI (((i + 1 : Nat) : Int)) rfl rfl (by omega)) rfl rfl ?_
                        refine OL.q (Q1.assign rfl) rfl rfl ?_
                        refine OL.nil ?_
                        exact (ih2 _ _ _ ⟨(v5 : Value), (g1 : Nat), ((al2 ++ [(Itm.mk (((d : Nat) : Int)) x1)]) : List Itm), (i + 1 : Nat), rfl, rfl, hE17, (by omega), ha3, (by omega), f113, f114, f115, f116, f117, f118, f119, f120, f121, f122, f123, (by omega), (by omega), (by omega), (by omega), (by first | exact lv_step hal2 hx1 | (exfalso; omega)), (by first | omega | (exfalso; omega)), (by first | (simp only [List.length_append, List.length_cons, List.length_nil]; omega) | (exfalso; omega))⟩ (by omega)).sub ⟨rfl, rfl, rfl, rfl, rfl, rfl, rfl, rfl, trivial⟩
                      | false =>
                        replace hb11 := of_decide_eq_false hb11.symm
                        refine r_cond_f rfl ?_
                        refine r_exit rfl ?_
                        refine r_inBlock ?_
                        refine r_region ?_
                        refine OL.q (Q1.move rfl) rfl rfl ?_
                        refine OL.q (Q1.addI (((d + 1 : Nat) : Int)) rfl rfl (by omega)) rfl rfl ?_
                        refine OL.q (Q1.assign rfl) rfl rfl ?_
                        refine OL.nil ?_
                        exact (ih1 _ _ _ ⟨(v_al2 : Value), (g_al2 : Nat), (al2 : List Itm), (d + 1 : Nat), rfl, rfl, hE15, (by omega), ha2, (by omega), f90, f91, f92, f93, f94, f95, f96, f97, f98, f99, (by omega), (by omega), (by omega), (by first | exact lv_next hg0 hmq.1 (by omega) hal2 (by omega) | (exfalso; omega)), (by first | omega | (exfalso; omega)), (by first | (rw [lv_next hg0 hmq.1 (by omega) hal2 (by omega)]; have := itemsM_len (n := d + 1) hg0 hmq.1; omega) | (exfalso; omega))⟩ (by omega)).sub ⟨rfl, rfl, rfl, rfl, rfl, rfl, trivial⟩
                  | false =>
                    replace hb9 := of_decide_eq_false hb9.symm
                    refine r_cond_f rfl ?_
                    refine r_exit rfl ?_
                    refine r_seq ?_
                    refine r_region ?_
                    refine OL.q (Q1.move rfl) rfl rfl ?_
                    refine OL.q (Q1.fieldAddr fl39_0 rfl) rfl rfl ?_
                    refine OL.q (Q1.load1 ti9 rfl (fun _ e => e ▸ (f31.cell 0 _ rfl))) rfl rfl ?_
                    refine OL.q (Q1.fieldAddr fl39_1 rfl) rfl rfl ?_
                    refine OL.q (Q1.load1 ti3 rfl (fun _ e => e ▸ (f31.cell 1 _ rfl))) rfl rfl ?_
                    refine OL.q (Q1.build (vs := #[]) (v := .agg #[.int .i64 0, strV []]) rfl (fun _ => by kernel_rfl)) rfl rfl ?_
                    refine OL.act rfl rfl (AW.callF cl15 rfl (wnext_c (w0 := w10) (after := (Itm.mk 0 [])) q.text (q.k) true (100) f35 (by omega) (by first | omega | assumption) (by first | omega | assumption) (by exact hgok) (by first | assumption | omega | (simp; done)) (by first | assumption | omega) (by decide) (by simp)) ?_)
                    rintro _ w11 ⟨v2, _, rfl, ⟨gr2, h2, hg3⟩, ⟨b12, hb10, rfl⟩, hm10⟩
                    have hl2 := ha1.lt
                    have f40 := ha1.ext hm10
                    have f41 := f30.ext hm10
                    have f42 := f31.ext hm10
                    have f43 := f32.ext hm10
                    have f44 := f33.ext hm10
                    have f45 := f34.ext hm10
                    have f46 := f35.ext hm10
                    have f47 := f36.ext hm10
                    have f48 := f37.ext hm10
                    have f49 := f38.ext hm10
                    have f50 := f39.ext hm10
                    have hE11 := hE10.ext hm10
                    have hs11 := hm10.size
                    have hle_2 := h2.le
                    have hlt_2 := h2.lt
                    have := nextA_lenE ((Ml.gnodes words)) words q.text q.k true ((Itm.mk 0 [])) 100
                    refine OL.q (Q1.move rfl) rfl rfl ?_
                    refine OL.q (Q1.extract rfl rfl) rfl rfl ?_
                    refine OL.q (Q1.extract rfl rfl) rfl rfl ?_
                    refine OL.q (Q1.assign rfl) rfl rfl ?_
                    refine OL.q (Q1.assign rfl) rfl rfl ?_
                    refine OL.nil ?_
                    refine r_seq ?_
                    refine r_region ?_
                    refine OL.q (Q1.move rfl) rfl rfl ?_
                    refine OL.q (Q1.move rfl) rfl rfl ?_
                    refine OL.act rfl rfl (AW.callF cl17 rfl (sameIt_c (w0 := w11) (a := all) (b := ((nextA ((Ml.gnodes words)) words q.text q.k true ((Itm.mk 0 [])) 100).1))  ((f40.sl).iv (Nat.zero_le _) (by omega)) ((h2.sl).iv (Nat.zero_le _) (by omega))) ?_)
                    rintro _ w12 ⟨⟨b13, hb11, rfl⟩, hm11⟩
                    have hl3 := f40.lt
                    have hl4 := h2.lt
                    have f51 := f40.ext hm11
                    have f52 := f41.ext hm11
                    have f53 := f42.ext hm11
                    have f54 := f43.ext hm11
                    have f55 := f44.ext hm11
                    have f56 := f45.ext hm11
                    have f57 := f46.ext hm11
                    have f58 := f47.ext hm11
                    have f59 := f48.ext hm11
                    have f60 := f49.ext hm11
                    have f61 := f50.ext hm11
                    have f62 := h2.ext hm11
                    have hE12 := hE11.ext hm11
                    have hs12 := hm11.size
                    obtain rfl : b13 = true := hb11.trans (by exact decide_eq_true (by rw [lv_all hg0 hmq.1 hmq.2.1 (by omega), hal, show d = q.k.toNat + 1 from by omega]))
                    refine OL.q (Q1.move rfl) rfl rfl ?_
                    refine OL.q (Q1.move rfl) rfl rfl ?_
                    obtain rfl : b12 = true := hb10.trans (by rw [lv_all hg0 hmq.1 hmq.2.1 (by omega)])
                    refine OL.q (Q1.pick_t rfl rfl) rfl rfl ?_
                    refine OL.q (Q1.move rfl) rfl rfl ?_
                    refine OL.act rfl rfl (AW.callF cl13 rfl (awake11_c (w0 := w12)   ) ?_)
                    rintro _ w13 ⟨⟨_, rfl, rfl⟩, hm12⟩
                    have hl5 := f51.lt
                    have hl6 := f62.lt
                    have f63 := f51.ext hm12
                    have f64 := f52.ext hm12
                    have f65 := f53.ext hm12
                    have f66 := f54.ext hm12
                    have f67 := f55.ext hm12
                    have f68 := f56.ext hm12
                    have f69 := f57.ext hm12
                    have f70 := f58.ext hm12
                    have f71 := f59.ext hm12
                    have f72 := f60.ext hm12
                    have f73 := f61.ext hm12
                    have f74 := f62.ext hm12
                    have hE13 := hE12.ext hm12
                    have hs13 := hm12.size
                    refine OL.q (Q1.pick_t rfl rfl) rfl rfl ?_
                    refine OL.q (Q1.assign rfl) rfl rfl ?_
                    refine OL.nil ?_
                    refine r_ret1 Try.func7 rfl rfl ?_
                    exact Ret.mk ⟨⟨_, (by rfl), rfl⟩, hE13⟩
      | false =>
        replace hb4 := hb4.symm
        refine OL.q (Q1.not rfl) rfl rfl ?_
        refine OL.q (Q1.pick_f rfl rfl) rfl rfl ?_
        refine OL.q (Q1.move rfl) rfl rfl ?_
        refine OL.sk rfl rfl ?_
        refine OL.sk rfl rfl ?_
        refine OL.sk rfl rfl ?_
        refine OL.q (Q1.pick_t rfl rfl) rfl rfl ?_
        refine OL.q (Q1.move rfl) rfl rfl ?_
        refine OL.sk rfl rfl ?_
        refine OL.sk rfl rfl ?_
        refine OL.sk rfl rfl ?_
        refine OL.q (Q1.pick_t rfl rfl) rfl rfl ?_
        refine OL.nil ?_
        refine r_cond_t rfl ?_
        refine r_seq ?_
        refine r_region ?_
        refine OL.act rfl rfl (AW.callF cl13 rfl (awake11_c (w0 := w4)   ) ?_)
        rintro _ w5 ⟨⟨_, rfl, rfl⟩, hm5⟩
        have f12 := f9.ext hm5
        have f13 := f10.ext hm5
        have f14 := f11.ext hm5
        have hE5 := hE4.ext hm5
        have hs5 := hm5.size
        refine OL.q (Q1.assign rfl) rfl rfl ?_
        refine OL.nil ?_
        refine r_ret1 Try.func7 rfl rfl ?_
        exact Ret.mk ⟨⟨_, (by rfl), rfl⟩, hE5⟩
end Go.Proofs
