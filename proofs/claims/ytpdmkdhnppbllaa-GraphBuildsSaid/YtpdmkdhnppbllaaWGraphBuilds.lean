/-
  The walk through the law GraphBuilds.
-/
import Derived.Test.YtpdmkdhnppbllaaWAwake
import Derived.Test.YtpdmkdhnppbllaaWRef8
import Derived.Test.YtpdmkdhnppbllaaWLent
set_option linter.unusedVariables false
set_option linter.unusedSimpArgs false
namespace Go.Proofs
open Go.Ik Go.Ml
set_option maxRecDepth 20000 in
set_option maxHeartbeats 4000000 in
theorem GraphBuilds_c {w0 : World}  {v_words : Value} {words : List Str} (h_words : Sl encS w0 (Iv 0 w0.heap.size) v_words words) (hok : Ml.LOk words) :
    Calls Try.prog 3 #[v_words] w0 (Ret fun rv w1 => (∃ rb : Bool, rb = true ∧ rv = .bool rb) ∧ Ext w0 w1) := by
  have hE0 : Ext w0 w0 := Mod.refl _ _
  have hle1 := h_words.le
  refine calls_enter Try.func3 rfl Try.ntmps3 rfl ?_
  refine r_seq ?_
  refine r_region ?_
  refine OL.q (Q1.assign rfl) rfl rfl ?_
  refine OL.nil ?_
  refine r_seq ?_
  refine r_seq ?_
  refine r_region ?_
  refine OL.q (Q1.move rfl) rfl rfl ?_
  refine OL.act rfl rfl (AW.callF cl11 rfl (greatT_c (w0 := w0) (l := words)  ((h_words).iv (Nat.zero_le _) (by omega))) ?_)
  rintro _ w1 ⟨⟨b1, hb1, rfl⟩, hm1⟩
  have f1 := h_words.ext hm1
  have hE1 := hE0.ext hm1
  have hs1 := hm1.size
  refine OL.nil ?_
  cases b1 with
  | true =>
    replace hb1 := hb1.symm
    refine r_cond_t rfl ?_
    refine r_seq ?_
    refine r_region ?_
    refine OL.act rfl rfl (AW.callF cl12 rfl (awake8_c (w0 := w1)   ) ?_)
    rintro _ w2 ⟨⟨_, rfl, rfl⟩, hm2⟩
    have f2 := f1.ext hm2
    have hE2 := hE1.ext hm2
    have hs2 := hm2.size
    refine OL.q (Q1.assign rfl) rfl rfl ?_
    refine OL.nil ?_
    refine r_ret1 Try.func3 rfl rfl ?_
    exact Ret.mk ⟨⟨_, (by rfl), rfl⟩, hE2⟩
  | false =>
    replace hb1 := hb1.symm
    refine r_cond_f rfl ?_
    refine r_skip ?_
    refine r_seq ?_
    refine r_region ?_
    refine OL.q (Q1.move rfl) rfl rfl ?_
    have hgt : Ml.greatT words = false := by assumption
    have hsk := Ml.greatT_short hgt
    have hl8 := Ml.greatT_len hgt
    refine OL.act rfl rfl (AW.callF cl13 rfl (lendTexts_c (w0 := w1) (l := words)  ((f1).iv (Nat.zero_le _) (by omega)) (by first | assumption | omega)) ?_)
    rintro _ w2 ⟨⟨bl1, rfl, h1, hg1⟩, hm2⟩
    have f2 := f1.ext hm2
    have hE2 := hE1.ext hm2
    have hs2 := hm2.size
    have hle_1 := h1.lt
    refine OL.q (Q1.assign rfl) rfl rfl ?_
    refine OL.nil ?_
    refine r_seq ?_
    refine r_region ?_
    refine OL.q (Q1.move rfl) rfl rfl ?_
    refine OL.act rfl rfl (AW.callF cl14 rfl (build_c (w0 := w2) (words := words)  (((h1.sl 3 (by simp) (by unfold maxLen; omega))).iv (Nat.zero_le _) (by omega)) (by assumption) (by first | assumption | omega)) ?_)
    rintro _ w3 ⟨vg1, _, rfl, ⟨lo1, hi1, hgr_1, hlo1, hhi1⟩, rfl, hm3⟩
    have f3 := f2.ext hm3
    have f4 := h1.ext hm3
    have hE3 := hE2.ext hm3
    have hs3 := hm3.size
    have := Ml.goodL_range words
    refine OL.q (Q1.move rfl) rfl rfl ?_
    refine OL.q (Q1.extract rfl rfl) rfl rfl ?_
    refine OL.q (Q1.extract rfl rfl) rfl rfl ?_
    refine OL.q (Q1.assign rfl) rfl rfl ?_
    refine OL.q (Q1.assign rfl) rfl rfl ?_
    refine OL.nil ?_
    refine r_seq ?_
    refine r_region ?_
    refine OL.q (Q1.move rfl) rfl rfl ?_
    refine OL.act rfl rfl (AW.callF cl15 rfl (r8build_c (w0 := w3) (R := Iv 0 w3.heap.size) (words := words) (f3.iv (Nat.zero_le _) (by omega)) (fun b hb => hb.2) (by first | assumption) (by first | assumption | omega)) ?_)
    rintro _ w4 ⟨u1, rfl, hm4, hrg8⟩
    have f5 := f3.ext hm4
    have f6 := f4.ext hm4
    have f7 := hgr_1.ext hm4
    have hE4 := hE3.ext hm4
    have hs4 := hm4.size
    have := goodL_range words
    rcases hrg8 with ⟨hrn, hru⟩ | ⟨hry, bG8, hs8, F8, hru, hA8, hF8⟩
    · subst hru
      refine OL.q (Q1.move rfl) rfl rfl ?_
      refine OL.q (Q1.extract rfl rfl) rfl rfl ?_
      refine OL.q (Q1.extract rfl rfl) rfl rfl ?_
      refine OL.q (Q1.assign rfl) rfl rfl ?_
      refine OL.q (Q1.assign rfl) rfl rfl ?_
      refine OL.nil ?_
      refine r_seq ?_
      refine r_seq ?_
      refine r_region ?_
      refine OL.q (Q1.move rfl) rfl rfl ?_
      refine OL.act rfl rfl (AW.callF cl16 rfl (num_c (w0 := w4)  ((Ml.goodL words)) (by first | omega | assumption)) ?_)
      rintro _ w5 ⟨rfl, hm5⟩
      have f8 := f5.ext hm5
      have f9 := f6.ext hm5
      have f10 := f7.ext hm5
      have hE5 := hE4.ext hm5
      have hs5 := hm5.size
      refine OL.q (Q1.move rfl) rfl rfl ?_
      refine OL.qb (Q1.ne rfl rfl) rfl rfl ?_
      intro b2 hb2
      obtain rfl : b2 = false := hb2.trans (by exact bne_eq_false_iff_eq.2 rfl)
      refine OL.q (Q1.move rfl) rfl rfl ?_
      refine OL.q (Q1.move rfl) rfl rfl ?_
      have hgr1 := f10
      rcases f10 with ⟨hv1, hN1⟩ | ⟨b3, vn1, nds1, hv1, hN1, hrw1, hsl1, hrel1⟩
      · subst hv1
        try subst hN1
        refine OL.q (Q1.eqNil Try.underlying26 rfl rfl) rfl rfl ?_
        refine OL.q (Q1.move rfl) rfl rfl ?_
        refine OL.q (Q1.eqNil Try.underlying30 rfl rfl) rfl rfl ?_
        refine OL.qb (Q1.neB Try.underlying4 rfl rfl) rfl rfl ?_
        intro b4 hb3
        obtain rfl : b4 = false := hb3.trans (by rfl)
        refine OL.q (Q1.pick_f rfl rfl) rfl rfl ?_
        refine OL.q (Q1.move rfl) rfl rfl ?_
        refine OL.q (Q1.move rfl) rfl rfl ?_
        refine OL.q (Q1.move rfl) rfl rfl ?_
        refine OL.act rfl rfl (AW.callF cl17 rfl (keptTexts_c (w0 := w5) (lent := words) (l := words)  f9 ((f8).iv (Nat.zero_le _) (by omega)) (by first | assumption | omega)) ?_)
        rintro _ w6 ⟨⟨b5, hb4, rfl⟩, hm6⟩
        have f11 := f8.ext hm6
        have f12 := f9.ext hm6
        have f13 := hgr1.ext hm6
        have hE6 := hE5.ext hm6
        have hs6 := hm6.size
        obtain rfl : b5 = true := hb4.trans (by exact decide_eq_true rfl)
        refine OL.q (Q1.not rfl) rfl rfl ?_
        refine OL.q (Q1.pick_f rfl rfl) rfl rfl ?_
        refine OL.nil ?_
        refine r_cond_f rfl ?_
        refine r_skip ?_
        refine r_seq ?_
        refine r_seq ?_
        refine r_region ?_
        refine OL.q (Q1.move rfl) rfl rfl ?_
        refine OL.q (Q1.eqNil Try.underlying30 rfl rfl) rfl rfl ?_
        refine OL.nil ?_
        refine r_cond_t rfl ?_
        refine r_seq ?_
        refine r_region ?_
        refine OL.act rfl rfl (AW.callF cl12 rfl (awake8_c (w0 := w6)   ) ?_)
        rintro _ w7 ⟨⟨_, rfl, rfl⟩, hm7⟩
        have f14 := f11.ext hm7
        have f15 := f12.ext hm7
        have f16 := f13.ext hm7
        have hE7 := hE6.ext hm7
        have hs7 := hm7.size
        refine OL.q (Q1.assign rfl) rfl rfl ?_
        refine OL.nil ?_
        refine r_ret1 Try.func3 rfl rfl ?_
        exact Ret.mk ⟨⟨_, (by rfl), rfl⟩, hE7⟩
      · exact absurd (by exact Ml.gnodes_no hrn) hN1
    · subst hru
      obtain ⟨vN8, nds8, hrw8, hsl8, hrr8⟩ := rg_facts hA8 hF8 (fun b hb => by have := hb.2; omega)
      have hnl8 := (All2.get hrr8).1
      have hgok8 := gok_of hry
      have hsz8 := hgok8.size
      refine OL.q (Q1.move rfl) rfl rfl ?_
      refine OL.q (Q1.extract rfl rfl) rfl rfl ?_
      refine OL.q (Q1.extract rfl rfl) rfl rfl ?_
      refine OL.q (Q1.assign rfl) rfl rfl ?_
      refine OL.q (Q1.assign rfl) rfl rfl ?_
      refine OL.nil ?_
      refine r_seq ?_
      refine r_seq ?_
      refine r_region ?_
      refine OL.q (Q1.move rfl) rfl rfl ?_
      refine OL.act rfl rfl (AW.callF cl16 rfl (num_c (w0 := w4)  ((Ml.goodL words)) (by first | omega | assumption)) ?_)
      rintro _ w5 ⟨rfl, hm5⟩
      have f8 := f5.ext hm5
      have f9 := f6.ext hm5
      have f10 := f7.ext hm5
      have f11 := hsl8.ext hm5
      have f12 := hrr8.ext hm5
      have f13 := hrw8.ext hm5
      have hE5 := hE4.ext hm5
      have hs5 := hm5.size
      refine OL.q (Q1.move rfl) rfl rfl ?_
      refine OL.qb (Q1.ne rfl rfl) rfl rfl ?_
      intro b2 hb2
      obtain rfl : b2 = false := hb2.trans (by exact bne_eq_false_iff_eq.2 rfl)
      refine OL.q (Q1.move rfl) rfl rfl ?_
      refine OL.q (Q1.move rfl) rfl rfl ?_
      have hgr1 := f10
      rcases f10 with ⟨hv1, hN1⟩ | ⟨b3, vn1, nds1, hv1, hN1, hrw1, hsl1, hrel1⟩
      · exact absurd hN1 (by exact Ml.gnodes_ne hry)
      · subst hv1
        have hnl1 := (All2.get hrel1).1
        refine OL.q (Q1.eqNil Try.underlying26 rfl rfl) rfl rfl ?_
        refine OL.q (Q1.move rfl) rfl rfl ?_
        refine OL.q (Q1.eqNil Try.underlying30 rfl rfl) rfl rfl ?_
        refine OL.qb (Q1.neB Try.underlying4 rfl rfl) rfl rfl ?_
        intro b4 hb3
        obtain rfl : b4 = false := hb3.trans (by rfl)
        refine OL.q (Q1.pick_f rfl rfl) rfl rfl ?_
        refine OL.q (Q1.move rfl) rfl rfl ?_
        refine OL.q (Q1.move rfl) rfl rfl ?_
        refine OL.q (Q1.move rfl) rfl rfl ?_
        refine OL.act rfl rfl (AW.callF cl17 rfl (keptTexts_c (w0 := w5) (lent := words) (l := words)  f9 ((f8).iv (Nat.zero_le _) (by omega)) (by first | assumption | omega)) ?_)
        rintro _ w6 ⟨⟨b5, hb4, rfl⟩, hm6⟩
        have f14 := f8.ext hm6
        have f15 := f9.ext hm6
        have f16 := hgr1.ext hm6
        have f17 := f11.ext hm6
        have f18 := f12.ext hm6
        have f19 := f13.ext hm6
        have f20 := hrel1.ext hm6
        have f21 := hsl1.ext hm6
        have f22 := hrw1.ext hm6
        have hE6 := hE5.ext hm6
        have hs6 := hm6.size
        obtain rfl : b5 = true := hb4.trans (by exact decide_eq_true rfl)
        refine OL.q (Q1.not rfl) rfl rfl ?_
        refine OL.q (Q1.pick_f rfl rfl) rfl rfl ?_
        refine OL.nil ?_
        refine r_cond_f rfl ?_
        refine r_skip ?_
        refine r_seq ?_
        refine r_seq ?_
        refine r_region ?_
        refine OL.q (Q1.move rfl) rfl rfl ?_
        refine OL.q (Q1.eqNil Try.underlying30 rfl rfl) rfl rfl ?_
        refine OL.nil ?_
        refine r_cond_f rfl ?_
        refine r_skip ?_
        refine r_seq ?_
        refine r_seq ?_
        refine r_draw1 (fun i => Nat.beq i 1) 8 (fun w' => Mod (Mg 0) w6 w') mixed (by kernel_rfl) ?_
        intro w7 hm7
        have f23 := f14.ext hm7
        have f24 := f15.ext hm7
        have f25 := f16.ext hm7
        have f26 := f17.ext hm7
        have f27 := f18.ext hm7
        have f28 := f19.ext hm7
        have f29 := f20.ext hm7
        have f30 := f21.ext hm7
        have f31 := f22.ext hm7
        have hE7 := hE6.ext hm7
        have hs7 := hm7.size
        have hCw7 : Mod (Mg 0) w6 w7 := Mod.ofExt hm7
        refine ⟨hCw7, ?_⟩
        rw [show List.range' 0 (Array.size _) = [0, 1, 2, 3, 4, 5, 6, 7] from rfl]
        refine OD.q rfl rfl (Q1.move rfl) rfl rfl ?_
        have hgok := Ml.gok_of hry
        obtain ⟨hI, hgl, hel⟩ := hgok.edges
        have hgq := Ml.gnodes_yes hry
        have helr := hgok.elen
        rw [hgq] at hI hgl hel
        have hgls := gnOf_len (Ml.graphB words)
        refine OD.act rfl rfl rfl rfl (AW.callF cl18 rfl (nodes_c (w0 := w7)   f25 (by omega)) ?_)
        rintro _ w8 ⟨rfl, hm8⟩
        have f32 := f23.ext hm8
        have f33 := f24.ext hm8
        have f34 := f25.ext hm8
        have f35 := f26.ext hm8
        have f36 := f27.ext hm8
        have f37 := f28.ext hm8
        have f38 := f29.ext hm8
        have f39 := f30.ext hm8
        have f40 := f31.ext hm8
        have hE8 := hE7.ext hm8
        have hs8 := hm8.size
        have hCw8 := hCw7.ext hm8
        refine ⟨.inr hCw8, ?_⟩
        refine OD.q rfl rfl (Q1.move rfl) rfl rfl ?_
        refine OD.q rfl rfl (Q1.nilCheckP rfl) rfl rfl ?_
        refine OD.q rfl rfl (Q1.fieldAddr fl38_0 rfl) rfl rfl ?_
        refine OD.q rfl rfl (Q1.load1 ti36 rfl (fun _ hc => (f19.cell 0 _ rfl).keepG hc (by omega))) rfl rfl ?_
        refine OD.q rfl rfl (Q1.lenSl Try.underlying36 (f35) rfl) rfl rfl ?_
        refine OD.qb rfl rfl (Q1.ne rfl rfl) rfl rfl ?_
        intro b6 hb5
        obtain rfl : b6 = false := hb5.trans (by exact bne_eq_false_iff_eq.2 (by rw [hgq, gnOf_len]; omega))
        refine OD.nil ?_
        refine r_cond_f rfl ?_
        refine r_skip ?_
        refine r_seq ?_
        refine r_seq ?_
        refine r_region ?_
        refine OL.q (Q1.assign rfl) rfl rfl ?_
        refine OL.nil ?_
        refine r_block ?_
        refine r_loop (I := fun m E W => ∃ (n : Int), E = [(4, ptr b3 0), (6, ptr bG8 0), (8, .int .i64 n)] ∧ m = (1000003 - n).toNat ∧ Ext w0 W ∧ w8.heap.size ≤ W.heap.size ∧ Rw W lo1 hi1 b3 [vn1] ∧ Sl encN W (Iv lo1 hi1) vn1 nds1 ∧ NRel W (Iv lo1 hi1) nds1 ((Ml.gnodes words)) ∧ Gr 0 W lo1 hi1 ((ptr b3 0)) ((Ml.gnodes words)) ∧ Rw W w3.heap.size w4.heap.size bG8 [vN8] ∧ Sl encRd W (Iv w3.heap.size w4.heap.size) vN8 nds8 ∧ RR W (Iv 0 (w4.heap.size)) nds8 (graphB words) ∧ (-1 ≤ n ∧ n ≤ 1000002)) ?_ ?_
        · refine ⟨_, _, ⟨((-1) : Int), rfl, rfl, hE8, Nat.le_refl _, f40, f39, f38, f34, f37, f35, f36, (by omega)⟩, ⟨rfl, rfl, rfl, trivial⟩⟩
        · rintro _ _ w9 ⟨n, rfl, rfl, hE9, hs9, f41, f42, f43, f44, f45, f46, f47, hnn⟩ ih1
          refine r_seq ?_
          refine r_seq ?_
          refine r_region ?_
          refine OL.q (Q1.move rfl) rfl rfl ?_
          refine OL.q (Q1.move rfl) rfl rfl ?_
          refine OL.q (Q1.nilCheckP rfl) rfl rfl ?_
          refine OL.q (Q1.fieldAddr fl38_0 rfl) rfl rfl ?_
          refine OL.q (Q1.load1 ti36 rfl (fun _ e => e ▸ (f45.cell 0 _ rfl))) rfl rfl ?_
          refine OL.q (Q1.lenSl Try.underlying36 (f46) rfl) rfl rfl ?_
          refine OL.qb (Q1.le rfl rfl) rfl rfl ?_
          intro b7 hb6
          refine OL.nil ?_
          cases b7 with
          | true =>
            replace hb6 := of_decide_eq_true hb6.symm
            refine r_cond_t rfl ?_
            refine r_skip ?_
            refine r_seq ?_
            refine r_block ?_
            refine r_seq ?_
            refine r_region ?_
            refine OL.q (Q1.move rfl) rfl rfl ?_
            refine OL.q (Q1.move rfl) rfl rfl ?_
            refine OL.act rfl rfl (AW.callF cl19 rfl (edges_c (w0 := w9)  (n) f44 (by omega) (by first | omega | assumption) (by (rw [hgq]; exact hgl)) (by (rw [hgq]; exact hel))) ?_)
            rintro v1 w10 ⟨⟨gr1, h2, hg2⟩, hm9⟩
            have f48 := f41.ext hm9
            have f49 := f42.ext hm9
            have f50 := f43.ext hm9
            have f51 := f44.ext hm9
            have f52 := f45.ext hm9
            have f53 := f46.ext hm9
            have f54 := f47.ext hm9
            have hE10 := hE9.ext hm9
            have hs10 := hm9.size
            have hle_2 := h2.le
            have hlt_1 := h2.lt
            have hnlx := nodeAt_len (N := Ml.gnodes words) (by rw [hgq]; exact hel) n
            refine OL.q (Q1.assign rfl) rfl rfl ?_
            refine OL.nil ?_
            refine r_seq ?_
            refine r_seq ?_
            refine r_region ?_
            refine OL.q (Q1.move rfl) rfl rfl ?_
            refine OL.q (Q1.move rfl) rfl rfl ?_
            refine OL.act rfl rfl (AW.callF cl20 rfl (final_c (w0 := w10)  (n) f51 (by omega) (by first | omega | assumption) (by (rw [hgq]; exact hgl))) ?_)
            rintro _ w11 ⟨⟨b8, hb7, rfl⟩, hm10⟩
            have hl1 := h2.lt
            have f55 := f48.ext hm10
            have f56 := f49.ext hm10
            have f57 := f50.ext hm10
            have f58 := f51.ext hm10
            have f59 := f52.ext hm10
            have f60 := f53.ext hm10
            have f61 := f54.ext hm10
            have f62 := h2.ext hm10
            have hE11 := hE10.ext hm10
            have hs11 := hm10.size
            refine OL.q (Q1.move rfl) rfl rfl ?_
            refine OL.q (Q1.move rfl) rfl rfl ?_
            refine OL.act rfl rfl (AW.callF cl21 rfl (r8final_c (w0 := w11)  (n) f59 f60 f61 ⟨by omega, by omega⟩ (by first | omega | assumption)) ?_)
            rintro _ w12 ⟨⟨b9, hb8, rfl⟩, hm11⟩
            have hl2 := f62.lt
            have f63 := f55.ext hm11
            have f64 := f56.ext hm11
            have f65 := f57.ext hm11
            have f66 := f58.ext hm11
            have f67 := f59.ext hm11
            have f68 := f60.ext hm11
            have f69 := f61.ext hm11
            have f70 := f62.ext hm11
            have hE12 := hE11.ext hm11
            have hs12 := hm11.size
            refine OL.qb (Q1.neB Try.underlying4 rfl rfl) rfl rfl ?_
            intro b10 hb9
            obtain rfl : b10 = false := hb9.trans (by exact Ml.nbeqBB (by assumption) (by assumption) (by rw [hgq]))
            refine OL.q (Q1.move rfl) rfl rfl ?_
            refine OL.q (Q1.move rfl) rfl rfl ?_
            refine OL.q (Q1.move rfl) rfl rfl ?_
            refine OL.q (Q1.move rfl) rfl rfl ?_
            refine OL.act rfl rfl (AW.callF cl23 rfl (r8edges_c (w0 := w12)  (n) f67 f68 f69 ⟨by omega, by omega⟩ (by first | omega | assumption) (by exact helr)) ?_)
            rintro v2 w13 ⟨⟨gr2, h3, hg3⟩, hm12⟩
            have hl3 := f70.lt
            have f71 := f63.ext hm12
            have f72 := f64.ext hm12
            have f73 := f65.ext hm12
            have f74 := f66.ext hm12
            have f75 := f67.ext hm12
            have f76 := f68.ext hm12
            have f77 := f69.ext hm12
            have f78 := f70.ext hm12
            have hE13 := hE12.ext hm12
            have hs13 := hm12.size
            have hle_3 := h3.le
            have hlt_2 := h3.lt
            refine OL.act rfl rfl (AW.callF cl22 rfl (sameE_c (w0 := w13) (a := ((nodeAt ((Ml.gnodes words)) n).2)) (b := ((nodeAt (gnOf ((graphB words))) n).2))  ((f78.sl).iv (Nat.zero_le _) (by omega)) ((h3.sl).iv (Nat.zero_le _) (by omega))) ?_)
            rintro _ w14 ⟨⟨b11, hb10, rfl⟩, hm13⟩
            have hl4 := f78.lt
            have hl5 := h3.lt
            have f79 := f71.ext hm13
            have f80 := f72.ext hm13
            have f81 := f73.ext hm13
            have f82 := f74.ext hm13
            have f83 := f75.ext hm13
            have f84 := f76.ext hm13
            have f85 := f77.ext hm13
            have f86 := f78.ext hm13
            have f87 := h3.ext hm13
            have hE14 := hE13.ext hm13
            have hs14 := hm13.size
            obtain rfl : b11 = true := hb10.trans (by exact decide_eq_true (by rw [hgq]))
            refine OL.q (Q1.not rfl) rfl rfl ?_
            refine OL.q (Q1.pick_f rfl rfl) rfl rfl ?_
            refine OL.nil ?_
            refine r_cond_f rfl ?_
            refine r_skip ?_
            refine r_seq ?_
            refine r_region ?_
            refine OL.q (Q1.move rfl) rfl rfl ?_
            refine OL.act rfl rfl (AW.callF cl24 rfl (overEdges_c (w0 := w14) (l := ((nodeAt ((Ml.gnodes words)) n).2))  f86 (by first | assumption | omega)) ?_)
            rintro _ w15 ⟨rfl, hm14⟩
            have hl6 := f86.lt
            have hl7 := f87.lt
            have f88 := f79.keepG hm14 (by omega)
            have f89 := f80.keepG hm14 (by omega)
            have f90 := f81.keepG hm14 (by omega)
            have f91 := f82.keepG hm14 (by omega)
            have f92 := f83.keepG hm14 (by omega)
            have f93 := f84.keepG hm14 (by omega)
            have f94 := f85.keepG hm14 (by omega)
            have f95 := f87.keepG hm14 (by omega)
            have hE15 := Ext.thenG hE14 hm14 (by omega)
            have hs15 := hm14.size
            refine OL.nil ?_
            refine r_seq ?_
            refine r_region ?_
            refine OL.q (Q1.move rfl) rfl rfl ?_
            refine OL.q (Q1.move rfl) rfl rfl ?_
            refine OL.act rfl rfl (AW.callF cl19 rfl (edges_c (w0 := w15)  (n) f91 (by omega) (by first | omega | assumption) (by (rw [hgq]; exact hgl)) (by (rw [hgq]; exact hel))) ?_)
            rintro v3 w16 ⟨⟨gr3, h4, hg4⟩, hm15⟩
            have hl8 := f95.lt
            have f96 := f88.ext hm15
            have f97 := f89.ext hm15
            have f98 := f90.ext hm15
            have f99 := f91.ext hm15
            have f100 := f92.ext hm15
            have f101 := f93.ext hm15
            have f102 := f94.ext hm15
            have f103 := f95.ext hm15
            have hE16 := hE15.ext hm15
            have hs16 := hm15.size
            have hle_4 := h4.le
            have hlt_3 := h4.lt
            refine OL.q (Q1.move rfl) rfl rfl ?_
            refine OL.q (Q1.move rfl) rfl rfl ?_
            refine OL.act rfl rfl (AW.callF cl23 rfl (r8edges_c (w0 := w16)  (n) f100 f101 f102 ⟨by omega, by omega⟩ (by first | omega | assumption) (by exact helr)) ?_)
            rintro v4 w17 ⟨⟨gr4, h5, hg5⟩, hm16⟩
            have hl9 := f103.lt
            have hl10 := h4.lt
            have f104 := f96.ext hm16
            have f105 := f97.ext hm16
            have f106 := f98.ext hm16
            have f107 := f99.ext hm16
            have f108 := f100.ext hm16
            have f109 := f101.ext hm16
            have f110 := f102.ext hm16
            have f111 := f103.ext hm16
            have f112 := h4.ext hm16
            have hE17 := hE16.ext hm16
            have hs17 := hm16.size
            have hle_5 := h5.le
            have hlt_4 := h5.lt
            refine OL.act rfl rfl (AW.callF cl22 rfl (sameE_c (w0 := w17) (a := ((nodeAt ((Ml.gnodes words)) n).2)) (b := ((nodeAt (gnOf ((graphB words))) n).2))  ((f112.sl).iv (Nat.zero_le _) (by omega)) ((h5.sl).iv (Nat.zero_le _) (by omega))) ?_)
            rintro _ w18 ⟨⟨b12, hb11, rfl⟩, hm17⟩
            have hl11 := f111.lt
            have hl12 := f112.lt
            have hl13 := h5.lt
            have f113 := f104.ext hm17
            have f114 := f105.ext hm17
            have f115 := f106.ext hm17
            have f116 := f107.ext hm17
            have f117 := f108.ext hm17
            have f118 := f109.ext hm17
            have f119 := f110.ext hm17
            have f120 := f111.ext hm17
            have f121 := f112.ext hm17
            have f122 := h5.ext hm17
            have hE18 := hE17.ext hm17
            have hs18 := hm17.size
            obtain rfl : b12 = true := hb11.trans (by exact decide_eq_true (by rw [hgq]))
            refine OL.q (Q1.not rfl) rfl rfl ?_
            refine OL.nil ?_
            refine r_cond_f rfl ?_
            refine r_skip ?_
            refine r_inBlock ?_
            refine r_region ?_
            refine OL.q (Q1.move rfl) rfl rfl ?_
            refine OL.q (Q1.addI ((n + 1)) rfl rfl (by omega)) rfl rfl ?_
            refine OL.q (Q1.assign rfl) rfl rfl ?_
            refine OL.nil ?_
            exact (ih1 _ _ _ ⟨((n + 1) : Int), rfl, rfl, hE18, (by omega), f113, f114, f115, f116, f117, f118, f119, (by first | omega | (exfalso; omega))⟩ (by omega)).sub ⟨rfl, rfl, rfl, trivial⟩
          | false =>
            replace hb6 := of_decide_eq_false hb6.symm
            refine r_cond_f rfl ?_
            refine r_exit rfl ?_
            refine r_seq ?_
            refine r_region ?_
            refine OL.act rfl rfl (AW.callF cl12 rfl (awake8_c (w0 := w9)   ) ?_)
            rintro _ w10 ⟨⟨_, rfl, rfl⟩, hm9⟩
            have f48 := f41.ext hm9
            have f49 := f42.ext hm9
            have f50 := f43.ext hm9
            have f51 := f44.ext hm9
            have f52 := f45.ext hm9
            have f53 := f46.ext hm9
            have f54 := f47.ext hm9
            have hE10 := hE9.ext hm9
            have hs10 := hm9.size
            refine OL.q (Q1.assign rfl) rfl rfl ?_
            refine OL.nil ?_
            refine r_ret1 Try.func3 rfl rfl ?_
            exact Ret.mk ⟨⟨_, (by rfl), rfl⟩, hE10⟩
end Go.Proofs
