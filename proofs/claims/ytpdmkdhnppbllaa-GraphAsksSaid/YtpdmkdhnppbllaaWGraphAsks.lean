/-
  The walk through the law GraphAsks.
-/
import Derived.Test.YtpdmkdhnppbllaaWAwake
import Derived.Test.YtpdmkdhnppbllaaWRef8
import Derived.Test.YtpdmkdhnppbllaaWLent
set_option linter.unusedVariables false
set_option linter.unusedSimpArgs false
namespace Go.Proofs
open Go.Ik Go.Ml
set_option maxRecDepth 20000 in
set_option maxHeartbeats 4000000 in
theorem GraphAsks_c {w0 : World}  {v_words : Value} {words : List Str} (n : Int) (r : Int) (w : Str) (most : Int) (h_words : Sl encS w0 (Iv 0 w0.heap.size) v_words words) (h_n : I64 n) (h_r : -2147483648 ≤ r ∧ r ≤ 2147483647) (h_most : I64 most) (hok : Ml.LOk words) :
    Calls Try.prog 9 #[v_words, .int .i64 n, .int .i32 r, strV w, .int .i64 most] w0 (Ret fun rv w1 => (∃ rb : Bool, rb = true ∧ rv = .bool rb) ∧ Ext w0 w1) := by
  have hE0 : Ext w0 w0 := Mod.refl _ _
  have hle1 := h_words.le
  refine calls_enter Try.func9 rfl Try.ntmps9 rfl ?_
  refine r_seq ?_
  refine r_region ?_
  refine OL.q (Q1.assign rfl) rfl rfl ?_
  refine OL.nil ?_
  refine r_seq ?_
  refine r_seq ?_
  refine r_region ?_
  refine OL.q (Q1.move rfl) rfl rfl ?_
  refine OL.act rfl rfl (AW.callF cl11 rfl (greatT_c (w0 := w0) (l := words)  ((h_words).iv (Nat.zero_le _) (by omega))) ?_)
  rintro _ w1 ⟨⟨b1, hb1, rfl⟩, hm1⟩
  have f1 := h_words.ext hm1
  have hE1 := hE0.ext hm1
  have hs1 := hm1.size
  refine OL.q (Q1.move rfl) rfl rfl ?_
  cases b1 with
  | true =>
    replace hb1 := hb1.symm
    refine OL.sk rfl rfl ?_
    refine OL.sk rfl rfl ?_
    refine OL.sk rfl rfl ?_
    refine OL.q (Q1.pick_t rfl rfl) rfl rfl ?_
    refine OL.nil ?_
    refine r_cond_t rfl ?_
    refine r_seq ?_
    refine r_region ?_
    refine OL.act rfl rfl (AW.callF cl12 rfl (awake8_c (w0 := w1)   ) ?_)
    rintro _ w2 ⟨⟨_, rfl, rfl⟩, hm2⟩
    have f2 := f1.ext hm2
    have hE2 := hE1.ext hm2
    have hs2 := hm2.size
    refine OL.q (Q1.assign rfl) rfl rfl ?_
    refine OL.nil ?_
    refine r_ret1 Try.func9 rfl rfl ?_
    exact Ret.mk ⟨⟨_, (by rfl), rfl⟩, hE2⟩
  | false =>
    replace hb1 := hb1.symm
    refine OL.q (Q1.move rfl) rfl rfl ?_
    refine OL.q (Q1.lenS Try.underlying9 rfl) rfl rfl ?_
    refine OL.qb (Q1.gt rfl rfl) rfl rfl ?_
    intro b2 hb2
    refine OL.q (Q1.pick_f rfl rfl) rfl rfl ?_
    refine OL.nil ?_
    cases b2 with
    | true =>
      replace hb2 := of_decide_eq_true hb2.symm
      refine r_cond_t rfl ?_
      refine r_seq ?_
      refine r_region ?_
      refine OL.act rfl rfl (AW.callF cl12 rfl (awake8_c (w0 := w1)   ) ?_)
      rintro _ w2 ⟨⟨_, rfl, rfl⟩, hm2⟩
      have f2 := f1.ext hm2
      have hE2 := hE1.ext hm2
      have hs2 := hm2.size
      refine OL.q (Q1.assign rfl) rfl rfl ?_
      refine OL.nil ?_
      refine r_ret1 Try.func9 rfl rfl ?_
      exact Ret.mk ⟨⟨_, (by rfl), rfl⟩, hE2⟩
    | false =>
      replace hb2 := of_decide_eq_false hb2.symm
      refine r_cond_f rfl ?_
      refine r_skip ?_
      refine r_seq ?_
      refine r_region ?_
      refine OL.q (Q1.move rfl) rfl rfl ?_
      have hgt : Ml.greatT words = false := by assumption
      have hsk := Ml.greatT_short hgt
      have hl8 := Ml.greatT_len hgt
      refine OL.act rfl rfl (AW.callF cl14 rfl (build_c (w0 := w1) (words := words)  ((f1).iv (Nat.zero_le _) (by omega)) (by assumption) (by first | assumption | omega)) ?_)
      rintro _ w2 ⟨vg1, _, rfl, ⟨lo1, hi1, hgr_1, hlo1, hhi1⟩, rfl, hm2⟩
      have f2 := f1.ext hm2
      have hE2 := hE1.ext hm2
      have hs2 := hm2.size
      have := Ml.goodL_range words
      refine OL.q (Q1.move rfl) rfl rfl ?_
      refine OL.q (Q1.extract rfl rfl) rfl rfl ?_
      refine OL.q (Q1.extract rfl rfl) rfl rfl ?_
      refine OL.q (Q1.assign rfl) rfl rfl ?_
      refine OL.q (Q1.assign rfl) rfl rfl ?_
      refine OL.nil ?_
      refine r_seq ?_
      refine r_region ?_
      refine OL.q (Q1.move rfl) rfl rfl ?_
      refine OL.act rfl rfl (AW.callF cl15 rfl (r8build_c (w0 := w2) (R := Iv 0 w2.heap.size) (words := words) (f2.iv (Nat.zero_le _) (by omega)) (fun b hb => hb.2) (by first | assumption) (by first | assumption | omega)) ?_)
      rintro _ w3 ⟨u1, rfl, hm3, hrg8⟩
      have f3 := f2.ext hm3
      have f4 := hgr_1.ext hm3
      have hE3 := hE2.ext hm3
      have hs3 := hm3.size
      have := goodL_range words
      rcases hrg8 with ⟨hrn, hru⟩ | ⟨hry, bG8, hs8, F8, hru, hA8, hF8⟩
      · subst hru
        refine OL.q (Q1.move rfl) rfl rfl ?_
        refine OL.q (Q1.extract rfl rfl) rfl rfl ?_
        refine OL.q (Q1.extract rfl rfl) rfl rfl ?_
        refine OL.q (Q1.assign rfl) rfl rfl ?_
        refine OL.q (Q1.assign rfl) rfl rfl ?_
        refine OL.nil ?_
        refine r_seq ?_
        refine r_seq ?_
        refine r_region ?_
        refine OL.q (Q1.move rfl) rfl rfl ?_
        refine OL.qb (Q1.ne rfl rfl) rfl rfl ?_
        intro b3 hb3
        obtain rfl : b3 = true := hb3.trans (by exact bne_iff_ne.2 hrn)
        refine OL.q (Q1.move rfl) rfl rfl ?_
        refine OL.sk rfl rfl ?_
        refine OL.sk rfl rfl ?_
        refine OL.q (Q1.pick_t rfl rfl) rfl rfl ?_
        refine OL.nil ?_
        refine r_cond_t rfl ?_
        refine r_seq ?_
        refine r_region ?_
        refine OL.q (Q1.move rfl) rfl rfl ?_
        refine OL.act rfl rfl (AW.callF cl16 rfl (num_c (w0 := w3)  ((Ml.goodL words)) (by first | omega | assumption)) ?_)
        rintro _ w4 ⟨rfl, hm4⟩
        have f5 := f3.ext hm4
        have f6 := f4.ext hm4
        have hE4 := hE3.ext hm4
        have hs4 := hm4.size
        refine OL.q (Q1.move rfl) rfl rfl ?_
        refine OL.qb (Q1.eq rfl rfl) rfl rfl ?_
        intro b4 hb4
        obtain rfl : b4 = true := hb4.trans (by exact beq_self_eq_true _)
        refine OL.q (Q1.move rfl) rfl rfl ?_
        refine OL.act rfl rfl (AW.callF cl12 rfl (awake8_c (w0 := w4)   ) ?_)
        rintro _ w5 ⟨⟨_, rfl, rfl⟩, hm5⟩
        have f7 := f5.ext hm5
        have f8 := f6.ext hm5
        have hE5 := hE4.ext hm5
        have hs5 := hm5.size
        refine OL.q (Q1.pick_t rfl rfl) rfl rfl ?_
        refine OL.q (Q1.assign rfl) rfl rfl ?_
        refine OL.nil ?_
        refine r_ret1 Try.func9 rfl rfl ?_
        exact Ret.mk ⟨⟨_, (by rfl), rfl⟩, hE5⟩
      · subst hru
        obtain ⟨vN8, nds8, hrw8, hsl8, hrr8⟩ := rg_facts hA8 hF8 (fun b hb => by have := hb.2; omega)
        have hnl8 := (All2.get hrr8).1
        have hgok8 := gok_of hry
        have hsz8 := hgok8.size
        refine OL.q (Q1.move rfl) rfl rfl ?_
        refine OL.q (Q1.extract rfl rfl) rfl rfl ?_
        refine OL.q (Q1.extract rfl rfl) rfl rfl ?_
        refine OL.q (Q1.assign rfl) rfl rfl ?_
        refine OL.q (Q1.assign rfl) rfl rfl ?_
        refine OL.nil ?_
        refine r_seq ?_
        refine r_seq ?_
        refine r_region ?_
        refine OL.q (Q1.move rfl) rfl rfl ?_
        refine OL.qb (Q1.ne rfl rfl) rfl rfl ?_
        intro b3 hb3
        obtain rfl : b3 = false := hb3.trans (by exact bne_eq_false_iff_eq.2 hry)
        refine OL.q (Q1.move rfl) rfl rfl ?_
        refine OL.q (Q1.move rfl) rfl rfl ?_
        refine OL.qb (Q1.ne rfl rfl) rfl rfl ?_
        intro b4 hb4
        obtain rfl : b4 = false := hb4.trans (by exact bne_eq_false_iff_eq.2 (by assumption))
        refine OL.q (Q1.pick_f rfl rfl) rfl rfl ?_
        refine OL.nil ?_
        refine r_cond_f rfl ?_
        refine r_skip ?_
        refine r_seq ?_
        refine r_seq ?_
        refine r_region ?_
        refine OL.q (Q1.move rfl) rfl rfl ?_
        have hgr1 := f4
        rcases f4 with ⟨hv1, hN1⟩ | ⟨b5, vn1, nds1, hv1, hN1, hrw1, hsl1, hrel1⟩
        · exact absurd hN1 (by exact Ml.gnodes_ne hry)
        · subst hv1
          have hnl1 := (All2.get hrel1).1
          refine OL.q (Q1.eqNil Try.underlying26 rfl rfl) rfl rfl ?_
          refine OL.nil ?_
          refine r_cond_f rfl ?_
          refine r_skip ?_
          refine r_seq ?_
          refine r_region ?_
          refine OL.q (Q1.move rfl) rfl rfl ?_
          have hgok := Ml.gok_of hry
          obtain ⟨hI, hgl, hel⟩ := hgok.edges
          have hgq := Ml.gnodes_yes hry
          have helr := hgok.elen
          have hso := Ml.good_sorted hry
          have hl60 := Ml.good_len hry
          obtain ⟨es0, hx0⟩ := graphB_root hry
          have hIg : ∀ x ∈ gnOf (Ml.graphB words), ∀ e ∈ x.2, I64 e.to ∧ -2147483648 ≤ e.rune ∧ e.rune ≤ 2147483647 := by rw [← hgq]; exact hI
          refine OL.q (Q1.move rfl) rfl rfl ?_
          refine OL.q (Q1.move rfl) rfl rfl ?_
          refine OL.act rfl rfl (AW.callF cl29 rfl (next_c (w0 := w3)  (n) (r) hgr1 (by omega) (by first | omega | assumption) (by first | omega | assumption) (by first | assumption | omega | (simp; done)) (by first | assumption | (simp; done))) ?_)
          rintro _ w4 ⟨_, _, rfl, rfl, ⟨b6, hb5, rfl⟩, hm4⟩
          have f5 := f3.ext hm4
          have f6 := hgr1.ext hm4
          have f7 := hsl8.ext hm4
          have f8 := hrr8.ext hm4
          have f9 := hrw8.ext hm4
          have f10 := hrel1.ext hm4
          have f11 := hsl1.ext hm4
          have f12 := hrw1.ext hm4
          have hE4 := hE3.ext hm4
          have hs4 := hm4.size
          refine OL.q (Q1.move rfl) rfl rfl ?_
          refine OL.q (Q1.extract rfl rfl) rfl rfl ?_
          refine OL.q (Q1.extract rfl rfl) rfl rfl ?_
          refine OL.q (Q1.assign rfl) rfl rfl ?_
          refine OL.q (Q1.assign rfl) rfl rfl ?_
          refine OL.nil ?_
          refine r_seq ?_
          refine r_region ?_
          refine OL.q (Q1.move rfl) rfl rfl ?_
          refine OL.q (Q1.move rfl) rfl rfl ?_
          refine OL.q (Q1.move rfl) rfl rfl ?_
          refine OL.act rfl rfl (AW.callF cl35 rfl (r8next_c (w0 := w4)  (n) (r) f9 f7 f8 ⟨by omega, by omega⟩ (by first | omega | assumption) (by first | omega | assumption) (by exact helr) (by exact hIg)) ?_)
          rintro _ w5 ⟨_, _, rfl, rfl, ⟨b7, hb6, rfl⟩, hm5⟩
          have f13 := f5.ext hm5
          have f14 := f6.ext hm5
          have f15 := f7.ext hm5
          have f16 := f8.ext hm5
          have f17 := f9.ext hm5
          have f18 := f10.ext hm5
          have f19 := f11.ext hm5
          have f20 := f12.ext hm5
          have hE5 := hE4.ext hm5
          have hs5 := hm5.size
          refine OL.q (Q1.move rfl) rfl rfl ?_
          refine OL.q (Q1.extract rfl rfl) rfl rfl ?_
          refine OL.q (Q1.extract rfl rfl) rfl rfl ?_
          refine OL.q (Q1.assign rfl) rfl rfl ?_
          refine OL.q (Q1.assign rfl) rfl rfl ?_
          refine OL.nil ?_
          refine r_seq ?_
          refine r_region ?_
          refine OL.q (Q1.move rfl) rfl rfl ?_
          refine OL.q (Q1.move rfl) rfl rfl ?_
          refine OL.act rfl rfl (AW.callF cl30 rfl (lat_c (w0 := w5) (words := words) w ((f13).iv (Nat.zero_le _) (by omega)) (by first | assumption | exact Ml.rising_sorted (by decide +kernel)) (by first | assumption | omega | (simp; done))) ?_)
          rintro _ w6 ⟨_, _, rfl, rfl, ⟨b8, hb7, rfl⟩, hm6⟩
          have f21 := f13.ext hm6
          have f22 := f14.ext hm6
          have f23 := f15.ext hm6
          have f24 := f16.ext hm6
          have f25 := f17.ext hm6
          have f26 := f18.ext hm6
          have f27 := f19.ext hm6
          have f28 := f20.ext hm6
          have hE6 := hE5.ext hm6
          have hs6 := hm6.size
          have := Ml.belowW_le words w
          refine OL.q (Q1.move rfl) rfl rfl ?_
          refine OL.q (Q1.extract rfl rfl) rfl rfl ?_
          refine OL.q (Q1.extract rfl rfl) rfl rfl ?_
          refine OL.q (Q1.assign rfl) rfl rfl ?_
          refine OL.q (Q1.assign rfl) rfl rfl ?_
          refine OL.nil ?_
          refine r_seq ?_
          refine r_region ?_
          refine OL.q (Q1.move rfl) rfl rfl ?_
          refine OL.q (Q1.move rfl) rfl rfl ?_
          refine OL.q (Q1.move rfl) rfl rfl ?_
          refine OL.act rfl rfl (AW.callF cl33 rfl (from_c (w0 := w6) w (most) (by first | assumption | omega) f22 (by omega) (by assumption) (by first | omega | (simp; done))) ?_)
          rintro v1 w7 ⟨⟨gr1, h1, hg1⟩, hm7⟩
          have f29 := f21.ext hm7
          have f30 := f22.ext hm7
          have f31 := f23.ext hm7
          have f32 := f24.ext hm7
          have f33 := f25.ext hm7
          have f34 := f26.ext hm7
          have f35 := f27.ext hm7
          have f36 := f28.ext hm7
          have hE7 := hE6.ext hm7
          have hs7 := hm7.size
          have hle_1 := h1.le
          have hlt_1 := h1.lt
          refine OL.q (Q1.assign rfl) rfl rfl ?_
          refine OL.nil ?_
          refine r_seq ?_
          refine r_region ?_
          refine OL.q (Q1.move rfl) rfl rfl ?_
          refine OL.q (Q1.move rfl) rfl rfl ?_
          refine OL.qb (Q1.eq rfl rfl) rfl rfl ?_
          intro b9 hb8
          obtain rfl : b9 = true := hb8.trans (by exact beq_iff_eq.2 (by rw [hgq]))
          refine OL.q (Q1.move rfl) rfl rfl ?_
          refine OL.q (Q1.move rfl) rfl rfl ?_
          refine OL.q (Q1.move rfl) rfl rfl ?_
          refine OL.qb (Q1.eqB Try.underlying4 rfl rfl) rfl rfl ?_
          intro b10 hb9
          obtain rfl : b10 = true := hb9.trans (by exact Ml.eqb3 (by assumption) (by assumption) (by rw [hgq]))
          refine OL.q (Q1.pick_t rfl rfl) rfl rfl ?_
          refine OL.q (Q1.move rfl) rfl rfl ?_
          refine OL.q (Q1.move rfl) rfl rfl ?_
          refine OL.q (Q1.move rfl) rfl rfl ?_
          refine OL.act rfl rfl (AW.callF cl31 rfl (has_c (w0 := w7)  w f30 (by omega) (by assumption) (by first | assumption | omega | (simp; done))) ?_)
          rintro _ w8 ⟨⟨b11, hb10, rfl⟩, hm8⟩
          have hl1 := h1.lt
          have f37 := f29.ext hm8
          have f38 := f30.ext hm8
          have f39 := f31.ext hm8
          have f40 := f32.ext hm8
          have f41 := f33.ext hm8
          have f42 := f34.ext hm8
          have f43 := f35.ext hm8
          have f44 := f36.ext hm8
          have f45 := h1.ext hm8
          have hE8 := hE7.ext hm8
          have hs8 := hm8.size
          refine OL.q (Q1.move rfl) rfl rfl ?_
          refine OL.qb (Q1.eqB Try.underlying4 rfl rfl) rfl rfl ?_
          intro b12 hb11
          obtain rfl : b12 = true := hb11.trans (by exact Ml.eqb3 (by assumption : _ = words.contains w) (by assumption : _ = words.contains w) rfl)
          refine OL.q (Q1.pick_t rfl rfl) rfl rfl ?_
          refine OL.q (Q1.move rfl) rfl rfl ?_
          refine OL.q (Q1.move rfl) rfl rfl ?_
          refine OL.q (Q1.move rfl) rfl rfl ?_
          refine OL.q (Q1.move rfl) rfl rfl ?_
          refine OL.q (Q1.move rfl) rfl rfl ?_
          refine OL.act rfl rfl (AW.callF cl36 rfl (r8from_c (w0 := w8)  w (most) f41 f39 f40 ⟨by omega, by omega⟩ (by first | omega | assumption) (by first | assumption | omega) (by exact hx0) (by first | assumption | omega) (by exact hsk)) ?_)
          rintro v2 w9 ⟨⟨gr2, h2, hg2⟩, hm9⟩
          have hl2 := f45.lt
          have f46 := f37.ext hm9
          have f47 := f38.ext hm9
          have f48 := f39.ext hm9
          have f49 := f40.ext hm9
          have f50 := f41.ext hm9
          have f51 := f42.ext hm9
          have f52 := f43.ext hm9
          have f53 := f44.ext hm9
          have f54 := f45.ext hm9
          have hE9 := hE8.ext hm9
          have hs9 := hm9.size
          have hle_2 := h2.le
          have hlt_2 := h2.lt
          refine OL.act rfl rfl (AW.callF cl28 rfl (sameT_c (w0 := w9) (a := (fromM words w (most))) (b := (fromM words w most))  ((f54.sl).iv (Nat.zero_le _) (by omega)) ((h2.sl).iv (Nat.zero_le _) (by omega))) ?_)
          rintro _ w10 ⟨⟨b13, hb12, rfl⟩, hm10⟩
          have hl3 := f54.lt
          have hl4 := h2.lt
          have f55 := f46.ext hm10
          have f56 := f47.ext hm10
          have f57 := f48.ext hm10
          have f58 := f49.ext hm10
          have f59 := f50.ext hm10
          have f60 := f51.ext hm10
          have f61 := f52.ext hm10
          have f62 := f53.ext hm10
          have f63 := f54.ext hm10
          have f64 := h2.ext hm10
          have hE10 := hE9.ext hm10
          have hs10 := hm10.size
          obtain rfl : b13 = true := hb12.trans (by exact decide_eq_true rfl)
          refine OL.q (Q1.pick_t rfl rfl) rfl rfl ?_
          refine OL.q (Q1.move rfl) rfl rfl ?_
          refine OL.q (Q1.move rfl) rfl rfl ?_
          refine OL.act rfl rfl (AW.callF cl34 rfl (words_c (w0 := w10)  f56 (by omega) (by assumption) (by first | omega | (simp; done))) ?_)
          rintro v3 w11 ⟨⟨gr3, h3, hg3⟩, hm11⟩
          have hl5 := f63.lt
          have hl6 := f64.lt
          have f65 := f55.ext hm11
          have f66 := f56.ext hm11
          have f67 := f57.ext hm11
          have f68 := f58.ext hm11
          have f69 := f59.ext hm11
          have f70 := f60.ext hm11
          have f71 := f61.ext hm11
          have f72 := f62.ext hm11
          have f73 := f63.ext hm11
          have f74 := f64.ext hm11
          have hE11 := hE10.ext hm11
          have hs11 := hm11.size
          have hle_3 := h3.le
          have hlt_3 := h3.lt
          refine OL.q (Q1.move rfl) rfl rfl ?_
          refine OL.act rfl rfl (AW.callF cl28 rfl (sameT_c (w0 := w11) (a := words) (b := words)  ((h3.sl).iv (Nat.zero_le _) (by omega)) ((f65).iv (Nat.zero_le _) (by omega))) ?_)
          rintro _ w12 ⟨⟨b14, hb13, rfl⟩, hm12⟩
          have hl7 := f73.lt
          have hl8 := f74.lt
          have hl9 := h3.lt
          have f75 := f65.ext hm12
          have f76 := f66.ext hm12
          have f77 := f67.ext hm12
          have f78 := f68.ext hm12
          have f79 := f69.ext hm12
          have f80 := f70.ext hm12
          have f81 := f71.ext hm12
          have f82 := f72.ext hm12
          have f83 := f73.ext hm12
          have f84 := f74.ext hm12
          have f85 := h3.ext hm12
          have hE12 := hE11.ext hm12
          have hs12 := hm12.size
          obtain rfl : b14 = true := hb13.trans (by exact decide_eq_true rfl)
          refine OL.q (Q1.pick_t rfl rfl) rfl rfl ?_
          refine OL.q (Q1.move rfl) rfl rfl ?_
          refine OL.act rfl rfl (AW.callF cl12 rfl (awake8_c (w0 := w12)   ) ?_)
          rintro _ w13 ⟨⟨_, rfl, rfl⟩, hm13⟩
          have hl10 := f83.lt
          have hl11 := f84.lt
          have hl12 := f85.lt
          have f86 := f75.ext hm13
          have f87 := f76.ext hm13
          have f88 := f77.ext hm13
          have f89 := f78.ext hm13
          have f90 := f79.ext hm13
          have f91 := f80.ext hm13
          have f92 := f81.ext hm13
          have f93 := f82.ext hm13
          have f94 := f83.ext hm13
          have f95 := f84.ext hm13
          have f96 := f85.ext hm13
          have hE13 := hE12.ext hm13
          have hs13 := hm13.size
          refine OL.q (Q1.pick_t rfl rfl) rfl rfl ?_
          refine OL.q (Q1.assign rfl) rfl rfl ?_
          refine OL.nil ?_
          refine r_ret1 Try.func9 rfl rfl ?_
          exact Ret.mk ⟨⟨_, (by rfl), rfl⟩, hE13⟩
end Go.Proofs
