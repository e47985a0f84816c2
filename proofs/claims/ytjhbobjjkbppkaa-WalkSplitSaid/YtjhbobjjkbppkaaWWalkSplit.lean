/-
  The walk through the law WalkSplit.
-/
import Derived.Test.YtjhbobjjkbppkaaWAwake
set_option linter.unusedVariables false
set_option linter.unusedSimpArgs false
namespace Go.Proofs
open Go.Ik Go.Ml
set_option maxRecDepth 20000 in
set_option maxHeartbeats 4000000 in
theorem WalkSplit_c {w0 : World}  {v_words : Value} {words : List Str} {q : Qry} (first : Bool) {after : Itm} (a : Int) (b : Int) (h_words : Sl encS w0 (Iv 0 w0.heap.size) v_words words) (h_a : I64 a) (h_b : I64 b) (hok : Ml.LOk words) (hqk : I64 q.k) (hqn : I64 q.n) (had0 : I64 after.dist) :
    Calls Try.prog 4 #[v_words, .agg #[strV q.text, .int .i64 q.k, .int .i64 q.n], .bool first, .agg #[.int .i64 after.dist, strV after.word], .int .i64 a, .int .i64 b] w0 (Ret fun rv w1 => (∃ rb : Bool, rb = true ∧ rv = .bool rb) ∧ Ext w0 w1) := by
  have hE0 : Ext w0 w0 := Mod.refl _ _
  have hle1 := h_words.le
  refine calls_enter Try.func4 rfl Try.ntmps4 rfl ?_
  refine r_seq ?_
  refine r_region ?_
  refine OL.act rfl rfl (AW.box [strV q.text, .int .i64 q.k, .int .i64 q.n] rfl rfl ?_)
  intro w1 b1 hm1 hb1 hz1 hk1
  have f1 := h_words.ext hm1
  have hE1 := hE0.ext hm1
  have hs1 := hm1.size
  refine OL.act rfl rfl (AW.box [.int .i64 after.dist, strV after.word] rfl rfl ?_)
  intro w2 b2 hm2 hb2 hz2 hk2
  have f2 := f1.ext hm2
  have f3 := hk1.ext hm2
  have hE2 := hE1.ext hm2
  have hs2 := hm2.size
  refine OL.q (Q1.assign rfl) rfl rfl ?_
  refine OL.nil ?_
  refine r_seq ?_
  refine r_seq ?_
  refine r_region ?_
  refine OL.q (Q1.move rfl) rfl rfl ?_
  refine OL.q (Q1.fieldAddr fl39_0 rfl) rfl rfl ?_
  refine OL.q (Q1.load1 ti9 rfl (fun _ e => e ▸ (f3.cell 0 _ rfl))) rfl rfl ?_
  refine OL.act rfl rfl (AW.callF cl12 rfl (great11_c (w0 := w2) (words := words) q.text ((f2).iv (Nat.zero_le _) (by omega))) ?_)
  rintro _ w3 ⟨⟨b3, hb3, rfl⟩, hm3⟩
  have f4 := f2.ext hm3
  have f5 := f3.ext hm3
  have f6 := hk2.ext hm3
  have hE3 := hE2.ext hm3
  have hs3 := hm3.size
  refine OL.q (Q1.move rfl) rfl rfl ?_
  cases b3 with
  | true =>
    replace hb3 := hb3.symm
    refine OL.sk rfl rfl ?_
    refine OL.sk rfl rfl ?_
    refine OL.sk rfl rfl ?_
    refine OL.q (Q1.pick_t rfl rfl) rfl rfl ?_
    refine OL.q (Q1.move rfl) rfl rfl ?_
    refine OL.sk rfl rfl ?_
    refine OL.sk rfl rfl ?_
    refine OL.sk rfl rfl ?_
    refine OL.sk rfl rfl ?_
    refine OL.q (Q1.pick_t rfl rfl) rfl rfl ?_
    refine OL.nil ?_
    refine r_cond_t rfl ?_
    refine r_seq ?_
    refine r_region ?_
    refine OL.act rfl rfl (AW.callF cl13 rfl (awake11_c (w0 := w3)   ) ?_)
    rintro _ w4 ⟨⟨_, rfl, rfl⟩, hm4⟩
    have f7 := f4.ext hm4
    have f8 := f5.ext hm4
    have f9 := f6.ext hm4
    have hE4 := hE3.ext hm4
    have hs4 := hm4.size
    refine OL.q (Q1.assign rfl) rfl rfl ?_
    refine OL.nil ?_
    refine r_ret1 Try.func4 rfl rfl ?_
    exact Ret.mk ⟨⟨_, (by rfl), rfl⟩, hE4⟩
  | false =>
    replace hb3 := hb3.symm
    refine OL.q (Q1.loadN ti39 rfl (fun _ e => e ▸ f5.row) rfl) rfl rfl ?_
    refine OL.act rfl rfl (AW.callF cl19 rfl (may_c (w0 := w3) (q := q)  (by have := (greatS_no (by assumption : greatS words q.text = false)).2; omega)) ?_)
    rintro _ w4 ⟨⟨b4, hb4, rfl⟩, hm4⟩
    have f7 := f4.ext hm4
    have f8 := f5.ext hm4
    have f9 := f6.ext hm4
    have hE4 := hE3.ext hm4
    have hs4 := hm4.size
    cases b4 with
    | true =>
      replace hb4 := hb4.symm
      refine OL.q (Q1.not rfl) rfl rfl ?_
      refine OL.q (Q1.pick_f rfl rfl) rfl rfl ?_
      refine OL.q (Q1.move rfl) rfl rfl ?_
      refine OL.q (Q1.fieldAddr fl24_1 rfl) rfl rfl ?_
      refine OL.q (Q1.load1 ti9 rfl (fun _ e => e ▸ (f9.cell 1 _ rfl))) rfl rfl ?_
      refine OL.q (Q1.lenS Try.underlying9 rfl) rfl rfl ?_
      refine OL.qb (Q1.gt rfl rfl) rfl rfl ?_
      intro b5 hb5
      refine OL.q (Q1.pick_f rfl rfl) rfl rfl ?_
      refine OL.nil ?_
      cases b5 with
      | true =>
        replace hb5 := of_decide_eq_true hb5.symm
        refine r_cond_t rfl ?_
        refine r_seq ?_
        refine r_region ?_
        refine OL.act rfl rfl (AW.callF cl13 rfl (awake11_c (w0 := w4)   ) ?_)
        rintro _ w5 ⟨⟨_, rfl, rfl⟩, hm5⟩
        have f10 := f7.ext hm5
        have f11 := f8.ext hm5
        have f12 := f9.ext hm5
        have hE5 := hE4.ext hm5
        have hs5 := hm5.size
        refine OL.q (Q1.assign rfl) rfl rfl ?_
        refine OL.nil ?_
        refine r_ret1 Try.func4 rfl rfl ?_
        exact Ret.mk ⟨⟨_, (by rfl), rfl⟩, hE5⟩
      | false =>
        replace hb5 := of_decide_eq_false hb5.symm
        refine r_cond_f rfl ?_
        refine r_skip ?_
        refine r_seq ?_
        refine r_region ?_
        refine OL.q (Q1.move rfl) rfl rfl ?_
        have hg3 := greatS_no (by assumption : greatS words q.text = false)
        have hl8 := Ml.greatT_len hg3.1
        have hsk := Ml.greatT_short hg3.1
        have hmq := mayQ_iff (q := q) (by assumption)
        refine OL.act rfl rfl (AW.callF cl14 rfl (build_c (w0 := w4) (words := words)  ((f7).iv (Nat.zero_le _) (by omega)) (by assumption) (by first | assumption | omega)) ?_)
        rintro _ w5 ⟨vg1, _, rfl, ⟨lo1, hi1, hgr_1, hlo1, hhi1⟩, rfl, hm5⟩
        have f10 := f7.ext hm5
        have f11 := f8.ext hm5
        have f12 := f9.ext hm5
        have hE5 := hE4.ext hm5
        have hs5 := hm5.size
        have := Ml.goodL_range words
        refine OL.q (Q1.move rfl) rfl rfl ?_
        refine OL.q (Q1.extract rfl rfl) rfl rfl ?_
        refine OL.q (Q1.extract rfl rfl) rfl rfl ?_
        refine OL.q (Q1.assign rfl) rfl rfl ?_
        refine OL.q (Q1.assign rfl) rfl rfl ?_
        refine OL.nil ?_
        refine r_seq ?_
        refine r_seq ?_
        refine r_region ?_
        refine OL.q (Q1.move rfl) rfl rfl ?_
        refine OL.qb (Q1.ne rfl rfl) rfl rfl ?_
        intro b6 hb6
        refine OL.q (Q1.move rfl) rfl rfl ?_
        cases b6 with
        | true =>
          replace hb6 := bne_iff_ne.1 hb6.symm
          refine OL.sk rfl rfl ?_
          refine OL.sk rfl rfl ?_
          refine OL.q (Q1.pick_t rfl rfl) rfl rfl ?_
          refine OL.nil ?_
          refine r_cond_t rfl ?_
          refine r_seq ?_
          refine r_region ?_
          refine OL.q (Q1.move rfl) rfl rfl ?_
          have hgr1 := hgr_1
          rcases hgr_1 with ⟨hv1, hN1⟩ | ⟨b7, vn1, nds1, hv1, hN1, hrw1, hsl1, hrel1⟩
          · subst hv1
            try subst hN1
            refine OL.q (Q1.eqNil Try.underlying27 rfl rfl) rfl rfl ?_
            refine OL.q (Q1.move rfl) rfl rfl ?_
            refine OL.act rfl rfl (AW.callF cl13 rfl (awake11_c (w0 := w5)   ) ?_)
            rintro _ w6 ⟨⟨_, rfl, rfl⟩, hm6⟩
            have f13 := f10.ext hm6
            have f14 := f11.ext hm6
            have f15 := f12.ext hm6
            have f16 := hgr1.ext hm6
            have hE6 := hE5.ext hm6
            have hs6 := hm6.size
            refine OL.q (Q1.pick_t rfl rfl) rfl rfl ?_
            refine OL.q (Q1.assign rfl) rfl rfl ?_
            refine OL.nil ?_
            refine r_ret1 Try.func4 rfl rfl ?_
            exact Ret.mk ⟨⟨_, (by rfl), rfl⟩, hE6⟩
          · exact absurd (by exact Ml.gnodes_no (by assumption)) hN1
        | false =>
          replace hb6 := bne_eq_false_iff_eq.1 hb6.symm
          refine OL.q (Q1.move rfl) rfl rfl ?_
          have hgr1 := hgr_1
          rcases hgr_1 with ⟨hv1, hN1⟩ | ⟨b7, vn1, nds1, hv1, hN1, hrw1, hsl1, hrel1⟩
          · exact absurd hN1 (by exact Ml.gnodes_ne (by assumption))
          · subst hv1
            have hnl1 := (All2.get hrel1).1
            refine OL.q (Q1.eqNil Try.underlying27 rfl rfl) rfl rfl ?_
            refine OL.q (Q1.pick_f rfl rfl) rfl rfl ?_
            refine OL.nil ?_
            refine r_cond_f rfl ?_
            refine r_skip ?_
            refine r_seq ?_
            refine r_region ?_
            refine OL.q (Q1.move rfl) rfl rfl ?_
            refine OL.act rfl rfl (AW.callF cl20 rfl (low_c (w0 := w5)  (a) (6) (by first | omega | assumption) (by first | omega | assumption) (by omega)) ?_)
            rintro _ w6 ⟨rfl, hm6, hp1⟩
            have f13 := f10.ext hm6
            have f14 := f11.ext hm6
            have f15 := f12.ext hm6
            have f16 := hgr1.ext hm6
            have f17 := hrel1.ext hm6
            have f18 := hsl1.ext hm6
            have f19 := hrw1.ext hm6
            have hE6 := hE5.ext hm6
            have hs6 := hm6.size
            refine OL.q (Q1.addI ((1 + ((Ml.lowM a 6)))) rfl rfl (by omega)) rfl rfl ?_
            refine OL.q (Q1.move rfl) rfl rfl ?_
            refine OL.act rfl rfl (AW.callF cl20 rfl (low_c (w0 := w6)  (b) (6) (by first | omega | assumption) (by first | omega | assumption) (by omega)) ?_)
            rintro _ w7 ⟨rfl, hm7, hp2⟩
            have f20 := f13.ext hm7
            have f21 := f14.ext hm7
            have f22 := f15.ext hm7
            have f23 := f16.ext hm7
            have f24 := f17.ext hm7
            have f25 := f18.ext hm7
            have f26 := f19.ext hm7
            have hE7 := hE6.ext hm7
            have hs7 := hm7.size
            refine OL.q (Q1.addI ((1 + ((Ml.lowM b 6)))) rfl rfl (by omega)) rfl rfl ?_
            refine OL.q (Q1.assign rfl) rfl rfl ?_
            refine OL.q (Q1.assign rfl) rfl rfl ?_
            refine OL.nil ?_
            refine r_seq ?_
            refine r_region ?_
            refine OL.q (Q1.move rfl) rfl rfl ?_
            have hg0 : Ml.goodL words = 0 := by assumption
            have hgok : GOk (Ml.gnodes words) (Ml.graphB words) words := Ml.gok_of (by assumption)
            obtain ⟨hI, hgl, hel⟩ := hgok.edges
            have hso := Ml.good_sorted hg0
            have hl60 := Ml.good_len hg0
            have hgp := Ml.gnodes_pos hg0
            have hgf := Ml.good_fineT hg0
            have hws : ∀ w ∈ words, w.length ≤ 1000 := good_len48 hg0
            have hlw := split_law (words := words) (s := q.text) (k := q.k) (first := first) (after := after) (a := 1 + Ml.lowM a 6) (b := 1 + Ml.lowM b 6) hg0 hmq.1 hmq.2.1 (by omega) (by omega)
            refine OL.q (Q1.fieldAddr fl39_0 rfl) rfl rfl ?_
            refine OL.q (Q1.load1 ti9 rfl (fun _ e => e ▸ (f21.cell 0 _ rfl))) rfl rfl ?_
            refine OL.q (Q1.fieldAddr fl39_1 rfl) rfl rfl ?_
            refine OL.q (Q1.load1 ti3 rfl (fun _ e => e ▸ (f21.cell 1 _ rfl))) rfl rfl ?_
            refine OL.q (Q1.move rfl) rfl rfl ?_
            refine OL.q (Q1.loadN ti24 rfl (fun _ e => e ▸ f22.row) rfl) rfl rfl ?_
            refine OL.q (Q1.move rfl) rfl rfl ?_
            refine OL.act rfl rfl (AW.callF cl15 rfl (wnext_c (w0 := w7) (after := after) q.text (q.k) first ((1 + ((Ml.lowM a 6)))) f23 (by omega) (by first | omega | assumption) (by first | omega | assumption) (by first | assumption) (by first | assumption | omega | (simp; done)) (by first | assumption | omega) (by first | assumption | omega | (simp; done)) (by first | assumption | omega | (simp; done))) ?_)
            rintro _ w8 ⟨v1, _, rfl, ⟨gr1, h1, hg1⟩, ⟨b8, hb7, rfl⟩, hm8⟩
            have f27 := f20.ext hm8
            have f28 := f21.ext hm8
            have f29 := f22.ext hm8
            have f30 := f23.ext hm8
            have f31 := f24.ext hm8
            have f32 := f25.ext hm8
            have f33 := f26.ext hm8
            have hE8 := hE7.ext hm8
            have hs8 := hm8.size
            have hle_1 := h1.le
            have hlt_1 := h1.lt
            have := nextA_lenE ((Ml.gnodes words)) words q.text q.k first after ((1 + ((Ml.lowM a 6))))
            refine OL.q (Q1.move rfl) rfl rfl ?_
            refine OL.q (Q1.extract rfl rfl) rfl rfl ?_
            refine OL.q (Q1.extract rfl rfl) rfl rfl ?_
            refine OL.q (Q1.assign rfl) rfl rfl ?_
            refine OL.q (Q1.assign rfl) rfl rfl ?_
            refine OL.nil ?_
            refine r_seq ?_
            refine r_region ?_
            refine OL.q (Q1.move rfl) rfl rfl ?_
            refine OL.q (Q1.fieldAddr fl39_0 rfl) rfl rfl ?_
            refine OL.q (Q1.load1 ti9 rfl (fun _ e => e ▸ (f28.cell 0 _ rfl))) rfl rfl ?_
            refine OL.q (Q1.fieldAddr fl39_1 rfl) rfl rfl ?_
            refine OL.q (Q1.load1 ti3 rfl (fun _ e => e ▸ (f28.cell 1 _ rfl))) rfl rfl ?_
            refine OL.q (Q1.move rfl) rfl rfl ?_
            refine OL.q (Q1.loadN ti24 rfl (fun _ e => e ▸ f29.row) rfl) rfl rfl ?_
            refine OL.q (Q1.move rfl) rfl rfl ?_
            refine OL.q (Q1.move rfl) rfl rfl ?_
            refine OL.q (Q1.addI (((1 + ((Ml.lowM a 6))) + ((1 + ((Ml.lowM b 6)))))) rfl rfl (by omega)) rfl rfl ?_
            refine OL.act rfl rfl (AW.callF cl15 rfl (wnext_c (w0 := w8) (after := after) q.text (q.k) first (((1 + ((Ml.lowM a 6))) + ((1 + ((Ml.lowM b 6)))))) f30 (by omega) (by first | omega | assumption) (by first | omega | assumption) (by first | assumption) (by first | assumption | omega | (simp; done)) (by first | assumption | omega) (by first | assumption | omega | (simp; done)) (by first | assumption | omega | (simp; done))) ?_)
            rintro _ w9 ⟨v2, _, rfl, ⟨gr2, h2, hg2⟩, ⟨b9, hb8, rfl⟩, hm9⟩
            have hl1 := h1.lt
            have f34 := f27.ext hm9
            have f35 := f28.ext hm9
            have f36 := f29.ext hm9
            have f37 := f30.ext hm9
            have f38 := f31.ext hm9
            have f39 := f32.ext hm9
            have f40 := f33.ext hm9
            have f41 := h1.ext hm9
            have hE9 := hE8.ext hm9
            have hs9 := hm9.size
            have hle_2 := h2.le
            have hlt_2 := h2.lt
            have := nextA_lenE ((Ml.gnodes words)) words q.text q.k first after (((1 + ((Ml.lowM a 6))) + ((1 + ((Ml.lowM b 6))))))
            refine OL.q (Q1.move rfl) rfl rfl ?_
            refine OL.q (Q1.extract rfl rfl) rfl rfl ?_
            refine OL.q (Q1.extract rfl rfl) rfl rfl ?_
            refine OL.q (Q1.assign rfl) rfl rfl ?_
            refine OL.q (Q1.assign rfl) rfl rfl ?_
            refine OL.nil ?_
            refine r_seq ?_
            refine r_seq ?_
            refine r_region ?_
            refine OL.q (Q1.move rfl) rfl rfl ?_
            refine OL.nil ?_
            cases b8 with
            | true =>
              replace hb7 := hb7.symm
              refine r_cond_t rfl ?_
              refine r_seq ?_
              refine r_region ?_
              refine OL.q (Q1.move rfl) rfl rfl ?_
              have hl1 := hlw.one (by assumption)
              obtain rfl : b9 = true := hb8.trans (by exact hl1.1)
              refine OL.q (Q1.move rfl) rfl rfl ?_
              refine OL.q (Q1.move rfl) rfl rfl ?_
              refine OL.q (Q1.move rfl) rfl rfl ?_
              refine OL.act rfl rfl (AW.callF cl17 rfl (sameIt_c (w0 := w9) (a := ((nextA ((Ml.gnodes words)) words q.text q.k first after ((1 + ((Ml.lowM a 6))))).1)) (b := ((nextA ((Ml.gnodes words)) words q.text q.k first after (((1 + ((Ml.lowM a 6))) + ((1 + ((Ml.lowM b 6))))))).1))  ((f41.sl).iv (Nat.zero_le _) (by omega)) ((h2.sl).iv (Nat.zero_le _) (by omega))) ?_)
              rintro _ w10 ⟨⟨b10, hb9, rfl⟩, hm10⟩
              have hl2 := f41.lt
              have hl3 := h2.lt
              have f42 := f34.ext hm10
              have f43 := f35.ext hm10
              have f44 := f36.ext hm10
              have f45 := f37.ext hm10
              have f46 := f38.ext hm10
              have f47 := f39.ext hm10
              have f48 := f40.ext hm10
              have f49 := f41.ext hm10
              have f50 := h2.ext hm10
              have hE10 := hE9.ext hm10
              have hs10 := hm10.size
              obtain rfl : b10 = true := hb9.trans (by exact decide_eq_true hl1.2)
              refine OL.q (Q1.pick_t rfl rfl) rfl rfl ?_
              refine OL.q (Q1.move rfl) rfl rfl ?_
              refine OL.act rfl rfl (AW.callF cl13 rfl (awake11_c (w0 := w10)   ) ?_)
              rintro _ w11 ⟨⟨_, rfl, rfl⟩, hm11⟩
              have hl4 := f49.lt
              have hl5 := f50.lt
              have f51 := f42.ext hm11
              have f52 := f43.ext hm11
              have f53 := f44.ext hm11
              have f54 := f45.ext hm11
              have f55 := f46.ext hm11
              have f56 := f47.ext hm11
              have f57 := f48.ext hm11
              have f58 := f49.ext hm11
              have f59 := f50.ext hm11
              have hE11 := hE10.ext hm11
              have hs11 := hm11.size
              refine OL.q (Q1.pick_t rfl rfl) rfl rfl ?_
              refine OL.q (Q1.assign rfl) rfl rfl ?_
              refine OL.nil ?_
              refine r_ret1 Try.func4 rfl rfl ?_
              exact Ret.mk ⟨⟨_, (by rfl), rfl⟩, hE11⟩
            | false =>
              replace hb7 := hb7.symm
              refine r_cond_f rfl ?_
              refine r_skip ?_
              refine r_seq ?_
              refine r_seq ?_
              refine r_region ?_
              refine OL.q (Q1.move rfl) rfl rfl ?_
              have hl1 := hlw.len (by assumption)
              refine OL.q (Q1.lenSl Try.underlying31 (f41.sl) rfl) rfl rfl ?_
              refine OL.q (Q1.move rfl) rfl rfl ?_
              refine OL.qb (Q1.ne rfl rfl) rfl rfl ?_
              intro b10 hb9
              obtain rfl : b10 = false := hb9.trans (by exact bne_eq_false_iff_eq.2 hl1)
              refine OL.nil ?_
              refine r_cond_f rfl ?_
              refine r_skip ?_
              refine r_seq ?_
              refine r_draw1 (fun i => Nat.beq i 11) 17 (fun w' => Mod (Mg 0) w9 w') mixed (by kernel_rfl) ?_
              intro w10 hm10
              have hl2 := f41.lt
              have hl3 := h2.lt
              have f42 := f34.ext hm10
              have f43 := f35.ext hm10
              have f44 := f36.ext hm10
              have f45 := f37.ext hm10
              have f46 := f38.ext hm10
              have f47 := f39.ext hm10
              have f48 := f40.ext hm10
              have f49 := f41.ext hm10
              have f50 := h2.ext hm10
              have hE10 := hE9.ext hm10
              have hs10 := hm10.size
              have hCw10 : Mod (Mg 0) w9 w10 := Mod.ofExt hm10
              refine ⟨hCw10, ?_⟩
              rw [show List.range' 0 (Array.size _) = [0, 1, 2, 3, 4, 5, 6, 7, 8, 9, 10, 11, 12, 13, 14, 15, 16] from rfl]
              refine OD.q rfl rfl (Q1.move rfl) rfl rfl ?_
              refine OD.q rfl rfl (Q1.fieldAddr fl39_0 rfl) rfl rfl ?_
              refine OD.q rfl rfl (Q1.load1 ti9 rfl (fun _ hc => (f35.cell 0 _ rfl).keepG hc (by omega))) rfl rfl ?_
              refine OD.q rfl rfl (Q1.fieldAddr fl39_1 rfl) rfl rfl ?_
              refine OD.q rfl rfl (Q1.load1 ti3 rfl (fun _ hc => (f35.cell 1 _ rfl).keepG hc (by omega))) rfl rfl ?_
              refine OD.q rfl rfl (Q1.move rfl) rfl rfl ?_
              refine OD.q rfl rfl (Q1.move rfl) rfl rfl ?_
              refine OD.q rfl rfl (Q1.subI (((1 + ((Ml.lowM a 6))) - 1)) rfl rfl (by omega)) rfl rfl ?_
              obtain ⟨x1, b11, o1, hx1, hr1, hl4, hu1, hw1⟩ := Sl.at' (P := Try.prog) f41.sl Try.underlying31 ti24 encItm_len (k := .i64) (n := ((1 + ((Ml.lowM a 6))) - 1)) ((((1 + ((Ml.lowM a 6))) - 1)).toNat) (by omega) (by first | assumption | omega)
              refine OD.q rfl rfl (Q1.indexAddr rfl rfl hr1) rfl rfl ?_
              refine OD.q rfl rfl (Q1.loadN ti24 rfl (fun _ hc => hw1.keepG hc (by omega)) rfl) rfl rfl ?_
              have hl2 := hlw.two (by assumption) _ (by assumption)
              have hx1m := nextA_mem hg0 hmq.1 hmq.2.1 (by omega) (List.mem_of_getElem? hx1)
              have hx1w := hws _ hx1m.1
              refine OD.q rfl rfl (Q1.move rfl) rfl rfl ?_
              refine OD.act rfl rfl rfl rfl (AW.callF cl15 rfl (wnext_c (w0 := w10) (after := x1) q.text (q.k) false ((1 + ((Ml.lowM b 6)))) f45 (by omega) (by first | omega | assumption) (by first | omega | assumption) (by first | assumption) (by first | assumption | omega | (simp; done)) (by first | assumption | omega) (by first | assumption | omega | (simp; done)) (by first | assumption | omega | (simp; done))) ?_)
              rintro _ w11 ⟨v3, _, rfl, ⟨gr3, h3, hg3⟩, ⟨b12, hb10, rfl⟩, hm11⟩
              have hl5 := f49.lt
              have hl6 := f50.lt
              have f51 := f42.ext hm11
              have f52 := f43.ext hm11
              have f53 := f44.ext hm11
              have f54 := f45.ext hm11
              have f55 := f46.ext hm11
              have f56 := f47.ext hm11
              have f57 := f48.ext hm11
              have f58 := f49.ext hm11
              have f59 := f50.ext hm11
              have hE11 := hE10.ext hm11
              have hs11 := hm11.size
              have hCw11 := hCw10.ext hm11
              refine ⟨.inr hCw11, ?_⟩
              have hle_3 := h3.le
              have hlt_3 := h3.lt
              have := nextA_lenE ((Ml.gnodes words)) words q.text q.k false x1 ((1 + ((Ml.lowM b 6))))
              refine OD.q rfl rfl (Q1.move rfl) rfl rfl ?_
              refine OD.q rfl rfl (Q1.extract rfl rfl) rfl rfl ?_
              refine OD.q rfl rfl (Q1.extract rfl rfl) rfl rfl ?_
              refine OD.q rfl rfl (Q1.assign rfl) rfl rfl ?_
              refine OD.q rfl rfl (Q1.assign rfl) rfl rfl ?_
              refine OD.nil ?_
              refine r_seq ?_
              refine r_region ?_
              refine OL.q (Q1.move rfl) rfl rfl ?_
              refine OL.q (Q1.move rfl) rfl rfl ?_
              have hl7 := f58.lt
              refine OL.act rfl rfl (AW.append f58 Try.underlying31 ti24 rfl encItm_len encItm_one rfl rfl (h3.sl) (by first | omega | (simp only [List.length_append, List.length_cons, List.length_nil]; omega) | (simp; omega)) (by unfold maxLen; first | omega | (simp only [List.length_append, List.length_cons, List.length_nil]; omega) | (simp; omega)) ?_)
              intro v4 g1 w12 ha1 hm12 hg4 hz3
              have hl8 := f58.lt
              have hl9 := f59.lt
              have hl10 := h3.lt
              have f60 := f51.keepG hm12 (by omega)
              have f61 := f52.keepG hm12 (by omega)
              have f62 := f53.keepG hm12 (by omega)
              have f63 := f54.keepG hm12 (by omega)
              have f64 := f55.keepG hm12 (by omega)
              have f65 := f56.keepG hm12 (by omega)
              have f66 := f57.keepG hm12 (by omega)
              have f67 := f59.keepG hm12 (by omega)
              have f68 := h3.keepG hm12 (by omega)
              have hE12 := Ext.thenG hE11 hm12 (by omega)
              have hs12 := hm12.size
              have hl11 := ha1.lt
              refine OL.q (Q1.move rfl) rfl rfl ?_
              refine OL.act rfl rfl (AW.callF cl17 rfl (sameIt_c (w0 := w12) (a := (((nextA ((Ml.gnodes words)) words q.text q.k first after ((1 + ((Ml.lowM a 6))))).1) ++ ((nextA ((Ml.gnodes words)) words q.text q.k false x1 ((1 + ((Ml.lowM b 6))))).1))) (b := ((nextA ((Ml.gnodes words)) words q.text q.k first after (((1 + ((Ml.lowM a 6))) + ((1 + ((Ml.lowM b 6))))))).1))  ((ha1.sl).iv (Nat.zero_le _) (by omega)) ((f67.sl).iv (Nat.zero_le _) (by omega))) ?_)
              rintro _ w13 ⟨⟨b13, hb11, rfl⟩, hm13⟩
              have hl12 := ha1.lt
              have hl13 := f67.lt
              have hl14 := f68.lt
              have f69 := f60.ext hm13
              have f70 := f61.ext hm13
              have f71 := f62.ext hm13
              have f72 := f63.ext hm13
              have f73 := f64.ext hm13
              have f74 := f65.ext hm13
              have f75 := f66.ext hm13
              have f76 := ha1.ext hm13
              have f77 := f67.ext hm13
              have f78 := f68.ext hm13
              have hE13 := hE12.ext hm13
              have hs13 := hm13.size
              obtain rfl : b13 = true := hb11.trans (by exact decide_eq_true hl2.1)
              refine OL.q (Q1.move rfl) rfl rfl ?_
              refine OL.q (Q1.move rfl) rfl rfl ?_
              refine OL.q (Q1.move rfl) rfl rfl ?_
              refine OL.qb (Q1.eqB Try.underlying4 rfl rfl) rfl rfl ?_
              intro b14 hb12
              obtain rfl : b14 = true := hb12.trans (by exact Ml.eqb3 (by assumption) (by assumption) hl2.2)
              refine OL.q (Q1.pick_t rfl rfl) rfl rfl ?_
              refine OL.q (Q1.move rfl) rfl rfl ?_
              refine OL.act rfl rfl (AW.callF cl13 rfl (awake11_c (w0 := w13)   ) ?_)
              rintro _ w14 ⟨⟨_, rfl, rfl⟩, hm14⟩
              have hl15 := f76.lt
              have hl16 := f77.lt
              have hl17 := f78.lt
              have f79 := f69.ext hm14
              have f80 := f70.ext hm14
              have f81 := f71.ext hm14
              have f82 := f72.ext hm14
              have f83 := f73.ext hm14
              have f84 := f74.ext hm14
              have f85 := f75.ext hm14
              have f86 := f76.ext hm14
              have f87 := f77.ext hm14
              have f88 := f78.ext hm14
              have hE14 := hE13.ext hm14
              have hs14 := hm14.size
              refine OL.q (Q1.pick_t rfl rfl) rfl rfl ?_
              refine OL.q (Q1.assign rfl) rfl rfl ?_
              refine OL.nil ?_
              refine r_ret1 Try.func4 rfl rfl ?_
              exact Ret.mk ⟨⟨_, (by rfl), rfl⟩, hE14⟩
    | false =>
      replace hb4 := hb4.symm
      refine OL.q (Q1.not rfl) rfl rfl ?_
      refine OL.q (Q1.pick_f rfl rfl) rfl rfl ?_
      refine OL.q (Q1.move rfl) rfl rfl ?_
      refine OL.sk rfl rfl ?_
      refine OL.sk rfl rfl ?_
      refine OL.sk rfl rfl ?_
      refine OL.sk rfl rfl ?_
      refine OL.q (Q1.pick_t rfl rfl) rfl rfl ?_
      refine OL.nil ?_
      refine r_cond_t rfl ?_
      refine r_seq ?_
      refine r_region ?_
      refine OL.act rfl rfl (AW.callF cl13 rfl (awake11_c (w0 := w4)   ) ?_)
      rintro _ w5 ⟨⟨_, rfl, rfl⟩, hm5⟩
      have f10 := f7.ext hm5
      have f11 := f8.ext hm5
      have f12 := f9.ext hm5
      have hE5 := hE4.ext hm5
      have hs5 := hm5.size
      refine OL.q (Q1.assign rfl) rfl rfl ?_
      refine OL.nil ?_
      refine r_ret1 Try.func4 rfl rfl ?_
      exact Ret.mk ⟨⟨_, (by rfl), rfl⟩, hE5⟩
end Go.Proofs
