/-
  The walk through the law WalkEnds.
-/
import Derived.Test.YtjhbobjjkbppkaaWAwake
import Derived.Test.YtjhbobjjkbppkaaWAll
set_option linter.unusedVariables false
set_option linter.unusedSimpArgs false
namespace Go.Proofs
open Go.Ik Go.Ml
set_option maxRecDepth 20000 in
set_option maxHeartbeats 4000000 in
theorem WalkEnds_c {w0 : World}  {v_words : Value} {words : List Str} {q : Qry} (h_words : Sl encS w0 (Iv 0 w0.heap.size) v_words words) (hok : Ml.LOk words) (hqk : I64 q.k) (hqn : I64 q.n) :
    Calls Try.prog 9 #[v_words, .agg #[strV q.text, .int .i64 q.k, .int .i64 q.n]] w0 (Ret fun rv w1 => (∃ rb : Bool, rb = true ∧ rv = .bool rb) ∧ Ext w0 w1) := by
  have hE0 : Ext w0 w0 := Mod.refl _ _
  have hle1 := h_words.le
  refine calls_enter Try.func9 rfl Try.ntmps9 rfl ?_
  refine r_seq ?_
  refine r_region ?_
  refine OL.act rfl rfl (AW.box [strV q.text, .int .i64 q.k, .int .i64 q.n] rfl rfl ?_)
  intro w1 b1 hm1 hb1 hz1 hk1
  have f1 := h_words.ext hm1
  have hE1 := hE0.ext hm1
  have hs1 := hm1.size
  refine OL.q (Q1.assign rfl) rfl rfl ?_
  refine OL.nil ?_
  refine r_seq ?_
  refine r_seq ?_
  refine r_region ?_
  refine OL.q (Q1.move rfl) rfl rfl ?_
  refine OL.q (Q1.fieldAddr fl39_0 rfl) rfl rfl ?_
  refine OL.q (Q1.load1 ti9 rfl (fun _ e => e ▸ (hk1.cell 0 _ rfl))) rfl rfl ?_
  refine OL.act rfl rfl (AW.callF cl12 rfl (great11_c (w0 := w1) (words := words) q.text ((f1).iv (Nat.zero_le _) (by omega))) ?_)
  rintro _ w2 ⟨⟨b2, hb2, rfl⟩, hm2⟩
  have f2 := f1.ext hm2
  have f3 := hk1.ext hm2
  have hE2 := hE1.ext hm2
  have hs2 := hm2.size
  refine OL.q (Q1.move rfl) rfl rfl ?_
  cases b2 with
  | true =>
    replace hb2 := hb2.symm
    refine OL.sk rfl rfl ?_
    refine OL.sk rfl rfl ?_
    refine OL.sk rfl rfl ?_
    refine OL.q (Q1.pick_t rfl rfl) rfl rfl ?_
    refine OL.nil ?_
    refine r_cond_t rfl ?_
    refine r_seq ?_
    refine r_region ?_
    refine OL.act rfl rfl (AW.callF cl13 rfl (awake11_c (w0 := w2)   ) ?_)
    rintro _ w3 ⟨⟨_, rfl, rfl⟩, hm3⟩
    have f4 := f2.ext hm3
    have f5 := f3.ext hm3
    have hE3 := hE2.ext hm3
    have hs3 := hm3.size
    refine OL.q (Q1.assign rfl) rfl rfl ?_
    refine OL.nil ?_
    refine r_ret1 Try.func9 rfl rfl ?_
    exact Ret.mk ⟨⟨_, (by rfl), rfl⟩, hE3⟩
  | false =>
    replace hb2 := hb2.symm
    refine OL.q (Q1.loadN ti39 rfl (fun _ e => e ▸ f3.row) rfl) rfl rfl ?_
    refine OL.act rfl rfl (AW.callF cl19 rfl (may_c (w0 := w2) (q := q)  (by have := (greatS_no (by assumption : greatS words q.text = false)).2; omega)) ?_)
    rintro _ w3 ⟨⟨b3, hb3, rfl⟩, hm3⟩
    have f4 := f2.ext hm3
    have f5 := f3.ext hm3
    have hE3 := hE2.ext hm3
    have hs3 := hm3.size
    cases b3 with
    | true =>
      replace hb3 := hb3.symm
      refine OL.q (Q1.not rfl) rfl rfl ?_
      refine OL.q (Q1.pick_f rfl rfl) rfl rfl ?_
      refine OL.nil ?_
      refine r_cond_f rfl ?_
      refine r_skip ?_
      refine r_seq ?_
      refine r_region ?_
      refine OL.q (Q1.move rfl) rfl rfl ?_
      have hg3 := greatS_no (by assumption : greatS words q.text = false)
      have hl8 := Ml.greatT_len hg3.1
      have hmq := mayQ_iff (q := q) (by assumption)
      refine OL.act rfl rfl (AW.callF cl14 rfl (build_c (w0 := w3) (words := words)  ((f4).iv (Nat.zero_le _) (by omega)) (by assumption) (by first | assumption | omega)) ?_)
      rintro _ w4 ⟨vg1, _, rfl, ⟨lo1, hi1, hgr_1, hlo1, hhi1⟩, rfl, hm4⟩
      have f6 := f4.ext hm4
      have f7 := f5.ext hm4
      have hE4 := hE3.ext hm4
      have hs4 := hm4.size
      have := Ml.goodL_range words
      refine OL.q (Q1.move rfl) rfl rfl ?_
      refine OL.q (Q1.extract rfl rfl) rfl rfl ?_
      refine OL.q (Q1.extract rfl rfl) rfl rfl ?_
      refine OL.q (Q1.assign rfl) rfl rfl ?_
      refine OL.q (Q1.assign rfl) rfl rfl ?_
      refine OL.nil ?_
      refine r_seq ?_
      refine r_seq ?_
      refine r_region ?_
      refine OL.q (Q1.move rfl) rfl rfl ?_
      refine OL.qb (Q1.ne rfl rfl) rfl rfl ?_
      intro b4 hb4
      refine OL.q (Q1.move rfl) rfl rfl ?_
      cases b4 with
      | true =>
        replace hb4 := bne_iff_ne.1 hb4.symm
        refine OL.sk rfl rfl ?_
        refine OL.sk rfl rfl ?_
        refine OL.q (Q1.pick_t rfl rfl) rfl rfl ?_
        refine OL.nil ?_
        refine r_cond_t rfl ?_
        refine r_seq ?_
        refine r_region ?_
        refine OL.q (Q1.move rfl) rfl rfl ?_
        have hgr1 := hgr_1
        rcases hgr_1 with ⟨hv1, hN1⟩ | ⟨b5, vn1, nds1, hv1, hN1, hrw1, hsl1, hrel1⟩
        · subst hv1
          try subst hN1
          refine OL.q (Q1.eqNil Try.underlying27 rfl rfl) rfl rfl ?_
          refine OL.q (Q1.move rfl) rfl rfl ?_
          refine OL.act rfl rfl (AW.callF cl13 rfl (awake11_c (w0 := w4)   ) ?_)
          rintro _ w5 ⟨⟨_, rfl, rfl⟩, hm5⟩
          have f8 := f6.ext hm5
          have f9 := f7.ext hm5
          have f10 := hgr1.ext hm5
          have hE5 := hE4.ext hm5
          have hs5 := hm5.size
          refine OL.q (Q1.pick_t rfl rfl) rfl rfl ?_
          refine OL.q (Q1.assign rfl) rfl rfl ?_
          refine OL.nil ?_
          refine r_ret1 Try.func9 rfl rfl ?_
          exact Ret.mk ⟨⟨_, (by rfl), rfl⟩, hE5⟩
        · exact absurd (by exact Ml.gnodes_no (by assumption)) hN1
      | false =>
        replace hb4 := bne_eq_false_iff_eq.1 hb4.symm
        refine OL.q (Q1.move rfl) rfl rfl ?_
        have hgr1 := hgr_1
        rcases hgr_1 with ⟨hv1, hN1⟩ | ⟨b5, vn1, nds1, hv1, hN1, hrw1, hsl1, hrel1⟩
        · exact absurd hN1 (by exact Ml.gnodes_ne (by assumption))
        · subst hv1
          have hnl1 := (All2.get hrel1).1
          refine OL.q (Q1.eqNil Try.underlying27 rfl rfl) rfl rfl ?_
          refine OL.q (Q1.pick_f rfl rfl) rfl rfl ?_
          refine OL.nil ?_
          refine r_cond_f rfl ?_
          refine r_skip ?_
          refine r_seq ?_
          refine r_region ?_
          refine OL.q (Q1.move rfl) rfl rfl ?_
          have hg0 : Ml.goodL words = 0 := by assumption
          have hgok : GOk (Ml.gnodes words) (Ml.graphB words) words := Ml.gok_of (by assumption)
          obtain ⟨hI, hgl, hel⟩ := hgok.edges
          have hso := Ml.good_sorted hg0
          have hl60 := Ml.good_len hg0
          have hws : ∀ w ∈ words, w.length ≤ 1000 := good_len48 hg0
          have hnd := sorted_nodup hso
          have hRl := refAll_len words q.text q.k
          have hRI : ∀ x ∈ (refAll words q.text q.k), I64 x.dist ∧ x.word.length ≤ 1000 := fun x hx => by have h := ((refAll_spec hnd).2 x).1 hx; exact ⟨by constructor <;> omega, hws _ h.1⟩
          refine OL.q (Q1.fieldAddr fl39_0 rfl) rfl rfl ?_
          refine OL.q (Q1.load1 ti9 rfl (fun _ e => e ▸ (f7.cell 0 _ rfl))) rfl rfl ?_
          refine OL.q (Q1.fieldAddr fl39_1 rfl) rfl rfl ?_
          refine OL.q (Q1.load1 ti3 rfl (fun _ e => e ▸ (f7.cell 1 _ rfl))) rfl rfl ?_
          refine OL.act rfl rfl (AW.callF cl30 rfl (rall_c (w0 := w4) (words := words) q.text (q.k) ((f6).iv (Nat.zero_le _) (by omega)) (by first | omega | assumption) (by assumption) (by omega) (by exact fun w h => Nat.le_trans (hws w h) (by decide)) (by have := (greatS_no (by assumption : greatS words q.text = false)).2; omega)) ?_)
          rintro v1 w5 ⟨⟨gr1, h1, hg1⟩, hm5⟩
          have f8 := f6.ext hm5
          have f9 := f7.ext hm5
          have f10 := hgr1.ext hm5
          have f11 := hrel1.ext hm5
          have f12 := hsl1.ext hm5
          have f13 := hrw1.ext hm5
          have hE5 := hE4.ext hm5
          have hs5 := hm5.size
          have hle_1 := h1.le
          have hlt_1 := h1.lt
          refine OL.q (Q1.assign rfl) rfl rfl ?_
          refine OL.nil ?_
          refine r_seq ?_
          refine r_region ?_
          refine OL.q (Q1.move rfl) rfl rfl ?_
          refine OL.q (Q1.fieldAddr fl39_0 rfl) rfl rfl ?_
          refine OL.q (Q1.load1 ti9 rfl (fun _ e => e ▸ (f9.cell 0 _ rfl))) rfl rfl ?_
          refine OL.q (Q1.fieldAddr fl39_1 rfl) rfl rfl ?_
          refine OL.q (Q1.load1 ti3 rfl (fun _ e => e ▸ (f9.cell 1 _ rfl))) rfl rfl ?_
          refine OL.q (Q1.build (vs := #[]) (v := .agg #[.int .i64 0, strV []]) rfl (fun _ => by kernel_rfl)) rfl rfl ?_
          refine OL.q (Q1.move rfl) rfl rfl ?_
          refine OL.q (Q1.lenSl Try.underlying31 (h1.sl) rfl) rfl rfl ?_
          refine OL.q (Q1.addI ((((((refAll words q.text q.k)).length) + 1 : Nat) : Int)) rfl rfl (by omega)) rfl rfl ?_
          refine OL.act rfl rfl (AW.callF cl15 rfl (wnext_c (w0 := w5) (after := (Itm.mk 0 [])) q.text (q.k) true ((((((refAll words q.text q.k)).length) + 1 : Nat) : Int)) f10 (by omega) (by first | omega | assumption) (by first | omega | assumption) (by first | assumption) (by first | assumption | omega | (simp; done)) (by first | assumption | omega) (by first | assumption | exact hxI.1 | decide | (show I64 (0 : Int); decide)) (by first | (simp; done) | exact Nat.le_trans hxI.2 (by decide) | (have := hxI.2; omega))) ?_)
          rintro _ w6 ⟨v2, _, rfl, ⟨gr2, h2, hg2⟩, ⟨b6, hb5, rfl⟩, hm6⟩
          have hl1 := h1.lt
          have f14 := f8.ext hm6
          have f15 := f9.ext hm6
          have f16 := f10.ext hm6
          have f17 := f11.ext hm6
          have f18 := f12.ext hm6
          have f19 := f13.ext hm6
          have f20 := h1.ext hm6
          have hE6 := hE5.ext hm6
          have hs6 := hm6.size
          have hle_2 := h2.le
          have hlt_2 := h2.lt
          have := nextA_lenE ((Ml.gnodes words)) words q.text q.k true ((Itm.mk 0 [])) ((((((refAll words q.text q.k)).length) + 1 : Nat) : Int))
          refine OL.q (Q1.move rfl) rfl rfl ?_
          refine OL.q (Q1.extract rfl rfl) rfl rfl ?_
          refine OL.q (Q1.extract rfl rfl) rfl rfl ?_
          obtain rfl : b6 = true := hb5.trans (by rw [ends_all hg0 hmq.1 hmq.2.1 (by omega)])
          refine OL.q (Q1.assign rfl) rfl rfl ?_
          refine OL.q (Q1.assign rfl) rfl rfl ?_
          refine OL.nil ?_
          refine r_seq ?_
          refine r_region ?_
          refine OL.q (Q1.move rfl) rfl rfl ?_
          refine OL.q (Q1.fieldAddr fl39_0 rfl) rfl rfl ?_
          refine OL.q (Q1.load1 ti9 rfl (fun _ e => e ▸ (f15.cell 0 _ rfl))) rfl rfl ?_
          refine OL.q (Q1.fieldAddr fl39_1 rfl) rfl rfl ?_
          refine OL.q (Q1.load1 ti3 rfl (fun _ e => e ▸ (f15.cell 1 _ rfl))) rfl rfl ?_
          refine OL.q (Q1.build (vs := #[]) (v := .agg #[.int .i64 0, strV []]) rfl (fun _ => by kernel_rfl)) rfl rfl ?_
          refine OL.q (Q1.move rfl) rfl rfl ?_
          refine OL.q (Q1.lenSl Try.underlying31 (f20.sl) rfl) rfl rfl ?_
          refine OL.q (Q1.max rfl rfl) rfl rfl ?_
          refine OL.act rfl rfl (AW.callF cl15 rfl (wnext_c (w0 := w6) (after := (Itm.mk 0 [])) q.text (q.k) true ((max (((((refAll words q.text q.k)).length : Nat) : Int)) 1)) f16 (by omega) (by first | omega | assumption) (by first | omega | assumption) (by first | assumption) (by first | assumption | omega | (simp; done)) (by first | assumption | omega) (by first | assumption | exact hxI.1 | decide | (show I64 (0 : Int); decide)) (by first | (simp; done) | exact Nat.le_trans hxI.2 (by decide) | (have := hxI.2; omega))) ?_)
          rintro _ w7 ⟨v3, _, rfl, ⟨gr3, h3, hg3⟩, ⟨b7, hb6, rfl⟩, hm7⟩
          have hl2 := f20.lt
          have hl3 := h2.lt
          have f21 := f14.ext hm7
          have f22 := f15.ext hm7
          have f23 := f16.ext hm7
          have f24 := f17.ext hm7
          have f25 := f18.ext hm7
          have f26 := f19.ext hm7
          have f27 := f20.ext hm7
          have f28 := h2.ext hm7
          have hE7 := hE6.ext hm7
          have hs7 := hm7.size
          have hle_3 := h3.le
          have hlt_3 := h3.lt
          have := nextA_lenE ((Ml.gnodes words)) words q.text q.k true ((Itm.mk 0 [])) ((max (((((refAll words q.text q.k)).length : Nat) : Int)) 1))
          refine OL.q (Q1.move rfl) rfl rfl ?_
          refine OL.q (Q1.extract rfl rfl) rfl rfl ?_
          refine OL.q (Q1.extract rfl rfl) rfl rfl ?_
          obtain rfl : b7 = true := hb6.trans (by rw [ends_all hg0 hmq.1 hmq.2.1 (by omega)])
          refine OL.q (Q1.assign rfl) rfl rfl ?_
          refine OL.q (Q1.assign rfl) rfl rfl ?_
          refine OL.nil ?_
          refine r_seq ?_
          refine r_seq ?_
          refine r_region ?_
          refine OL.q (Q1.move rfl) rfl rfl ?_
          refine OL.q (Q1.not rfl) rfl rfl ?_
          refine OL.q (Q1.move rfl) rfl rfl ?_
          refine OL.q (Q1.move rfl) rfl rfl ?_
          refine OL.q (Q1.not rfl) rfl rfl ?_
          refine OL.q (Q1.pick_f rfl rfl) rfl rfl ?_
          refine OL.q (Q1.move rfl) rfl rfl ?_
          refine OL.q (Q1.move rfl) rfl rfl ?_
          refine OL.q (Q1.move rfl) rfl rfl ?_
          refine OL.act rfl rfl (AW.callF cl17 rfl (sameIt_c (w0 := w7) (a := ((nextA ((Ml.gnodes words)) words q.text q.k true ((Itm.mk 0 [])) ((((((refAll words q.text q.k)).length) + 1 : Nat) : Int))).1)) (b := (refAll words q.text q.k))  ((f28.sl).iv (Nat.zero_le _) (by omega)) ((f27.sl).iv (Nat.zero_le _) (by omega))) ?_)
          rintro _ w8 ⟨⟨b8, hb7, rfl⟩, hm8⟩
          have hl4 := f27.lt
          have hl5 := f28.lt
          have hl6 := h3.lt
          have f29 := f21.ext hm8
          have f30 := f22.ext hm8
          have f31 := f23.ext hm8
          have f32 := f24.ext hm8
          have f33 := f25.ext hm8
          have f34 := f26.ext hm8
          have f35 := f27.ext hm8
          have f36 := f28.ext hm8
          have f37 := h3.ext hm8
          have hE8 := hE7.ext hm8
          have hs8 := hm8.size
          obtain rfl : b8 = true := hb7.trans (by exact decide_eq_true (by rw [ends_all hg0 hmq.1 hmq.2.1 (by omega)]))
          refine OL.q (Q1.not rfl) rfl rfl ?_
          refine OL.q (Q1.pick_f rfl rfl) rfl rfl ?_
          refine OL.q (Q1.move rfl) rfl rfl ?_
          refine OL.q (Q1.move rfl) rfl rfl ?_
          refine OL.q (Q1.move rfl) rfl rfl ?_
          refine OL.act rfl rfl (AW.callF cl17 rfl (sameIt_c (w0 := w8) (a := ((nextA ((Ml.gnodes words)) words q.text q.k true ((Itm.mk 0 [])) ((max (((((refAll words q.text q.k)).length : Nat) : Int)) 1))).1)) (b := (refAll words q.text q.k))  ((f37.sl).iv (Nat.zero_le _) (by omega)) ((f35.sl).iv (Nat.zero_le _) (by omega))) ?_)
          rintro _ w9 ⟨⟨b9, hb8, rfl⟩, hm9⟩
          have hl7 := f35.lt
          have hl8 := f36.lt
          have hl9 := f37.lt
          have f38 := f29.ext hm9
          have f39 := f30.ext hm9
          have f40 := f31.ext hm9
          have f41 := f32.ext hm9
          have f42 := f33.ext hm9
          have f43 := f34.ext hm9
          have f44 := f35.ext hm9
          have f45 := f36.ext hm9
          have f46 := f37.ext hm9
          have hE9 := hE8.ext hm9
          have hs9 := hm9.size
          obtain rfl : b9 = true := hb8.trans (by exact decide_eq_true (by rw [ends_all hg0 hmq.1 hmq.2.1 (by omega)]))
          refine OL.q (Q1.not rfl) rfl rfl ?_
          refine OL.q (Q1.pick_f rfl rfl) rfl rfl ?_
          refine OL.nil ?_
          refine r_cond_f rfl ?_
          refine r_skip ?_
          refine r_seq ?_
          refine r_seq ?_
          refine r_region ?_
          refine OL.q (Q1.move rfl) rfl rfl ?_
          refine OL.q (Q1.lenSl Try.underlying31 (f44.sl) rfl) rfl rfl ?_
          refine OL.qb (Q1.eq rfl rfl) rfl rfl ?_
          intro b10 hb9
          refine OL.nil ?_
          cases b10 with
          | true =>
            replace hb9 := eq_of_beq hb9.symm
            refine r_cond_t rfl ?_
            refine r_seq ?_
            refine r_region ?_
            refine OL.act rfl rfl (AW.callF cl13 rfl (awake11_c (w0 := w9)   ) ?_)
            rintro _ w10 ⟨⟨_, rfl, rfl⟩, hm10⟩
            have hl10 := f44.lt
            have hl11 := f45.lt
            have hl12 := f46.lt
            have f47 := f38.ext hm10
            have f48 := f39.ext hm10
            have f49 := f40.ext hm10
            have f50 := f41.ext hm10
            have f51 := f42.ext hm10
            have f52 := f43.ext hm10
            have f53 := f44.ext hm10
            have f54 := f45.ext hm10
            have f55 := f46.ext hm10
            have hE10 := hE9.ext hm10
            have hs10 := hm10.size
            refine OL.q (Q1.assign rfl) rfl rfl ?_
            refine OL.nil ?_
            refine r_ret1 Try.func9 rfl rfl ?_
            exact Ret.mk ⟨⟨_, (by rfl), rfl⟩, hE10⟩
          | false =>
            replace hb9 := ne_of_beq_false hb9.symm
            refine r_cond_f rfl ?_
            refine r_skip ?_
            refine r_seq ?_
            refine r_draw1 (fun i => Nat.beq i 11) 17 (fun w' => Mod (Mg 0) w9 w') mixed (by kernel_rfl) ?_
            intro w10 hm10
            have hl10 := f44.lt
            have hl11 := f45.lt
            have hl12 := f46.lt
            have f47 := f38.ext hm10
            have f48 := f39.ext hm10
            have f49 := f40.ext hm10
            have f50 := f41.ext hm10
            have f51 := f42.ext hm10
            have f52 := f43.ext hm10
            have f53 := f44.ext hm10
            have f54 := f45.ext hm10
            have f55 := f46.ext hm10
            have hE10 := hE9.ext hm10
            have hs10 := hm10.size
            have hCw10 : Mod (Mg 0) w9 w10 := Mod.ofExt hm10
            refine ⟨hCw10, ?_⟩
            rw [show List.range' 0 (Array.size _) = [0, 1, 2, 3, 4, 5, 6, 7, 8, 9, 10, 11, 12, 13, 14, 15, 16] from rfl]
            refine OD.q rfl rfl (Q1.move rfl) rfl rfl ?_
            refine OD.q rfl rfl (Q1.fieldAddr fl39_0 rfl) rfl rfl ?_
            refine OD.q rfl rfl (Q1.load1 ti9 rfl (fun _ hc => (f39.cell 0 _ rfl).keepG hc (by omega))) rfl rfl ?_
            refine OD.q rfl rfl (Q1.fieldAddr fl39_1 rfl) rfl rfl ?_
            refine OD.q rfl rfl (Q1.load1 ti3 rfl (fun _ hc => (f39.cell 1 _ rfl).keepG hc (by omega))) rfl rfl ?_
            refine OD.q rfl rfl (Q1.move rfl) rfl rfl ?_
            refine OD.q rfl rfl (Q1.move rfl) rfl rfl ?_
            refine OD.q rfl rfl (Q1.lenSl Try.underlying31 (f53.sl) rfl) rfl rfl ?_
            refine OD.q rfl rfl (Q1.subI ((((((refAll words q.text q.k)).length : Nat) : Int) - 1)) rfl rfl (by omega)) rfl rfl ?_
            obtain ⟨x1, b11, o1, hx1, hr1, hl13, hu1, hw1⟩ := Sl.at' (P := Try.prog) f44.sl Try.underlying31 ti24 encItm_len (k := .i64) (n := (((((refAll words q.text q.k)).length : Nat) : Int) - 1)) ((((refAll words q.text q.k)).length - 1)) (by omega) (by first | assumption | omega)
            refine OD.q rfl rfl (Q1.indexAddr rfl rfl hr1) rfl rfl ?_
            refine OD.q rfl rfl (Q1.loadN ti24 rfl (fun _ hc => hw1.keepG hc (by omega)) rfl) rfl rfl ?_
            have hxI := hRI _ (List.mem_of_getElem? hx1)
            refine OD.act rfl rfl rfl rfl (AW.callF cl15 rfl (wnext_c (w0 := w10) (after := x1) q.text (q.k) false (3) f49 (by omega) (by first | omega | assumption) (by first | omega | assumption) (by first | assumption) (by first | assumption | omega | (simp; done)) (by first | assumption | omega) (by first | assumption | exact hxI.1 | decide | (show I64 (0 : Int); decide)) (by first | (simp; done) | exact Nat.le_trans hxI.2 (by decide) | (have := hxI.2; omega))) ?_)
            rintro _ w11 ⟨v4, _, rfl, ⟨gr4, h4, hg4⟩, ⟨b12, hb10, rfl⟩, hm11⟩
            have hl14 := f53.lt
            have hl15 := f54.lt
            have hl16 := f55.lt
            have f56 := f47.ext hm11
            have f57 := f48.ext hm11
            have f58 := f49.ext hm11
            have f59 := f50.ext hm11
            have f60 := f51.ext hm11
            have f61 := f52.ext hm11
            have f62 := f53.ext hm11
            have f63 := f54.ext hm11
            have f64 := f55.ext hm11
            have hE11 := hE10.ext hm11
            have hs11 := hm11.size
            have hCw11 := hCw10.ext hm11
            refine ⟨.inr hCw11, ?_⟩
            have hle_4 := h4.le
            have hlt_4 := h4.lt
            have := nextA_lenE ((Ml.gnodes words)) words q.text q.k false x1 3
            refine OD.q rfl rfl (Q1.move rfl) rfl rfl ?_
            refine OD.q rfl rfl (Q1.extract rfl rfl) rfl rfl ?_
            refine OD.q rfl rfl (Q1.extract rfl rfl) rfl rfl ?_
            obtain rfl : b12 = true := hb10.trans (by rw [ends_last hg0 hmq.1 hmq.2.1 (by omega) hx1])
            refine OD.q rfl rfl (Q1.assign rfl) rfl rfl ?_
            refine OD.q rfl rfl (Q1.assign rfl) rfl rfl ?_
            refine OD.nil ?_
            refine r_seq ?_
            refine r_region ?_
            refine OL.q (Q1.move rfl) rfl rfl ?_
            refine OL.q (Q1.fieldAddr fl39_0 rfl) rfl rfl ?_
            refine OL.q (Q1.load1 ti9 rfl (fun _ e => e ▸ (f57.cell 0 _ rfl))) rfl rfl ?_
            refine OL.q (Q1.fieldAddr fl39_1 rfl) rfl rfl ?_
            refine OL.q (Q1.load1 ti3 rfl (fun _ e => e ▸ (f57.cell 1 _ rfl))) rfl rfl ?_
            refine OL.q (Q1.build (vs := #[]) (v := .agg #[.int .i64 0, strV []]) rfl (fun _ => by kernel_rfl)) rfl rfl ?_
            refine OL.q (Q1.move rfl) rfl rfl ?_
            refine OL.q (Q1.lenSl Try.underlying31 (f62.sl) rfl) rfl rfl ?_
            refine OL.q (Q1.subI ((((((refAll words q.text q.k)).length : Nat) : Int) - 1)) rfl rfl (by omega)) rfl rfl ?_
            refine OL.act rfl rfl (AW.callF cl15 rfl (wnext_c (w0 := w11) (after := (Itm.mk 0 [])) q.text (q.k) true ((((((refAll words q.text q.k)).length : Nat) : Int) - 1)) f58 (by omega) (by first | omega | assumption) (by first | omega | assumption) (by first | assumption) (by first | assumption | omega | (simp; done)) (by first | assumption | omega) (by first | assumption | exact hxI.1 | decide | (show I64 (0 : Int); decide)) (by first | (simp; done) | exact Nat.le_trans hxI.2 (by decide) | (have := hxI.2; omega))) ?_)
            rintro _ w12 ⟨v5, _, rfl, ⟨gr5, h5, hg5⟩, ⟨b13, hb11, rfl⟩, hm12⟩
            have hl17 := f62.lt
            have hl18 := f63.lt
            have hl19 := f64.lt
            have hl20 := h4.lt
            have f65 := f56.ext hm12
            have f66 := f57.ext hm12
            have f67 := f58.ext hm12
            have f68 := f59.ext hm12
            have f69 := f60.ext hm12
            have f70 := f61.ext hm12
            have f71 := f62.ext hm12
            have f72 := f63.ext hm12
            have f73 := f64.ext hm12
            have f74 := h4.ext hm12
            have hE12 := hE11.ext hm12
            have hs12 := hm12.size
            have hle_5 := h5.le
            have hlt_5 := h5.lt
            have := nextA_lenE ((Ml.gnodes words)) words q.text q.k true ((Itm.mk 0 [])) ((((((refAll words q.text q.k)).length : Nat) : Int) - 1))
            refine OL.q (Q1.move rfl) rfl rfl ?_
            refine OL.q (Q1.extract rfl rfl) rfl rfl ?_
            refine OL.q (Q1.extract rfl rfl) rfl rfl ?_
            obtain rfl : b13 = false := hb11.trans (by rw [ends_less hg0 hmq.1 hmq.2.1 (by omega) (by omega)])
            refine OL.q (Q1.assign rfl) rfl rfl ?_
            refine OL.q (Q1.assign rfl) rfl rfl ?_
            refine OL.nil ?_
            refine r_seq ?_
            refine r_region ?_
            refine OL.q (Q1.move rfl) rfl rfl ?_
            refine OL.q (Q1.lenSl Try.underlying31 (f74.sl) rfl) rfl rfl ?_
            refine OL.qb (Q1.eq rfl rfl) rfl rfl ?_
            intro b14 hb12
            obtain rfl : b14 = true := hb12.trans (by exact beq_iff_eq.2 (by rw [ends_last hg0 hmq.1 hmq.2.1 (by omega) hx1]; rfl))
            refine OL.q (Q1.move rfl) rfl rfl ?_
            refine OL.q (Q1.move rfl) rfl rfl ?_
            refine OL.q (Q1.pick_t rfl rfl) rfl rfl ?_
            refine OL.q (Q1.move rfl) rfl rfl ?_
            refine OL.q (Q1.move rfl) rfl rfl ?_
            refine OL.q (Q1.move rfl) rfl rfl ?_
            refine OL.q (Q1.move rfl) rfl rfl ?_
            refine OL.q (Q1.lenSl Try.underlying31 (f71.sl) rfl) rfl rfl ?_
            refine OL.q (Q1.subI ((((((refAll words q.text q.k)).length : Nat) : Int) - 1)) rfl rfl (by omega)) rfl rfl ?_
            obtain ⟨v6, hr2, hl21⟩ := Sl.part (P := Try.prog) f71.sl Try.underlying31 ti24 encItm_len (0) ((((refAll words q.text q.k)).length - 1)) (.inl ⟨rfl, rfl⟩) (.inr ⟨.i64, (((((refAll words q.text q.k)).length : Nat) : Int) - 1), rfl, by omega⟩) (by omega) (by first | assumption | omega)
            refine OL.q (Q1.sliceV rfl rfl rfl rfl hr2) rfl rfl ?_
            replace hl21 : Sl encItm w12 (Iv ((gr1 - 1)) gr1) v6 (((refAll words q.text q.k)).take ((((refAll words q.text q.k)).length - 1))) := by simpa using hl21
            refine OL.act rfl rfl (AW.callF cl17 rfl (sameIt_c (w0 := w12) (a := ((nextA ((Ml.gnodes words)) words q.text q.k true ((Itm.mk 0 [])) ((((((refAll words q.text q.k)).length : Nat) : Int) - 1))).1)) (b := (((refAll words q.text q.k)).take ((((refAll words q.text q.k)).length - 1))))  ((h5.sl).iv (Nat.zero_le _) (by omega)) ((hl21).iv (Nat.zero_le _) (by omega))) ?_)
            rintro _ w13 ⟨⟨b15, hb13, rfl⟩, hm13⟩
            have hl22 := f71.lt
            have hl23 := f72.lt
            have hl24 := f73.lt
            have hl25 := f74.lt
            have hl26 := h5.lt
            have f75 := f65.ext hm13
            have f76 := f66.ext hm13
            have f77 := f67.ext hm13
            have f78 := f68.ext hm13
            have f79 := f69.ext hm13
            have f80 := f70.ext hm13
            have f81 := f71.ext hm13
            have f82 := f72.ext hm13
            have f83 := f73.ext hm13
            have f84 := f74.ext hm13
            have f85 := h5.ext hm13
            have f86 := hl21.ext hm13
            have hE13 := hE12.ext hm13
            have hs13 := hm13.size
            obtain rfl : b15 = true := hb13.trans (by exact decide_eq_true (by rw [ends_less hg0 hmq.1 hmq.2.1 (by omega) (by omega)]))
            refine OL.q (Q1.pick_t rfl rfl) rfl rfl ?_
            refine OL.q (Q1.move rfl) rfl rfl ?_
            refine OL.q (Q1.move rfl) rfl rfl ?_
            refine OL.q (Q1.not rfl) rfl rfl ?_
            refine OL.q (Q1.pick_t rfl rfl) rfl rfl ?_
            refine OL.q (Q1.move rfl) rfl rfl ?_
            refine OL.act rfl rfl (AW.callF cl13 rfl (awake11_c (w0 := w13)   ) ?_)
            rintro _ w14 ⟨⟨_, rfl, rfl⟩, hm14⟩
            have hl27 := f81.lt
            have hl28 := f82.lt
            have hl29 := f83.lt
            have hl30 := f84.lt
            have hl31 := f85.lt
            have f87 := f75.ext hm14
            have f88 := f76.ext hm14
            have f89 := f77.ext hm14
            have f90 := f78.ext hm14
            have f91 := f79.ext hm14
            have f92 := f80.ext hm14
            have f93 := f81.ext hm14
            have f94 := f82.ext hm14
            have f95 := f83.ext hm14
            have f96 := f84.ext hm14
            have f97 := f85.ext hm14
            have f98 := f86.ext hm14
            have hE14 := hE13.ext hm14
            have hs14 := hm14.size
            refine OL.q (Q1.pick_t rfl rfl) rfl rfl ?_
            refine OL.q (Q1.assign rfl) rfl rfl ?_
            refine OL.nil ?_
            refine r_ret1 Try.func9 rfl rfl ?_
            exact Ret.mk ⟨⟨_, (by rfl), rfl⟩, hE14⟩
    | false =>
      replace hb3 := hb3.symm
      refine OL.q (Q1.not rfl) rfl rfl ?_
      refine OL.q (Q1.pick_f rfl rfl) rfl rfl ?_
      refine OL.nil ?_
      refine r_cond_t rfl ?_
      refine r_seq ?_
      refine r_region ?_
      refine OL.act rfl rfl (AW.callF cl13 rfl (awake11_c (w0 := w3)   ) ?_)
      rintro _ w4 ⟨⟨_, rfl, rfl⟩, hm4⟩
      have f6 := f4.ext hm4
      have f7 := f5.ext hm4
      have hE4 := hE3.ext hm4
      have hs4 := hm4.size
      refine OL.q (Q1.assign rfl) rfl rfl ?_
      refine OL.nil ?_
      refine r_ret1 Try.func9 rfl rfl ?_
      exact Ret.mk ⟨⟨_, (by rfl), rfl⟩, hE4⟩
end Go.Proofs
