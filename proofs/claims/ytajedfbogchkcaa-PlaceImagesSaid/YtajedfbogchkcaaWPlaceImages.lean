/-
  The walk through the law PlaceImages.
-/
import Derived.Test.YtajedfbogchkcaaWImage
import Derived.Test.YtajedfbogchkcaaWEach
import Derived.Test.YtajedfbogchkcaaWAwakeP
set_option linter.unusedVariables false
set_option linter.unusedSimpArgs false
namespace Go.Proofs
open Go.Ik Go.Ml
set_option maxRecDepth 20000 in
set_option maxHeartbeats 4000000 in
theorem PlaceImages_c {w0 : World}  {c : Cfg} {v_c_words : Value} {v_c_cuts : Value} (h_c_words : Sl encS w0 (Iv 0 w0.heap.size) v_c_words c.words) (h_c_cuts : Sl encKey w0 (Iv 0 w0.heap.size) v_c_cuts c.cuts) (h_c : Cfg.Ok c) :
    Calls Try.prog 9 #[.agg #[v_c_words, v_c_cuts, .int .i64 c.workers, .int .i64 c.copies, .int .i64 c.slots, .int .i64 c.batch, .int .i64 c.lease, .int .i64 c.hedge, .int .i64 c.first, .int .i64 c.cap, .int .i64 c.jitter, .int .i64 c.net]] w0 (Ret fun rv w1 => (∃ rb : Bool, rb = true ∧ rv = .bool rb) ∧ Ext w0 w1) := by
  have hE0 : Ext w0 w0 := Mod.refl _ _
  have hle1 := h_c_words.le
  have hle2 := h_c_cuts.le
  refine calls_enter Try.func9 rfl Try.ntmps9 rfl ?_
  refine r_seq ?_
  refine r_region ?_
  refine OL.act rfl rfl (AW.box [v_c_words, v_c_cuts, .int .i64 c.workers, .int .i64 c.copies, .int .i64 c.slots, .int .i64 c.batch, .int .i64 c.lease, .int .i64 c.hedge, .int .i64 c.first, .int .i64 c.cap, .int .i64 c.jitter, .int .i64 c.net] rfl rfl ?_)
  intro w1 b1 hm1 hb1 hz1 hk1
  have f1 := h_c_words.ext hm1
  have f2 := h_c_cuts.ext hm1
  have hE1 := hE0.ext hm1
  have hs1 := hm1.size
  refine OL.q (Q1.assign rfl) rfl rfl ?_
  refine OL.nil ?_
  refine r_seq ?_
  refine r_seq ?_
  refine r_region ?_
  refine OL.q (Q1.loadN ti53 rfl (fun _ e => e ▸ hk1.row) rfl) rfl rfl ?_
  refine OL.act rfl rfl (AW.callF cl32 rfl (greatC_c (w0 := w1) (c := c)  ((f1).iv (Nat.zero_le _) (by omega)) ((f2).iv (Nat.zero_le _) (by omega)) (by first | assumption | exact Ml.Cfg.ok_of (by decide +kernel))) ?_)
  rintro _ w2 ⟨⟨b2, hb2, rfl⟩, hm2⟩
  have f3 := f1.ext hm2
  have f4 := f2.ext hm2
  have f5 := hk1.ext hm2
  have hE2 := hE1.ext hm2
  have hs2 := hm2.size
  refine OL.q (Q1.move rfl) rfl rfl ?_
  cases b2 with
  | true =>
    replace hb2 := hb2.symm
    refine OL.sk rfl rfl ?_
    refine OL.sk rfl rfl ?_
    refine OL.sk rfl rfl ?_
    refine OL.q (Q1.pick_t rfl rfl) rfl rfl ?_
    refine OL.nil ?_
    refine r_cond_t rfl ?_
    refine r_seq ?_
    refine r_region ?_
    refine OL.act rfl rfl (AW.callF cl33 rfl (awake13_c (w0 := w2)   ) ?_)
    rintro _ w3 ⟨⟨_, rfl, rfl⟩, hm3⟩
    have f6 := f3.ext hm3
    have f7 := f4.ext hm3
    have f8 := f5.ext hm3
    have hE3 := hE2.ext hm3
    have hs3 := hm3.size
    refine OL.q (Q1.assign rfl) rfl rfl ?_
    refine OL.nil ?_
    refine r_ret1 Try.func9 rfl rfl ?_
    exact Ret.mk ⟨⟨_, (by rfl), rfl⟩, hE3⟩
  | false =>
    replace hb2 := hb2.symm
    refine OL.q (Q1.loadN ti53 rfl (fun _ e => e ▸ f5.row) rfl) rfl rfl ?_
    refine OL.act rfl rfl (AW.callF cl39 rfl (may_c (w0 := w2) (c := c)  ((f3).iv (Nat.zero_le _) (by omega)) ((f4).iv (Nat.zero_le _) (by omega)) (by first | assumption | exact Ml.Cfg.ok_of (by decide +kernel))) ?_)
    rintro _ w3 ⟨⟨b3, hb3, rfl⟩, hm3⟩
    have f6 := f3.ext hm3
    have f7 := f4.ext hm3
    have f8 := f5.ext hm3
    have hE3 := hE2.ext hm3
    have hs3 := hm3.size
    cases b3 with
    | true =>
      replace hb3 := hb3.symm
      have := Ml.may_bounds hb3
      refine OL.q (Q1.not rfl) rfl rfl ?_
      refine OL.q (Q1.pick_f rfl rfl) rfl rfl ?_
      refine OL.nil ?_
      refine r_cond_f rfl ?_
      refine r_skip ?_
      refine r_seq ?_
      refine r_region ?_
      refine OL.q (Q1.assign rfl) rfl rfl ?_
      have hcs := CfgS.of (by assumption : Ml.greatC c = false)
      have hwl := hcs.wl
      have hcl := hcs.cl
      have hmay : Ml.may c = true := by assumption
      refine OL.nil ?_
      refine r_seq ?_
      refine r_seq ?_
      refine r_region ?_
      refine OL.q (Q1.assign rfl) rfl rfl ?_
      refine OL.nil ?_
      refine r_block ?_
      refine r_loop (I := fun m E W => ∃ (n : Nat) (s : Nat), E = [(1, ptr b1 0), (3, .int .i64 (((n : Nat) : Int))), (4, .int .i64 (((s : Nat) : Int)))] ∧ m = Ml.shards c - s ∧ Ext w0 W ∧ w3.heap.size ≤ W.heap.size ∧ Bk W b1 [v_c_words, v_c_cuts, .int .i64 c.workers, .int .i64 c.copies, .int .i64 c.slots, .int .i64 c.batch, .int .i64 c.lease, .int .i64 c.hedge, .int .i64 c.first, .int .i64 c.cap, .int .i64 c.jitter, .int .i64 c.net] 53 ∧ Sl encS W (Iv 0 w0.heap.size) v_c_words c.words ∧ Sl encKey W (Iv 0 w0.heap.size) v_c_cuts c.cuts ∧ (n = cntS c s) ∧ (s ≤ Ml.shards c) ∧ (n ≤ 80 * s)) ?_ ?_
      · refine ⟨_, _, ⟨(0 : Nat), (0 : Nat), rfl, rfl, hE3, Nat.le_refl _, f8, f6, f7, (by rfl), (by exact Nat.zero_le _), (by omega)⟩, ⟨rfl, rfl, rfl, trivial⟩⟩
      · rintro _ _ w4 ⟨n, s, rfl, rfl, hE4, hs4, f9, f10, f11, hn, hsl, hnn⟩ ih1
        have hsh := Ml.shards_le c
        refine r_seq ?_
        refine r_seq ?_
        refine r_region ?_
        refine OL.q (Q1.move rfl) rfl rfl ?_
        refine OL.q (Q1.loadN ti53 rfl (fun _ e => e ▸ f9.row) rfl) rfl rfl ?_
        refine OL.act rfl rfl (AW.callF cl41 rfl (shards_c (w0 := w4) (c := c)  ((f10).iv (Nat.zero_le _) (by omega)) ((f11).iv (Nat.zero_le _) (by omega)) (by first | assumption | exact Ml.Cfg.ok_of (by decide +kernel))) ?_)
        rintro _ w5 ⟨rfl, hm4⟩
        have f12 := f9.ext hm4
        have f13 := f10.ext hm4
        have f14 := f11.ext hm4
        have hE5 := hE4.ext hm4
        have hs5 := hm4.size
        have := Ml.shards_le c
        refine OL.qb (Q1.lt rfl rfl) rfl rfl ?_
        intro b4 hb4
        refine OL.nil ?_
        cases b4 with
        | true =>
          replace hb4 := of_decide_eq_true hb4.symm
          refine r_cond_t rfl ?_
          refine r_skip ?_
          refine r_seq ?_
          refine r_block ?_
          refine r_seq ?_
          refine r_region ?_
          refine OL.q (Q1.loadN ti53 rfl (fun _ e => e ▸ f12.row) rfl) rfl rfl ?_
          obtain ⟨hsi1, hsi2⟩ := shard_img hmay (s := (s : Int)) (by omega) (by omega)
          have hg0 := shard_good hmay (s : Int)
          have hgok := gok_of hg0
          obtain ⟨hI, hgl, hel⟩ := hgok.edges
          have hwsl := shard_words_le (c := c) (s : Int)
          refine OL.q (Q1.move rfl) rfl rfl ?_
          refine OL.act rfl rfl (AW.callF cl37 rfl (pimage_c (w0 := w5) (c := c) (((s : Nat) : Int)) ((f13).iv (Nat.zero_le _) (by omega)) ((f14).iv (Nat.zero_le _) (by omega)) (by first | assumption | exact Ml.Cfg.ok_of (by decide +kernel)) (by first | omega | assumption) (by first | assumption | omega)) ?_)
          rintro _ w6 ⟨v1, _, rfl, ⟨gr1, h1, hg1⟩, rfl, hm5⟩
          have f15 := f12.ext hm5
          have f16 := f13.ext hm5
          have f17 := f14.ext hm5
          have hE6 := hE5.ext hm5
          have hs6 := hm5.size
          have hle_1 := h1.le
          have hlt_1 := h1.lt
          have := imgC_len c (((s : Nat) : Int))
          have := errC_rng c (((s : Nat) : Int))
          refine OL.q (Q1.move rfl) rfl rfl ?_
          refine OL.q (Q1.extract rfl rfl) rfl rfl ?_
          refine OL.q (Q1.extract rfl rfl) rfl rfl ?_
          refine OL.q (Q1.assign rfl) rfl rfl ?_
          refine OL.q (Q1.assign rfl) rfl rfl ?_
          refine OL.nil ?_
          refine r_seq ?_
          refine r_region ?_
          refine OL.q (Q1.move rfl) rfl rfl ?_
          refine OL.act rfl rfl (AW.callF cl22 rfl (decode_c (w0 := w6) (b := (imgC c (((s : Nat) : Int))))  ((h1.sl).iv (Nat.zero_le _) (by omega)) (by first | assumption | omega)) ?_)
          rintro _ w7 ⟨vg1, _, rfl, ⟨lo1, hi1, hgr_1, hlo1, hhi1⟩, rfl, hm6⟩
          have hl1 := h1.lt
          have f18 := f15.ext hm6
          have f19 := f16.ext hm6
          have f20 := f17.ext hm6
          have f21 := h1.ext hm6
          have hE7 := hE6.ext hm6
          have hs7 := hm6.size
          refine OL.q (Q1.move rfl) rfl rfl ?_
          refine OL.q (Q1.extract rfl rfl) rfl rfl ?_
          refine OL.q (Q1.extract rfl rfl) rfl rfl ?_
          refine OL.q (Q1.assign rfl) rfl rfl ?_
          refine OL.q (Q1.assign rfl) rfl rfl ?_
          rw [hsi1, dec_img hg0] at hgr_1
          try dsimp only at hgr_1
          refine OL.nil ?_
          refine r_seq ?_
          refine r_seq ?_
          refine r_draw1 (fun i => Nat.beq i 12 || Nat.beq i 15 || Nat.beq i 16) 19 (fun w' => Mod (Mg 0) w7 w') mixed (by kernel_rfl) ?_
          intro w8 hm7
          have hl2 := f21.lt
          have f22 := f18.ext hm7
          have f23 := f19.ext hm7
          have f24 := f20.ext hm7
          have f25 := f21.ext hm7
          have f26 := hgr_1.ext hm7
          have hE8 := hE7.ext hm7
          have hs8 := hm7.size
          have hCw8 : Mod (Mg 0) w7 w8 := Mod.ofExt hm7
          refine ⟨hCw8, ?_⟩
          rw [show List.range' 0 (Array.size _) = [0, 1, 2, 3, 4, 5, 6, 7, 8, 9, 10, 11, 12, 13, 14, 15, 16, 17, 18] from rfl]
          refine OD.q rfl rfl (Q1.move rfl) rfl rfl ?_
          refine OD.qb rfl rfl (Q1.ne rfl rfl) rfl rfl ?_
          intro b5 hb5
          obtain rfl : b5 = false := hb5.trans (by exact bne_eq_false_iff_eq.2 hsi2)
          refine OD.q rfl rfl (Q1.move rfl) rfl rfl ?_
          refine OD.q rfl rfl (Q1.move rfl) rfl rfl ?_
          refine OD.qb rfl rfl (Q1.ne rfl rfl) rfl rfl ?_
          intro b6 hb6
          obtain rfl : b6 = false := hb6.trans (by exact bne_eq_false_iff_eq.2 (by rw [hsi1, dec_img hg0]))
          refine OD.q rfl rfl (Q1.pick_f rfl rfl) rfl rfl ?_
          refine OD.q rfl rfl (Q1.move rfl) rfl rfl ?_
          refine OD.q rfl rfl (Q1.move rfl) rfl rfl ?_
          have hgr1 := f26
          rcases f26 with ⟨hv1, hN1⟩ | ⟨b7, vn1, nds1, hv1, hN1, hrw1, hsl1, hrel1⟩
          · exact absurd hN1 (by exact gnodes_nn hg0)
          · subst hv1
            have hnl1 := (All2.get hrel1).1
            refine OD.q rfl rfl (Q1.eqNil Try.underlying33 rfl rfl) rfl rfl ?_
            refine OD.q rfl rfl (Q1.pick_f rfl rfl) rfl rfl ?_
            refine OD.q rfl rfl (Q1.move rfl) rfl rfl ?_
            refine OD.q rfl rfl (Q1.move rfl) rfl rfl ?_
            refine OD.act rfl rfl rfl rfl (AW.callF cl28 rfl (words_c (w0 := w8)  hgr1 (by omega) (by assumption) (by first | omega | (simp; done))) ?_)
            rintro v2 w9 ⟨⟨gr2, h2, hg2⟩, hm8⟩
            have hl3 := f25.lt
            have f27 := f22.ext hm8
            have f28 := f23.ext hm8
            have f29 := f24.ext hm8
            have f30 := f25.ext hm8
            have f31 := hgr1.ext hm8
            have f32 := hrel1.ext hm8
            have f33 := hsl1.ext hm8
            have f34 := hrw1.ext hm8
            have hE9 := hE8.ext hm8
            have hs9 := hm8.size
            have hCw9 := hCw8.ext hm8
            refine ⟨.inr hCw9, ?_⟩
            have hle_2 := h2.le
            have hlt_2 := h2.lt
            refine OD.q rfl rfl (Q1.loadN ti53 rfl (fun _ hc => f18.row.keepG hc (by omega)) rfl) rfl rfl ?_
            refine OD.q rfl rfl (Q1.move rfl) rfl rfl ?_
            refine OD.act rfl rfl rfl rfl (AW.callF cl36 rfl (pwords_c (w0 := w9) (c := c) (((s : Nat) : Int)) ((f28).iv (Nat.zero_le _) (by omega)) ((f29).iv (Nat.zero_le _) (by omega)) (by first | assumption | exact Ml.Cfg.ok_of (by decide +kernel)) (by first | omega | assumption) (by first | assumption | omega)) ?_)
            rintro v3 w10 ⟨⟨gr3, h3, hg3⟩, hm9⟩
            have hl4 := f30.lt
            have hl5 := h2.lt
            have f35 := f27.ext hm9
            have f36 := f28.ext hm9
            have f37 := f29.ext hm9
            have f38 := f30.ext hm9
            have f39 := f31.ext hm9
            have f40 := f32.ext hm9
            have f41 := f33.ext hm9
            have f42 := f34.ext hm9
            have f43 := h2.ext hm9
            have hE10 := hE9.ext hm9
            have hs10 := hm9.size
            have hCw10 := hCw9.ext hm9
            refine ⟨.inr hCw10, ?_⟩
            have hle_3 := h3.le
            have hlt_3 := h3.lt
            have := slice_len c.cuts c.words (((s : Nat) : Int))
            change (Ml.wordsM c (((s : Nat) : Int))).length ≤ _ at this
            refine OD.act rfl rfl rfl rfl (AW.callF cl27 rfl (sameT_c (w0 := w10) (a := (Ml.wordsM c (s : Int))) (b := (Ml.wordsM c (((s : Nat) : Int))))  ((f43.sl).iv (Nat.zero_le _) (by omega)) ((h3.sl).iv (Nat.zero_le _) (by omega))) ?_)
            rintro _ w11 ⟨⟨b8, hb7, rfl⟩, hm10⟩
            have hl6 := f38.lt
            have hl7 := f43.lt
            have hl8 := h3.lt
            have f44 := f35.ext hm10
            have f45 := f36.ext hm10
            have f46 := f37.ext hm10
            have f47 := f38.ext hm10
            have f48 := f39.ext hm10
            have f49 := f40.ext hm10
            have f50 := f41.ext hm10
            have f51 := f42.ext hm10
            have f52 := f43.ext hm10
            have f53 := h3.ext hm10
            have hE11 := hE10.ext hm10
            have hs11 := hm10.size
            have hCw11 := hCw10.ext hm10
            refine ⟨.inr hCw11, ?_⟩
            obtain rfl : b8 = true := hb7.trans (by exact decide_eq_true rfl)
            refine OD.q rfl rfl (Q1.not rfl) rfl rfl ?_
            refine OD.q rfl rfl (Q1.pick_f rfl rfl) rfl rfl ?_
            refine OD.nil ?_
            refine r_cond_f rfl ?_
            refine r_skip ?_
            refine r_region ?_
            refine OL.q (Q1.move rfl) rfl rfl ?_
            refine OL.q (Q1.loadN ti53 rfl (fun _ e => e ▸ f44.row) rfl) rfl rfl ?_
            refine OL.q (Q1.move rfl) rfl rfl ?_
            refine OL.act rfl rfl (AW.callF cl36 rfl (pwords_c (w0 := w11) (c := c) (((s : Nat) : Int)) ((f45).iv (Nat.zero_le _) (by omega)) ((f46).iv (Nat.zero_le _) (by omega)) (by first | assumption | exact Ml.Cfg.ok_of (by decide +kernel)) (by first | omega | assumption) (by first | assumption | omega)) ?_)
            rintro v4 w12 ⟨⟨gr4, h4, hg4⟩, hm11⟩
            have hl9 := f47.lt
            have hl10 := f52.lt
            have hl11 := f53.lt
            have f54 := f44.ext hm11
            have f55 := f45.ext hm11
            have f56 := f46.ext hm11
            have f57 := f47.ext hm11
            have f58 := f48.ext hm11
            have f59 := f49.ext hm11
            have f60 := f50.ext hm11
            have f61 := f51.ext hm11
            have f62 := f52.ext hm11
            have f63 := f53.ext hm11
            have hE12 := hE11.ext hm11
            have hs12 := hm11.size
            have hle_4 := h4.le
            have hlt_4 := h4.lt
            have := slice_len c.cuts c.words (((s : Nat) : Int))
            change (Ml.wordsM c (((s : Nat) : Int))).length ≤ _ at this
            refine OL.q (Q1.lenSl Try.underlying22 (h4.sl) rfl) rfl rfl ?_
            refine OL.q (Q1.addI (((n + (((Ml.wordsM c (((s : Nat) : Int)))).length) : Nat) : Int)) rfl rfl (by omega)) rfl rfl ?_
            refine OL.q (Q1.assign rfl) rfl rfl ?_
            refine OL.nil ?_
            refine r_inBlock ?_
            refine r_region ?_
            refine OL.q (Q1.move rfl) rfl rfl ?_
            refine OL.q (Q1.addI (((s + 1 : Nat) : Int)) rfl rfl (by omega)) rfl rfl ?_
            refine OL.q (Q1.assign rfl) rfl rfl ?_
            refine OL.nil ?_
            exact (ih1 _ _ _ ⟨(n + (((Ml.wordsM c (((s : Nat) : Int)))).length) : Nat), (s + 1 : Nat), rfl, rfl, hE12, (by omega), f54, f55, f56, (by first | (rw [hn, cntS_succ]) | (exfalso; omega)), (by first | omega | (exfalso; omega)), (by first | omega | (exfalso; omega))⟩ (by omega)).sub ⟨rfl, rfl, rfl, trivial⟩
        | false =>
          replace hb4 := of_decide_eq_false hb4.symm
          refine r_cond_f rfl ?_
          refine r_exit rfl ?_
          refine r_seq ?_
          refine r_draw1 (fun i => Nat.beq i 2 || Nat.beq i 3) 9 (fun w' => Mod (Mg 0) w5 w') mixed (by kernel_rfl) ?_
          intro w6 hm5
          have f15 := f12.ext hm5
          have f16 := f13.ext hm5
          have f17 := f14.ext hm5
          have hE6 := hE5.ext hm5
          have hs6 := hm5.size
          have hCw6 : Mod (Mg 0) w5 w6 := Mod.ofExt hm5
          refine ⟨hCw6, ?_⟩
          rw [show List.range' 0 (Array.size _) = [0, 1, 2, 3, 4, 5, 6, 7, 8] from rfl]
          refine OD.q rfl rfl (Q1.loadN ti53 rfl (fun _ hc => f12.row.keepG hc (by omega)) rfl) rfl rfl ?_
          have hca := cntS_all hmay
          have hse : s = Ml.shards c := by omega
          have hnq : n = c.words.length := by rw [hn, hse]; exact hca
          refine OD.q rfl rfl (Q1.loadN ti53 rfl (fun _ hc => f12.row.keepG hc (by omega)) rfl) rfl rfl ?_
          refine OD.act rfl rfl rfl rfl (AW.callF cl41 rfl (shards_c (w0 := w6) (c := c)  ((f16).iv (Nat.zero_le _) (by omega)) ((f17).iv (Nat.zero_le _) (by omega)) (by first | assumption | exact Ml.Cfg.ok_of (by decide +kernel))) ?_)
          rintro _ w7 ⟨rfl, hm6⟩
          have f18 := f15.ext hm6
          have f19 := f16.ext hm6
          have f20 := f17.ext hm6
          have hE7 := hE6.ext hm6
          have hs7 := hm6.size
          have hCw7 := hCw6.ext hm6
          refine ⟨.inr hCw7, ?_⟩
          have := Ml.shards_le c
          refine OD.act rfl rfl rfl rfl (AW.callF cl37 rfl (pimage_c (w0 := w7) (c := c) ((((Ml.shards c : Nat) : Int))) ((f19).iv (Nat.zero_le _) (by omega)) ((f20).iv (Nat.zero_le _) (by omega)) (by first | assumption | exact Ml.Cfg.ok_of (by decide +kernel)) (by first | omega | assumption) (by first | assumption | omega)) ?_)
          rintro _ w8 ⟨v1, _, rfl, ⟨gr1, h1, hg1⟩, rfl, hm7⟩
          have f21 := f18.ext hm7
          have f22 := f19.ext hm7
          have f23 := f20.ext hm7
          have hE8 := hE7.ext hm7
          have hs8 := hm7.size
          have hCw8 := hCw7.ext hm7
          refine ⟨.inr hCw8, ?_⟩
          have hle_1 := h1.le
          have hlt_1 := h1.lt
          have := imgC_len c ((((Ml.shards c : Nat) : Int)))
          have := errC_rng c ((((Ml.shards c : Nat) : Int)))
          refine OD.q rfl rfl (Q1.move rfl) rfl rfl ?_
          refine OD.q rfl rfl (Q1.extract rfl rfl) rfl rfl ?_
          refine OD.q rfl rfl (Q1.extract rfl rfl) rfl rfl ?_
          refine OD.q rfl rfl (Q1.assign rfl) rfl rfl ?_
          refine OD.q rfl rfl (Q1.assign rfl) rfl rfl ?_
          refine OD.nil ?_
          refine r_seq ?_
          refine r_region ?_
          refine OL.q (Q1.move rfl) rfl rfl ?_
          refine OL.q (Q1.fieldAddr fl53_0 rfl) rfl rfl ?_
          refine OL.q (Q1.load1 ti22 rfl (fun _ e => e ▸ (f21.cell 0 _ rfl))) rfl rfl ?_
          refine OL.q (Q1.lenSl Try.underlying22 (f22) rfl) rfl rfl ?_
          refine OL.qb (Q1.eq rfl rfl) rfl rfl ?_
          intro b5 hb5
          obtain rfl : b5 = true := hb5.trans (by exact beq_iff_eq.2 (by omega))
          refine OL.q (Q1.move rfl) rfl rfl ?_
          refine OL.q (Q1.move rfl) rfl rfl ?_
          refine OL.qb (Q1.eq rfl rfl) rfl rfl ?_
          intro b6 hb6
          obtain rfl : b6 = true := hb6.trans (by exact beq_iff_eq.2 ((imgC_no (by omega)).2.symm))
          refine OL.q (Q1.pick_t rfl rfl) rfl rfl ?_
          refine OL.q (Q1.move rfl) rfl rfl ?_
          refine OL.act rfl rfl (AW.callF cl33 rfl (awake13_c (w0 := w8)   ) ?_)
          rintro _ w9 ⟨⟨_, rfl, rfl⟩, hm8⟩
          have hl1 := h1.lt
          have f24 := f21.ext hm8
          have f25 := f22.ext hm8
          have f26 := f23.ext hm8
          have f27 := h1.ext hm8
          have hE9 := hE8.ext hm8
          have hs9 := hm8.size
          refine OL.q (Q1.pick_t rfl rfl) rfl rfl ?_
          refine OL.q (Q1.assign rfl) rfl rfl ?_
          refine OL.nil ?_
          refine r_ret1 Try.func9 rfl rfl ?_
          exact Ret.mk ⟨⟨_, (by rfl), rfl⟩, hE9⟩
    | false =>
      replace hb3 := hb3.symm
      refine OL.q (Q1.not rfl) rfl rfl ?_
      refine OL.q (Q1.pick_f rfl rfl) rfl rfl ?_
      refine OL.nil ?_
      refine r_cond_t rfl ?_
      refine r_seq ?_
      refine r_region ?_
      refine OL.act rfl rfl (AW.callF cl33 rfl (awake13_c (w0 := w3)   ) ?_)
      rintro _ w4 ⟨⟨_, rfl, rfl⟩, hm4⟩
      have f9 := f6.ext hm4
      have f10 := f7.ext hm4
      have f11 := f8.ext hm4
      have hE4 := hE3.ext hm4
      have hs4 := hm4.size
      refine OL.q (Q1.assign rfl) rfl rfl ?_
      refine OL.nil ?_
      refine r_ret1 Try.func9 rfl rfl ?_
      exact Ret.mk ⟨⟨_, (by rfl), rfl⟩, hE4⟩
end Go.Proofs
