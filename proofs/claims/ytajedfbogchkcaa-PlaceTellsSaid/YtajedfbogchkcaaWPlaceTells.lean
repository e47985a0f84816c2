/-
  The walk through the law PlaceTells.
-/
import Derived.Test.YtajedfbogchkcaaWImage
import Derived.Test.YtajedfbogchkcaaWRef13
import Derived.Test.YtajedfbogchkcaaWAwakeP
set_option linter.unusedVariables false
set_option linter.unusedSimpArgs false
namespace Go.Proofs
open Go.Ik Go.Ml
set_option maxRecDepth 20000 in
set_option maxHeartbeats 4000000 in
theorem PlaceTells_c {w0 : World}  {c : Cfg} {v_c_words : Value} {v_c_cuts : Value} (shard : Int) (worker : Int) (h_c_words : Sl encS w0 (Iv 0 w0.heap.size) v_c_words c.words) (h_c_cuts : Sl encKey w0 (Iv 0 w0.heap.size) v_c_cuts c.cuts) (h_c : Cfg.Ok c) (h_shard : I64 shard) (h_worker : I64 worker) :
    Calls Try.prog 8 #[.agg #[v_c_words, v_c_cuts, .int .i64 c.workers, .int .i64 c.copies, .int .i64 c.slots, .int .i64 c.batch, .int .i64 c.lease, .int .i64 c.hedge, .int .i64 c.first, .int .i64 c.cap, .int .i64 c.jitter, .int .i64 c.net], .int .i64 shard, .int .i64 worker] w0 (Ret fun rv w1 => (∃ rb : Bool, rb = true ∧ rv = .bool rb) ∧ Ext w0 w1) := by
  have hE0 : Ext w0 w0 := Mod.refl _ _
  have hle1 := h_c_words.le
  have hle2 := h_c_cuts.le
  refine calls_enter Try.func8 rfl Try.ntmps8 rfl ?_
  refine r_seq ?_
  refine r_region ?_
  refine OL.act rfl rfl (AW.box [v_c_words, v_c_cuts, .int .i64 c.workers, .int .i64 c.copies, .int .i64 c.slots, .int .i64 c.batch, .int .i64 c.lease, .int .i64 c.hedge, .int .i64 c.first, .int .i64 c.cap, .int .i64 c.jitter, .int .i64 c.net] rfl rfl ?_)
  intro w1 b1 hm1 hb1 hz1 hk1
  have f1 := h_c_words.ext hm1
  have f2 := h_c_cuts.ext hm1
  have hE1 := hE0.ext hm1
  have hs1 := hm1.size
  refine OL.q (Q1.assign rfl) rfl rfl ?_
  refine OL.nil ?_
  refine r_seq ?_
  refine r_seq ?_
  refine r_region ?_
  refine OL.q (Q1.loadN ti53 rfl (fun _ e => e ▸ hk1.row) rfl) rfl rfl ?_
  refine OL.act rfl rfl (AW.callF cl32 rfl (greatC_c (w0 := w1) (c := c)  ((f1).iv (Nat.zero_le _) (by omega)) ((f2).iv (Nat.zero_le _) (by omega)) (by first | assumption | exact Ml.Cfg.ok_of (by decide +kernel))) ?_)
  rintro _ w2 ⟨⟨b2, hb2, rfl⟩, hm2⟩
  have f3 := f1.ext hm2
  have f4 := f2.ext hm2
  have f5 := hk1.ext hm2
  have hE2 := hE1.ext hm2
  have hs2 := hm2.size
  refine OL.nil ?_
  cases b2 with
  | true =>
    replace hb2 := hb2.symm
    refine r_cond_t rfl ?_
    refine r_seq ?_
    refine r_region ?_
    refine OL.act rfl rfl (AW.callF cl33 rfl (awake13_c (w0 := w2)   ) ?_)
    rintro _ w3 ⟨⟨_, rfl, rfl⟩, hm3⟩
    have f6 := f3.ext hm3
    have f7 := f4.ext hm3
    have f8 := f5.ext hm3
    have hE3 := hE2.ext hm3
    have hs3 := hm3.size
    refine OL.q (Q1.assign rfl) rfl rfl ?_
    refine OL.nil ?_
    refine r_ret1 Try.func8 rfl rfl ?_
    exact Ret.mk ⟨⟨_, (by rfl), rfl⟩, hE3⟩
  | false =>
    replace hb2 := hb2.symm
    refine r_cond_f rfl ?_
    refine r_skip ?_
    refine r_seq ?_
    refine r_draw1 (fun i => Nat.beq i 2 || Nat.beq i 5 || Nat.beq i 8) 12 (fun w' => Mod (Mg 0) w2 w') mixed (by kernel_rfl) ?_
    intro w3 hm3
    have f6 := f3.ext hm3
    have f7 := f4.ext hm3
    have f8 := f5.ext hm3
    have hE3 := hE2.ext hm3
    have hs3 := hm3.size
    have hCw3 : Mod (Mg 0) w2 w3 := Mod.ofExt hm3
    refine ⟨hCw3, ?_⟩
    rw [show List.range' 0 (Array.size _) = [0, 1, 2, 3, 4, 5, 6, 7, 8, 9, 10, 11] from rfl]
    refine OD.q rfl rfl (Q1.loadN ti53 rfl (fun _ hc => f5.row.keepG hc (by omega)) rfl) rfl rfl ?_
    have hcs := CfgS.of (by assumption : Ml.greatC c = false)
    have hwl := hcs.wl
    have hcl := hcs.cl
    refine OD.q rfl rfl (Q1.move rfl) rfl rfl ?_
    refine OD.act rfl rfl rfl rfl (AW.callF cl34 rfl (copies_c (w0 := w3) (c := c) (shard) ((f6).iv (Nat.zero_le _) (by omega)) ((f7).iv (Nat.zero_le _) (by omega)) (by first | assumption | exact Ml.Cfg.ok_of (by decide +kernel)) (by first | omega | assumption)) ?_)
    rintro v1 w4 ⟨⟨gr1, h1, hg1⟩, hm4⟩
    have f9 := f6.ext hm4
    have f10 := f7.ext hm4
    have f11 := f8.ext hm4
    have hE4 := hE3.ext hm4
    have hs4 := hm4.size
    have hCw4 := hCw3.ext hm4
    refine ⟨.inr hCw4, ?_⟩
    have hle_1 := h1.le
    have hlt_1 := h1.lt
    have := copies_len c shard
    refine OD.q rfl rfl (Q1.loadN ti53 rfl (fun _ hc => f5.row.keepG hc (by omega)) rfl) rfl rfl ?_
    refine OD.q rfl rfl (Q1.move rfl) rfl rfl ?_
    refine OD.act rfl rfl rfl rfl (AW.callF cl35 rfl (keeps_c (w0 := w4) (c := c) (worker) ((f9).iv (Nat.zero_le _) (by omega)) ((f10).iv (Nat.zero_le _) (by omega)) (by first | assumption | exact Ml.Cfg.ok_of (by decide +kernel)) (by first | omega | assumption)) ?_)
    rintro v2 w5 ⟨⟨gr2, h2, hg2⟩, hm5⟩
    have hl1 := h1.lt
    have f12 := f9.ext hm5
    have f13 := f10.ext hm5
    have f14 := f11.ext hm5
    have f15 := h1.ext hm5
    have hE5 := hE4.ext hm5
    have hs5 := hm5.size
    have hCw5 := hCw4.ext hm5
    refine ⟨.inr hCw5, ?_⟩
    have hle_2 := h2.le
    have hlt_2 := h2.lt
    have := keeps_len c worker
    refine OD.q rfl rfl (Q1.loadN ti53 rfl (fun _ hc => f5.row.keepG hc (by omega)) rfl) rfl rfl ?_
    refine OD.q rfl rfl (Q1.move rfl) rfl rfl ?_
    refine OD.act rfl rfl rfl rfl (AW.callF cl36 rfl (pwords_c (w0 := w5) (c := c) (shard) ((f12).iv (Nat.zero_le _) (by omega)) ((f13).iv (Nat.zero_le _) (by omega)) (by first | assumption | exact Ml.Cfg.ok_of (by decide +kernel)) (by first | omega | assumption) (by first | assumption | omega)) ?_)
    rintro v3 w6 ⟨⟨gr3, h3, hg3⟩, hm6⟩
    have hl2 := f15.lt
    have hl3 := h2.lt
    have f16 := f12.ext hm6
    have f17 := f13.ext hm6
    have f18 := f14.ext hm6
    have f19 := f15.ext hm6
    have f20 := h2.ext hm6
    have hE6 := hE5.ext hm6
    have hs6 := hm6.size
    have hCw6 := hCw5.ext hm6
    refine ⟨.inr hCw6, ?_⟩
    have hle_3 := h3.le
    have hlt_3 := h3.lt
    have := slice_len c.cuts c.words shard
    change (Ml.wordsM c shard).length ≤ _ at this
    refine OD.q rfl rfl (Q1.assign rfl) rfl rfl ?_
    refine OD.q rfl rfl (Q1.assign rfl) rfl rfl ?_
    refine OD.q rfl rfl (Q1.assign rfl) rfl rfl ?_
    refine OD.nil ?_
    refine r_seq ?_
    refine r_region ?_
    refine OL.q (Q1.loadN ti53 rfl (fun _ e => e ▸ f18.row) rfl) rfl rfl ?_
    refine OL.q (Q1.move rfl) rfl rfl ?_
    refine OL.act rfl rfl (AW.callF cl37 rfl (pimage_c (w0 := w6) (c := c) (shard) ((f16).iv (Nat.zero_le _) (by omega)) ((f17).iv (Nat.zero_le _) (by omega)) (by first | assumption | exact Ml.Cfg.ok_of (by decide +kernel)) (by first | omega | assumption) (by first | assumption | omega)) ?_)
    rintro _ w7 ⟨v4, _, rfl, ⟨gr4, h4, hg4⟩, rfl, hm7⟩
    have hl4 := f19.lt
    have hl5 := f20.lt
    have hl6 := h3.lt
    have f21 := f16.ext hm7
    have f22 := f17.ext hm7
    have f23 := f18.ext hm7
    have f24 := f19.ext hm7
    have f25 := f20.ext hm7
    have f26 := h3.ext hm7
    have hE7 := hE6.ext hm7
    have hs7 := hm7.size
    have hle_4 := h4.le
    have hlt_4 := h4.lt
    have := imgC_len c shard
    have := errC_rng c shard
    refine OL.q (Q1.move rfl) rfl rfl ?_
    refine OL.q (Q1.extract rfl rfl) rfl rfl ?_
    refine OL.q (Q1.extract rfl rfl) rfl rfl ?_
    refine OL.q (Q1.assign rfl) rfl rfl ?_
    refine OL.q (Q1.assign rfl) rfl rfl ?_
    refine OL.nil ?_
    refine r_seq ?_
    refine r_region ?_
    refine OL.q (Q1.loadN ti53 rfl (fun _ e => e ▸ f23.row) rfl) rfl rfl ?_
    refine OL.q (Q1.move rfl) rfl rfl ?_
    refine OL.act rfl rfl (AW.callF cl38 rfl (r13image_c (w0 := w7) (c := c) (shard) ((f21).iv (Nat.zero_le _) (by omega)) ((f22).iv (Nat.zero_le _) (by omega)) (by first | assumption | exact Ml.Cfg.ok_of (by decide +kernel)) (by first | omega | assumption) (by first | assumption)) ?_)
    rintro _ w8 ⟨v5, _, rfl, ⟨gr5, h5, hg5⟩, rfl, hm8⟩
    have hl7 := f24.lt
    have hl8 := f25.lt
    have hl9 := f26.lt
    have hl10 := h4.lt
    have f27 := f21.ext hm8
    have f28 := f22.ext hm8
    have f29 := f23.ext hm8
    have f30 := f24.ext hm8
    have f31 := f25.ext hm8
    have f32 := f26.ext hm8
    have f33 := h4.ext hm8
    have hE8 := hE7.ext hm8
    have hs8 := hm8.size
    have hle_5 := h5.le
    have hlt_5 := h5.lt
    have := imgC_len c shard
    have := errC_rng c shard
    refine OL.q (Q1.move rfl) rfl rfl ?_
    refine OL.q (Q1.extract rfl rfl) rfl rfl ?_
    refine OL.q (Q1.extract rfl rfl) rfl rfl ?_
    refine OL.q (Q1.assign rfl) rfl rfl ?_
    refine OL.q (Q1.assign rfl) rfl rfl ?_
    refine OL.nil ?_
    refine r_seq ?_
    refine r_draw1 (fun i => Nat.beq i 1 || Nat.beq i 3 || Nat.beq i 7 || Nat.beq i 9 || Nat.beq i 16 || Nat.beq i 17 || Nat.beq i 23 || Nat.beq i 24 || Nat.beq i 28 || Nat.beq i 34 || Nat.beq i 35 || Nat.beq i 41 || Nat.beq i 45) 50 (fun w' => Mod (Mg 0) w8 w') mixed (by kernel_rfl) ?_
    intro w9 hm9
    have hl11 := f30.lt
    have hl12 := f31.lt
    have hl13 := f32.lt
    have hl14 := f33.lt
    have hl15 := h5.lt
    have f34 := f27.ext hm9
    have f35 := f28.ext hm9
    have f36 := f29.ext hm9
    have f37 := f30.ext hm9
    have f38 := f31.ext hm9
    have f39 := f32.ext hm9
    have f40 := f33.ext hm9
    have f41 := h5.ext hm9
    have hE9 := hE8.ext hm9
    have hs9 := hm9.size
    have hCw9 : Mod (Mg 0) w8 w9 := Mod.ofExt hm9
    refine ⟨hCw9, ?_⟩
    rw [show List.range' 0 (Array.size _) = [0, 1, 2, 3, 4, 5, 6, 7, 8, 9, 10, 11, 12, 13, 14, 15, 16, 17, 18, 19, 20, 21, 22, 23, 24, 25, 26, 27, 28, 29, 30, 31, 32, 33, 34, 35, 36, 37, 38, 39, 40, 41, 42, 43, 44, 45, 46, 47, 48, 49] from rfl]
    refine OD.q rfl rfl (Q1.loadN ti53 rfl (fun _ hc => f29.row.keepG hc (by omega)) rfl) rfl rfl ?_
    refine OD.act rfl rfl rfl rfl (AW.callF cl39 rfl (may_c (w0 := w9) (c := c)  ((f34).iv (Nat.zero_le _) (by omega)) ((f35).iv (Nat.zero_le _) (by omega)) (by first | assumption | exact Ml.Cfg.ok_of (by decide +kernel))) ?_)
    rintro _ w10 ⟨⟨b3, hb3, rfl⟩, hm10⟩
    have hl16 := f37.lt
    have hl17 := f38.lt
    have hl18 := f39.lt
    have hl19 := f40.lt
    have hl20 := f41.lt
    have f42 := f34.ext hm10
    have f43 := f35.ext hm10
    have f44 := f36.ext hm10
    have f45 := f37.ext hm10
    have f46 := f38.ext hm10
    have f47 := f39.ext hm10
    have f48 := f40.ext hm10
    have f49 := f41.ext hm10
    have hE10 := hE9.ext hm10
    have hs10 := hm10.size
    have hCw10 := hCw9.ext hm10
    refine ⟨.inr hCw10, ?_⟩
    refine OD.q rfl rfl (Q1.loadN ti53 rfl (fun _ hc => f29.row.keepG hc (by omega)) rfl) rfl rfl ?_
    refine OD.act rfl rfl rfl rfl (AW.callF cl40 rfl (r13may_c (w0 := w10) (c := c)  ((f42).iv (Nat.zero_le _) (by omega)) ((f43).iv (Nat.zero_le _) (by omega)) (by first | assumption | exact Ml.Cfg.ok_of (by decide +kernel)) (by first | assumption)) ?_)
    rintro _ w11 ⟨⟨b4, hb4, rfl⟩, hm11⟩
    have hl21 := f45.lt
    have hl22 := f46.lt
    have hl23 := f47.lt
    have hl24 := f48.lt
    have hl25 := f49.lt
    have f50 := f42.ext hm11
    have f51 := f43.ext hm11
    have f52 := f44.ext hm11
    have f53 := f45.ext hm11
    have f54 := f46.ext hm11
    have f55 := f47.ext hm11
    have f56 := f48.ext hm11
    have f57 := f49.ext hm11
    have hE11 := hE10.ext hm11
    have hs11 := hm11.size
    have hCw11 := hCw10.ext hm11
    refine ⟨.inr hCw11, ?_⟩
    refine OD.qb rfl rfl (Q1.eqB Try.underlying4 rfl rfl) rfl rfl ?_
    intro b5 hb5
    obtain rfl : b5 = true := hb5.trans (by exact Ml.eqb3 (by assumption : _ = Ml.may c) (by assumption : _ = Ml.may c) rfl)
    refine OD.q rfl rfl (Q1.move rfl) rfl rfl ?_
    refine OD.q rfl rfl (Q1.loadN ti53 rfl (fun _ hc => f29.row.keepG hc (by omega)) rfl) rfl rfl ?_
    refine OD.act rfl rfl rfl rfl (AW.callF cl41 rfl (shards_c (w0 := w11) (c := c)  ((f50).iv (Nat.zero_le _) (by omega)) ((f51).iv (Nat.zero_le _) (by omega)) (by first | assumption | exact Ml.Cfg.ok_of (by decide +kernel))) ?_)
    rintro _ w12 ⟨rfl, hm12⟩
    have hl26 := f53.lt
    have hl27 := f54.lt
    have hl28 := f55.lt
    have hl29 := f56.lt
    have hl30 := f57.lt
    have f58 := f50.ext hm12
    have f59 := f51.ext hm12
    have f60 := f52.ext hm12
    have f61 := f53.ext hm12
    have f62 := f54.ext hm12
    have f63 := f55.ext hm12
    have f64 := f56.ext hm12
    have f65 := f57.ext hm12
    have hE12 := hE11.ext hm12
    have hs12 := hm12.size
    have hCw12 := hCw11.ext hm12
    refine ⟨.inr hCw12, ?_⟩
    have := Ml.shards_le c
    refine OD.q rfl rfl (Q1.loadN ti53 rfl (fun _ hc => f29.row.keepG hc (by omega)) rfl) rfl rfl ?_
    refine OD.act rfl rfl rfl rfl (AW.callF cl42 rfl (r13shards_c (w0 := w12) (c := c)  ((f58).iv (Nat.zero_le _) (by omega)) ((f59).iv (Nat.zero_le _) (by omega)) (by first | assumption | exact Ml.Cfg.ok_of (by decide +kernel)) (by first | assumption)) ?_)
    rintro _ w13 ⟨rfl, hm13⟩
    have hl31 := f61.lt
    have hl32 := f62.lt
    have hl33 := f63.lt
    have hl34 := f64.lt
    have hl35 := f65.lt
    have f66 := f58.ext hm13
    have f67 := f59.ext hm13
    have f68 := f60.ext hm13
    have f69 := f61.ext hm13
    have f70 := f62.ext hm13
    have f71 := f63.ext hm13
    have f72 := f64.ext hm13
    have f73 := f65.ext hm13
    have hE13 := hE12.ext hm13
    have hs13 := hm13.size
    have hCw13 := hCw12.ext hm13
    refine ⟨.inr hCw13, ?_⟩
    have := Ml.shards_le c
    refine OD.qb rfl rfl (Q1.eq rfl rfl) rfl rfl ?_
    intro b6 hb6
    obtain rfl : b6 = true := hb6.trans (by exact beq_self_eq_true _)
    refine OD.q rfl rfl (Q1.pick_t rfl rfl) rfl rfl ?_
    refine OD.q rfl rfl (Q1.move rfl) rfl rfl ?_
    refine OD.q rfl rfl (Q1.move rfl) rfl rfl ?_
    refine OD.q rfl rfl (Q1.loadN ti53 rfl (fun _ hc => f29.row.keepG hc (by omega)) rfl) rfl rfl ?_
    refine OD.q rfl rfl (Q1.move rfl) rfl rfl ?_
    refine OD.act rfl rfl rfl rfl (AW.callF cl44 rfl (r13copies_c (w0 := w13) (c := c) (shard) ((f66).iv (Nat.zero_le _) (by omega)) ((f67).iv (Nat.zero_le _) (by omega)) (by first | assumption | exact Ml.Cfg.ok_of (by decide +kernel)) (by first | omega | assumption) (by first | assumption)) ?_)
    rintro v6 w14 ⟨⟨gr6, h6, hg6⟩, hm14⟩
    have hl36 := f69.lt
    have hl37 := f70.lt
    have hl38 := f71.lt
    have hl39 := f72.lt
    have hl40 := f73.lt
    have f74 := f66.ext hm14
    have f75 := f67.ext hm14
    have f76 := f68.ext hm14
    have f77 := f69.ext hm14
    have f78 := f70.ext hm14
    have f79 := f71.ext hm14
    have f80 := f72.ext hm14
    have f81 := f73.ext hm14
    have hE14 := hE13.ext hm14
    have hs14 := hm14.size
    have hCw14 := hCw13.ext hm14
    refine ⟨.inr hCw14, ?_⟩
    have hle_6 := h6.le
    have hlt_6 := h6.lt
    have := copies_len c shard
    refine OD.act rfl rfl rfl rfl (AW.callF cl43 rfl (sameI_c (w0 := w14) (a := (Ml.copiesM c shard)) (b := (Ml.copiesM c shard))  ((f77.sl).iv (Nat.zero_le _) (by omega)) ((h6.sl).iv (Nat.zero_le _) (by omega))) ?_)
    rintro _ w15 ⟨⟨b7, hb7, rfl⟩, hm15⟩
    have hl41 := f77.lt
    have hl42 := f78.lt
    have hl43 := f79.lt
    have hl44 := f80.lt
    have hl45 := f81.lt
    have hl46 := h6.lt
    have f82 := f74.ext hm15
    have f83 := f75.ext hm15
    have f84 := f76.ext hm15
    have f85 := f77.ext hm15
    have f86 := f78.ext hm15
    have f87 := f79.ext hm15
    have f88 := f80.ext hm15
    have f89 := f81.ext hm15
    have f90 := h6.ext hm15
    have hE15 := hE14.ext hm15
    have hs15 := hm15.size
    have hCw15 := hCw14.ext hm15
    refine ⟨.inr hCw15, ?_⟩
    obtain rfl : b7 = true := hb7.trans (by exact decide_eq_true rfl)
    refine OD.q rfl rfl (Q1.pick_t rfl rfl) rfl rfl ?_
    refine OD.q rfl rfl (Q1.move rfl) rfl rfl ?_
    refine OD.q rfl rfl (Q1.move rfl) rfl rfl ?_
    refine OD.q rfl rfl (Q1.loadN ti53 rfl (fun _ hc => f29.row.keepG hc (by omega)) rfl) rfl rfl ?_
    refine OD.q rfl rfl (Q1.move rfl) rfl rfl ?_
    refine OD.act rfl rfl rfl rfl (AW.callF cl45 rfl (r13keeps_c (w0 := w15) (c := c) (worker) ((f82).iv (Nat.zero_le _) (by omega)) ((f83).iv (Nat.zero_le _) (by omega)) (by first | assumption | exact Ml.Cfg.ok_of (by decide +kernel)) (by first | omega | assumption) (by first | assumption)) ?_)
    rintro v7 w16 ⟨⟨gr7, h7, hg7⟩, hm16⟩
    have hl47 := f85.lt
    have hl48 := f86.lt
    have hl49 := f87.lt
    have hl50 := f88.lt
    have hl51 := f89.lt
    have hl52 := f90.lt
    have f91 := f82.ext hm16
    have f92 := f83.ext hm16
    have f93 := f84.ext hm16
    have f94 := f85.ext hm16
    have f95 := f86.ext hm16
    have f96 := f87.ext hm16
    have f97 := f88.ext hm16
    have f98 := f89.ext hm16
    have f99 := f90.ext hm16
    have hE16 := hE15.ext hm16
    have hs16 := hm16.size
    have hCw16 := hCw15.ext hm16
    refine ⟨.inr hCw16, ?_⟩
    have hle_7 := h7.le
    have hlt_7 := h7.lt
    have := keeps_len c worker
    refine OD.act rfl rfl rfl rfl (AW.callF cl43 rfl (sameI_c (w0 := w16) (a := (Ml.keepsM c worker)) (b := (Ml.keepsM c worker))  ((f95.sl).iv (Nat.zero_le _) (by omega)) ((h7.sl).iv (Nat.zero_le _) (by omega))) ?_)
    rintro _ w17 ⟨⟨b8, hb8, rfl⟩, hm17⟩
    have hl53 := f94.lt
    have hl54 := f95.lt
    have hl55 := f96.lt
    have hl56 := f97.lt
    have hl57 := f98.lt
    have hl58 := f99.lt
    have hl59 := h7.lt
    have f100 := f91.ext hm17
    have f101 := f92.ext hm17
    have f102 := f93.ext hm17
    have f103 := f94.ext hm17
    have f104 := f95.ext hm17
    have f105 := f96.ext hm17
    have f106 := f97.ext hm17
    have f107 := f98.ext hm17
    have f108 := f99.ext hm17
    have f109 := h7.ext hm17
    have hE17 := hE16.ext hm17
    have hs17 := hm17.size
    have hCw17 := hCw16.ext hm17
    refine ⟨.inr hCw17, ?_⟩
    obtain rfl : b8 = true := hb8.trans (by exact decide_eq_true rfl)
    refine OD.q rfl rfl (Q1.pick_t rfl rfl) rfl rfl ?_
    refine OD.q rfl rfl (Q1.move rfl) rfl rfl ?_
    refine OD.q rfl rfl (Q1.loadN ti53 rfl (fun _ hc => f29.row.keepG hc (by omega)) rfl) rfl rfl ?_
    refine OD.act rfl rfl rfl rfl (AW.callF cl40 rfl (r13may_c (w0 := w17) (c := c)  ((f100).iv (Nat.zero_le _) (by omega)) ((f101).iv (Nat.zero_le _) (by omega)) (by first | assumption | exact Ml.Cfg.ok_of (by decide +kernel)) (by first | assumption)) ?_)
    rintro _ w18 ⟨⟨b9, hb9, rfl⟩, hm18⟩
    have hl60 := f103.lt
    have hl61 := f104.lt
    have hl62 := f105.lt
    have hl63 := f106.lt
    have hl64 := f107.lt
    have hl65 := f108.lt
    have hl66 := f109.lt
    have f110 := f100.ext hm18
    have f111 := f101.ext hm18
    have f112 := f102.ext hm18
    have f113 := f103.ext hm18
    have f114 := f104.ext hm18
    have f115 := f105.ext hm18
    have f116 := f106.ext hm18
    have f117 := f107.ext hm18
    have f118 := f108.ext hm18
    have f119 := f109.ext hm18
    have hE18 := hE17.ext hm18
    have hs18 := hm18.size
    have hCw18 := hCw17.ext hm18
    refine ⟨.inr hCw18, ?_⟩
    cases b9 with
    | true =>
      replace hb9 := hb9.symm
      have := Ml.may_bounds hb9
      refine OD.q rfl rfl (Q1.not rfl) rfl rfl ?_
      refine OD.q rfl rfl (Q1.move rfl) rfl rfl ?_
      refine OD.q rfl rfl (Q1.move rfl) rfl rfl ?_
      refine OD.q rfl rfl (Q1.loadN ti53 rfl (fun _ hc => f29.row.keepG hc (by omega)) rfl) rfl rfl ?_
      refine OD.q rfl rfl (Q1.move rfl) rfl rfl ?_
      refine OD.act rfl rfl rfl rfl (AW.callF cl46 rfl (r13words_c (w0 := w18) (c := c) (shard) ((f110).iv (Nat.zero_le _) (by omega)) ((f111).iv (Nat.zero_le _) (by omega)) (by first | assumption | exact Ml.Cfg.ok_of (by decide +kernel)) (by first | omega | assumption) (by first | assumption)) ?_)
      rintro v8 w19 ⟨⟨gr8, h8, hg8⟩, hm19⟩
      have hl67 := f113.lt
      have hl68 := f114.lt
      have hl69 := f115.lt
      have hl70 := f116.lt
      have hl71 := f117.lt
      have hl72 := f118.lt
      have hl73 := f119.lt
      have f120 := f110.ext hm19
      have f121 := f111.ext hm19
      have f122 := f112.ext hm19
      have f123 := f113.ext hm19
      have f124 := f114.ext hm19
      have f125 := f115.ext hm19
      have f126 := f116.ext hm19
      have f127 := f117.ext hm19
      have f128 := f118.ext hm19
      have f129 := f119.ext hm19
      have hE19 := hE18.ext hm19
      have hs19 := hm19.size
      have hCw19 := hCw18.ext hm19
      refine ⟨.inr hCw19, ?_⟩
      have hle_8 := h8.le
      have hlt_8 := h8.lt
      have := wordsR_len c shard
      refine OD.act rfl rfl rfl rfl (AW.callF cl27 rfl (sameT_c (w0 := w19) (a := (Ml.wordsM c shard)) (b := (wordsR c shard))  ((f125.sl).iv (Nat.zero_le _) (by omega)) ((h8.sl).iv (Nat.zero_le _) (by omega))) ?_)
      rintro _ w20 ⟨⟨b10, hb10, rfl⟩, hm20⟩
      have hl74 := f123.lt
      have hl75 := f124.lt
      have hl76 := f125.lt
      have hl77 := f126.lt
      have hl78 := f127.lt
      have hl79 := f128.lt
      have hl80 := f129.lt
      have hl81 := h8.lt
      have f130 := f120.ext hm20
      have f131 := f121.ext hm20
      have f132 := f122.ext hm20
      have f133 := f123.ext hm20
      have f134 := f124.ext hm20
      have f135 := f125.ext hm20
      have f136 := f126.ext hm20
      have f137 := f127.ext hm20
      have f138 := f128.ext hm20
      have f139 := f129.ext hm20
      have f140 := h8.ext hm20
      have hE20 := hE19.ext hm20
      have hs20 := hm20.size
      have hCw20 := hCw19.ext hm20
      refine ⟨.inr hCw20, ?_⟩
      obtain rfl : b10 = true := hb10.trans (by exact decide_eq_true (wordsR_may (by assumption)))
      refine OD.q rfl rfl (Q1.pick_f rfl rfl) rfl rfl ?_
      refine OD.q rfl rfl (Q1.pick_t rfl rfl) rfl rfl ?_
      refine OD.q rfl rfl (Q1.move rfl) rfl rfl ?_
      refine OD.q rfl rfl (Q1.move rfl) rfl rfl ?_
      refine OD.q rfl rfl (Q1.move rfl) rfl rfl ?_
      refine OD.act rfl rfl rfl rfl (AW.callF cl17 rfl (sameB_c (w0 := w20) (a := (imgC c shard)) (b := (imgC c shard))  ((f136.sl).iv (Nat.zero_le _) (by omega)) ((f137.sl).iv (Nat.zero_le _) (by omega))) ?_)
      rintro _ w21 ⟨⟨b11, hb11, rfl⟩, hm21⟩
      have hl82 := f133.lt
      have hl83 := f134.lt
      have hl84 := f135.lt
      have hl85 := f136.lt
      have hl86 := f137.lt
      have hl87 := f138.lt
      have hl88 := f139.lt
      have hl89 := f140.lt
      have f141 := f130.ext hm21
      have f142 := f131.ext hm21
      have f143 := f132.ext hm21
      have f144 := f133.ext hm21
      have f145 := f134.ext hm21
      have f146 := f135.ext hm21
      have f147 := f136.ext hm21
      have f148 := f137.ext hm21
      have f149 := f138.ext hm21
      have f150 := f139.ext hm21
      have f151 := f140.ext hm21
      have hE21 := hE20.ext hm21
      have hs21 := hm21.size
      have hCw21 := hCw20.ext hm21
      refine ⟨.inr hCw21, ?_⟩
      obtain rfl : b11 = true := hb11.trans (by exact decide_eq_true rfl)
      refine OD.q rfl rfl (Q1.pick_t rfl rfl) rfl rfl ?_
      refine OD.q rfl rfl (Q1.move rfl) rfl rfl ?_
      refine OD.q rfl rfl (Q1.move rfl) rfl rfl ?_
      refine OD.act rfl rfl rfl rfl (AW.callF cl18 rfl (num_c (w0 := w21)  ((errC c shard)) (by first | omega | assumption)) ?_)
      rintro _ w22 ⟨rfl, hm22⟩
      have hl90 := f144.lt
      have hl91 := f145.lt
      have hl92 := f146.lt
      have hl93 := f147.lt
      have hl94 := f148.lt
      have hl95 := f149.lt
      have hl96 := f150.lt
      have hl97 := f151.lt
      have f152 := f141.ext hm22
      have f153 := f142.ext hm22
      have f154 := f143.ext hm22
      have f155 := f144.ext hm22
      have f156 := f145.ext hm22
      have f157 := f146.ext hm22
      have f158 := f147.ext hm22
      have f159 := f148.ext hm22
      have f160 := f149.ext hm22
      have f161 := f150.ext hm22
      have f162 := f151.ext hm22
      have hE22 := hE21.ext hm22
      have hs22 := hm22.size
      have hCw22 := hCw21.ext hm22
      refine ⟨.inr hCw22, ?_⟩
      refine OD.q rfl rfl (Q1.move rfl) rfl rfl ?_
      refine OD.qb rfl rfl (Q1.eq rfl rfl) rfl rfl ?_
      intro b12 hb12
      obtain rfl : b12 = true := hb12.trans (by exact beq_self_eq_true _)
      refine OD.q rfl rfl (Q1.pick_t rfl rfl) rfl rfl ?_
      refine OD.q rfl rfl (Q1.assign rfl) rfl rfl ?_
      refine OD.nil ?_
      refine r_seq ?_
      refine r_region ?_
      refine OL.q (Q1.move rfl) rfl rfl ?_
      refine OL.act rfl rfl (AW.callF cl47 rfl (overInts_c (w0 := w22) (l := (Ml.copiesM c shard))  f155 (by first | assumption | omega)) ?_)
      rintro _ w23 ⟨rfl, hm23⟩
      have hl98 := f155.lt
      have hl99 := f156.lt
      have hl100 := f157.lt
      have hl101 := f158.lt
      have hl102 := f159.lt
      have hl103 := f160.lt
      have hl104 := f161.lt
      have hl105 := f162.lt
      have f163 := f152.keepG hm23 (by omega)
      have f164 := f153.keepG hm23 (by omega)
      have f165 := f154.keepG hm23 (by omega)
      have f166 := f156.keepG hm23 (by omega)
      have f167 := f157.keepG hm23 (by omega)
      have f168 := f158.keepG hm23 (by omega)
      have f169 := f159.keepG hm23 (by omega)
      have f170 := f160.keepG hm23 (by omega)
      have f171 := f161.keepG hm23 (by omega)
      have f172 := f162.keepG hm23 (by omega)
      have hE23 := Ext.thenG hE22 hm23 (by omega)
      have hs23 := hm23.size
      refine OL.nil ?_
      refine r_seq ?_
      refine r_region ?_
      refine OL.q (Q1.move rfl) rfl rfl ?_
      refine OL.act rfl rfl (AW.callF cl47 rfl (overInts_c (w0 := w23) (l := (Ml.keepsM c worker))  f166 (by first | assumption | omega)) ?_)
      rintro _ w24 ⟨rfl, hm24⟩
      have hl106 := f166.lt
      have hl107 := f167.lt
      have hl108 := f168.lt
      have hl109 := f169.lt
      have hl110 := f170.lt
      have hl111 := f171.lt
      have hl112 := f172.lt
      have f173 := f163.keepG hm24 (by omega)
      have f174 := f164.keepG hm24 (by omega)
      have f175 := f165.keepG hm24 (by omega)
      have f176 := f167.keepG hm24 (by omega)
      have f177 := f168.keepG hm24 (by omega)
      have f178 := f169.keepG hm24 (by omega)
      have f179 := f170.keepG hm24 (by omega)
      have f180 := f171.keepG hm24 (by omega)
      have f181 := f172.keepG hm24 (by omega)
      have hE24 := Ext.thenG hE23 hm24 (by omega)
      have hs24 := hm24.size
      refine OL.nil ?_
      refine r_seq ?_
      refine r_region ?_
      refine OL.q (Q1.move rfl) rfl rfl ?_
      refine OL.act rfl rfl (AW.callF cl48 rfl (overTexts_c (w0 := w24) (l := (Ml.wordsM c shard))  f176 (by first | assumption | omega)) ?_)
      rintro _ w25 ⟨rfl, hm25⟩
      have hl113 := f176.lt
      have hl114 := f177.lt
      have hl115 := f178.lt
      have hl116 := f179.lt
      have hl117 := f180.lt
      have hl118 := f181.lt
      have f182 := f173.keepG hm25 (by omega)
      have f183 := f174.keepG hm25 (by omega)
      have f184 := f175.keepG hm25 (by omega)
      have f185 := f177.keepG hm25 (by omega)
      have f186 := f178.keepG hm25 (by omega)
      have f187 := f179.keepG hm25 (by omega)
      have f188 := f180.keepG hm25 (by omega)
      have f189 := f181.keepG hm25 (by omega)
      have hE25 := Ext.thenG hE24 hm25 (by omega)
      have hs25 := hm25.size
      refine OL.nil ?_
      refine r_seq ?_
      refine r_region ?_
      refine OL.q (Q1.move rfl) rfl rfl ?_
      refine OL.act rfl rfl (AW.callF cl21 rfl (overBytes_c (w0 := w25) (l := (imgC c shard))  f185 (by first | assumption | omega)) ?_)
      rintro _ w26 ⟨rfl, hm26⟩
      have hl119 := f185.lt
      have hl120 := f186.lt
      have hl121 := f187.lt
      have hl122 := f188.lt
      have hl123 := f189.lt
      have f190 := f182.keepG hm26 (by omega)
      have f191 := f183.keepG hm26 (by omega)
      have f192 := f184.keepG hm26 (by omega)
      have f193 := f186.keepG hm26 (by omega)
      have f194 := f187.keepG hm26 (by omega)
      have f195 := f188.keepG hm26 (by omega)
      have f196 := f189.keepG hm26 (by omega)
      have hE26 := Ext.thenG hE25 hm26 (by omega)
      have hs26 := hm26.size
      refine OL.nil ?_
      refine r_seq ?_
      refine r_draw1 (fun i => Nat.beq i 3 || Nat.beq i 8 || Nat.beq i 11 || Nat.beq i 12 || Nat.beq i 16) 19 (fun w' => Mod (Mg 0) w26 w') mixed (by kernel_rfl) ?_
      intro w27 hm27
      have hl124 := f193.lt
      have hl125 := f194.lt
      have hl126 := f195.lt
      have hl127 := f196.lt
      have f197 := f190.ext hm27
      have f198 := f191.ext hm27
      have f199 := f192.ext hm27
      have f200 := f193.ext hm27
      have f201 := f194.ext hm27
      have f202 := f195.ext hm27
      have f203 := f196.ext hm27
      have hE27 := hE26.ext hm27
      have hs27 := hm27.size
      have hCw27 : Mod (Mg 0) w26 w27 := Mod.ofExt hm27
      refine ⟨hCw27, ?_⟩
      rw [show List.range' 0 (Array.size _) = [0, 1, 2, 3, 4, 5, 6, 7, 8, 9, 10, 11, 12, 13, 14, 15, 16, 17, 18] from rfl]
      refine OD.q rfl rfl (Q1.move rfl) rfl rfl ?_
      refine OD.q rfl rfl (Q1.move rfl) rfl rfl ?_
      refine OD.q rfl rfl (Q1.loadN ti53 rfl (fun _ hc => f192.row.keepG hc (by omega)) rfl) rfl rfl ?_
      refine OD.act rfl rfl rfl rfl (AW.callF cl40 rfl (r13may_c (w0 := w27) (c := c)  ((f197).iv (Nat.zero_le _) (by omega)) ((f198).iv (Nat.zero_le _) (by omega)) (by first | assumption | exact Ml.Cfg.ok_of (by decide +kernel)) (by first | assumption)) ?_)
      rintro _ w28 ⟨⟨b13, hb13, rfl⟩, hm28⟩
      have hl128 := f200.lt
      have hl129 := f201.lt
      have hl130 := f202.lt
      have hl131 := f203.lt
      have f204 := f197.ext hm28
      have f205 := f198.ext hm28
      have f206 := f199.ext hm28
      have f207 := f200.ext hm28
      have f208 := f201.ext hm28
      have f209 := f202.ext hm28
      have f210 := f203.ext hm28
      have hE28 := hE27.ext hm28
      have hs28 := hm28.size
      have hCw28 := hCw27.ext hm28
      refine ⟨.inr hCw28, ?_⟩
      cases b13 with
      | true =>
        replace hb13 := hb13.symm
        have := Ml.may_bounds hb13
        refine OD.q rfl rfl (Q1.not rfl) rfl rfl ?_
        refine OD.q rfl rfl (Q1.move rfl) rfl rfl ?_
        refine OD.q rfl rfl (Q1.loadN ti53 rfl (fun _ hc => f192.row.keepG hc (by omega)) rfl) rfl rfl ?_
        refine OD.q rfl rfl (Q1.move rfl) rfl rfl ?_
        refine OD.act rfl rfl rfl rfl (AW.callF cl36 rfl (pwords_c (w0 := w28) (c := c) (shard) ((f204).iv (Nat.zero_le _) (by omega)) ((f205).iv (Nat.zero_le _) (by omega)) (by first | assumption | exact Ml.Cfg.ok_of (by decide +kernel)) (by first | omega | assumption) (by first | assumption | omega)) ?_)
        rintro v9 w29 ⟨⟨gr9, h9, hg9⟩, hm29⟩
        have hl132 := f207.lt
        have hl133 := f208.lt
        have hl134 := f209.lt
        have hl135 := f210.lt
        have f211 := f204.ext hm29
        have f212 := f205.ext hm29
        have f213 := f206.ext hm29
        have f214 := f207.ext hm29
        have f215 := f208.ext hm29
        have f216 := f209.ext hm29
        have f217 := f210.ext hm29
        have hE29 := hE28.ext hm29
        have hs29 := hm29.size
        have hCw29 := hCw28.ext hm29
        refine ⟨.inr hCw29, ?_⟩
        have hle_9 := h9.le
        have hlt_9 := h9.lt
        have := slice_len c.cuts c.words shard
        change (Ml.wordsM c shard).length ≤ _ at this
        refine OD.q rfl rfl (Q1.loadN ti53 rfl (fun _ hc => f192.row.keepG hc (by omega)) rfl) rfl rfl ?_
        refine OD.q rfl rfl (Q1.move rfl) rfl rfl ?_
        refine OD.act rfl rfl rfl rfl (AW.callF cl46 rfl (r13words_c (w0 := w29) (c := c) (shard) ((f211).iv (Nat.zero_le _) (by omega)) ((f212).iv (Nat.zero_le _) (by omega)) (by first | assumption | exact Ml.Cfg.ok_of (by decide +kernel)) (by first | omega | assumption) (by first | assumption)) ?_)
        rintro v10 w30 ⟨⟨gr10, h10, hg10⟩, hm30⟩
        have hl136 := f214.lt
        have hl137 := f215.lt
        have hl138 := f216.lt
        have hl139 := f217.lt
        have hl140 := h9.lt
        have f218 := f211.ext hm30
        have f219 := f212.ext hm30
        have f220 := f213.ext hm30
        have f221 := f214.ext hm30
        have f222 := f215.ext hm30
        have f223 := f216.ext hm30
        have f224 := f217.ext hm30
        have f225 := h9.ext hm30
        have hE30 := hE29.ext hm30
        have hs30 := hm30.size
        have hCw30 := hCw29.ext hm30
        refine ⟨.inr hCw30, ?_⟩
        have hle_10 := h10.le
        have hlt_10 := h10.lt
        have := wordsR_len c shard
        refine OD.act rfl rfl rfl rfl (AW.callF cl27 rfl (sameT_c (w0 := w30) (a := (Ml.wordsM c shard)) (b := (wordsR c shard))  ((f225.sl).iv (Nat.zero_le _) (by omega)) ((h10.sl).iv (Nat.zero_le _) (by omega))) ?_)
        rintro _ w31 ⟨⟨b14, hb14, rfl⟩, hm31⟩
        have hl141 := f221.lt
        have hl142 := f222.lt
        have hl143 := f223.lt
        have hl144 := f224.lt
        have hl145 := f225.lt
        have hl146 := h10.lt
        have f226 := f218.ext hm31
        have f227 := f219.ext hm31
        have f228 := f220.ext hm31
        have f229 := f221.ext hm31
        have f230 := f222.ext hm31
        have f231 := f223.ext hm31
        have f232 := f224.ext hm31
        have f233 := f225.ext hm31
        have f234 := h10.ext hm31
        have hE31 := hE30.ext hm31
        have hs31 := hm31.size
        have hCw31 := hCw30.ext hm31
        refine ⟨.inr hCw31, ?_⟩
        obtain rfl : b14 = true := hb14.trans (by exact decide_eq_true (wordsR_may (by assumption)))
        refine OD.q rfl rfl (Q1.pick_f rfl rfl) rfl rfl ?_
        refine OD.q rfl rfl (Q1.pick_t rfl rfl) rfl rfl ?_
        refine OD.q rfl rfl (Q1.move rfl) rfl rfl ?_
        refine OD.act rfl rfl rfl rfl (AW.callF cl33 rfl (awake13_c (w0 := w31)   ) ?_)
        rintro _ w32 ⟨⟨_, rfl, rfl⟩, hm32⟩
        have hl147 := f229.lt
        have hl148 := f230.lt
        have hl149 := f231.lt
        have hl150 := f232.lt
        have hl151 := f233.lt
        have hl152 := f234.lt
        have f235 := f226.ext hm32
        have f236 := f227.ext hm32
        have f237 := f228.ext hm32
        have f238 := f229.ext hm32
        have f239 := f230.ext hm32
        have f240 := f231.ext hm32
        have f241 := f232.ext hm32
        have f242 := f233.ext hm32
        have f243 := f234.ext hm32
        have hE32 := hE31.ext hm32
        have hs32 := hm32.size
        have hCw32 := hCw31.ext hm32
        refine ⟨.inr hCw32, ?_⟩
        refine OD.q rfl rfl (Q1.pick_t rfl rfl) rfl rfl ?_
        refine OD.q rfl rfl (Q1.assign rfl) rfl rfl ?_
        refine OD.nil ?_
        refine r_ret1 Try.func8 rfl rfl ?_
        exact Ret.mk ⟨⟨_, (by rfl), rfl⟩, hE32⟩
      | false =>
        replace hb13 := hb13.symm
        refine OD.q rfl rfl (Q1.not rfl) rfl rfl ?_
        refine OD.q rfl rfl (Q1.move rfl) rfl rfl ?_
        refine OD.sk rfl rfl rfl ?_
        refine OD.sk rfl rfl rfl ?_
        refine OD.sk rfl rfl rfl ?_
        refine OD.sk rfl rfl rfl ?_
        refine OD.sk rfl rfl rfl ?_
        refine OD.sk rfl rfl rfl ?_
        refine OD.sk rfl rfl rfl ?_
        refine OD.q rfl rfl (Q1.pick_t rfl rfl) rfl rfl ?_
        refine OD.q rfl rfl (Q1.pick_t rfl rfl) rfl rfl ?_
        refine OD.q rfl rfl (Q1.move rfl) rfl rfl ?_
        refine OD.act rfl rfl rfl rfl (AW.callF cl33 rfl (awake13_c (w0 := w28)   ) ?_)
        rintro _ w29 ⟨⟨_, rfl, rfl⟩, hm29⟩
        have hl132 := f207.lt
        have hl133 := f208.lt
        have hl134 := f209.lt
        have hl135 := f210.lt
        have f211 := f204.ext hm29
        have f212 := f205.ext hm29
        have f213 := f206.ext hm29
        have f214 := f207.ext hm29
        have f215 := f208.ext hm29
        have f216 := f209.ext hm29
        have f217 := f210.ext hm29
        have hE29 := hE28.ext hm29
        have hs29 := hm29.size
        have hCw29 := hCw28.ext hm29
        refine ⟨.inr hCw29, ?_⟩
        refine OD.q rfl rfl (Q1.pick_t rfl rfl) rfl rfl ?_
        refine OD.q rfl rfl (Q1.assign rfl) rfl rfl ?_
        refine OD.nil ?_
        refine r_ret1 Try.func8 rfl rfl ?_
        exact Ret.mk ⟨⟨_, (by rfl), rfl⟩, hE29⟩
    | false =>
      replace hb9 := hb9.symm
      refine OD.q rfl rfl (Q1.not rfl) rfl rfl ?_
      refine OD.q rfl rfl (Q1.move rfl) rfl rfl ?_
      refine OD.sk rfl rfl rfl ?_
      refine OD.sk rfl rfl rfl ?_
      refine OD.sk rfl rfl rfl ?_
      refine OD.sk rfl rfl rfl ?_
      refine OD.sk rfl rfl rfl ?_
      refine OD.q rfl rfl (Q1.pick_t rfl rfl) rfl rfl ?_
      refine OD.q rfl rfl (Q1.pick_t rfl rfl) rfl rfl ?_
      refine OD.q rfl rfl (Q1.move rfl) rfl rfl ?_
      refine OD.q rfl rfl (Q1.move rfl) rfl rfl ?_
      refine OD.q rfl rfl (Q1.move rfl) rfl rfl ?_
      refine OD.act rfl rfl rfl rfl (AW.callF cl17 rfl (sameB_c (w0 := w18) (a := (imgC c shard)) (b := (imgC c shard))  ((f116.sl).iv (Nat.zero_le _) (by omega)) ((f117.sl).iv (Nat.zero_le _) (by omega))) ?_)
      rintro _ w19 ⟨⟨b10, hb10, rfl⟩, hm19⟩
      have hl67 := f113.lt
      have hl68 := f114.lt
      have hl69 := f115.lt
      have hl70 := f116.lt
      have hl71 := f117.lt
      have hl72 := f118.lt
      have hl73 := f119.lt
      have f120 := f110.ext hm19
      have f121 := f111.ext hm19
      have f122 := f112.ext hm19
      have f123 := f113.ext hm19
      have f124 := f114.ext hm19
      have f125 := f115.ext hm19
      have f126 := f116.ext hm19
      have f127 := f117.ext hm19
      have f128 := f118.ext hm19
      have f129 := f119.ext hm19
      have hE19 := hE18.ext hm19
      have hs19 := hm19.size
      have hCw19 := hCw18.ext hm19
      refine ⟨.inr hCw19, ?_⟩
      obtain rfl : b10 = true := hb10.trans (by exact decide_eq_true rfl)
      refine OD.q rfl rfl (Q1.pick_t rfl rfl) rfl rfl ?_
      refine OD.q rfl rfl (Q1.move rfl) rfl rfl ?_
      refine OD.q rfl rfl (Q1.move rfl) rfl rfl ?_
      refine OD.act rfl rfl rfl rfl (AW.callF cl18 rfl (num_c (w0 := w19)  ((errC c shard)) (by first | omega | assumption)) ?_)
      rintro _ w20 ⟨rfl, hm20⟩
      have hl74 := f123.lt
      have hl75 := f124.lt
      have hl76 := f125.lt
      have hl77 := f126.lt
      have hl78 := f127.lt
      have hl79 := f128.lt
      have hl80 := f129.lt
      have f130 := f120.ext hm20
      have f131 := f121.ext hm20
      have f132 := f122.ext hm20
      have f133 := f123.ext hm20
      have f134 := f124.ext hm20
      have f135 := f125.ext hm20
      have f136 := f126.ext hm20
      have f137 := f127.ext hm20
      have f138 := f128.ext hm20
      have f139 := f129.ext hm20
      have hE20 := hE19.ext hm20
      have hs20 := hm20.size
      have hCw20 := hCw19.ext hm20
      refine ⟨.inr hCw20, ?_⟩
      refine OD.q rfl rfl (Q1.move rfl) rfl rfl ?_
      refine OD.qb rfl rfl (Q1.eq rfl rfl) rfl rfl ?_
      intro b11 hb11
      obtain rfl : b11 = true := hb11.trans (by exact beq_self_eq_true _)
      refine OD.q rfl rfl (Q1.pick_t rfl rfl) rfl rfl ?_
      refine OD.q rfl rfl (Q1.assign rfl) rfl rfl ?_
      refine OD.nil ?_
      refine r_seq ?_
      refine r_region ?_
      refine OL.q (Q1.move rfl) rfl rfl ?_
      refine OL.act rfl rfl (AW.callF cl47 rfl (overInts_c (w0 := w20) (l := (Ml.copiesM c shard))  f133 (by first | assumption | omega)) ?_)
      rintro _ w21 ⟨rfl, hm21⟩
      have hl81 := f133.lt
      have hl82 := f134.lt
      have hl83 := f135.lt
      have hl84 := f136.lt
      have hl85 := f137.lt
      have hl86 := f138.lt
      have hl87 := f139.lt
      have f140 := f130.keepG hm21 (by omega)
      have f141 := f131.keepG hm21 (by omega)
      have f142 := f132.keepG hm21 (by omega)
      have f143 := f134.keepG hm21 (by omega)
      have f144 := f135.keepG hm21 (by omega)
      have f145 := f136.keepG hm21 (by omega)
      have f146 := f137.keepG hm21 (by omega)
      have f147 := f138.keepG hm21 (by omega)
      have f148 := f139.keepG hm21 (by omega)
      have hE21 := Ext.thenG hE20 hm21 (by omega)
      have hs21 := hm21.size
      refine OL.nil ?_
      refine r_seq ?_
      refine r_region ?_
      refine OL.q (Q1.move rfl) rfl rfl ?_
      refine OL.act rfl rfl (AW.callF cl47 rfl (overInts_c (w0 := w21) (l := (Ml.keepsM c worker))  f143 (by first | assumption | omega)) ?_)
      rintro _ w22 ⟨rfl, hm22⟩
      have hl88 := f143.lt
      have hl89 := f144.lt
      have hl90 := f145.lt
      have hl91 := f146.lt
      have hl92 := f147.lt
      have hl93 := f148.lt
      have f149 := f140.keepG hm22 (by omega)
      have f150 := f141.keepG hm22 (by omega)
      have f151 := f142.keepG hm22 (by omega)
      have f152 := f144.keepG hm22 (by omega)
      have f153 := f145.keepG hm22 (by omega)
      have f154 := f146.keepG hm22 (by omega)
      have f155 := f147.keepG hm22 (by omega)
      have f156 := f148.keepG hm22 (by omega)
      have hE22 := Ext.thenG hE21 hm22 (by omega)
      have hs22 := hm22.size
      refine OL.nil ?_
      refine r_seq ?_
      refine r_region ?_
      refine OL.q (Q1.move rfl) rfl rfl ?_
      refine OL.act rfl rfl (AW.callF cl48 rfl (overTexts_c (w0 := w22) (l := (Ml.wordsM c shard))  f152 (by first | assumption | omega)) ?_)
      rintro _ w23 ⟨rfl, hm23⟩
      have hl94 := f152.lt
      have hl95 := f153.lt
      have hl96 := f154.lt
      have hl97 := f155.lt
      have hl98 := f156.lt
      have f157 := f149.keepG hm23 (by omega)
      have f158 := f150.keepG hm23 (by omega)
      have f159 := f151.keepG hm23 (by omega)
      have f160 := f153.keepG hm23 (by omega)
      have f161 := f154.keepG hm23 (by omega)
      have f162 := f155.keepG hm23 (by omega)
      have f163 := f156.keepG hm23 (by omega)
      have hE23 := Ext.thenG hE22 hm23 (by omega)
      have hs23 := hm23.size
      refine OL.nil ?_
      refine r_seq ?_
      refine r_region ?_
      refine OL.q (Q1.move rfl) rfl rfl ?_
      refine OL.act rfl rfl (AW.callF cl21 rfl (overBytes_c (w0 := w23) (l := (imgC c shard))  f160 (by first | assumption | omega)) ?_)
      rintro _ w24 ⟨rfl, hm24⟩
      have hl99 := f160.lt
      have hl100 := f161.lt
      have hl101 := f162.lt
      have hl102 := f163.lt
      have f164 := f157.keepG hm24 (by omega)
      have f165 := f158.keepG hm24 (by omega)
      have f166 := f159.keepG hm24 (by omega)
      have f167 := f161.keepG hm24 (by omega)
      have f168 := f162.keepG hm24 (by omega)
      have f169 := f163.keepG hm24 (by omega)
      have hE24 := Ext.thenG hE23 hm24 (by omega)
      have hs24 := hm24.size
      refine OL.nil ?_
      refine r_seq ?_
      refine r_draw1 (fun i => Nat.beq i 3 || Nat.beq i 8 || Nat.beq i 11 || Nat.beq i 12 || Nat.beq i 16) 19 (fun w' => Mod (Mg 0) w24 w') mixed (by kernel_rfl) ?_
      intro w25 hm25
      have hl103 := f167.lt
      have hl104 := f168.lt
      have hl105 := f169.lt
      have f170 := f164.ext hm25
      have f171 := f165.ext hm25
      have f172 := f166.ext hm25
      have f173 := f167.ext hm25
      have f174 := f168.ext hm25
      have f175 := f169.ext hm25
      have hE25 := hE24.ext hm25
      have hs25 := hm25.size
      have hCw25 : Mod (Mg 0) w24 w25 := Mod.ofExt hm25
      refine ⟨hCw25, ?_⟩
      rw [show List.range' 0 (Array.size _) = [0, 1, 2, 3, 4, 5, 6, 7, 8, 9, 10, 11, 12, 13, 14, 15, 16, 17, 18] from rfl]
      refine OD.q rfl rfl (Q1.move rfl) rfl rfl ?_
      refine OD.q rfl rfl (Q1.move rfl) rfl rfl ?_
      refine OD.q rfl rfl (Q1.loadN ti53 rfl (fun _ hc => f166.row.keepG hc (by omega)) rfl) rfl rfl ?_
      refine OD.act rfl rfl rfl rfl (AW.callF cl40 rfl (r13may_c (w0 := w25) (c := c)  ((f170).iv (Nat.zero_le _) (by omega)) ((f171).iv (Nat.zero_le _) (by omega)) (by first | assumption | exact Ml.Cfg.ok_of (by decide +kernel)) (by first | assumption)) ?_)
      rintro _ w26 ⟨⟨b12, hb12, rfl⟩, hm26⟩
      have hl106 := f173.lt
      have hl107 := f174.lt
      have hl108 := f175.lt
      have f176 := f170.ext hm26
      have f177 := f171.ext hm26
      have f178 := f172.ext hm26
      have f179 := f173.ext hm26
      have f180 := f174.ext hm26
      have f181 := f175.ext hm26
      have hE26 := hE25.ext hm26
      have hs26 := hm26.size
      have hCw26 := hCw25.ext hm26
      refine ⟨.inr hCw26, ?_⟩
      cases b12 with
      | true =>
        replace hb12 := hb12.symm
        have := Ml.may_bounds hb12
        refine OD.q rfl rfl (Q1.not rfl) rfl rfl ?_
        refine OD.q rfl rfl (Q1.move rfl) rfl rfl ?_
        refine OD.q rfl rfl (Q1.loadN ti53 rfl (fun _ hc => f166.row.keepG hc (by omega)) rfl) rfl rfl ?_
        refine OD.q rfl rfl (Q1.move rfl) rfl rfl ?_
        refine OD.act rfl rfl rfl rfl (AW.callF cl36 rfl (pwords_c (w0 := w26) (c := c) (shard) ((f176).iv (Nat.zero_le _) (by omega)) ((f177).iv (Nat.zero_le _) (by omega)) (by first | assumption | exact Ml.Cfg.ok_of (by decide +kernel)) (by first | omega | assumption) (by first | assumption | omega)) ?_)
        rintro v8 w27 ⟨⟨gr8, h8, hg8⟩, hm27⟩
        have hl109 := f179.lt
        have hl110 := f180.lt
        have hl111 := f181.lt
        have f182 := f176.ext hm27
        have f183 := f177.ext hm27
        have f184 := f178.ext hm27
        have f185 := f179.ext hm27
        have f186 := f180.ext hm27
        have f187 := f181.ext hm27
        have hE27 := hE26.ext hm27
        have hs27 := hm27.size
        have hCw27 := hCw26.ext hm27
        refine ⟨.inr hCw27, ?_⟩
        have hle_8 := h8.le
        have hlt_8 := h8.lt
        have := slice_len c.cuts c.words shard
        change (Ml.wordsM c shard).length ≤ _ at this
        refine OD.q rfl rfl (Q1.loadN ti53 rfl (fun _ hc => f166.row.keepG hc (by omega)) rfl) rfl rfl ?_
        refine OD.q rfl rfl (Q1.move rfl) rfl rfl ?_
        refine OD.act rfl rfl rfl rfl (AW.callF cl46 rfl (r13words_c (w0 := w27) (c := c) (shard) ((f182).iv (Nat.zero_le _) (by omega)) ((f183).iv (Nat.zero_le _) (by omega)) (by first | assumption | exact Ml.Cfg.ok_of (by decide +kernel)) (by first | omega | assumption) (by first | assumption)) ?_)
        rintro v9 w28 ⟨⟨gr9, h9, hg9⟩, hm28⟩
        have hl112 := f185.lt
        have hl113 := f186.lt
        have hl114 := f187.lt
        have hl115 := h8.lt
        have f188 := f182.ext hm28
        have f189 := f183.ext hm28
        have f190 := f184.ext hm28
        have f191 := f185.ext hm28
        have f192 := f186.ext hm28
        have f193 := f187.ext hm28
        have f194 := h8.ext hm28
        have hE28 := hE27.ext hm28
        have hs28 := hm28.size
        have hCw28 := hCw27.ext hm28
        refine ⟨.inr hCw28, ?_⟩
        have hle_9 := h9.le
        have hlt_9 := h9.lt
        have := wordsR_len c shard
        refine OD.act rfl rfl rfl rfl (AW.callF cl27 rfl (sameT_c (w0 := w28) (a := (Ml.wordsM c shard)) (b := (wordsR c shard))  ((f194.sl).iv (Nat.zero_le _) (by omega)) ((h9.sl).iv (Nat.zero_le _) (by omega))) ?_)
        rintro _ w29 ⟨⟨b13, hb13, rfl⟩, hm29⟩
        have hl116 := f191.lt
        have hl117 := f192.lt
        have hl118 := f193.lt
        have hl119 := f194.lt
        have hl120 := h9.lt
        have f195 := f188.ext hm29
        have f196 := f189.ext hm29
        have f197 := f190.ext hm29
        have f198 := f191.ext hm29
        have f199 := f192.ext hm29
        have f200 := f193.ext hm29
        have f201 := f194.ext hm29
        have f202 := h9.ext hm29
        have hE29 := hE28.ext hm29
        have hs29 := hm29.size
        have hCw29 := hCw28.ext hm29
        refine ⟨.inr hCw29, ?_⟩
        obtain rfl : b13 = true := hb13.trans (by exact decide_eq_true (wordsR_may (by assumption)))
        refine OD.q rfl rfl (Q1.pick_f rfl rfl) rfl rfl ?_
        refine OD.q rfl rfl (Q1.pick_t rfl rfl) rfl rfl ?_
        refine OD.q rfl rfl (Q1.move rfl) rfl rfl ?_
        refine OD.act rfl rfl rfl rfl (AW.callF cl33 rfl (awake13_c (w0 := w29)   ) ?_)
        rintro _ w30 ⟨⟨_, rfl, rfl⟩, hm30⟩
        have hl121 := f198.lt
        have hl122 := f199.lt
        have hl123 := f200.lt
        have hl124 := f201.lt
        have hl125 := f202.lt
        have f203 := f195.ext hm30
        have f204 := f196.ext hm30
        have f205 := f197.ext hm30
        have f206 := f198.ext hm30
        have f207 := f199.ext hm30
        have f208 := f200.ext hm30
        have f209 := f201.ext hm30
        have f210 := f202.ext hm30
        have hE30 := hE29.ext hm30
        have hs30 := hm30.size
        have hCw30 := hCw29.ext hm30
        refine ⟨.inr hCw30, ?_⟩
        refine OD.q rfl rfl (Q1.pick_t rfl rfl) rfl rfl ?_
        refine OD.q rfl rfl (Q1.assign rfl) rfl rfl ?_
        refine OD.nil ?_
        refine r_ret1 Try.func8 rfl rfl ?_
        exact Ret.mk ⟨⟨_, (by rfl), rfl⟩, hE30⟩
      | false =>
        replace hb12 := hb12.symm
        refine OD.q rfl rfl (Q1.not rfl) rfl rfl ?_
        refine OD.q rfl rfl (Q1.move rfl) rfl rfl ?_
        refine OD.sk rfl rfl rfl ?_
        refine OD.sk rfl rfl rfl ?_
        refine OD.sk rfl rfl rfl ?_
        refine OD.sk rfl rfl rfl ?_
        refine OD.sk rfl rfl rfl ?_
        refine OD.sk rfl rfl rfl ?_
        refine OD.sk rfl rfl rfl ?_
        refine OD.q rfl rfl (Q1.pick_t rfl rfl) rfl rfl ?_
        refine OD.q rfl rfl (Q1.pick_t rfl rfl) rfl rfl ?_
        refine OD.q rfl rfl (Q1.move rfl) rfl rfl ?_
        refine OD.act rfl rfl rfl rfl (AW.callF cl33 rfl (awake13_c (w0 := w26)   ) ?_)
        rintro _ w27 ⟨⟨_, rfl, rfl⟩, hm27⟩
        have hl109 := f179.lt
        have hl110 := f180.lt
        have hl111 := f181.lt
        have f182 := f176.ext hm27
        have f183 := f177.ext hm27
        have f184 := f178.ext hm27
        have f185 := f179.ext hm27
        have f186 := f180.ext hm27
        have f187 := f181.ext hm27
        have hE27 := hE26.ext hm27
        have hs27 := hm27.size
        have hCw27 := hCw26.ext hm27
        refine ⟨.inr hCw27, ?_⟩
        refine OD.q rfl rfl (Q1.pick_t rfl rfl) rfl rfl ?_
        refine OD.q rfl rfl (Q1.assign rfl) rfl rfl ?_
        refine OD.nil ?_
        refine r_ret1 Try.func8 rfl rfl ?_
        exact Ret.mk ⟨⟨_, (by rfl), rfl⟩, hE27⟩
end Go.Proofs
