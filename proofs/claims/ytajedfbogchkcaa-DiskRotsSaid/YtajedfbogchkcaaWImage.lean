/-
  The walk through place.Image.
-/
import Derived.Test.YtajedfbogchkcaaWPlace
import Derived.Test.YtajedfbogchkcaaWPack
set_option linter.unusedVariables false
set_option linter.unusedSimpArgs false
namespace Go.Proofs
open Go.Ik Go.Ml
set_option maxRecDepth 20000 in
set_option maxHeartbeats 4000000 in
theorem pimage_c {w0 : World}  {c : Cfg} {v_c_words : Value} {v_c_cuts : Value} (shard : Int) (h_c_words : Sl encS w0 (Iv 0 w0.heap.size) v_c_words c.words) (h_c_cuts : Sl encKey w0 (Iv 0 w0.heap.size) v_c_cuts c.cuts) (h_c : Cfg.Ok c) (h_shard : I64 shard) (hlen : c.words.length ≤ 1000000) :
    Calls Try.prog 37 #[.agg #[v_c_words, v_c_cuts, .int .i64 c.workers, .int .i64 c.copies, .int .i64 c.slots, .int .i64 c.batch, .int .i64 c.lease, .int .i64 c.hedge, .int .i64 c.first, .int .i64 c.cap, .int .i64 c.jitter, .int .i64 c.net], .int .i64 shard] w0 (Ret fun rv w1 => ∃ u0 u1, rv = .tuple #[u0, u1] ∧ (∃ gr, Acc encB 5 1 w1 gr u0 (imgC c shard) ∧ (gr = 0 ∨ w0.heap.size < gr)) ∧ u1 = .int .i64 (errC c shard) ∧ Ext w0 w1) := by
  have hE0 : Ext w0 w0 := Mod.refl _ _
  have hle1 := h_c_words.le
  have hle2 := h_c_cuts.le
  refine calls_enter Try.func37 rfl Try.ntmps37 rfl ?_
  refine r_seq ?_
  refine r_region ?_
  refine OL.act rfl rfl (AW.box [v_c_words, v_c_cuts, .int .i64 c.workers, .int .i64 c.copies, .int .i64 c.slots, .int .i64 c.batch, .int .i64 c.lease, .int .i64 c.hedge, .int .i64 c.first, .int .i64 c.cap, .int .i64 c.jitter, .int .i64 c.net] rfl rfl ?_)
  intro w1 b1 hm1 hb1 hz1 hk1
  have f1 := h_c_words.ext hm1
  have f2 := h_c_cuts.ext hm1
  have hE1 := hE0.ext hm1
  have hs1 := hm1.size
  refine OL.q (Q1.assign rfl) rfl rfl ?_
  refine OL.q (Q1.assign rfl) rfl rfl ?_
  refine OL.nil ?_
  refine r_seq ?_
  refine r_seq ?_
  refine r_region ?_
  refine OL.q (Q1.move rfl) rfl rfl ?_
  refine OL.q (Q1.loadN ti53 rfl (fun _ e => e ▸ hk1.row) rfl) rfl rfl ?_
  refine OL.act rfl rfl (AW.callF cl41 rfl (shards_c (w0 := w1) (c := c)  ((f1).iv (Nat.zero_le _) (by omega)) ((f2).iv (Nat.zero_le _) (by omega)) (by first | assumption | exact Ml.Cfg.ok_of (by decide +kernel))) ?_)
  rintro _ w2 ⟨rfl, hm2⟩
  have f3 := f1.ext hm2
  have f4 := f2.ext hm2
  have f5 := hk1.ext hm2
  have hE2 := hE1.ext hm2
  have hs2 := hm2.size
  have := Ml.shards_le c
  refine OL.q (Q1.subI (((((Ml.shards c : Nat) : Int)) - 1)) rfl rfl (by omega)) rfl rfl ?_
  refine OL.act rfl rfl (AW.callF cl81 rfl (within_c (w0 := w2)  (shard) (0) (((((Ml.shards c : Nat) : Int)) - 1)) (by first | omega | assumption) (by first | omega | assumption) (by first | omega | assumption)) ?_)
  rintro _ w3 ⟨⟨b2, hb2, rfl⟩, hm3⟩
  have f6 := f3.ext hm3
  have f7 := f4.ext hm3
  have f8 := f5.ext hm3
  have hE3 := hE2.ext hm3
  have hs3 := hm3.size
  cases b2 with
  | true =>
    replace hb2 := hb2.symm
    have := Ml.within_true hb2
    refine OL.q (Q1.not rfl) rfl rfl ?_
    refine OL.nil ?_
    refine r_cond_f rfl ?_
    refine r_skip ?_
    refine r_seq ?_
    refine r_region ?_
    refine OL.q (Q1.loadN ti53 rfl (fun _ e => e ▸ f8.row) rfl) rfl rfl ?_
    refine OL.q (Q1.move rfl) rfl rfl ?_
    refine OL.act rfl rfl (AW.callF cl36 rfl (pwords_c (w0 := w3) (c := c) (shard) ((f6).iv (Nat.zero_le _) (by omega)) ((f7).iv (Nat.zero_le _) (by omega)) (by first | assumption | exact Ml.Cfg.ok_of (by decide +kernel)) (by first | omega | assumption) (by first | assumption | omega)) ?_)
    rintro v1 w4 ⟨⟨gr1, h1, hg1⟩, hm4⟩
    have f9 := f6.ext hm4
    have f10 := f7.ext hm4
    have f11 := f8.ext hm4
    have hE4 := hE3.ext hm4
    have hs4 := hm4.size
    have hle_1 := h1.le
    have hlt_1 := h1.lt
    have := slice_len c.cuts c.words shard
    change (Ml.wordsM c shard).length ≤ _ at this
    refine OL.act rfl rfl (AW.callF cl15 rfl (packof_c (w0 := w4) (words := (Ml.wordsM c shard))  ((h1.sl).iv (Nat.zero_le _) (by omega)) (by exact slice_lok h_c.words) (by first | assumption | omega | (simp; done))) ?_)
    rintro _ w5 ⟨v2, _, rfl, ⟨gr2, h2, hg2⟩, rfl, hm5⟩
    have hl1 := h1.lt
    have f12 := f9.ext hm5
    have f13 := f10.ext hm5
    have f14 := f11.ext hm5
    have f15 := h1.ext hm5
    have hE5 := hE4.ext hm5
    have hs5 := hm5.size
    have hle_2 := h2.le
    have hlt_2 := h2.lt
    have := imgM_len ((Ml.wordsM c shard))
    refine OL.q (Q1.extract rfl rfl) rfl rfl ?_
    refine OL.q (Q1.extract rfl rfl) rfl rfl ?_
    refine OL.q (Q1.assign rfl) rfl rfl ?_
    refine OL.q (Q1.assign rfl) rfl rfl ?_
    refine OL.nil ?_
    refine r_ret2 Try.func37 rfl rfl rfl ?_
    exact Ret.mk ⟨_, _, rfl, ⟨_, Acc.cast h2 (by first | exact (imgC_no (by omega)).1 | exact (imgC_no (by omega)).2 | exact (imgC_yes (by omega) (by omega)).1 | exact (imgC_yes (by omega) (by omega)).2 | (exfalso; omega)), by omega⟩, (congrArg (Value.int .i64) (by first | exact (imgC_no (by omega)).1 | exact (imgC_no (by omega)).2 | exact (imgC_yes (by omega) (by omega)).1 | exact (imgC_yes (by omega) (by omega)).2 | (exfalso; omega))), hE5⟩
  | false =>
    replace hb2 := hb2.symm
    have := Ml.within_false hb2
    refine OL.q (Q1.not rfl) rfl rfl ?_
    refine OL.nil ?_
    refine r_cond_t rfl ?_
    refine r_seq ?_
    refine r_region ?_
    refine OL.q (Q1.assign rfl) rfl rfl ?_
    refine OL.q (Q1.assign rfl) rfl rfl ?_
    refine OL.nil ?_
    refine r_ret2 Try.func37 rfl rfl rfl ?_
    exact Ret.mk ⟨_, _, rfl, ⟨0, Acc.cast Acc.nil (by first | exact (imgC_no (by omega)).1 | exact (imgC_no (by omega)).2 | exact (imgC_yes (by omega) (by omega)).1 | exact (imgC_yes (by omega) (by omega)).2 | (exfalso; omega)), .inl rfl⟩, (congrArg (Value.int .i64) (by first | exact (imgC_no (by omega)).1 | exact (imgC_no (by omega)).2 | exact (imgC_yes (by omega) (by omega)).1 | exact (imgC_yes (by omega) (by omega)).2 | (exfalso; omega))), hE3⟩
end Go.Proofs
