/-
  The walk through the law PlaceSpread.
-/
import Derived.Test.YtgoellomgmgjnaaWShared
import Derived.Test.YtgoellomgmgjnaaLwPlace
set_option linter.unusedVariables false
set_option linter.unusedSimpArgs false
namespace Go.Proofs
open Go.Ik Go.Ml
theorem PlaceSpread_c {w0 : World} {c : Cfg} {v_c_words : Value} {v_c_cuts : Value} (w : Int) (h_c_words : Sl encS w0 (Iv 0 w0.heap.size) v_c_words c.words) (h_c_cuts : Sl encKey w0 (Iv 0 w0.heap.size) v_c_cuts c.cuts) (h_c : Cfg.Ok c) (h_w : I64 w) :
    Calls Try.prog 3 #[.agg #[v_c_words, v_c_cuts, .int .i64 c.workers, .int .i64 c.copies, .int .i64 c.slots, .int .i64 c.batch, .int .i64 c.lease, .int .i64 c.hedge, .int .i64 c.first, .int .i64 c.cap, .int .i64 c.jitter, .int .i64 c.net], .int .i64 w] w0 (Ret fun rv w1 => (∃ rb : Bool, rb = true ∧ rv = .bool rb) ∧ Ext w0 w1) := by
  have hE0 : Ext w0 w0 := Mod.refl _ _
  have hle1 := h_c_words.le
  have hle2 := h_c_cuts.le
  have hc1 := h_c.workers
  have hc2 := h_c.copies
  have hc3 := h_c.slots
  have hc4 := h_c.batch
  have hc5 := h_c.lease
  have hc6 := h_c.hedge
  have hc7 := h_c.first
  have hc8 := h_c.cap
  have hc9 := h_c.jitter
  have hc10 := h_c.net
  refine calls_enter Try.func3 rfl Try.ntmps3 rfl ?_
  refine r_seq ?_
  refine r_region ?_
  refine OL.act rfl rfl (AW.box [v_c_words, v_c_cuts, .int .i64 c.workers, .int .i64 c.copies, .int .i64 c.slots, .int .i64 c.batch, .int .i64 c.lease, .int .i64 c.hedge, .int .i64 c.first, .int .i64 c.cap, .int .i64 c.jitter, .int .i64 c.net] rfl rfl ?_)
  intro w1 b1 hm1 hb1 hz1 hk1
  have f1 := h_c_words.ext hm1
  have f2 := h_c_cuts.ext hm1
  have hE1 := hE0.ext hm1
  have hs1 := hm1.size
  refine OL.q (Q1.assign rfl) rfl rfl ?_
  refine OL.nil ?_
  refine r_seq ?_
  refine r_seq ?_
  refine r_region ?_
  refine OL.q (Q1.loadN ti25 rfl (fun _ e => e ▸ hk1.row) rfl) rfl rfl ?_
  refine OL.act rfl rfl (AW.callF cl5 rfl (greatC_c (w0 := w1) (c := c)  ((f1).iv (Nat.zero_le _) (by omega)) ((f2).iv (Nat.zero_le _) (by omega)) (by first | assumption | exact Ml.Cfg.ok_of (by decide +kernel))) ?_)
  rintro _ w2 ⟨⟨b2, hb2, rfl⟩, hm2⟩
  have f3 := f1.ext hm2
  have f4 := f2.ext hm2
  have f5 := hk1.ext hm2
  have hE2 := hE1.ext hm2
  have hs2 := hm2.size
  refine OL.q (Q1.move rfl) rfl rfl ?_
  cases b2 with
  | true =>
    replace hb2 := hb2.symm
    refine OL.sk rfl rfl ?_
    refine OL.sk rfl rfl ?_
    refine OL.sk rfl rfl ?_
    refine OL.q (Q1.pick_t rfl rfl) rfl rfl ?_
    refine OL.nil ?_
    refine r_cond_t rfl ?_
    refine r_seq ?_
    refine r_region ?_
    refine OL.act rfl rfl (AW.callF cl7 rfl (awake13_c (w0 := w2)   ) ?_)
    rintro _ w3 ⟨⟨_, rfl, rfl⟩, hm3⟩
    have f6 := f3.ext hm3
    have f7 := f4.ext hm3
    have f8 := f5.ext hm3
    have hE3 := hE2.ext hm3
    have hs3 := hm3.size
    refine OL.q (Q1.assign rfl) rfl rfl ?_
    refine OL.nil ?_
    refine r_ret1 Try.func3 rfl rfl ?_
    exact Ret.mk ⟨⟨_, (by rfl), rfl⟩, hE3⟩
  | false =>
    replace hb2 := hb2.symm
    refine OL.q (Q1.loadN ti25 rfl (fun _ e => e ▸ f5.row) rfl) rfl rfl ?_
    refine OL.act rfl rfl (AW.callF cl6 rfl (may_c (w0 := w2) (c := c)  ((f3).iv (Nat.zero_le _) (by omega)) ((f4).iv (Nat.zero_le _) (by omega)) (by first | assumption | exact Ml.Cfg.ok_of (by decide +kernel))) ?_)
    rintro _ w4 ⟨⟨b3, hb3, rfl⟩, hm4⟩
    have f9 := f3.ext hm4
    have f10 := f4.ext hm4
    have f11 := f5.ext hm4
    have hE4 := hE2.ext hm4
    have hs4 := hm4.size
    cases b3 with
    | true =>
      replace hb3 := hb3.symm
      have := Ml.may_bounds hb3
      refine OL.q (Q1.not rfl) rfl rfl ?_
      refine OL.q (Q1.pick_f rfl rfl) rfl rfl ?_
      refine OL.nil ?_
      refine r_cond_f rfl ?_
      refine r_skip ?_
      refine r_seq ?_
      refine r_region ?_
      refine OL.q (Q1.assign rfl) rfl rfl ?_
      refine OL.q (Q1.assign rfl) rfl rfl ?_
      refine OL.nil ?_
      refine r_seq ?_
      refine r_seq ?_
      refine r_region ?_
      refine OL.q (Q1.assign rfl) rfl rfl ?_
      refine OL.nil ?_
      refine r_block ?_
      refine r_loop (I := fun m E W => ∃ (lo : Int) (hi : Int) (i : Nat), E = [(1, .int .i64 w), (2, ptr b1 0), (5, .int .i64 lo), (6, .int .i64 hi), (7, .int .i64 (((i : Nat) : Int)))] ∧ m = (c.workers + 1 - (i : Int)).toNat ∧ Ext w0 W ∧ w4.heap.size ≤ W.heap.size ∧ Bk W b1 [v_c_words, v_c_cuts, .int .i64 c.workers, .int .i64 c.copies, .int .i64 c.slots, .int .i64 c.batch, .int .i64 c.lease, .int .i64 c.hedge, .int .i64 c.first, .int .i64 c.cap, .int .i64 c.jitter, .int .i64 c.net] 25 ∧ Sl encS W (Iv 0 w0.heap.size) v_c_words c.words ∧ Sl encKey W (Iv 0 w0.heap.size) v_c_cuts c.cuts ∧ (1 ≤ i) ∧ ((i : Int) ≤ c.workers + 1) ∧ (lo = Ml.loF (Ml.keepN c) (i - 1)) ∧ (hi = Ml.hiF (Ml.keepN c) (i - 1))) ?_ ?_
      · refine ⟨_, _, ⟨(100 : Int), (0 : Int), (1 : Nat), rfl, rfl, hE4, Nat.le_refl _, f11, f9, f10, (by omega), (by omega), (by rfl), (by rfl)⟩, ⟨rfl, rfl, rfl, rfl, rfl, trivial⟩⟩
      · rintro _ _ w5 ⟨lo, hi, i, rfl, rfl, hE5, hs5, f12, f13, f14, hone, hiw, hlo, hhi⟩ ih1
        refine r_seq ?_
        refine r_seq ?_
        refine r_region ?_
        refine OL.q (Q1.move rfl) rfl rfl ?_
        refine OL.q (Q1.fieldAddr fl25_2 rfl) rfl rfl ?_
        refine OL.q (Q1.load1 ti3 rfl (fun _ e => e ▸ (f12.cell 2 _ rfl))) rfl rfl ?_
        refine OL.qb (Q1.le rfl rfl) rfl rfl ?_
        intro b4 hb4
        refine OL.nil ?_
        cases b4 with
        | true =>
          replace hb4 := of_decide_eq_true hb4.symm
          refine r_cond_t rfl ?_
          refine r_skip ?_
          refine r_seq ?_
          refine r_block ?_
          refine r_seq ?_
          refine r_region ?_
          refine OL.q (Q1.loadN ti25 rfl (fun _ e => e ▸ f12.row) rfl) rfl rfl ?_
          refine OL.q (Q1.move rfl) rfl rfl ?_
          refine OL.act rfl rfl (AW.callF cl8 rfl (keeps_c (w0 := w5) (c := c) (((i : Nat) : Int)) ((f13).iv (Nat.zero_le _) (by omega)) ((f14).iv (Nat.zero_le _) (by omega)) (by first | assumption | exact Ml.Cfg.ok_of (by decide +kernel)) (by first | assumption | omega)) ?_)
          rintro v1 w6 ⟨h1, hm5⟩
          have f15 := f12.ext hm5
          have f16 := f13.ext hm5
          have f17 := f14.ext hm5
          have hE6 := hE5.ext hm5
          have hs6 := hm5.size
          have hle_1 := h1.le
          refine OL.q (Q1.lenSl Try.underlying28 (h1) rfl) rfl rfl ?_
          refine OL.q (Q1.assign rfl) rfl rfl ?_
          refine OL.nil ?_
          refine r_region ?_
          refine OL.q (Q1.move rfl) rfl rfl ?_
          refine OL.q (Q1.move rfl) rfl rfl ?_
          refine OL.q (Q1.min rfl rfl) rfl rfl ?_
          refine OL.q (Q1.move rfl) rfl rfl ?_
          refine OL.q (Q1.move rfl) rfl rfl ?_
          refine OL.q (Q1.max rfl rfl) rfl rfl ?_
          refine OL.q (Q1.assign rfl) rfl rfl ?_
          refine OL.q (Q1.assign rfl) rfl rfl ?_
          refine OL.nil ?_
          refine r_inBlock ?_
          refine r_region ?_
          refine OL.q (Q1.move rfl) rfl rfl ?_
          refine OL.q (Q1.addI (((i + 1 : Nat) : Int)) rfl rfl (by omega)) rfl rfl ?_
          refine OL.q (Q1.assign rfl) rfl rfl ?_
          refine OL.nil ?_
          exact (ih1 _ _ _ ⟨((min lo (((((Ml.keepsM c (((i : Nat) : Int)))).length : Nat) : Int))) : Int), ((max hi (((((Ml.keepsM c (((i : Nat) : Int)))).length : Nat) : Int))) : Int), (i + 1 : Nat), rfl, rfl, hE6, (by omega), f15, f16, f17, (by omega), (by omega), (by exact Ml.lo_step hone hlo), (by exact Ml.hi_step hone hhi)⟩ (by omega)).sub ⟨rfl, rfl, rfl, rfl, rfl, trivial⟩
        | false =>
          replace hb4 := of_decide_eq_false hb4.symm
          refine r_cond_f rfl ?_
          refine r_exit rfl ?_
          refine r_seq ?_
          refine r_draw1 (fun i => Nat.beq i 12 || Nat.beq i 22 || Nat.beq i 24 || Nat.beq i 29) (fun w' => Mod (Mg 0) w5 w') mixed (by kernel_rfl) ?_
          intro w7 hm6
          have f18 := f12.ext hm6
          have f19 := f13.ext hm6
          have f20 := f14.ext hm6
          have hE7 := hE5.ext hm6
          have hs7 := hm6.size
          have hCw7 : Mod (Mg 0) w5 w7 := Mod.ofExt hm6
          refine ⟨hCw7, ?_⟩
          rw [show List.range' 0 (Array.size _) = [0, 1, 2, 3, 4, 5, 6, 7, 8, 9, 10, 11, 12, 13, 14, 15, 16, 17, 18, 19, 20, 21, 22, 23, 24, 25, 26, 27, 28, 29, 30, 31] from rfl]
          refine OD.q rfl rfl (Q1.move rfl) rfl rfl ?_
          have hmay : Ml.may c = true := by assumption
          have hfin := Ml.spread_fin hmay hone (by omega) hiw hlo hhi
          refine OD.q rfl rfl (Q1.move rfl) rfl rfl ?_
          refine OD.q rfl rfl (Q1.subI ((hi - lo)) rfl rfl (by omega)) rfl rfl ?_
          refine OD.q rfl rfl (Q1.fieldAddr fl25_3 rfl) rfl rfl ?_
          refine OD.q rfl rfl (Q1.load1 ti3 rfl (fun _ hc => (f12.cell 3 _ rfl).keepG hc (by omega))) rfl rfl ?_
          refine OD.qb rfl rfl (Q1.le rfl rfl) rfl rfl ?_
          intro b5 hb5
          obtain rfl : b5 = true := hb5.trans (by exact decide_eq_true (by omega))
          refine OD.q rfl rfl (Q1.move rfl) rfl rfl ?_
          refine OD.q rfl rfl (Q1.move rfl) rfl rfl ?_
          refine OD.qb rfl rfl (Q1.ge rfl rfl) rfl rfl ?_
          intro b6 hb6
          obtain rfl : b6 = true := hb6.trans (by exact decide_eq_true (by omega))
          refine OD.q rfl rfl (Q1.pick_t rfl rfl) rfl rfl ?_
          refine OD.q rfl rfl (Q1.move rfl) rfl rfl ?_
          refine OD.q rfl rfl (Q1.loadN ti25 rfl (fun _ hc => f12.row.keepG hc (by omega)) rfl) rfl rfl ?_
          refine OD.act rfl rfl rfl rfl (AW.callF cl8 rfl (keeps_c (w0 := w7) (c := c) (0) ((f19).iv (Nat.zero_le _) (by omega)) ((f20).iv (Nat.zero_le _) (by omega)) (by first | assumption | exact Ml.Cfg.ok_of (by decide +kernel)) (by first | assumption | omega)) ?_)
          rintro v2 w8 ⟨h2, hm7⟩
          have f21 := f18.ext hm7
          have f22 := f19.ext hm7
          have f23 := f20.ext hm7
          have hE8 := hE7.ext hm7
          have hs8 := hm7.size
          have hCw8 := hCw7.ext hm7
          refine ⟨hCw8, ?_⟩
          have hle_2 := h2.le
          refine OD.q rfl rfl (Q1.lenSl Try.underlying28 (h2) rfl) rfl rfl ?_
          refine OD.qb rfl rfl (Q1.eq rfl rfl) rfl rfl ?_
          intro b7 hb7
          obtain rfl : b7 = true := hb7.trans (by exact beq_iff_eq.2 (by rw [Ml.keeps_none hmay (by omega)]; rfl))
          refine OD.q rfl rfl (Q1.pick_t rfl rfl) rfl rfl ?_
          refine OD.q rfl rfl (Q1.move rfl) rfl rfl ?_
          refine OD.q rfl rfl (Q1.loadN ti25 rfl (fun _ hc => f12.row.keepG hc (by omega)) rfl) rfl rfl ?_
          refine OD.q rfl rfl (Q1.fieldAddr fl25_2 rfl) rfl rfl ?_
          refine OD.q rfl rfl (Q1.load1 ti3 rfl (fun _ hc => (f12.cell 2 _ rfl).keepG hc (by omega))) rfl rfl ?_
          refine OD.q rfl rfl (Q1.addI ((c.workers + 1)) rfl rfl (by omega)) rfl rfl ?_
          refine OD.q rfl rfl (Q1.move rfl) rfl rfl ?_
          refine OD.act rfl rfl rfl rfl (AW.callF cl9 rfl (low_c (w0 := w8)  (w) (100) (by first | assumption | omega) (by first | assumption | omega) (by omega)) ?_)
          rintro _ w9 ⟨rfl, hm8, hp1⟩
          have f24 := f21.ext hm8
          have f25 := f22.ext hm8
          have f26 := f23.ext hm8
          have f27 := h2.ext hm8
          have hE9 := hE8.ext hm8
          have hs9 := hm8.size
          have hCw9 := hCw8.ext hm8
          refine ⟨hCw9, ?_⟩
          refine OD.q rfl rfl (Q1.addI (((c.workers + 1) + ((Ml.lowM w 100)))) rfl rfl (by omega)) rfl rfl ?_
          refine OD.act rfl rfl rfl rfl (AW.callF cl8 rfl (keeps_c (w0 := w9) (c := c) (((c.workers + 1) + ((Ml.lowM w 100)))) ((f25).iv (Nat.zero_le _) (by omega)) ((f26).iv (Nat.zero_le _) (by omega)) (by first | assumption | exact Ml.Cfg.ok_of (by decide +kernel)) (by first | assumption | omega)) ?_)
          rintro v3 w10 ⟨h3, hm9⟩
          have f28 := f24.ext hm9
          have f29 := f25.ext hm9
          have f30 := f26.ext hm9
          have f31 := f27.ext hm9
          have hE10 := hE9.ext hm9
          have hs10 := hm9.size
          have hCw10 := hCw9.ext hm9
          refine ⟨hCw10, ?_⟩
          have hle_3 := h3.le
          refine OD.q rfl rfl (Q1.lenSl Try.underlying28 (h3) rfl) rfl rfl ?_
          refine OD.qb rfl rfl (Q1.eq rfl rfl) rfl rfl ?_
          intro b8 hb8
          obtain rfl : b8 = true := hb8.trans (by exact beq_iff_eq.2 (by rw [Ml.keeps_none hmay (by omega)]; rfl))
          refine OD.q rfl rfl (Q1.pick_t rfl rfl) rfl rfl ?_
          refine OD.q rfl rfl (Q1.move rfl) rfl rfl ?_
          refine OD.act rfl rfl rfl rfl (AW.callF cl7 rfl (awake13_c (w0 := w10)   ) ?_)
          rintro _ w11 ⟨⟨_, rfl, rfl⟩, hm10⟩
          have f32 := f28.ext hm10
          have f33 := f29.ext hm10
          have f34 := f30.ext hm10
          have f35 := f31.ext hm10
          have f36 := h3.ext hm10
          have hE11 := hE10.ext hm10
          have hs11 := hm10.size
          have hCw11 := hCw10.ext hm10
          refine ⟨hCw11, ?_⟩
          refine OD.q rfl rfl (Q1.pick_t rfl rfl) rfl rfl ?_
          refine OD.q rfl rfl (Q1.assign rfl) rfl rfl ?_
          refine OD.nil ?_
          refine r_ret1 Try.func3 rfl rfl ?_
          exact Ret.mk ⟨⟨_, (by rfl), rfl⟩, hE11⟩
    | false =>
      replace hb3 := hb3.symm
      refine OL.q (Q1.not rfl) rfl rfl ?_
      refine OL.q (Q1.pick_f rfl rfl) rfl rfl ?_
      refine OL.nil ?_
      refine r_cond_t rfl ?_
      refine r_seq ?_
      refine r_region ?_
      refine OL.act rfl rfl (AW.callF cl7 rfl (awake13_c (w0 := w4)   ) ?_)
      rintro _ w12 ⟨⟨_, rfl, rfl⟩, hm11⟩
      have f37 := f9.ext hm11
      have f38 := f10.ext hm11
      have f39 := f11.ext hm11
      have hE12 := hE4.ext hm11
      have hs12 := hm11.size
      refine OL.q (Q1.assign rfl) rfl rfl ?_
      refine OL.nil ?_
      refine r_ret1 Try.func3 rfl rfl ?_
      exact Ret.mk ⟨⟨_, (by rfl), rfl⟩, hE12⟩
end Go.Proofs
