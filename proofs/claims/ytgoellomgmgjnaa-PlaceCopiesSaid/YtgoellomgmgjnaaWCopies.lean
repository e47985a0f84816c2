/-
  The walk through the law PlaceCopies.
-/
import Derived.Test.YtgoellomgmgjnaaFacts2
import Derived.Test.YtgoellomgmgjnaaWMerge
import Derived.Test.YtgoellomgmgjnaaWShared
import Derived.Test.YtgoellomgmgjnaaLwCopies
set_option linter.unusedVariables false
set_option linter.unusedSimpArgs false
namespace Go.Proofs
open Go.Ik Go.Ml
set_option maxHeartbeats 4000000 in
theorem PlaceCopies_c {w0 : World} {c : Cfg} {v_c_words : Value} {v_c_cuts : Value} (h_c_words : Sl encS w0 (Iv 0 w0.heap.size) v_c_words c.words) (h_c_cuts : Sl encKey w0 (Iv 0 w0.heap.size) v_c_cuts c.cuts) (h_c : Cfg.Ok c) :
    Calls Try.prog 4 #[.agg #[v_c_words, v_c_cuts, .int .i64 c.workers, .int .i64 c.copies, .int .i64 c.slots, .int .i64 c.batch, .int .i64 c.lease, .int .i64 c.hedge, .int .i64 c.first, .int .i64 c.cap, .int .i64 c.jitter, .int .i64 c.net]] w0 (Ret fun rv w1 => (∃ rb : Bool, rb = true ∧ rv = .bool rb) ∧ Ext w0 w1) := by
  have hE0 : Ext w0 w0 := Mod.refl _ _
  have hle1 := h_c_words.le
  have hle2 := h_c_cuts.le
  have hc1 := h_c.workers
  have hc2 := h_c.copies
  have hc3 := h_c.slots
  have hc4 := h_c.batch
  have hc5 := h_c.lease
  have hc6 := h_c.hedge
  have hc7 := h_c.first
  have hc8 := h_c.cap
  have hc9 := h_c.jitter
  have hc10 := h_c.net
  refine calls_enter Try.func4 rfl Try.ntmps4 rfl ?_
  refine r_seq ?_
  refine r_region ?_
  refine OL.act rfl rfl (AW.box [v_c_words, v_c_cuts, .int .i64 c.workers, .int .i64 c.copies, .int .i64 c.slots, .int .i64 c.batch, .int .i64 c.lease, .int .i64 c.hedge, .int .i64 c.first, .int .i64 c.cap, .int .i64 c.jitter, .int .i64 c.net] rfl rfl ?_)
  intro w1 b1 hm1 hb1 hz1 hk1
  have f1 := h_c_words.ext hm1
  have f2 := h_c_cuts.ext hm1
  have hE1 := hE0.ext hm1
  have hs1 := hm1.size
  refine OL.q (Q1.assign rfl) rfl rfl ?_
  refine OL.nil ?_
  refine r_seq ?_
  refine r_seq ?_
  refine r_region ?_
  refine OL.q (Q1.loadN ti25 rfl (fun _ e => e ▸ hk1.row) rfl) rfl rfl ?_
  refine OL.act rfl rfl (AW.callF cl5 rfl (greatC_c (w0 := w1) (c := c)  ((f1).iv (Nat.zero_le _) (by omega)) ((f2).iv (Nat.zero_le _) (by omega)) (by first | assumption | exact Ml.Cfg.ok_of (by decide +kernel))) ?_)
  rintro _ w2 ⟨⟨b2, hb2, rfl⟩, hm2⟩
  have f3 := f1.ext hm2
  have f4 := f2.ext hm2
  have f5 := hk1.ext hm2
  have hE2 := hE1.ext hm2
  have hs2 := hm2.size
  refine OL.q (Q1.move rfl) rfl rfl ?_
  cases b2 with
  | true =>
    replace hb2 := hb2.symm
    refine OL.sk rfl rfl ?_
    refine OL.sk rfl rfl ?_
    refine OL.sk rfl rfl ?_
    refine OL.q (Q1.pick_t rfl rfl) rfl rfl ?_
    refine OL.nil ?_
    refine r_cond_t rfl ?_
    refine r_seq ?_
    refine r_region ?_
    refine OL.act rfl rfl (AW.callF cl7 rfl (awake13_c (w0 := w2)   ) ?_)
    rintro _ w3 ⟨⟨_, rfl, rfl⟩, hm3⟩
    have f6 := f3.ext hm3
    have f7 := f4.ext hm3
    have f8 := f5.ext hm3
    have hE3 := hE2.ext hm3
    have hs3 := hm3.size
    refine OL.q (Q1.assign rfl) rfl rfl ?_
    refine OL.nil ?_
    refine r_ret1 Try.func4 rfl rfl ?_
    exact Ret.mk ⟨⟨_, (by rfl), rfl⟩, hE3⟩
  | false =>
    replace hb2 := hb2.symm
    refine OL.q (Q1.loadN ti25 rfl (fun _ e => e ▸ f5.row) rfl) rfl rfl ?_
    refine OL.act rfl rfl (AW.callF cl6 rfl (may_c (w0 := w2) (c := c)  ((f3).iv (Nat.zero_le _) (by omega)) ((f4).iv (Nat.zero_le _) (by omega)) (by first | assumption | exact Ml.Cfg.ok_of (by decide +kernel))) ?_)
    rintro _ w3 ⟨⟨b3, hb3, rfl⟩, hm3⟩
    have f6 := f3.ext hm3
    have f7 := f4.ext hm3
    have f8 := f5.ext hm3
    have hE3 := hE2.ext hm3
    have hs3 := hm3.size
    cases b3 with
    | true =>
      replace hb3 := hb3.symm
      have := Ml.may_bounds hb3
      refine OL.q (Q1.not rfl) rfl rfl ?_
      refine OL.q (Q1.pick_f rfl rfl) rfl rfl ?_
      refine OL.nil ?_
      refine r_cond_f rfl ?_
      refine r_skip ?_
      refine r_seq ?_
      refine r_region ?_
      refine OL.q (Q1.assign rfl) rfl rfl ?_
      refine OL.nil ?_
      refine r_seq ?_
      refine r_region ?_
      refine OL.q (Q1.assign rfl) rfl rfl ?_
      refine OL.nil ?_
      refine r_seq ?_
      refine r_seq ?_
      refine r_region ?_
      refine OL.q (Q1.assign rfl) rfl rfl ?_
      refine OL.nil ?_
      refine r_block ?_
      refine r_loop (I := fun m E W => ∃ (v_all : Value) (all : List Str) (s : Nat), E = [(1, ptr b1 0), (3, .int .i64 0), (4, v_all), (5, .int .i64 (((s : Nat) : Int)))] ∧ m = Ml.shards c - s ∧ Ext w0 W ∧ w3.heap.size ≤ W.heap.size ∧ Sl encS W (Iv 0 W.heap.size) v_all all ∧ Bk W b1 [v_c_words, v_c_cuts, .int .i64 c.workers, .int .i64 c.copies, .int .i64 c.slots, .int .i64 c.batch, .int .i64 c.lease, .int .i64 c.hedge, .int .i64 c.first, .int .i64 c.cap, .int .i64 c.jitter, .int .i64 c.net] 25 ∧ Sl encS W (Iv 0 w0.heap.size) v_c_words c.words ∧ Sl encKey W (Iv 0 w0.heap.size) v_c_cuts c.cuts ∧ (all = Ml.allM c s) ∧ (s ≤ Ml.shards c)) ?_ ?_
      · refine ⟨_, _, ⟨(.slice none 0 0 : Value), ([] : List Str), (0 : Nat), rfl, rfl, hE3, Nat.le_refl _, Sl.nil, f8, f6, f7, (by rfl), (by exact Nat.zero_le _)⟩, ⟨rfl, rfl, rfl, rfl, trivial⟩⟩
      · rintro _ _ w4 ⟨v_all, all, s, rfl, rfl, hE4, hs4, ha1, f9, f10, f11, hall, hsl⟩ ih1
        have hmay : Ml.may c = true := by assumption
        have hsh := Ml.shards_le c
        have hbd := Ml.may_bounds hmay
        have hal := Ml.allM_len hmay s
        rw [← hall] at hal
        have hwl := Ml.words_len c (s : Int)
        refine r_seq ?_
        refine r_seq ?_
        refine r_region ?_
        refine OL.q (Q1.move rfl) rfl rfl ?_
        refine OL.q (Q1.loadN ti25 rfl (fun _ e => e ▸ f9.row) rfl) rfl rfl ?_
        refine OL.act rfl rfl (AW.callF cl10 rfl (shards_c (w0 := w4) (c := c)  ((f10).iv (Nat.zero_le _) (by omega)) ((f11).iv (Nat.zero_le _) (by omega)) (by first | assumption | exact Ml.Cfg.ok_of (by decide +kernel))) ?_)
        rintro _ w5 ⟨rfl, hm4⟩
        have f12 := ha1.ext hm4
        have f13 := f9.ext hm4
        have f14 := f10.ext hm4
        have f15 := f11.ext hm4
        have hE5 := hE4.ext hm4
        have hs5 := hm4.size
        have := Ml.shards_le c
        refine OL.qb (Q1.lt rfl rfl) rfl rfl ?_
        intro b4 hb4
        refine OL.nil ?_
        cases b4 with
        | true =>
          replace hb4 := of_decide_eq_true hb4.symm
          refine r_cond_t rfl ?_
          refine r_skip ?_
          refine r_seq ?_
          refine r_block ?_
          refine r_seq ?_
          refine r_region ?_
          refine OL.q (Q1.loadN ti25 rfl (fun _ e => e ▸ f13.row) rfl) rfl rfl ?_
          refine OL.q (Q1.move rfl) rfl rfl ?_
          refine OL.act rfl rfl (AW.callF cl11 rfl (copies_c (w0 := w5) (c := c) (((s : Nat) : Int)) ((f14).iv (Nat.zero_le _) (by omega)) ((f15).iv (Nat.zero_le _) (by omega)) (by first | assumption | exact Ml.Cfg.ok_of (by decide +kernel)) (by first | assumption | omega)) ?_)
          rintro v1 w6 ⟨h1, hm5⟩
          have f16 := f12.ext hm5
          have f17 := f13.ext hm5
          have f18 := f14.ext hm5
          have f19 := f15.ext hm5
          have hE6 := hE5.ext hm5
          have hs6 := hm5.size
          have hle_1 := h1.le
          refine OL.q (Q1.assign rfl) rfl rfl ?_
          refine OL.nil ?_
          refine r_seq ?_
          refine r_seq ?_
          refine r_region ?_
          refine OL.q (Q1.move rfl) rfl rfl ?_
          refine OL.q (Q1.lenSl Try.underlying28 (h1) rfl) rfl rfl ?_
          refine OL.q (Q1.fieldAddr fl25_3 rfl) rfl rfl ?_
          refine OL.q (Q1.load1 ti3 rfl (fun _ e => e ▸ (f17.cell 3 _ rfl))) rfl rfl ?_
          refine OL.qb (Q1.ne rfl rfl) rfl rfl ?_
          intro b5 hb5
          obtain rfl : b5 = false := hb5.trans (by exact Ml.nbeq_lit (Ml.copies_len hmay (by omega)))
          refine OL.nil ?_
          refine r_cond_f rfl ?_
          refine r_skip ?_
          refine r_seq ?_
          refine r_seq ?_
          refine r_region ?_
          refine OL.q (Q1.assign rfl) rfl rfl ?_
          refine OL.nil ?_
          refine r_block ?_
          refine r_loop (I := fun m E W => ∃ (i : Nat), E = [(1, ptr b1 0), (3, .int .i64 0), (4, v_all), (5, .int .i64 (((s : Nat) : Int))), (6, v1), (7, .int .i64 (((i : Nat) : Int)))] ∧ m = (Ml.copiesM c (s : Int)).length - i ∧ Ext w0 W ∧ w6.heap.size ≤ W.heap.size ∧ Bk W b1 [v_c_words, v_c_cuts, .int .i64 c.workers, .int .i64 c.copies, .int .i64 c.slots, .int .i64 c.batch, .int .i64 c.lease, .int .i64 c.hedge, .int .i64 c.first, .int .i64 c.cap, .int .i64 c.jitter, .int .i64 c.net] 25 ∧ Sl encS W (Iv 0 w0.heap.size) v_c_words c.words ∧ Sl encKey W (Iv 0 w0.heap.size) v_c_cuts c.cuts ∧ Sl encS W (Iv 0 w4.heap.size) v_all all ∧ Sl encI W (Iv w5.heap.size w6.heap.size) v1 ((Ml.copiesM c (((s : Nat) : Int))))) ?_ ?_
          · refine ⟨_, _, ⟨(0 : Nat), rfl, rfl, hE6, Nat.le_refl _, f17, f18, f19, f16, h1⟩, ⟨rfl, rfl, rfl, rfl, rfl, rfl, trivial⟩⟩
          · rintro _ _ w7 ⟨i, rfl, rfl, hE7, hs7, f20, f21, f22, f23, f24⟩ ih2
            refine r_seq ?_
            refine r_seq ?_
            refine r_region ?_
            refine OL.q (Q1.move rfl) rfl rfl ?_
            refine OL.q (Q1.move rfl) rfl rfl ?_
            refine OL.q (Q1.lenSl Try.underlying28 (f24) rfl) rfl rfl ?_
            refine OL.qb (Q1.lt rfl rfl) rfl rfl ?_
            intro b6 hb6
            refine OL.nil ?_
            cases b6 with
            | true =>
              replace hb6 := of_decide_eq_true hb6.symm
              refine r_cond_t rfl ?_
              refine r_skip ?_
              refine r_seq ?_
              refine r_block ?_
              refine r_seq ?_
              refine r_draw1 (fun i => false) (fun w' => Mod (Mg 0) w7 w') mixed (by kernel_rfl) ?_
              intro w8 hm6
              have f25 := f20.ext hm6
              have f26 := f21.ext hm6
              have f27 := f22.ext hm6
              have f28 := f23.ext hm6
              have f29 := f24.ext hm6
              have hE8 := hE7.ext hm6
              have hs8 := hm6.size
              have hCw8 : Mod (Mg 0) w7 w8 := Mod.ofExt hm6
              refine ⟨hCw8, ?_⟩
              rw [show List.range' 0 (Array.size _) = [0, 1, 2, 3, 4, 5, 6, 7, 8, 9, 10, 11, 12, 13, 14, 15, 16, 17, 18, 19, 20, 21, 22, 23, 24, 25, 26, 27, 28, 29, 30, 31, 32, 33, 34, 35, 36, 37, 38, 39, 40, 41, 42, 43, 44, 45] from rfl]
              refine OD.q rfl rfl (Q1.move rfl) rfl rfl ?_
              refine OD.q rfl rfl (Q1.move rfl) rfl rfl ?_
              obtain ⟨x1, b7, o1, hx1, hr1, hl1, hu1, hw1⟩ := Sl.at' (P := Try.prog) f24 Try.underlying28 ti3 encI_len (k := .i64) (n := ((i : Nat) : Int)) (i) (by omega) (by first | assumption | omega)
              refine OD.q rfl rfl (Q1.indexAddr rfl rfl hr1) rfl rfl ?_
              refine OD.q rfl rfl (Q1.load1 ti3 rfl (fun _ hc => hw1.keepG hc (by omega))) rfl rfl ?_
              refine OD.qb rfl rfl (Q1.lt rfl rfl) rfl rfl ?_
              intro b8 hb7
              obtain rfl : b8 = false := hb7.trans (by exact decide_eq_false (by have := Ml.copies_at hmay (by omega) hx1; omega))
              refine OD.q rfl rfl (Q1.move rfl) rfl rfl ?_
              refine OD.q rfl rfl (Q1.move rfl) rfl rfl ?_
              refine OD.q rfl rfl (Q1.move rfl) rfl rfl ?_
              obtain ⟨x2, b9, o2, hx2, hr2, hl2, hu2, hw2⟩ := Sl.at' (P := Try.prog) f24 Try.underlying28 ti3 encI_len (k := .i64) (n := ((i : Nat) : Int)) (i) (by omega) (by first | assumption | omega)
              obtain rfl : x1 = x2 := Option.some.inj (hx1.symm.trans hx2)
              refine OD.q rfl rfl (Q1.indexAddr rfl rfl hr2) rfl rfl ?_
              refine OD.q rfl rfl (Q1.load1 ti3 rfl (fun _ hc => hw2.keepG hc (by omega))) rfl rfl ?_
              refine OD.q rfl rfl (Q1.fieldAddr fl25_2 rfl) rfl rfl ?_
              refine OD.q rfl rfl (Q1.load1 ti3 rfl (fun _ hc => (f20.cell 2 _ rfl).keepG hc (by omega))) rfl rfl ?_
              refine OD.qb rfl rfl (Q1.gt rfl rfl) rfl rfl ?_
              intro b10 hb8
              obtain rfl : b10 = false := hb8.trans (by exact decide_eq_false (by have := Ml.copies_at hmay (by omega) hx1; omega))
              refine OD.q rfl rfl (Q1.pick_f rfl rfl) rfl rfl ?_
              refine OD.q rfl rfl (Q1.move rfl) rfl rfl ?_
              refine OD.q rfl rfl (Q1.move rfl) rfl rfl ?_
              refine OD.qb rfl rfl (Q1.gt rfl rfl) rfl rfl ?_
              intro b11 hb9
              refine OD.q rfl rfl (Q1.move rfl) rfl rfl ?_
              cases b11 with
              | true =>
                replace hb9 := of_decide_eq_true hb9.symm
                refine OD.q rfl rfl (Q1.move rfl) rfl rfl ?_
                refine OD.q rfl rfl (Q1.move rfl) rfl rfl ?_
                obtain ⟨x3, b12, o3, hx3, hr3, hl3, hu3, hw3⟩ := Sl.at' (P := Try.prog) f24 Try.underlying28 ti3 encI_len (k := .i64) (n := ((i : Nat) : Int)) (i) (by omega) (by first | assumption | omega)
                obtain rfl : x1 = x3 := Option.some.inj (hx1.symm.trans hx3)
                refine OD.q rfl rfl (Q1.indexAddr rfl rfl hr3) rfl rfl ?_
                refine OD.q rfl rfl (Q1.load1 ti3 rfl (fun _ hc => hw3.keepG hc (by omega))) rfl rfl ?_
                refine OD.q rfl rfl (Q1.move rfl) rfl rfl ?_
                refine OD.q rfl rfl (Q1.move rfl) rfl rfl ?_
                refine OD.q rfl rfl (Q1.subI ((((i : Nat) : Int) - 1)) rfl rfl (by omega)) rfl rfl ?_
                obtain ⟨x4, b13, o4, hx4, hr4, hl4, hu4, hw4⟩ := Sl.at' (P := Try.prog) f24 Try.underlying28 ti3 encI_len (k := .i64) (n := (((i : Nat) : Int) - 1)) ((i - 1)) (by omega) (by first | assumption | omega)
                refine OD.q rfl rfl (Q1.indexAddr rfl rfl hr4) rfl rfl ?_
                refine OD.q rfl rfl (Q1.load1 ti3 rfl (fun _ hc => hw4.keepG hc (by omega))) rfl rfl ?_
                refine OD.qb rfl rfl (Q1.eq rfl rfl) rfl rfl ?_
                intro b14 hb10
                obtain rfl : b14 = false := hb10.trans (by exact beq_eq_false_iff_ne.2 (Ml.copies_ne hmay (by omega) hx1 (by assumption) (by omega)))
                refine OD.q rfl rfl (Q1.pick_t rfl rfl) rfl rfl ?_
                refine OD.q rfl rfl (Q1.pick_f rfl rfl) rfl rfl ?_
                refine OD.q rfl rfl (Q1.move rfl) rfl rfl ?_
                refine OD.q rfl rfl (Q1.move rfl) rfl rfl ?_
                refine OD.qb rfl rfl (Q1.gt rfl rfl) rfl rfl ?_
                intro b15 hb11
                refine OD.q rfl rfl (Q1.move rfl) rfl rfl ?_
                cases b15 with
                | true =>
                  replace hb11 := of_decide_eq_true hb11.symm
                  refine OD.q rfl rfl (Q1.move rfl) rfl rfl ?_
                  refine OD.q rfl rfl (Q1.move rfl) rfl rfl ?_
                  obtain ⟨x5, b16, o5, hx5, hr5, hl5, hu5, hw5⟩ := Sl.at' (P := Try.prog) f24 Try.underlying28 ti3 encI_len (k := .i64) (n := ((i : Nat) : Int)) (i) (by omega) (by first | assumption | omega)
                  obtain rfl : x1 = x5 := Option.some.inj (hx1.symm.trans hx5)
                  refine OD.q rfl rfl (Q1.indexAddr rfl rfl hr5) rfl rfl ?_
                  refine OD.q rfl rfl (Q1.load1 ti3 rfl (fun _ hc => hw5.keepG hc (by omega))) rfl rfl ?_
                  refine OD.q rfl rfl (Q1.move rfl) rfl rfl ?_
                  refine OD.q rfl rfl (Q1.move rfl) rfl rfl ?_
                  refine OD.q rfl rfl (Q1.subI ((((i : Nat) : Int) - 2)) rfl rfl (by omega)) rfl rfl ?_
                  obtain ⟨x6, b17, o6, hx6, hr6, hl6, hu6, hw6⟩ := Sl.at' (P := Try.prog) f24 Try.underlying28 ti3 encI_len (k := .i64) (n := (((i : Nat) : Int) - 2)) ((i - 2)) (by omega) (by first | assumption | omega)
                  refine OD.q rfl rfl (Q1.indexAddr rfl rfl hr6) rfl rfl ?_
                  refine OD.q rfl rfl (Q1.load1 ti3 rfl (fun _ hc => hw6.keepG hc (by omega))) rfl rfl ?_
                  refine OD.qb rfl rfl (Q1.eq rfl rfl) rfl rfl ?_
                  intro b18 hb12
                  obtain rfl : b18 = false := hb12.trans (by exact beq_eq_false_iff_ne.2 (Ml.copies_ne hmay (by omega) hx1 (by assumption) (by omega)))
                  refine OD.q rfl rfl (Q1.pick_t rfl rfl) rfl rfl ?_
                  refine OD.q rfl rfl (Q1.pick_f rfl rfl) rfl rfl ?_
                  refine OD.nil ?_
                  refine r_cond_f rfl ?_
                  refine r_skip ?_
                  refine r_inBlock ?_
                  refine r_region ?_
                  refine OL.q (Q1.move rfl) rfl rfl ?_
                  refine OL.q (Q1.addI (((i + 1 : Nat) : Int)) rfl rfl (by omega)) rfl rfl ?_
                  refine OL.q (Q1.assign rfl) rfl rfl ?_
                  refine OL.nil ?_
                  exact (ih2 _ _ _ ⟨(i + 1 : Nat), rfl, rfl, hE8, (by omega), f25, f26, f27, f28, f29⟩ (by omega)).sub ⟨rfl, rfl, rfl, rfl, rfl, rfl, trivial⟩
                | false =>
                  replace hb11 := of_decide_eq_false hb11.symm
                  refine OD.sk rfl rfl rfl ?_
                  refine OD.sk rfl rfl rfl ?_
                  refine OD.sk rfl rfl rfl ?_
                  refine OD.sk rfl rfl rfl ?_
                  refine OD.sk rfl rfl rfl ?_
                  refine OD.sk rfl rfl rfl ?_
                  refine OD.sk rfl rfl rfl ?_
                  refine OD.sk rfl rfl rfl ?_
                  refine OD.sk rfl rfl rfl ?_
                  refine OD.sk rfl rfl rfl ?_
                  refine OD.q rfl rfl (Q1.pick_f rfl rfl) rfl rfl ?_
                  refine OD.q rfl rfl (Q1.pick_f rfl rfl) rfl rfl ?_
                  refine OD.nil ?_
                  refine r_cond_f rfl ?_
                  refine r_skip ?_
                  refine r_inBlock ?_
                  refine r_region ?_
                  refine OL.q (Q1.move rfl) rfl rfl ?_
                  refine OL.q (Q1.addI (((i + 1 : Nat) : Int)) rfl rfl (by omega)) rfl rfl ?_
                  refine OL.q (Q1.assign rfl) rfl rfl ?_
                  refine OL.nil ?_
                  exact (ih2 _ _ _ ⟨(i + 1 : Nat), rfl, rfl, hE8, (by omega), f25, f26, f27, f28, f29⟩ (by omega)).sub ⟨rfl, rfl, rfl, rfl, rfl, rfl, trivial⟩
              | false =>
                replace hb9 := of_decide_eq_false hb9.symm
                refine OD.sk rfl rfl rfl ?_
                refine OD.sk rfl rfl rfl ?_
                refine OD.sk rfl rfl rfl ?_
                refine OD.sk rfl rfl rfl ?_
                refine OD.sk rfl rfl rfl ?_
                refine OD.sk rfl rfl rfl ?_
                refine OD.sk rfl rfl rfl ?_
                refine OD.sk rfl rfl rfl ?_
                refine OD.sk rfl rfl rfl ?_
                refine OD.sk rfl rfl rfl ?_
                refine OD.q rfl rfl (Q1.pick_f rfl rfl) rfl rfl ?_
                refine OD.q rfl rfl (Q1.pick_f rfl rfl) rfl rfl ?_
                refine OD.q rfl rfl (Q1.move rfl) rfl rfl ?_
                refine OD.q rfl rfl (Q1.move rfl) rfl rfl ?_
                refine OD.qb rfl rfl (Q1.gt rfl rfl) rfl rfl ?_
                intro b12 hb10
                refine OD.q rfl rfl (Q1.move rfl) rfl rfl ?_
                cases b12 with
                | true =>
                  replace hb10 := of_decide_eq_true hb10.symm
                  refine OD.q rfl rfl (Q1.move rfl) rfl rfl ?_
                  refine OD.q rfl rfl (Q1.move rfl) rfl rfl ?_
                  obtain ⟨x3, b13, o3, hx3, hr3, hl3, hu3, hw3⟩ := Sl.at' (P := Try.prog) f24 Try.underlying28 ti3 encI_len (k := .i64) (n := ((i : Nat) : Int)) (i) (by omega) (by first | assumption | omega)
                  obtain rfl : x1 = x3 := Option.some.inj (hx1.symm.trans hx3)
                  refine OD.q rfl rfl (Q1.indexAddr rfl rfl hr3) rfl rfl ?_
                  refine OD.q rfl rfl (Q1.load1 ti3 rfl (fun _ hc => hw3.keepG hc (by omega))) rfl rfl ?_
                  refine OD.q rfl rfl (Q1.move rfl) rfl rfl ?_
                  refine OD.q rfl rfl (Q1.move rfl) rfl rfl ?_
                  refine OD.q rfl rfl (Q1.subI ((((i : Nat) : Int) - 2)) rfl rfl (by omega)) rfl rfl ?_
                  obtain ⟨x4, b14, o4, hx4, hr4, hl4, hu4, hw4⟩ := Sl.at' (P := Try.prog) f24 Try.underlying28 ti3 encI_len (k := .i64) (n := (((i : Nat) : Int) - 2)) ((i - 2)) (by omega) (by first | assumption | omega)
                  refine OD.q rfl rfl (Q1.indexAddr rfl rfl hr4) rfl rfl ?_
                  refine OD.q rfl rfl (Q1.load1 ti3 rfl (fun _ hc => hw4.keepG hc (by omega))) rfl rfl ?_
                  refine OD.qb rfl rfl (Q1.eq rfl rfl) rfl rfl ?_
                  intro b15 hb11
                  obtain rfl : b15 = false := hb11.trans (by exact beq_eq_false_iff_ne.2 (Ml.copies_ne hmay (by omega) hx1 (by assumption) (by omega)))
                  refine OD.q rfl rfl (Q1.pick_t rfl rfl) rfl rfl ?_
                  refine OD.q rfl rfl (Q1.pick_f rfl rfl) rfl rfl ?_
                  refine OD.nil ?_
                  refine r_cond_f rfl ?_
                  refine r_skip ?_
                  refine r_inBlock ?_
                  refine r_region ?_
                  refine OL.q (Q1.move rfl) rfl rfl ?_
                  refine OL.q (Q1.addI (((i + 1 : Nat) : Int)) rfl rfl (by omega)) rfl rfl ?_
                  refine OL.q (Q1.assign rfl) rfl rfl ?_
                  refine OL.nil ?_
                  exact (ih2 _ _ _ ⟨(i + 1 : Nat), rfl, rfl, hE8, (by omega), f25, f26, f27, f28, f29⟩ (by omega)).sub ⟨rfl, rfl, rfl, rfl, rfl, rfl, trivial⟩
                | false =>
                  replace hb10 := of_decide_eq_false hb10.symm
                  refine OD.sk rfl rfl rfl ?_
                  refine OD.sk rfl rfl rfl ?_
                  refine OD.sk rfl rfl rfl ?_
                  refine OD.sk rfl rfl rfl ?_
                  refine OD.sk rfl rfl rfl ?_
                  refine OD.sk rfl rfl rfl ?_
                  refine OD.sk rfl rfl rfl ?_
                  refine OD.sk rfl rfl rfl ?_
                  refine OD.sk rfl rfl rfl ?_
                  refine OD.sk rfl rfl rfl ?_
                  refine OD.q rfl rfl (Q1.pick_f rfl rfl) rfl rfl ?_
                  refine OD.q rfl rfl (Q1.pick_f rfl rfl) rfl rfl ?_
                  refine OD.nil ?_
                  refine r_cond_f rfl ?_
                  refine r_skip ?_
                  refine r_inBlock ?_
                  refine r_region ?_
                  refine OL.q (Q1.move rfl) rfl rfl ?_
                  refine OL.q (Q1.addI (((i + 1 : Nat) : Int)) rfl rfl (by omega)) rfl rfl ?_
                  refine OL.q (Q1.assign rfl) rfl rfl ?_
                  refine OL.nil ?_
                  exact (ih2 _ _ _ ⟨(i + 1 : Nat), rfl, rfl, hE8, (by omega), f25, f26, f27, f28, f29⟩ (by omega)).sub ⟨rfl, rfl, rfl, rfl, rfl, rfl, trivial⟩
            | false =>
              replace hb6 := of_decide_eq_false hb6.symm
              refine r_cond_f rfl ?_
              refine r_exit rfl ?_
              refine r_region ?_
              refine OL.q (Q1.move rfl) rfl rfl ?_
              refine OL.q (Q1.loadN ti25 rfl (fun _ e => e ▸ f20.row) rfl) rfl rfl ?_
              refine OL.q (Q1.move rfl) rfl rfl ?_
              refine OL.act rfl rfl (AW.callF cl13 rfl (pwords_c (w0 := w7) (c := c) (((s : Nat) : Int)) ((f21).iv (Nat.zero_le _) (by omega)) ((f22).iv (Nat.zero_le _) (by omega)) (by first | assumption | exact Ml.Cfg.ok_of (by decide +kernel)) (by first | assumption | omega) (by first | assumption | omega)) ?_)
              rintro v2 w8 ⟨h2, hm6⟩
              have f25 := f20.ext hm6
              have f26 := f21.ext hm6
              have f27 := f22.ext hm6
              have f28 := f23.ext hm6
              have f29 := f24.ext hm6
              have hE8 := hE7.ext hm6
              have hs8 := hm6.size
              have hle_2 := h2.le
              refine OL.act rfl rfl (AW.callF cl12 rfl (lmerge_c (w0 := w8) (a := all) (b := (Ml.wordsM c (((s : Nat) : Int))))  ((f28).iv (Nat.zero_le _) (by omega)) ((h2).iv (Nat.zero_le _) (by omega)) (by first | assumption | omega)) ?_)
              rintro v3 w9 ⟨h3, hm7⟩
              have f30 := f25.ext hm7
              have f31 := f26.ext hm7
              have f32 := f27.ext hm7
              have f33 := f28.ext hm7
              have f34 := f29.ext hm7
              have f35 := h2.ext hm7
              have hE9 := hE8.ext hm7
              have hs9 := hm7.size
              have hle_3 := h3.le
              refine OL.q (Q1.assign rfl) rfl rfl ?_
              refine OL.nil ?_
              refine r_inBlock ?_
              refine r_region ?_
              refine OL.q (Q1.move rfl) rfl rfl ?_
              refine OL.q (Q1.addI (((s + 1 : Nat) : Int)) rfl rfl (by omega)) rfl rfl ?_
              refine OL.q (Q1.assign rfl) rfl rfl ?_
              refine OL.nil ?_
              exact (ih1 _ _ _ ⟨(v3 : Value), ((Ml.mergeL all ((Ml.wordsM c (((s : Nat) : Int))))) : List Str), (s + 1 : Nat), rfl, rfl, hE9, (by omega), ((h3).iv (Nat.zero_le _) (by omega)), f30, f31, f32, (by first | rw [hall]; rfl | (exfalso; omega)), (by first | omega | (exfalso; omega))⟩ (by omega)).sub ⟨rfl, rfl, rfl, rfl, trivial⟩
        | false =>
          replace hb4 := of_decide_eq_false hb4.symm
          refine r_cond_f rfl ?_
          refine r_exit rfl ?_
          refine r_seq ?_
          refine r_seq ?_
          refine r_region ?_
          refine OL.q (Q1.assign rfl) rfl rfl ?_
          refine OL.nil ?_
          refine r_block ?_
          refine r_loop (I := fun m E W => ∃ (n : Nat) (wk : Nat), E = [(1, ptr b1 0), (3, .int .i64 (((n : Nat) : Int))), (4, v_all), (8, .int .i64 (((wk : Nat) : Int)))] ∧ m = (c.workers + 1 - (wk : Int)).toNat ∧ Ext w0 W ∧ w5.heap.size ≤ W.heap.size ∧ Bk W b1 [v_c_words, v_c_cuts, .int .i64 c.workers, .int .i64 c.copies, .int .i64 c.slots, .int .i64 c.batch, .int .i64 c.lease, .int .i64 c.hedge, .int .i64 c.first, .int .i64 c.cap, .int .i64 c.jitter, .int .i64 c.net] 25 ∧ Sl encS W (Iv 0 w0.heap.size) v_c_words c.words ∧ Sl encKey W (Iv 0 w0.heap.size) v_c_cuts c.cuts ∧ Sl encS W (Iv 0 w4.heap.size) v_all all ∧ (1 ≤ wk) ∧ ((wk : Int) ≤ c.workers + 1) ∧ (n = Ml.sumN (Ml.keepN c) (wk - 1)) ∧ (n ≤ 6 * wk)) ?_ ?_
          · refine ⟨_, _, ⟨(0 : Nat), (1 : Nat), rfl, rfl, hE5, Nat.le_refl _, f13, f14, f15, f12, (by omega), (by omega), (by rfl), (by omega)⟩, ⟨rfl, rfl, rfl, rfl, trivial⟩⟩
          · rintro _ _ w6 ⟨n, wk, rfl, rfl, hE6, hs6, f16, f17, f18, f19, hone, hwk, hn, hnn⟩ ih2
            have hmay : Ml.may c = true := by assumption
            have hkl := Ml.keepsM_len c (wk : Int)
            refine r_seq ?_
            refine r_seq ?_
            refine r_region ?_
            refine OL.q (Q1.move rfl) rfl rfl ?_
            refine OL.q (Q1.fieldAddr fl25_2 rfl) rfl rfl ?_
            refine OL.q (Q1.load1 ti3 rfl (fun _ e => e ▸ (f16.cell 2 _ rfl))) rfl rfl ?_
            refine OL.qb (Q1.le rfl rfl) rfl rfl ?_
            intro b5 hb5
            refine OL.nil ?_
            cases b5 with
            | true =>
              replace hb5 := of_decide_eq_true hb5.symm
              refine r_cond_t rfl ?_
              refine r_skip ?_
              refine r_seq ?_
              refine r_block ?_
              refine r_seq ?_
              refine r_region ?_
              refine OL.q (Q1.loadN ti25 rfl (fun _ e => e ▸ f16.row) rfl) rfl rfl ?_
              refine OL.q (Q1.move rfl) rfl rfl ?_
              refine OL.act rfl rfl (AW.callF cl8 rfl (keeps_c (w0 := w6) (c := c) (((wk : Nat) : Int)) ((f17).iv (Nat.zero_le _) (by omega)) ((f18).iv (Nat.zero_le _) (by omega)) (by first | assumption | exact Ml.Cfg.ok_of (by decide +kernel)) (by first | assumption | omega)) ?_)
              rintro v1 w7 ⟨h1, hm5⟩
              have f20 := f16.ext hm5
              have f21 := f17.ext hm5
              have f22 := f18.ext hm5
              have f23 := f19.ext hm5
              have hE7 := hE6.ext hm5
              have hs7 := hm5.size
              have hle_1 := h1.le
              refine OL.q (Q1.assign rfl) rfl rfl ?_
              refine OL.nil ?_
              refine r_seq ?_
              refine r_seq ?_
              refine r_region ?_
              refine OL.q (Q1.assign rfl) rfl rfl ?_
              refine OL.nil ?_
              refine r_block ?_
              refine r_loop (I := fun m E W => ∃ (i : Nat), E = [(1, ptr b1 0), (3, .int .i64 (((n : Nat) : Int))), (4, v_all), (8, .int .i64 (((wk : Nat) : Int))), (9, v1), (10, .int .i64 (((i : Nat) : Int)))] ∧ m = (Ml.keepsM c (wk : Int)).length - i ∧ Ext w0 W ∧ w7.heap.size ≤ W.heap.size ∧ Bk W b1 [v_c_words, v_c_cuts, .int .i64 c.workers, .int .i64 c.copies, .int .i64 c.slots, .int .i64 c.batch, .int .i64 c.lease, .int .i64 c.hedge, .int .i64 c.first, .int .i64 c.cap, .int .i64 c.jitter, .int .i64 c.net] 25 ∧ Sl encS W (Iv 0 w0.heap.size) v_c_words c.words ∧ Sl encKey W (Iv 0 w0.heap.size) v_c_cuts c.cuts ∧ Sl encS W (Iv 0 w4.heap.size) v_all all ∧ Sl encI W (Iv w6.heap.size w7.heap.size) v1 ((Ml.keepsM c (((wk : Nat) : Int))))) ?_ ?_
              · refine ⟨_, _, ⟨(0 : Nat), rfl, rfl, hE7, Nat.le_refl _, f20, f21, f22, f23, h1⟩, ⟨rfl, rfl, rfl, rfl, rfl, rfl, trivial⟩⟩
              · rintro _ _ w8 ⟨i, rfl, rfl, hE8, hs8, f24, f25, f26, f27, f28⟩ ih3
                refine r_seq ?_
                refine r_seq ?_
                refine r_region ?_
                refine OL.q (Q1.move rfl) rfl rfl ?_
                refine OL.q (Q1.move rfl) rfl rfl ?_
                refine OL.q (Q1.lenSl Try.underlying28 (f28) rfl) rfl rfl ?_
                refine OL.qb (Q1.lt rfl rfl) rfl rfl ?_
                intro b6 hb6
                refine OL.nil ?_
                cases b6 with
                | true =>
                  replace hb6 := of_decide_eq_true hb6.symm
                  refine r_cond_t rfl ?_
                  refine r_skip ?_
                  refine r_seq ?_
                  refine r_block ?_
                  refine r_seq ?_
                  refine r_draw1 (fun i => Nat.beq i 5) (fun w' => Mod (Mg 0) w8 w') mixed (by kernel_rfl) ?_
                  intro w9 hm6
                  have f29 := f24.ext hm6
                  have f30 := f25.ext hm6
                  have f31 := f26.ext hm6
                  have f32 := f27.ext hm6
                  have f33 := f28.ext hm6
                  have hE9 := hE8.ext hm6
                  have hs9 := hm6.size
                  have hCw9 : Mod (Mg 0) w8 w9 := Mod.ofExt hm6
                  refine ⟨hCw9, ?_⟩
                  rw [show List.range' 0 (Array.size _) = [0, 1, 2, 3, 4, 5, 6] from rfl]
                  refine OD.q rfl rfl (Q1.loadN ti25 rfl (fun _ hc => f24.row.keepG hc (by omega)) rfl) rfl rfl ?_
                  refine OD.q rfl rfl (Q1.move rfl) rfl rfl ?_
                  refine OD.q rfl rfl (Q1.move rfl) rfl rfl ?_
                  obtain ⟨x1, b7, o1, hx1, hr1, hl1, hu1, hw1⟩ := Sl.at' (P := Try.prog) f28 Try.underlying28 ti3 encI_len (k := .i64) (n := ((i : Nat) : Int)) (i) (by omega) (by first | assumption | omega)
                  refine OD.q rfl rfl (Q1.indexAddr rfl rfl hr1) rfl rfl ?_
                  refine OD.q rfl rfl (Q1.load1 ti3 rfl (fun _ hc => hw1.keepG hc (by omega))) rfl rfl ?_
                  have hkr := Ml.keeps_rg hx1
                  refine OD.act rfl rfl rfl rfl (AW.callF cl11 rfl (copies_c (w0 := w9) (c := c) (x1) ((f30).iv (Nat.zero_le _) (by omega)) ((f31).iv (Nat.zero_le _) (by omega)) (by first | assumption | exact Ml.Cfg.ok_of (by decide +kernel)) (by first | assumption | omega)) ?_)
                  rintro v2 w10 ⟨h2, hm7⟩
                  have f34 := f29.ext hm7
                  have f35 := f30.ext hm7
                  have f36 := f31.ext hm7
                  have f37 := f32.ext hm7
                  have f38 := f33.ext hm7
                  have hE10 := hE9.ext hm7
                  have hs10 := hm7.size
                  have hCw10 := hCw9.ext hm7
                  refine ⟨hCw10, ?_⟩
                  have hle_2 := h2.le
                  refine OD.q rfl rfl (Q1.assign rfl) rfl rfl ?_
                  refine OD.nil ?_
                  refine r_seq ?_
                  refine r_region ?_
                  refine OL.q (Q1.assign rfl) rfl rfl ?_
                  refine OL.nil ?_
                  refine r_seq ?_
                  refine r_seq ?_
                  refine r_region ?_
                  refine OL.q (Q1.assign rfl) rfl rfl ?_
                  refine OL.nil ?_
                  refine r_block ?_
                  refine r_loop (I := fun m E W => ∃ (b : Bool) (j : Nat), E = [(1, ptr b1 0), (3, .int .i64 (((n : Nat) : Int))), (4, v_all), (8, .int .i64 (((wk : Nat) : Int))), (9, v1), (10, .int .i64 (((i : Nat) : Int))), (11, v2), (12, .bool b), (13, .int .i64 (((j : Nat) : Int)))] ∧ m = (Ml.copiesM c x1).length - j ∧ Ext w0 W ∧ w10.heap.size ≤ W.heap.size ∧ Bk W b1 [v_c_words, v_c_cuts, .int .i64 c.workers, .int .i64 c.copies, .int .i64 c.slots, .int .i64 c.batch, .int .i64 c.lease, .int .i64 c.hedge, .int .i64 c.first, .int .i64 c.cap, .int .i64 c.jitter, .int .i64 c.net] 25 ∧ Sl encS W (Iv 0 w0.heap.size) v_c_words c.words ∧ Sl encKey W (Iv 0 w0.heap.size) v_c_cuts c.cuts ∧ Sl encS W (Iv 0 w4.heap.size) v_all all ∧ Sl encI W (Iv w6.heap.size w7.heap.size) v1 ((Ml.keepsM c (((wk : Nat) : Int)))) ∧ Sl encI W (Iv w9.heap.size w10.heap.size) v2 ((Ml.copiesM c x1)) ∧ (b = ((Ml.copiesM c x1).take j).contains (wk : Int))) ?_ ?_
                  · refine ⟨_, _, ⟨(false : Bool), (0 : Nat), rfl, rfl, hE10, Nat.le_refl _, f34, f35, f36, f37, f38, h2, (by rfl)⟩, ⟨rfl, rfl, rfl, rfl, rfl, rfl, rfl, rfl, rfl, trivial⟩⟩
                  · rintro _ _ w11 ⟨b, j, rfl, rfl, hE11, hs11, f39, f40, f41, f42, f43, f44, hin⟩ ih4
                    refine r_seq ?_
                    refine r_seq ?_
                    refine r_region ?_
                    refine OL.q (Q1.move rfl) rfl rfl ?_
                    refine OL.q (Q1.move rfl) rfl rfl ?_
                    refine OL.q (Q1.lenSl Try.underlying28 (f44) rfl) rfl rfl ?_
                    refine OL.qb (Q1.lt rfl rfl) rfl rfl ?_
                    intro b8 hb7
                    refine OL.nil ?_
                    cases b8 with
                    | true =>
                      replace hb7 := of_decide_eq_true hb7.symm
                      refine r_cond_t rfl ?_
                      refine r_skip ?_
                      refine r_seq ?_
                      refine r_block ?_
                      refine r_region ?_
                      refine OL.q (Q1.move rfl) rfl rfl ?_
                      refine OL.q (Q1.move rfl) rfl rfl ?_
                      cases b with
                      | true =>
                        refine OL.sk rfl rfl ?_
                        refine OL.sk rfl rfl ?_
                        refine OL.sk rfl rfl ?_
                        refine OL.sk rfl rfl ?_
                        refine OL.sk rfl rfl ?_
                        refine OL.sk rfl rfl ?_
                        refine OL.q (Q1.pick_t rfl rfl) rfl rfl ?_
                        refine OL.q (Q1.assign rfl) rfl rfl ?_
                        refine OL.nil ?_
                        refine r_inBlock ?_
                        refine r_region ?_
                        refine OL.q (Q1.move rfl) rfl rfl ?_
                        refine OL.q (Q1.addI (((j + 1 : Nat) : Int)) rfl rfl (by omega)) rfl rfl ?_
                        refine OL.q (Q1.assign rfl) rfl rfl ?_
                        refine OL.nil ?_
                        exact (ih4 _ _ _ ⟨(true : Bool), (j + 1 : Nat), rfl, rfl, hE11, (by omega), f39, f40, f41, f42, f43, f44, (by first | exact Ml.in_yes hin | exact Ml.in_step hx2 hin (by assumption) | (exfalso; omega))⟩ (by omega)).sub ⟨rfl, rfl, rfl, rfl, rfl, rfl, rfl, rfl, rfl, trivial⟩
                      | false =>
                        refine OL.q (Q1.move rfl) rfl rfl ?_
                        refine OL.q (Q1.move rfl) rfl rfl ?_
                        obtain ⟨x2, b9, o2, hx2, hr2, hl2, hu2, hw2⟩ := Sl.at' (P := Try.prog) f44 Try.underlying28 ti3 encI_len (k := .i64) (n := ((j : Nat) : Int)) (j) (by omega) (by first | assumption | omega)
                        refine OL.q (Q1.indexAddr rfl rfl hr2) rfl rfl ?_
                        refine OL.q (Q1.load1 ti3 rfl (fun _ e => e ▸ hw2)) rfl rfl ?_
                        refine OL.q (Q1.move rfl) rfl rfl ?_
                        refine OL.qb (Q1.eq rfl rfl) rfl rfl ?_
                        intro b10 hb8
                        refine OL.q (Q1.pick_f rfl rfl) rfl rfl ?_
                        refine OL.q (Q1.assign rfl) rfl rfl ?_
                        refine OL.nil ?_
                        refine r_inBlock ?_
                        refine r_region ?_
                        refine OL.q (Q1.move rfl) rfl rfl ?_
                        refine OL.q (Q1.addI (((j + 1 : Nat) : Int)) rfl rfl (by omega)) rfl rfl ?_
                        refine OL.q (Q1.assign rfl) rfl rfl ?_
                        refine OL.nil ?_
                        exact (ih4 _ _ _ ⟨(b10 : Bool), (j + 1 : Nat), rfl, rfl, hE11, (by omega), f39, f40, f41, f42, f43, f44, (by first | exact Ml.in_yes hin | exact Ml.in_step hx2 hin (by assumption) | (exfalso; omega))⟩ (by omega)).sub ⟨rfl, rfl, rfl, rfl, rfl, rfl, rfl, rfl, rfl, trivial⟩
                    | false =>
                      replace hb7 := of_decide_eq_false hb7.symm
                      refine r_cond_f rfl ?_
                      refine r_exit rfl ?_
                      refine r_seq ?_
                      refine r_draw1 (fun i => false) (fun w' => Mod (Mg 0) w11 w') mixed (by kernel_rfl) ?_
                      intro w12 hm8
                      have f45 := f39.ext hm8
                      have f46 := f40.ext hm8
                      have f47 := f41.ext hm8
                      have f48 := f42.ext hm8
                      have f49 := f43.ext hm8
                      have f50 := f44.ext hm8
                      have hE12 := hE11.ext hm8
                      have hs12 := hm8.size
                      have hCw12 : Mod (Mg 0) w11 w12 := Mod.ofExt hm8
                      refine ⟨hCw12, ?_⟩
                      rw [show List.range' 0 (Array.size _) = [0, 1, 2, 3, 4, 5, 6, 7, 8, 9, 10, 11, 12, 13, 14, 15, 16, 17] from rfl]
                      refine OD.q rfl rfl (Q1.move rfl) rfl rfl ?_
                      obtain rfl : b = true := (by exact Ml.keeps_in hx1 hin (by omega))
                      refine OD.q rfl rfl (Q1.not rfl) rfl rfl ?_
                      refine OD.q rfl rfl (Q1.move rfl) rfl rfl ?_
                      refine OD.q rfl rfl (Q1.move rfl) rfl rfl ?_
                      refine OD.qb rfl rfl (Q1.gt rfl rfl) rfl rfl ?_
                      intro b9 hb8
                      refine OD.q rfl rfl (Q1.move rfl) rfl rfl ?_
                      cases b9 with
                      | true =>
                        replace hb8 := of_decide_eq_true hb8.symm
                        refine OD.q rfl rfl (Q1.move rfl) rfl rfl ?_
                        refine OD.q rfl rfl (Q1.move rfl) rfl rfl ?_
                        refine OD.q rfl rfl (Q1.subI ((((i : Nat) : Int) - 1)) rfl rfl (by omega)) rfl rfl ?_
                        obtain ⟨x2, b10, o2, hx2, hr2, hl2, hu2, hw2⟩ := Sl.at' (P := Try.prog) f43 Try.underlying28 ti3 encI_len (k := .i64) (n := (((i : Nat) : Int) - 1)) ((i - 1)) (by omega) (by first | assumption | omega)
                        refine OD.q rfl rfl (Q1.indexAddr rfl rfl hr2) rfl rfl ?_
                        refine OD.q rfl rfl (Q1.load1 ti3 rfl (fun _ hc => hw2.keepG hc (by omega))) rfl rfl ?_
                        refine OD.q rfl rfl (Q1.move rfl) rfl rfl ?_
                        refine OD.q rfl rfl (Q1.move rfl) rfl rfl ?_
                        obtain ⟨x3, b11, o3, hx3, hr3, hl3, hu3, hw3⟩ := Sl.at' (P := Try.prog) f43 Try.underlying28 ti3 encI_len (k := .i64) (n := ((i : Nat) : Int)) (i) (by omega) (by first | assumption | omega)
                        obtain rfl : x1 = x3 := Option.some.inj (hx1.symm.trans hx3)
                        refine OD.q rfl rfl (Q1.indexAddr rfl rfl hr3) rfl rfl ?_
                        refine OD.q rfl rfl (Q1.load1 ti3 rfl (fun _ hc => hw3.keepG hc (by omega))) rfl rfl ?_
                        refine OD.qb rfl rfl (Q1.ge rfl rfl) rfl rfl ?_
                        intro b12 hb9
                        obtain rfl : b12 = false := hb9.trans (by exact decide_eq_false (by have := Ml.keeps_lt (by assumption) hx1 (by omega : i - 1 < i); omega))
                        refine OD.q rfl rfl (Q1.pick_t rfl rfl) rfl rfl ?_
                        refine OD.q rfl rfl (Q1.pick_f rfl rfl) rfl rfl ?_
                        refine OD.nil ?_
                        refine r_cond_f rfl ?_
                        refine r_skip ?_
                        refine r_inBlock ?_
                        refine r_region ?_
                        refine OL.q (Q1.move rfl) rfl rfl ?_
                        refine OL.q (Q1.addI (((i + 1 : Nat) : Int)) rfl rfl (by omega)) rfl rfl ?_
                        refine OL.q (Q1.assign rfl) rfl rfl ?_
                        refine OL.nil ?_
                        exact (ih3 _ _ _ ⟨(i + 1 : Nat), rfl, rfl, hE12, (by omega), f45, f46, f47, f48, f49⟩ (by omega)).sub ⟨rfl, rfl, rfl, rfl, rfl, rfl, trivial⟩
                      | false =>
                        replace hb8 := of_decide_eq_false hb8.symm
                        refine OD.sk rfl rfl rfl ?_
                        refine OD.sk rfl rfl rfl ?_
                        refine OD.sk rfl rfl rfl ?_
                        refine OD.sk rfl rfl rfl ?_
                        refine OD.sk rfl rfl rfl ?_
                        refine OD.sk rfl rfl rfl ?_
                        refine OD.sk rfl rfl rfl ?_
                        refine OD.sk rfl rfl rfl ?_
                        refine OD.sk rfl rfl rfl ?_
                        refine OD.sk rfl rfl rfl ?_
                        refine OD.q rfl rfl (Q1.pick_f rfl rfl) rfl rfl ?_
                        refine OD.q rfl rfl (Q1.pick_f rfl rfl) rfl rfl ?_
                        refine OD.nil ?_
                        refine r_cond_f rfl ?_
                        refine r_skip ?_
                        refine r_inBlock ?_
                        refine r_region ?_
                        refine OL.q (Q1.move rfl) rfl rfl ?_
                        refine OL.q (Q1.addI (((i + 1 : Nat) : Int)) rfl rfl (by omega)) rfl rfl ?_
                        refine OL.q (Q1.assign rfl) rfl rfl ?_
                        refine OL.nil ?_
                        exact (ih3 _ _ _ ⟨(i + 1 : Nat), rfl, rfl, hE12, (by omega), f45, f46, f47, f48, f49⟩ (by omega)).sub ⟨rfl, rfl, rfl, rfl, rfl, rfl, trivial⟩
                | false =>
                  replace hb6 := of_decide_eq_false hb6.symm
                  refine r_cond_f rfl ?_
                  refine r_exit rfl ?_
                  refine r_region ?_
                  refine OL.q (Q1.move rfl) rfl rfl ?_
                  refine OL.q (Q1.move rfl) rfl rfl ?_
                  refine OL.q (Q1.lenSl Try.underlying28 (f28) rfl) rfl rfl ?_
                  refine OL.q (Q1.addI (((n + (((Ml.keepsM c (((wk : Nat) : Int)))).length) : Nat) : Int)) rfl rfl (by omega)) rfl rfl ?_
                  refine OL.q (Q1.assign rfl) rfl rfl ?_
                  refine OL.nil ?_
                  refine r_inBlock ?_
                  refine r_region ?_
                  refine OL.q (Q1.move rfl) rfl rfl ?_
                  refine OL.q (Q1.addI (((wk + 1 : Nat) : Int)) rfl rfl (by omega)) rfl rfl ?_
                  refine OL.q (Q1.assign rfl) rfl rfl ?_
                  refine OL.nil ?_
                  exact (ih2 _ _ _ ⟨(n + (((Ml.keepsM c (((wk : Nat) : Int)))).length) : Nat), (wk + 1 : Nat), rfl, rfl, hE8, (by omega), f24, f25, f26, f27, (by first | omega | (exfalso; omega)), (by first | omega | (exfalso; omega)), (by first | exact Ml.sum_step hone hn | (exfalso; omega)), (by first | omega | (exfalso; omega))⟩ (by omega)).sub ⟨rfl, rfl, rfl, rfl, trivial⟩
            | false =>
              replace hb5 := of_decide_eq_false hb5.symm
              refine r_cond_f rfl ?_
              refine r_exit rfl ?_
              refine r_seq ?_
              refine r_draw1 (fun i => Nat.beq i 4 || Nat.beq i 11 || Nat.beq i 14) (fun w' => Mod (Mg 0) w6 w') mixed (by kernel_rfl) ?_
              intro w7 hm5
              have f20 := f16.ext hm5
              have f21 := f17.ext hm5
              have f22 := f18.ext hm5
              have f23 := f19.ext hm5
              have hE7 := hE6.ext hm5
              have hs7 := hm5.size
              have hCw7 : Mod (Mg 0) w6 w7 := Mod.ofExt hm5
              refine ⟨hCw7, ?_⟩
              rw [show List.range' 0 (Array.size _) = [0, 1, 2, 3, 4, 5, 6, 7, 8, 9, 10, 11, 12, 13, 14, 15, 16] from rfl]
              refine OD.q rfl rfl (Q1.move rfl) rfl rfl ?_
              have hfin := Ml.sum_fin hmay hone (by omega) hwk hn
              have hse : s = Ml.shards c := by omega
              refine OD.q rfl rfl (Q1.fieldAddr fl25_3 rfl) rfl rfl ?_
              refine OD.q rfl rfl (Q1.load1 ti3 rfl (fun _ hc => (f16.cell 3 _ rfl).keepG hc (by omega))) rfl rfl ?_
              refine OD.q rfl rfl (Q1.loadN ti25 rfl (fun _ hc => f16.row.keepG hc (by omega)) rfl) rfl rfl ?_
              refine OD.act rfl rfl rfl rfl (AW.callF cl10 rfl (shards_c (w0 := w7) (c := c)  ((f21).iv (Nat.zero_le _) (by omega)) ((f22).iv (Nat.zero_le _) (by omega)) (by first | assumption | exact Ml.Cfg.ok_of (by decide +kernel))) ?_)
              rintro _ w8 ⟨rfl, hm6⟩
              have f24 := f20.ext hm6
              have f25 := f21.ext hm6
              have f26 := f22.ext hm6
              have f27 := f23.ext hm6
              have hE8 := hE7.ext hm6
              have hs8 := hm6.size
              have hCw8 := hCw7.ext hm6
              refine ⟨hCw8, ?_⟩
              have := Ml.shards_le c
              refine OD.q rfl rfl (Q1.mulI ((c.copies * ((((Ml.shards c : Nat) : Int))))) rfl rfl (by omega)) rfl rfl ?_
              refine OD.qb rfl rfl (Q1.eq rfl rfl) rfl rfl ?_
              intro b6 hb6
              obtain rfl : b6 = true := hb6.trans (by exact beq_iff_eq.2 hfin.1)
              refine OD.q rfl rfl (Q1.move rfl) rfl rfl ?_
              refine OD.q rfl rfl (Q1.move rfl) rfl rfl ?_
              refine OD.q rfl rfl (Q1.fieldAddr fl25_0 rfl) rfl rfl ?_
              refine OD.q rfl rfl (Q1.load1 ti22 rfl (fun _ hc => (f16.cell 0 _ rfl).keepG hc (by omega))) rfl rfl ?_
              refine OD.act rfl rfl rfl rfl (AW.callF cl14 rfl (sameT_c (w0 := w8) (a := all) (b := c.words)  ((f27).iv (Nat.zero_le _) (by omega)) ((f25).iv (Nat.zero_le _) (by omega))) ?_)
              rintro _ w9 ⟨⟨b7, hb7, rfl⟩, hm7⟩
              have f28 := f24.ext hm7
              have f29 := f25.ext hm7
              have f30 := f26.ext hm7
              have f31 := f27.ext hm7
              have hE9 := hE8.ext hm7
              have hs9 := hm7.size
              have hCw9 := hCw8.ext hm7
              refine ⟨hCw9, ?_⟩
              obtain rfl : b7 = true := hb7.trans (by exact decide_eq_true (by rw [hall, hse]; exact Ml.allM_all hmay))
              refine OD.q rfl rfl (Q1.pick_t rfl rfl) rfl rfl ?_
              refine OD.q rfl rfl (Q1.move rfl) rfl rfl ?_
              refine OD.act rfl rfl rfl rfl (AW.callF cl7 rfl (awake13_c (w0 := w9)   ) ?_)
              rintro _ w10 ⟨⟨_, rfl, rfl⟩, hm8⟩
              have f32 := f28.ext hm8
              have f33 := f29.ext hm8
              have f34 := f30.ext hm8
              have f35 := f31.ext hm8
              have hE10 := hE9.ext hm8
              have hs10 := hm8.size
              have hCw10 := hCw9.ext hm8
              refine ⟨hCw10, ?_⟩
              refine OD.q rfl rfl (Q1.pick_t rfl rfl) rfl rfl ?_
              refine OD.q rfl rfl (Q1.assign rfl) rfl rfl ?_
              refine OD.nil ?_
              refine r_ret1 Try.func4 rfl rfl ?_
              exact Ret.mk ⟨⟨_, (by rfl), rfl⟩, hE10⟩
    | false =>
      replace hb3 := hb3.symm
      refine OL.q (Q1.not rfl) rfl rfl ?_
      refine OL.q (Q1.pick_f rfl rfl) rfl rfl ?_
      refine OL.nil ?_
      refine r_cond_t rfl ?_
      refine r_seq ?_
      refine r_region ?_
      refine OL.act rfl rfl (AW.callF cl7 rfl (awake13_c (w0 := w3)   ) ?_)
      rintro _ w4 ⟨⟨_, rfl, rfl⟩, hm4⟩
      have f9 := f6.ext hm4
      have f10 := f7.ext hm4
      have f11 := f8.ext hm4
      have hE4 := hE3.ext hm4
      have hs4 := hm4.size
      refine OL.q (Q1.assign rfl) rfl rfl ?_
      refine OL.nil ?_
      refine r_ret1 Try.func4 rfl rfl ?_
      exact Ret.mk ⟨⟨_, (by rfl), rfl⟩, hE4⟩
end Go.Proofs
