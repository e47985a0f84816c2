/-
  The walks through small and awake of chapter 14.
-/
import Derived.Test.YtajedfbogchkcaaWDiskNew
set_option linter.unusedVariables false
set_option linter.unusedSimpArgs false
namespace Go.Proofs
open Go.Ik Go.Ml
set_option maxRecDepth 20000 in
set_option maxHeartbeats 4000000 in
theorem small_c {w0 : World} :
    Calls Try.prog 57 #[] w0 (Ret fun rv w1 => ∃ vw vc, rv = .agg #[vw, vc, .int .i64 2, .int .i64 1, .int .i64 1, .int .i64 1, .int .i64 1, .int .i64 1, .int .i64 1, .int .i64 1, .int .i64 0, .int .i64 8] ∧ Sl encS w1 (Iv w0.heap.size w1.heap.size) vw smallC.words ∧ Sl encKey w1 (Iv w0.heap.size w1.heap.size) vc smallC.cuts ∧ Ext w0 w1) := by
  have hS0 := St.start0 w0
  refine calls_enter Try.func57 rfl Try.ntmps57 rfl ?_
  refine r_seq ?_
  refine r_region ?_
  refine OL.act rfl rfl (AW.alloc ti53 ?_)
  intro w1 b1 hm1 hb1 hz1 hk1
  have hS1 := hS0.ext hm1
  have hS2 : St (fun _ => False) (fun _ => False) w0 w1 [bkR b1 [.slice none 0 0, .slice none 0 0, .int .i64 0, .int .i64 0, .int .i64 0, .int .i64 0, .int .i64 0, .int .i64 0, .int .i64 0, .int .i64 0, .int .i64 0, .int .i64 0] 53] := hS0.newBk hm1 hb1 hk1
  refine OL.nil ?_
  refine r_seq ?_
  refine r_region ?_
  refine OL.act rfl rfl (AW.buildSlice [strV (([97] : Str)), strV (([97, 98, 99] : Str)), strV (([98] : Str))] Try.underlying22 ti9 rfl rfl rfl (by decide) ?_)
  intro w2 b2 hm2 hb2 hz2 hk2
  have hS3 := hS2.ext hm2
  have hl1 := Sl.of_blk (enc := encS) hk2 ([([97] : Str), ([97, 98, 99] : Str), ([98] : Str)] : List Str) 3 rfl rfl (by unfold maxLen; omega)
  have hS4 : St (fun _ => False) (fun _ => False) w0 w2 [bkR b1 [.slice none 0 0, .slice none 0 0, .int .i64 0, .int .i64 0, .int .i64 0, .int .i64 0, .int .i64 0, .int .i64 0, .int .i64 0, .int .i64 0, .int .i64 0, .int .i64 0] 53, slR encS [((.slice (some ⟨b2, 0, none⟩) 3 3), [([97] : Str), ([97, 98, 99] : Str), ([98] : Str)])]] := hS2.newSlB hm2 hb2 hz2 hl1
  refine OL.q (Q1.build (vs := #[(0, (.int .i64 2 : Value))]) (v := .agg #[.int .i64 2, strV []]) rfl (fun _ => by kernel_rfl)) rfl rfl ?_
  refine OL.act rfl rfl (AW.buildSlice [(.agg #[.int .i64 2, strV []] : Value)] Try.underlying51 ti126 rfl rfl rfl (by decide) ?_)
  intro w3 b3 hm3 hb3 hz3 hk3
  have hS5 := hS4.ext hm3
  have hl2 := Sl.of_blk (enc := encKey) hk3 ([(Key.mk 2 [])] : List Key) 1 rfl rfl (by unfold maxLen; omega)
  have hS6 : St (fun _ => False) (fun _ => False) w0 w3 [bkR b1 [.slice none 0 0, .slice none 0 0, .int .i64 0, .int .i64 0, .int .i64 0, .int .i64 0, .int .i64 0, .int .i64 0, .int .i64 0, .int .i64 0, .int .i64 0, .int .i64 0] 53, slR encS [((.slice (some ⟨b2, 0, none⟩) 3 3), [([97] : Str), ([97, 98, 99] : Str), ([98] : Str)])], slR encKey [((.slice (some ⟨b3, 0, none⟩) 1 1), [(Key.mk 2 [])])]] := hS4.newSlB hm3 hb3 hz3 hl2
  refine OL.q (Q1.build (vs := #[(0, (.slice (some ⟨b2, 0, none⟩) 3 3)), (1, (.slice (some ⟨b3, 0, none⟩) 1 1)), (2, (.int .i64 2 : Value)), (3, (.int .i64 1 : Value)), (4, (.int .i64 1 : Value)), (5, (.int .i64 1 : Value)), (6, (.int .i64 1 : Value)), (7, (.int .i64 1 : Value)), (8, (.int .i64 1 : Value)), (9, (.int .i64 1 : Value)), (11, (.int .i64 8 : Value))]) (v := .agg #[(.slice (some ⟨b2, 0, none⟩) 3 3), (.slice (some ⟨b3, 0, none⟩) 1 1), .int .i64 2, .int .i64 1, .int .i64 1, .int .i64 1, .int .i64 1, .int .i64 1, .int .i64 1, .int .i64 1, .int .i64 0, .int .i64 8]) rfl (fun _ => by kernel_rfl)) rfl rfl ?_
  have f1 := hS6.bk (i := 0) rfl
  refine OL.act rfl rfl (AW.store ti53 rfl rfl rfl rfl rfl f1 (Nat.le_of_ble_eq_true rfl) ?_)
  intro w4 hm4 hz4 hk4
  have hS7 : St (fun _ => False) (fun _ => False) w0 w4 [bkR b1 [(.slice (some ⟨b2, 0, none⟩) 3 3), (.slice (some ⟨b3, 0, none⟩) 1 1), .int .i64 2, .int .i64 1, .int .i64 1, .int .i64 1, .int .i64 1, .int .i64 1, .int .i64 1, .int .i64 1, .int .i64 0, .int .i64 8] 53, slR encS [((.slice (some ⟨b2, 0, none⟩) 3 3), [([97] : Str), ([97, 98, 99] : Str), ([98] : Str)])], slR encKey [((.slice (some ⟨b3, 0, none⟩) 1 1), [(Key.mk 2 [])])]] := hS6.bkK (i := 0) rfl hm4 hk4
  refine OL.nil ?_
  have f2 := hS7.bk (i := 0) rfl
  refine r_retC1 Try.func57 rfl rfl ti53 f2.row rfl ?_
  have hs1 := hS7.slOut (i := 1) (k := 0) rfl rfl
  have hs2 := hS7.slOut (i := 2) (k := 0) rfl rfl
  exact Ret.mk ⟨_, _, rfl, hs1, hs2, hS7.mod⟩
set_option maxRecDepth 20000 in
set_option maxHeartbeats 4000000 in
theorem awake14_c {w0 : World}    :
    Calls Try.prog 55 #[] w0 (Ret fun rv w1 => (∃ rb : Bool, rb = true ∧ rv = .bool rb) ∧ Ext w0 w1) := by
  have hS0 := St.start0 w0
  refine calls_enter Try.func55 rfl Try.ntmps55 rfl ?_
  refine r_seq ?_
  refine r_region ?_
  refine OL.q (Q1.assign rfl) rfl rfl ?_
  refine OL.nil ?_
  refine r_seq ?_
  refine r_region ?_
  refine OL.act rfl rfl (AW.callF cl57 rfl (small_c (w0 := w0)) ?_)
  rintro _ w1 ⟨vw1, vc1, rfl, hw_1, hc_1, hm1⟩
  replace hw_1 := hw_1.iv (Nat.zero_le _) (Nat.le_refl _)
  replace hc_1 := hc_1.iv (Nat.zero_le _) (Nat.le_refl _)
  have hS1 := hS0.ext hm1
  refine OL.act rfl rfl (AW.callF cl56 rfl (dnew_c (w0 := w1) (c := smallC) (1) hw_1 hc_1 (by first | assumption | exact Ml.Cfg.ok_of (by decide +kernel)) (by first | assumption | (unfold I64; omega) | (unfold I64; decide)) (by first | assumption | omega | decide)) ?_)
  rintro _ w2 ⟨hm2, hd1⟩
  rcases hd1 with ⟨hmd1, rfl⟩ | ⟨hmd1, bd1, F1, rfl, hA1, hF1⟩
  · exact absurd (hmd1.symm.trans smallC_may) (by decide)
  · skip
    rw [oneD_new] at hA1
    have hS2 := hS1.ext hm2
    have hS3 : St (fun _ => False) (fun _ => False) w0 w2 [dkK 139 136 5 bd1 0 ((oneD rightS))] := hS1.new hm2 hA1 (fun b hb => ⟨(hF1 b hb).2, (hF1 b hb).1⟩)
    refine OL.q (Q1.move rfl) rfl rfl ?_
    refine OL.q (Q1.extract rfl rfl) rfl rfl ?_
    refine OL.q (Q1.extract rfl rfl) rfl rfl ?_
    refine OL.q (Q1.assign rfl) rfl rfl ?_
    refine OL.q (Q1.assign rfl) rfl rfl ?_
    refine OL.nil ?_
    refine r_seq ?_
    refine r_seq ?_
    refine r_region ?_
    refine OL.q (Q1.move rfl) rfl rfl ?_
    refine OL.qb (Q1.ne rfl rfl) rfl rfl ?_
    intro b1 hb1
    obtain rfl : b1 = false := hb1.trans (by rfl)
    refine OL.q (Q1.move rfl) rfl rfl ?_
    refine OL.q (Q1.move rfl) rfl rfl ?_
    refine OL.q (Q1.eqNil Try.underlying67 rfl rfl) rfl rfl ?_
    refine OL.q (Q1.pick_f rfl rfl) rfl rfl ?_
    refine OL.nil ?_
    refine r_cond_f rfl ?_
    refine r_skip ?_
    refine r_seq ?_
    refine r_region ?_
    refine OL.q (Q1.move rfl) rfl rfl ?_
    obtain ⟨Fy1, hAy1, hFy1, hky1⟩ := hS3.act (i := 0) rfl
    refine OL.act rfl rfl (AW.callF cl49 rfl (dread_c (w0 := w2) (0) (by first | assumption | (unfold I64; omega) | (unfold I64; decide)) hAy1 (fun b hb => (hFy1 b hb).2) (oneD_ok rfl)) ?_)
    rintro _ w3 ⟨v1, rfl, ⟨g1, ha1, hg1⟩, hm3⟩
    replace ha1 := Acc.cast ha1 ((oneD_get rightS).2.1)
    rw [(oneD_get rightS).1]
    have hS4 := hS3.ext hm3
    have hS5 : St (fun _ => False) (fun _ => False) w0 w3 [dkK 139 136 5 bd1 0 ((oneD rightS)), accR encB 5 1 v1 rightS] := hS3.newAcc hm3 ha1 hg1
    clear hg1
    have hle_1 := ha1.le
    refine OL.q (Q1.move rfl) rfl rfl ?_
    refine OL.q (Q1.extract rfl rfl) rfl rfl ?_
    refine OL.q (Q1.extract rfl rfl) rfl rfl ?_
    refine OL.q (Q1.assign rfl) rfl rfl ?_
    refine OL.q (Q1.assign rfl) rfl rfl ?_
    refine OL.nil ?_
    refine r_seq ?_
    refine r_region ?_
    refine OL.q (Q1.move rfl) rfl rfl ?_
    refine OL.qb (Q1.eq rfl rfl) rfl rfl ?_
    intro b2 hb2
    obtain rfl : b2 = true := hb2.trans (by rfl)
    refine OL.q (Q1.move rfl) rfl rfl ?_
    refine OL.q (Q1.move rfl) rfl rfl ?_
    obtain ⟨g2, f3, hl1, k1⟩ := hS5.accK (i := 1) rfl
    refine OL.q (Q1.lenSl Try.underlying25 (f3.sl) rfl) rfl rfl ?_
    refine OL.qb (Q1.gt rfl rfl) rfl rfl ?_
    intro b3 hb3
    obtain rfl : b3 = true := hb3.trans (by exact decide_eq_true (by rw [rightS_len]; decide))
    refine OL.q (Q1.pick_t rfl rfl) rfl rfl ?_
    refine OL.q (Q1.move rfl) rfl rfl ?_
    refine OL.q (Q1.move rfl) rfl rfl ?_
    obtain ⟨Fy2, hAy2, hFy2, hky2⟩ := hS5.act (i := 0) rfl
    refine OL.act rfl rfl (AW.callF cl54 rfl (dborn_c (w0 := w3) (by omega) hAy2 (fun b hb => (hFy2 b hb).2)) ?_)
    rintro _ w4 ⟨rfl, hm4, F2, hA2, hF2⟩
    have hS6 : St (fun _ => False) (fun _ => False) w0 w4 [dkK 139 136 5 bd1 ((0 + 1)) ((oneD rightS)), accR encB 5 1 v1 rightS] := hky2 _ _ _ hm4 hA2 hF2
    clear hky2 hA2
    refine OL.qb (Q1.eq rfl rfl) rfl rfl ?_
    intro b4 hb4
    obtain rfl : b4 = true := hb4.trans (by rfl)
    refine OL.q (Q1.pick_t rfl rfl) rfl rfl ?_
    refine OL.q (Q1.move rfl) rfl rfl ?_
    refine OL.q (Q1.move rfl) rfl rfl ?_
    obtain ⟨Fy3, hAy3, hFy3, hky3⟩ := hS6.act (i := 0) rfl
    refine OL.act rfl rfl (AW.callF cl54 rfl (dborn_c (w0 := w4) (by omega) hAy3 (fun b hb => (hFy3 b hb).2)) ?_)
    rintro _ w5 ⟨rfl, hm5, F3, hA3, hF3⟩
    have hS7 : St (fun _ => False) (fun _ => False) w0 w5 [dkK 139 136 5 bd1 (((0 + 1) + 1)) ((oneD rightS)), accR encB 5 1 v1 rightS] := hky3 _ _ _ hm5 hA3 hF3
    clear hky3 hA3
    refine OL.qb (Q1.eq rfl rfl) rfl rfl ?_
    intro b5 hb5
    obtain rfl : b5 = true := hb5.trans (by rfl)
    refine OL.q (Q1.pick_t rfl rfl) rfl rfl ?_
    refine OL.q (Q1.move rfl) rfl rfl ?_
    refine OL.q (Q1.move rfl) rfl rfl ?_
    obtain ⟨Fy4, hAy4, hFy4, hky4⟩ := hS7.act (i := 0) rfl
    refine OL.act rfl rfl (AW.callF cl53 rfl (dlife_c (w0 := w5) hAy4) ?_)
    rintro _ w6 ⟨rfl, hm6⟩
    have hS8 := hS7.ext hm6
    refine OL.qb (Q1.eq rfl rfl) rfl rfl ?_
    intro b6 hb6
    obtain rfl : b6 = true := hb6.trans (by rfl)
    refine OL.q (Q1.pick_t rfl rfl) rfl rfl ?_
    refine OL.q (Q1.move rfl) rfl rfl ?_
    refine OL.q (Q1.move rfl) rfl rfl ?_
    obtain ⟨Fy5, hAy5, hFy5, hky5⟩ := hS8.act (i := 0) rfl
    refine OL.act rfl rfl (AW.callF cl52 rfl (drotten_c (w0 := w6) (0) (by first | assumption | (unfold I64; omega) | (unfold I64; decide)) hAy5 (fun b hb => (hFy5 b hb).2) (oneD_ok rfl)) ?_)
    rintro _ w7 ⟨rfl, hm7⟩
    have hS9 := hS8.ext hm7
    generalize hb7 : (dkRotten ((oneD rightS)) 0) = b7
    replace hb7 := hb7.symm
    obtain rfl : b7 = false := hb7.trans (by rw [(oneD_get _).2.2]; exact decide_eq_false (fun h => h rfl))
    refine OL.q (Q1.not rfl) rfl rfl ?_
    refine OL.q (Q1.pick_t rfl rfl) rfl rfl ?_
    refine OL.q (Q1.assign rfl) rfl rfl ?_
    refine OL.nil ?_
    refine r_ret1 Try.func55 rfl rfl ?_
    exact Ret.mk ⟨⟨_, (by rfl), rfl⟩, hS9.mod⟩
set_option maxRecDepth 20000 in
set_option maxHeartbeats 4000000 in
theorem low_c {w0 : World}  (x : Int) (n : Int) (h_x : I64 x) (h_n : I64 n) (hn : 1 ≤ n) :
    Calls Try.prog 58 #[.int .i64 x, .int .i64 n] w0 (Ret fun rv w1 => rv = .int .i64 (Ml.lowM x n) ∧ Ext w0 w1 ∧ 0 ≤ Ml.lowM x n ∧ Ml.lowM x n < n) := by
  have hE0 : Ext w0 w0 := Mod.refl _ _
  refine calls_enter Try.func58 rfl Try.ntmps58 rfl ?_
  refine r_seq ?_
  refine r_region ?_
  refine OL.q (Q1.assign rfl) rfl rfl ?_
  refine OL.nil ?_
  refine r_seq ?_
  refine r_region ?_
  refine OL.q (Q1.move rfl) rfl rfl ?_
  refine OL.q (Q1.convI (by kernel_rfl) Try.underlying108 rfl) rfl rfl ?_
  have hx64 := Ml.u64_range x
  refine OL.q (Q1.move rfl) rfl rfl ?_
  refine OL.q (Q1.convI (by kernel_rfl) Try.underlying108 rfl) rfl rfl ?_
  have hn64 := Ml.u64_same n (by omega)
  have := Int.emod_nonneg ((IntKind.u64.wrap x) : Int) (by omega : ((IntKind.u64.wrap n) : Int) ≠ 0)
  have := Int.emod_lt_of_pos ((IntKind.u64.wrap x) : Int) (by omega : (0 : Int) < (IntKind.u64.wrap n))
  refine OL.q (Q1.remI (((IntKind.u64.wrap x) % ((IntKind.u64.wrap n)))) rfl rfl ⟨by omega, by omega, rfl⟩) rfl rfl ?_
  have hlow := Ml.low_range x n hn
  refine OL.q (Q1.convI (by kernel_rfl) Try.underlying3 rfl) rfl rfl ?_
  refine OL.q (Q1.assign rfl) rfl rfl ?_
  refine OL.nil ?_
  refine r_ret1 Try.func58 rfl rfl ?_
  exact Ret.mk ⟨(congrArg (Value.int .i64) (by first | exact Ml.low_eq hn h_n | (exfalso; omega))), hE0, by exact Ml.low_range x n hn⟩
end Go.Proofs
