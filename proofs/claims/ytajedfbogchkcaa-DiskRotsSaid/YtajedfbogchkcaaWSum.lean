/-
  Walks through packages sum and code, and the references of chapters 2 and 3.
-/
import Derived.Test.YtajedfbogchkcaaFacts
set_option linter.unusedVariables false
set_option linter.unusedSimpArgs false
namespace Go.Proofs
open Go.Ik Go.Ml
set_option maxRecDepth 20000 in
set_option maxHeartbeats 4000000 in
theorem turn_c {w0 : World}  (c : Nat) (b : UInt8) (h_c : c < 4294967296) :
    Calls Try.prog 124 #[.int .u32 (((c : Nat) : Int)), .int .u8 ((b.toNat : Int))] w0 (Ret fun rv w1 => rv = .int .u32 (((turnN c b.toNat : Nat) : Int)) ∧ Ext w0 w1) := by
  have hE0 : Ext w0 w0 := Mod.refl _ _
  have hbb := b.toNat_lt
  refine calls_enter Try.func124 rfl Try.ntmps124 rfl ?_
  refine r_seq ?_
  refine r_region ?_
  refine OL.q (Q1.assign rfl) rfl rfl ?_
  refine OL.nil ?_
  refine r_seq ?_
  refine r_region ?_
  refine OL.q (Q1.move rfl) rfl rfl ?_
  refine OL.q (Q1.move rfl) rfl rfl ?_
  refine OL.q (Q1.convN (by kernel_rfl) Try.underlying95 rfl (IntWalk.u32_in _ (by omega))) rfl rfl ?_
  have hxl1 := xor_lt32 (a := c) (b := b.toNat) (by omega) (by omega)
  refine OL.q (Q1.xor32 (a := c) (b := b.toNat) rfl rfl (by omega) (by omega)) rfl rfl ?_
  refine OL.q (Q1.assign rfl) rfl rfl ?_
  refine OL.nil ?_
  refine r_seq ?_
  refine r_seq ?_
  refine r_region ?_
  refine OL.q (Q1.move rfl) rfl rfl ?_
  refine OL.nil ?_
  refine r_block ?_
  refine r_loop (I := fun m E W => ∃ (c1 : Nat) (k : Nat), E = [(0, .int .u32 (((c1 : Nat) : Int))), (10, .int .i64 (((k : Nat) : Int)))] ∧ m = 8 - k ∧ Ext w0 W ∧ w0.heap.size ≤ W.heap.size ∧ (c1 = crcK k (c ^^^ b.toNat)) ∧ (c1 < 4294967296) ∧ (k ≤ 8)) ?_ ?_
  · refine ⟨_, _, ⟨(c ^^^ b.toNat : Nat), (0 : Nat), rfl, rfl, hE0, Nat.le_refl _, (by rfl), (by omega), (by omega)⟩, ⟨rfl, rfl, trivial⟩⟩
  · rintro _ _ w1 ⟨c1, k, rfl, rfl, hE1, hs1, hc, hcl, hk8⟩ ih1
    refine r_seq ?_
    refine r_region ?_
    refine OL.qb (Q1.lt rfl rfl) rfl rfl ?_
    intro b1 hb1
    refine OL.nil ?_
    refine r_seq ?_
    cases b1 with
    | true =>
      replace hb1 := of_decide_eq_true hb1.symm
      refine r_cond_t rfl ?_
      refine r_skip ?_
      refine r_seq ?_
      refine r_block ?_
      refine r_seq ?_
      refine r_region ?_
      refine OL.q (Q1.move rfl) rfl rfl ?_
      refine OL.q (Q1.and1 (a := c1) rfl rfl (by omega)) rfl rfl ?_
      refine OL.q (Q1.assign rfl) rfl rfl ?_
      refine OL.nil ?_
      refine r_seq ?_
      refine r_region ?_
      refine OL.q (Q1.move rfl) rfl rfl ?_
      refine OL.q (Q1.shr1 (((c1 / 2 : Nat) : Int)) rfl rfl (by omega)) rfl rfl ?_
      refine OL.q (Q1.assign rfl) rfl rfl ?_
      refine OL.nil ?_
      refine r_seq ?_
      refine r_region ?_
      refine OL.q (Q1.move rfl) rfl rfl ?_
      refine OL.qb (Q1.eq rfl rfl) rfl rfl ?_
      intro b2 hb2
      refine OL.nil ?_
      cases b2 with
      | true =>
        replace hb2 := eq_of_beq hb2.symm
        refine r_cond_t rfl ?_
        refine r_region ?_
        refine OL.q (Q1.move rfl) rfl rfl ?_
        have hxl2 := xor_lt32 (a := c1 / 2) (b := 3988292384) (by omega) (by omega)
        refine OL.q (Q1.xor32 (a := c1 / 2) (b := 3988292384) rfl rfl (by omega) (by omega)) rfl rfl ?_
        refine OL.q (Q1.assign rfl) rfl rfl ?_
        refine OL.nil ?_
        refine r_inBlock ?_
        refine r_region ?_
        refine OL.q (Q1.addI (((k + 1 : Nat) : Int)) rfl rfl (by omega)) rfl rfl ?_
        refine OL.q (Q1.move rfl) rfl rfl ?_
        refine OL.nil ?_
        exact (ih1 _ _ _ ⟨((c1 / 2) ^^^ 3988292384 : Nat), (k + 1 : Nat), rfl, rfl, hE1, (by omega), (by first | exact crc_one hc (by omega) | exact crc_nil hc (by omega) | (exfalso; omega)), (by first | omega | (exfalso; omega)), (by first | omega | (exfalso; omega))⟩ (by omega)).sub ⟨rfl, rfl, trivial⟩
      | false =>
        replace hb2 := ne_of_beq_false hb2.symm
        refine r_cond_f rfl ?_
        refine r_skip ?_
        refine r_inBlock ?_
        refine r_region ?_
        refine OL.q (Q1.addI (((k + 1 : Nat) : Int)) rfl rfl (by omega)) rfl rfl ?_
        refine OL.q (Q1.move rfl) rfl rfl ?_
        refine OL.nil ?_
        exact (ih1 _ _ _ ⟨(c1 / 2 : Nat), (k + 1 : Nat), rfl, rfl, hE1, (by omega), (by first | exact crc_one hc (by omega) | exact crc_nil hc (by omega) | (exfalso; omega)), (by first | omega | (exfalso; omega)), (by first | omega | (exfalso; omega))⟩ (by omega)).sub ⟨rfl, rfl, trivial⟩
    | false =>
      replace hb1 := of_decide_eq_false hb1.symm
      refine r_cond_f rfl ?_
      refine r_exit rfl ?_
      refine r_seq ?_
      refine r_region ?_
      refine OL.q (Q1.move rfl) rfl rfl ?_
      refine OL.q (Q1.assign rfl) rfl rfl ?_
      refine OL.nil ?_
      refine r_ret1 Try.func124 rfl rfl ?_
      exact Ret.mk ⟨(congrArg (Value.int .u32) (by first | (rw [hc, show k = 8 from by omega]; rfl) | (exfalso; omega))), hE1⟩
set_option maxRecDepth 20000 in
set_option maxHeartbeats 4000000 in
theorem sumadd_c {w0 : World}  (c : Nat) {v_b : Value} {b : List UInt8} (h_c : c < 4294967296) (h_b : Sl encB w0 (Iv 0 w0.heap.size) v_b b) (hbl : b.length ≤ 4000000) :
    Calls Try.prog 99 #[.int .u32 (((c : Nat) : Int)), v_b] w0 (Ret fun rv w1 => rv = .int .u32 (((sumF c b : Nat) : Int)) ∧ Ext w0 w1) := by
  have hE0 : Ext w0 w0 := Mod.refl _ _
  have hle1 := h_b.le
  refine calls_enter Try.func99 rfl Try.ntmps99 rfl ?_
  refine r_seq ?_
  refine r_region ?_
  refine OL.q (Q1.assign rfl) rfl rfl ?_
  refine OL.nil ?_
  refine r_seq ?_
  refine r_region ?_
  refine OL.q (Q1.move rfl) rfl rfl ?_
  refine OL.q (Q1.not32 (a := c) rfl (by omega)) rfl rfl ?_
  refine OL.q (Q1.assign rfl) rfl rfl ?_
  refine OL.nil ?_
  refine r_seq ?_
  refine r_seq ?_
  refine r_region ?_
  refine OL.q (Q1.move rfl) rfl rfl ?_
  refine OL.q (Q1.lenSl Try.underlying25 (h_b) rfl) rfl rfl ?_
  refine OL.q (Q1.move rfl) rfl rfl ?_
  refine OL.nil ?_
  refine r_block ?_
  refine r_loop (I := fun m E W => ∃ (c1 : Nat) (k : Nat), E = [(0, .int .u32 (((c1 : Nat) : Int))), (9, v_b), (10, .int .i64 (((b.length : Nat) : Int))), (11, .int .i64 (((k : Nat) : Int)))] ∧ m = b.length - k ∧ Ext w0 W ∧ w0.heap.size ≤ W.heap.size ∧ Sl encB W (Iv 0 w0.heap.size) v_b b ∧ (c1 = crcF (4294967295 - c) (b.take k)) ∧ (c1 < 4294967296) ∧ (k ≤ b.length)) ?_ ?_
  · refine ⟨_, _, ⟨(4294967295 - c : Nat), (0 : Nat), rfl, rfl, hE0, Nat.le_refl _, h_b, (by rfl), (by omega), (by omega)⟩, ⟨rfl, rfl, rfl, rfl, trivial⟩⟩
  · rintro _ _ w1 ⟨c1, k, rfl, rfl, hE1, hs1, f1, hc, hcl, hkl⟩ ih1
    refine r_seq ?_
    refine r_region ?_
    refine OL.qb (Q1.lt rfl rfl) rfl rfl ?_
    intro b1 hb1
    refine OL.nil ?_
    refine r_seq ?_
    cases b1 with
    | true =>
      replace hb1 := of_decide_eq_true hb1.symm
      refine r_cond_t rfl ?_
      refine r_skip ?_
      refine r_seq ?_
      refine r_block ?_
      refine r_seq ?_
      refine r_region ?_
      obtain ⟨x1, b2, o1, hx1, hr1, hl1, hu1, hw1⟩ := Sl.at' (P := Try.prog) f1 Try.underlying25 ti5 encB_len (k := .i64) (n := ((k : Nat) : Int)) (k) (by omega) (by first | assumption | omega)
      refine OL.q (Q1.indexAddr rfl rfl hr1) rfl rfl ?_
      refine OL.q (Q1.load1 ti5 rfl (fun _ e => e ▸ hw1)) rfl rfl ?_
      have hx1b := x1.toNat_lt
      refine OL.q (Q1.assign rfl) rfl rfl ?_
      refine OL.nil ?_
      refine r_region ?_
      refine OL.q (Q1.move rfl) rfl rfl ?_
      refine OL.q (Q1.move rfl) rfl rfl ?_
      refine OL.act rfl rfl (AW.callF cl124 rfl (turn_c (w0 := w1)  (c1) (x1) (by first | omega | assumption)) ?_)
      rintro _ w2 ⟨rfl, hm1⟩
      have f2 := f1.ext hm1
      have hE2 := hE1.ext hm1
      have hs2 := hm1.size
      have := turnN_ltE c1 x1 (by omega)
      refine OL.q (Q1.assign rfl) rfl rfl ?_
      refine OL.nil ?_
      refine r_inBlock ?_
      refine r_region ?_
      refine OL.q (Q1.addI (((k + 1 : Nat) : Int)) rfl rfl (by omega)) rfl rfl ?_
      refine OL.q (Q1.move rfl) rfl rfl ?_
      refine OL.nil ?_
      exact (ih1 _ _ _ ⟨(turnN c1 x1.toNat : Nat), (k + 1 : Nat), rfl, rfl, hE2, (by omega), f2, (by first | (rw [crcF_take hx1, ← hc]) | (exfalso; omega)), (by first | exact turnN_lt hcl x1.toNat_lt | (exfalso; omega)), (by first | omega | (exfalso; omega))⟩ (by omega)).sub ⟨rfl, rfl, rfl, rfl, trivial⟩
    | false =>
      replace hb1 := of_decide_eq_false hb1.symm
      refine r_cond_f rfl ?_
      refine r_exit rfl ?_
      refine r_seq ?_
      refine r_region ?_
      refine OL.q (Q1.move rfl) rfl rfl ?_
      refine OL.q (Q1.not32 (a := c1) rfl (by omega)) rfl rfl ?_
      refine OL.q (Q1.assign rfl) rfl rfl ?_
      refine OL.nil ?_
      refine r_ret1 Try.func99 rfl rfl ?_
      exact Ret.mk ⟨(congrArg (Value.int .u32) (by first | (rw [hc, List.take_of_length_le (by omega)]; rfl) | (exfalso; omega))), hE1⟩
set_option maxRecDepth 20000 in
set_option maxHeartbeats 4000000 in
theorem sumof_c {w0 : World}  {v_b : Value} {b : List UInt8} (h_b : Sl encB w0 (Iv 0 w0.heap.size) v_b b) (hbl : b.length ≤ 4000000) :
    Calls Try.prog 65 #[v_b] w0 (Ret fun rv w1 => rv = .int .u32 (((sumN b : Nat) : Int)) ∧ Ext w0 w1) := by
  have hE0 : Ext w0 w0 := Mod.refl _ _
  have hle1 := h_b.le
  refine calls_enter Try.func65 rfl Try.ntmps65 rfl ?_
  refine r_seq ?_
  refine r_region ?_
  refine OL.q (Q1.assign rfl) rfl rfl ?_
  refine OL.nil ?_
  refine r_seq ?_
  refine r_region ?_
  refine OL.q (Q1.move rfl) rfl rfl ?_
  refine OL.act rfl rfl (AW.callF cl99 rfl (sumadd_c (w0 := w0) (b := b) (0) (by first | omega | assumption) ((h_b).iv (Nat.zero_le _) (by omega)) (by first | assumption | omega | (simp only [List.length_append, putN_len, List.length_cons, List.length_nil]; omega))) ?_)
  rintro _ w1 ⟨rfl, hm1⟩
  have f1 := h_b.ext hm1
  have hE1 := hE0.ext hm1
  have hs1 := hm1.size
  have := sumF_lt 0 b
  refine OL.q (Q1.assign rfl) rfl rfl ?_
  refine OL.nil ?_
  refine r_ret1 Try.func65 rfl rfl ?_
  exact Ret.mk ⟨(congrArg (Value.int .u32) (by rfl)), hE1⟩
set_option maxRecDepth 20000 in
set_option maxHeartbeats 4000000 in
theorem cloneB_c {w0 : World}  {v_s : Value} {s : List UInt8} (h_s : Sl encB w0 (Iv 0 w0.heap.size) v_s s) (hln : s.length ≤ 4000000) :
    Calls Try.prog 90 #[v_s] w0 (Ret fun rv w1 => (∃ gr, Acc encB 5 1 w1 gr rv (s) ∧ (gr = 0 ∨ w0.heap.size < gr)) ∧ Ext w0 w1) := by
  have hE0 : Ext w0 w0 := Mod.refl _ _
  have hle1 := h_s.le
  refine calls_enter Try.func90 rfl Try.ntmps90 rfl ?_
  refine r_seq ?_
  refine r_region ?_
  refine OL.q (Q1.assign rfl) rfl rfl ?_
  refine OL.nil ?_
  refine r_seq ?_
  refine r_seq ?_
  refine r_region ?_
  refine OL.q (Q1.move rfl) rfl rfl ?_
  obtain ⟨ad1, cp1, hv1, hz1⟩ := Sl.isNil (h_s)
  subst hv1
  refine OL.qb (Q1.eqNilSl Try.underlying25 rfl rfl) rfl rfl ?_
  intro b1 hb1
  refine OL.nil ?_
  cases b1 with
  | true =>
    replace hb1 := hb1.symm
    replace hz1 := hz1 hb1
    refine r_cond_t rfl ?_
    refine r_seq ?_
    refine r_region ?_
    refine OL.q (Q1.assign rfl) rfl rfl ?_
    refine OL.nil ?_
    refine r_ret1 Try.func90 rfl rfl ?_
    exact Ret.mk ⟨⟨0, Acc.cast Acc.nil (by first | (symm; assumption) | simp | (exfalso; omega)), .inl rfl⟩, hE0⟩
  | false =>
    replace hb1 := hb1.symm
    refine r_cond_f rfl ?_
    refine r_skip ?_
    refine r_seq ?_
    refine r_region ?_
    refine OL.act rfl rfl (AW.buildSlice [] Try.underlying25 ti5 rfl rfl rfl (by decide) ?_)
    intro w1 b2 hm1 hb2 hz2 hk1
    have f1 := h_s.ext hm1
    have hE1 := hE0.ext hm1
    have hs1 := hm1.size
    have hl1 := Acc.of_blk (enc := encB) hk1 ([] : List UInt8) 0 rfl encB_len rfl (by unfold maxLen; omega)
    refine OL.q (Q1.move rfl) rfl rfl ?_
    have hl2 := hl1.lt
    refine OL.act rfl rfl (AW.append hl1 Try.underlying25 ti5 rfl encB_len encB_one rfl rfl (f1) (by first | omega | (simp only [List.length_append, List.length_cons, List.length_nil]; omega) | (simp; omega)) (by unfold maxLen; first | omega | (simp only [List.length_append, List.length_cons, List.length_nil]; omega) | (simp; omega)) ?_)
    intro v1 g1 w2 ha1 hm2 hg1 hz3
    have hl3 := hl1.lt
    have f2 := f1.keepG hm2 (by omega)
    have hE2 := Ext.thenG hE1 hm2 (by omega)
    have hs2 := hm2.size
    refine OL.q (Q1.assign rfl) rfl rfl ?_
    refine OL.nil ?_
    refine r_ret1 Try.func90 rfl rfl ?_
    exact Ret.mk ⟨⟨_, Acc.cast ha1 (by first | (symm; assumption) | simp | (exfalso; omega)), by omega⟩, hE2⟩
set_option maxRecDepth 20000 in
set_option maxHeartbeats 4000000 in
theorem put_c {w0 : World}  {v_b : Value} {b : List UInt8} (n : Int) (size : Nat) (h_b : Sl encB w0 (Iv 0 w0.heap.size) v_b b) (hbl : b.length ≤ 4000000) (hsz : size ≤ 8) :
    Calls Try.prog 63 #[v_b, .int .i64 n, .int .i64 (((size : Nat) : Int))] w0 (Ret fun rv w1 => (∃ gr, Acc encB 5 1 w1 gr rv (b ++ putN n size) ∧ (gr = 0 ∨ w0.heap.size < gr)) ∧ Ext w0 w1) := by
  have hE0 : Ext w0 w0 := Mod.refl _ _
  have hle1 := h_b.le
  refine calls_enter Try.func63 rfl Try.ntmps63 rfl ?_
  refine r_seq ?_
  refine r_region ?_
  refine OL.q (Q1.assign rfl) rfl rfl ?_
  refine OL.nil ?_
  refine r_seq ?_
  refine r_region ?_
  refine OL.q (Q1.move rfl) rfl rfl ?_
  refine OL.act rfl rfl (AW.callF cl90 rfl (cloneB_c (w0 := w0) (s := b)  ((h_b).iv (Nat.zero_le _) (by omega)) (by first | assumption | omega)) ?_)
  rintro v1 w1 ⟨⟨gr1, h1, hg1⟩, hm1⟩
  have f1 := h_b.ext hm1
  have hE1 := hE0.ext hm1
  have hs1 := hm1.size
  have hle_1 := h1.le
  have hlt_1 := h1.lt
  refine OL.q (Q1.assign rfl) rfl rfl ?_
  refine OL.nil ?_
  refine r_seq ?_
  refine r_region ?_
  refine OL.q (Q1.move rfl) rfl rfl ?_
  refine OL.q (Q1.max rfl rfl) rfl rfl ?_
  refine OL.q (Q1.min rfl rfl) rfl rfl ?_
  rw [show (min (max (size : Int) 0) 8) = ((size : Nat) : Int) from by omega]
  refine OL.q (Q1.assign rfl) rfl rfl ?_
  refine OL.nil ?_
  refine r_seq ?_
  refine r_seq ?_
  refine r_region ?_
  refine OL.q (Q1.move rfl) rfl rfl ?_
  refine OL.q (Q1.move rfl) rfl rfl ?_
  refine OL.nil ?_
  refine r_block ?_
  refine r_loop (I := fun m E W => ∃ (v_out : Value) (g_out : Nat) (out : List UInt8) (i : Nat), E = [(1, .int .i64 n), (2, .int .i64 (((size : Nat) : Int))), (7, v_out), (14, .int .i64 (((size : Nat) : Int))), (15, .int .i64 (((i : Nat) : Int)))] ∧ m = size - i ∧ Ext w0 W ∧ w1.heap.size ≤ W.heap.size ∧ Acc encB 5 1 W g_out v_out out ∧ (g_out = 0 ∨ w0.heap.size < g_out) ∧ (out = b ++ (putN n size).take i) ∧ (out.length = b.length + i) ∧ (i ≤ size)) ?_ ?_
  · refine ⟨_, _, ⟨(v1 : Value), (gr1 : Nat), ((b) : List UInt8), (0 : Nat), rfl, rfl, hE1, Nat.le_refl _, h1, (by omega), (by simp), (by simp), (by omega)⟩, ⟨rfl, rfl, rfl, rfl, rfl, trivial⟩⟩
  · rintro _ _ w2 ⟨v_out, g_out, out, i, rfl, rfl, hE2, hs2, ha1, hg2, ho, hol, hil⟩ ih1
    refine r_seq ?_
    refine r_region ?_
    refine OL.qb (Q1.lt rfl rfl) rfl rfl ?_
    intro b1 hb1
    refine OL.nil ?_
    refine r_seq ?_
    cases b1 with
    | true =>
      replace hb1 := of_decide_eq_true hb1.symm
      refine r_cond_t rfl ?_
      refine r_skip ?_
      refine r_seq ?_
      refine r_block ?_
      refine r_seq ?_
      refine r_region ?_
      refine OL.q (Q1.move rfl) rfl rfl ?_
      refine OL.q (Q1.assign rfl) rfl rfl ?_
      refine OL.nil ?_
      refine r_region ?_
      refine OL.q (Q1.move rfl) rfl rfl ?_
      refine OL.q (Q1.move rfl) rfl rfl ?_
      refine OL.q (Q1.convI (by kernel_rfl) Try.underlying149 rfl) rfl rfl ?_
      refine OL.q (Q1.move rfl) rfl rfl ?_
      refine OL.q (Q1.subI ((((size : Nat) : Int) - 1)) rfl rfl (by omega)) rfl rfl ?_
      refine OL.q (Q1.move rfl) rfl rfl ?_
      refine OL.q (Q1.subI (((((size : Nat) : Int) - 1) - (((i : Nat) : Int)))) rfl rfl (by omega)) rfl rfl ?_
      refine OL.q (Q1.mulI (((8 * (((size - 1) - i)) : Nat) : Int)) rfl rfl (by omega)) rfl rfl ?_
      refine OL.q (Q1.convN (by kernel_rfl) Try.underlying108 rfl (IntWalk.u64_in _ (by omega))) rfl rfl ?_
      refine OL.q (Q1.shrN (8 * (((size - 1) - i))) rfl rfl (by omega) (by simp only [IntKind.bits]; omega)) rfl rfl ?_
      refine OL.q (Q1.convB (by kernel_rfl) Try.underlying5 rfl) rfl rfl ?_
      refine OL.act rfl rfl (AW.buildSlice [(.int .u8 (((byN (((IntKind.u64.wrap n) / 2 ^ (8 * (((size - 1) - i)))))).toNat : Int)) : Value)] Try.underlying25 ti5 rfl rfl rfl (by decide) ?_)
      intro w3 b2 hm2 hb2 hz1 hk1
      have hl1 := ha1.lt
      have f2 := ha1.ext hm2
      have hE3 := hE2.ext hm2
      have hs3 := hm2.size
      have hl2 := Sl.of_blk (enc := encB) hk1 ([(byN (((IntKind.u64.wrap n) / 2 ^ (8 * (((size - 1) - i))))))] : List UInt8) 1 rfl rfl (by unfold maxLen; omega)
      have hl3 := f2.lt
      refine OL.act rfl rfl (AW.append f2 Try.underlying25 ti5 rfl encB_len encB_one rfl rfl (hl2) (by first | omega | (simp only [List.length_append, List.length_cons, List.length_nil]; omega) | (simp; omega)) (by unfold maxLen; first | omega | (simp only [List.length_append, List.length_cons, List.length_nil]; omega) | (simp; omega)) ?_)
      intro v2 g1 w4 ha2 hm3 hg3 hz2
      have hl4 := f2.lt
      have f3 := hl2.keepG hm3 (by omega)
      have hE4 := Ext.thenG hE3 hm3 (by omega)
      have hs4 := hm3.size
      refine OL.q (Q1.assign rfl) rfl rfl ?_
      refine OL.nil ?_
      refine r_inBlock ?_
      refine r_region ?_
      refine OL.q (Q1.addI (((i + 1 : Nat) : Int)) rfl rfl (by omega)) rfl rfl ?_
      refine OL.q (Q1.move rfl) rfl rfl ?_
      refine OL.nil ?_
      exact (ih1 _ _ _ ⟨(v2 : Value), (g1 : Nat), ((out ++ [(byN (((IntKind.u64.wrap n) / 2 ^ (8 * (((size - 1) - i))))))]) : List UInt8), (i + 1 : Nat), rfl, rfl, hE4, (by omega), ha2, (by omega), (by first | exact putN_take ho (by omega) rfl | (exfalso; omega)), (by first | (simp only [List.length_append, List.length_cons, List.length_nil]; omega) | (exfalso; omega)), (by first | omega | (exfalso; omega))⟩ (by omega)).sub ⟨rfl, rfl, rfl, rfl, rfl, trivial⟩
    | false =>
      replace hb1 := of_decide_eq_false hb1.symm
      refine r_cond_f rfl ?_
      refine r_exit rfl ?_
      refine r_seq ?_
      refine r_region ?_
      refine OL.q (Q1.move rfl) rfl rfl ?_
      refine OL.q (Q1.assign rfl) rfl rfl ?_
      refine OL.nil ?_
      refine r_ret1 Try.func63 rfl rfl ?_
      exact Ret.mk ⟨⟨_, Acc.cast ha1 (by first | (rw [ho, List.take_of_length_le (by rw [putN_len]; omega)]) | (exfalso; omega)), by omega⟩, hE2⟩
set_option maxRecDepth 20000 in
set_option maxHeartbeats 4000000 in
theorem num4_c {w0 : World}  {v_b : Value} {b : List UInt8} (at_ : Int) (size : Nat) (h_b : Sl encB w0 (Iv 0 w0.heap.size) v_b b) (h_at_ : I64 at_) (hbl : b.length ≤ 4000000) (hsz : 1 ≤ size ∧ size ≤ 4) :
    Calls Try.prog 66 #[v_b, .int .i64 at_, .int .i64 (((size : Nat) : Int))] w0 (Ret fun rv w1 => ∃ u0 u1, rv = .tuple #[u0, u1] ∧ u0 = .int .i64 (numV b at_ size) ∧ (∃ rb : Bool, rb = (numOk b at_ size) ∧ u1 = .bool rb) ∧ Ext w0 w1) := by
  have hE0 : Ext w0 w0 := Mod.refl _ _
  have hle1 := h_b.le
  refine calls_enter Try.func66 rfl Try.ntmps66 rfl ?_
  refine r_seq ?_
  refine r_region ?_
  refine OL.q (Q1.assign rfl) rfl rfl ?_
  refine OL.q (Q1.assign rfl) rfl rfl ?_
  refine OL.nil ?_
  refine r_seq ?_
  refine r_seq ?_
  refine r_region ?_
  refine OL.q (Q1.move rfl) rfl rfl ?_
  refine OL.qb (Q1.lt rfl rfl) rfl rfl ?_
  intro b1 hb1
  refine OL.q (Q1.move rfl) rfl rfl ?_
  cases b1 with
  | true =>
    replace hb1 := of_decide_eq_true hb1.symm
    refine OL.sk rfl rfl ?_
    refine OL.sk rfl rfl ?_
    refine OL.q (Q1.pick_t rfl rfl) rfl rfl ?_
    refine OL.q (Q1.move rfl) rfl rfl ?_
    refine OL.sk rfl rfl ?_
    refine OL.sk rfl rfl ?_
    refine OL.q (Q1.pick_t rfl rfl) rfl rfl ?_
    refine OL.q (Q1.move rfl) rfl rfl ?_
    refine OL.sk rfl rfl ?_
    refine OL.sk rfl rfl ?_
    refine OL.sk rfl rfl ?_
    refine OL.sk rfl rfl ?_
    refine OL.q (Q1.pick_t rfl rfl) rfl rfl ?_
    refine OL.q (Q1.move rfl) rfl rfl ?_
    refine OL.sk rfl rfl ?_
    refine OL.sk rfl rfl ?_
    refine OL.sk rfl rfl ?_
    refine OL.sk rfl rfl ?_
    refine OL.sk rfl rfl ?_
    refine OL.sk rfl rfl ?_
    refine OL.q (Q1.pick_t rfl rfl) rfl rfl ?_
    refine OL.nil ?_
    refine r_cond_t rfl ?_
    refine r_seq ?_
    refine r_region ?_
    refine OL.q (Q1.assign rfl) rfl rfl ?_
    refine OL.q (Q1.assign rfl) rfl rfl ?_
    refine OL.nil ?_
    refine r_ret2 Try.func66 rfl rfl rfl ?_
    exact Ret.mk ⟨_, _, rfl, (congrArg (Value.int .i64) (by first | exact (numV_no (by omega)).1 | exact (numV_no (by omega)).2 | (rw [hn, ← (numV_yes (by omega)).1, show i = size from by omega]; simp) | exact (numV_yes (by omega)).2 | (exfalso; omega))), ⟨_, (by first | exact (numV_no (by omega)).1 | exact (numV_no (by omega)).2 | (rw [hn, ← (numV_yes (by omega)).1, show i = size from by omega]; simp) | exact (numV_yes (by omega)).2 | (exfalso; omega)), rfl⟩, hE0⟩
  | false =>
    replace hb1 := of_decide_eq_false hb1.symm
    refine OL.q (Q1.move rfl) rfl rfl ?_
    refine OL.qb (Q1.gt rfl rfl) rfl rfl ?_
    intro b2 hb2
    refine OL.q (Q1.pick_f rfl rfl) rfl rfl ?_
    refine OL.q (Q1.move rfl) rfl rfl ?_
    cases b2 with
    | true =>
      replace hb2 := of_decide_eq_true hb2.symm
      refine OL.sk rfl rfl ?_
      refine OL.sk rfl rfl ?_
      refine OL.q (Q1.pick_t rfl rfl) rfl rfl ?_
      refine OL.q (Q1.move rfl) rfl rfl ?_
      refine OL.sk rfl rfl ?_
      refine OL.sk rfl rfl ?_
      refine OL.sk rfl rfl ?_
      refine OL.sk rfl rfl ?_
      refine OL.q (Q1.pick_t rfl rfl) rfl rfl ?_
      refine OL.q (Q1.move rfl) rfl rfl ?_
      refine OL.sk rfl rfl ?_
      refine OL.sk rfl rfl ?_
      refine OL.sk rfl rfl ?_
      refine OL.sk rfl rfl ?_
      refine OL.sk rfl rfl ?_
      refine OL.sk rfl rfl ?_
      refine OL.q (Q1.pick_t rfl rfl) rfl rfl ?_
      refine OL.nil ?_
      refine r_cond_t rfl ?_
      refine r_seq ?_
      refine r_region ?_
      refine OL.q (Q1.assign rfl) rfl rfl ?_
      refine OL.q (Q1.assign rfl) rfl rfl ?_
      refine OL.nil ?_
      refine r_ret2 Try.func66 rfl rfl rfl ?_
      exact Ret.mk ⟨_, _, rfl, (congrArg (Value.int .i64) (by first | exact (numV_no (by omega)).1 | exact (numV_no (by omega)).2 | (rw [hn, ← (numV_yes (by omega)).1, show i = size from by omega]; simp) | exact (numV_yes (by omega)).2 | (exfalso; omega))), ⟨_, (by first | exact (numV_no (by omega)).1 | exact (numV_no (by omega)).2 | (rw [hn, ← (numV_yes (by omega)).1, show i = size from by omega]; simp) | exact (numV_yes (by omega)).2 | (exfalso; omega)), rfl⟩, hE0⟩
    | false =>
      replace hb2 := of_decide_eq_false hb2.symm
      refine OL.q (Q1.move rfl) rfl rfl ?_
      refine OL.qb (Q1.lt rfl rfl) rfl rfl ?_
      intro b3 hb3
      refine OL.q (Q1.pick_f rfl rfl) rfl rfl ?_
      refine OL.q (Q1.move rfl) rfl rfl ?_
      cases b3 with
      | true =>
        replace hb3 := of_decide_eq_true hb3.symm
        refine OL.sk rfl rfl ?_
        refine OL.sk rfl rfl ?_
        refine OL.sk rfl rfl ?_
        refine OL.sk rfl rfl ?_
        refine OL.q (Q1.pick_t rfl rfl) rfl rfl ?_
        refine OL.q (Q1.move rfl) rfl rfl ?_
        refine OL.sk rfl rfl ?_
        refine OL.sk rfl rfl ?_
        refine OL.sk rfl rfl ?_
        refine OL.sk rfl rfl ?_
        refine OL.sk rfl rfl ?_
        refine OL.sk rfl rfl ?_
        refine OL.q (Q1.pick_t rfl rfl) rfl rfl ?_
        refine OL.nil ?_
        refine r_cond_t rfl ?_
        refine r_seq ?_
        refine r_region ?_
        refine OL.q (Q1.assign rfl) rfl rfl ?_
        refine OL.q (Q1.assign rfl) rfl rfl ?_
        refine OL.nil ?_
        refine r_ret2 Try.func66 rfl rfl rfl ?_
        exact Ret.mk ⟨_, _, rfl, (congrArg (Value.int .i64) (by first | exact (numV_no (by omega)).1 | exact (numV_no (by omega)).2 | (rw [hn, ← (numV_yes (by omega)).1, show i = size from by omega]; simp) | exact (numV_yes (by omega)).2 | (exfalso; omega))), ⟨_, (by first | exact (numV_no (by omega)).1 | exact (numV_no (by omega)).2 | (rw [hn, ← (numV_yes (by omega)).1, show i = size from by omega]; simp) | exact (numV_yes (by omega)).2 | (exfalso; omega)), rfl⟩, hE0⟩
      | false =>
        replace hb3 := of_decide_eq_false hb3.symm
        refine OL.q (Q1.move rfl) rfl rfl ?_
        refine OL.q (Q1.move rfl) rfl rfl ?_
        refine OL.q (Q1.lenSl Try.underlying25 (h_b) rfl) rfl rfl ?_
        refine OL.qb (Q1.gt rfl rfl) rfl rfl ?_
        intro b4 hb4
        refine OL.q (Q1.pick_f rfl rfl) rfl rfl ?_
        refine OL.q (Q1.move rfl) rfl rfl ?_
        cases b4 with
        | true =>
          replace hb4 := of_decide_eq_true hb4.symm
          refine OL.sk rfl rfl ?_
          refine OL.sk rfl rfl ?_
          refine OL.sk rfl rfl ?_
          refine OL.sk rfl rfl ?_
          refine OL.sk rfl rfl ?_
          refine OL.sk rfl rfl ?_
          refine OL.q (Q1.pick_t rfl rfl) rfl rfl ?_
          refine OL.nil ?_
          refine r_cond_t rfl ?_
          refine r_seq ?_
          refine r_region ?_
          refine OL.q (Q1.assign rfl) rfl rfl ?_
          refine OL.q (Q1.assign rfl) rfl rfl ?_
          refine OL.nil ?_
          refine r_ret2 Try.func66 rfl rfl rfl ?_
          exact Ret.mk ⟨_, _, rfl, (congrArg (Value.int .i64) (by first | exact (numV_no (by omega)).1 | exact (numV_no (by omega)).2 | (rw [hn, ← (numV_yes (by omega)).1, show i = size from by omega]; simp) | exact (numV_yes (by omega)).2 | (exfalso; omega))), ⟨_, (by first | exact (numV_no (by omega)).1 | exact (numV_no (by omega)).2 | (rw [hn, ← (numV_yes (by omega)).1, show i = size from by omega]; simp) | exact (numV_yes (by omega)).2 | (exfalso; omega)), rfl⟩, hE0⟩
        | false =>
          replace hb4 := of_decide_eq_false hb4.symm
          refine OL.q (Q1.move rfl) rfl rfl ?_
          refine OL.q (Q1.move rfl) rfl rfl ?_
          refine OL.q (Q1.lenSl Try.underlying25 (h_b) rfl) rfl rfl ?_
          refine OL.q (Q1.move rfl) rfl rfl ?_
          refine OL.q (Q1.subI ((((b.length : Nat) : Int) - at_)) rfl rfl (by omega)) rfl rfl ?_
          refine OL.qb (Q1.gt rfl rfl) rfl rfl ?_
          intro b5 hb5
          refine OL.q (Q1.pick_f rfl rfl) rfl rfl ?_
          refine OL.nil ?_
          cases b5 with
          | true =>
            replace hb5 := of_decide_eq_true hb5.symm
            refine r_cond_t rfl ?_
            refine r_seq ?_
            refine r_region ?_
            refine OL.q (Q1.assign rfl) rfl rfl ?_
            refine OL.q (Q1.assign rfl) rfl rfl ?_
            refine OL.nil ?_
            refine r_ret2 Try.func66 rfl rfl rfl ?_
            exact Ret.mk ⟨_, _, rfl, (congrArg (Value.int .i64) (by first | exact (numV_no (by omega)).1 | exact (numV_no (by omega)).2 | (rw [hn, ← (numV_yes (by omega)).1, show i = size from by omega]; simp) | exact (numV_yes (by omega)).2 | (exfalso; omega))), ⟨_, (by first | exact (numV_no (by omega)).1 | exact (numV_no (by omega)).2 | (rw [hn, ← (numV_yes (by omega)).1, show i = size from by omega]; simp) | exact (numV_yes (by omega)).2 | (exfalso; omega)), rfl⟩, hE0⟩
          | false =>
            replace hb5 := of_decide_eq_false hb5.symm
            refine r_cond_f rfl ?_
            refine r_skip ?_
            refine r_seq ?_
            refine r_region ?_
            refine OL.q (Q1.assign rfl) rfl rfl ?_
            refine OL.nil ?_
            refine r_seq ?_
            refine r_seq ?_
            refine r_region ?_
            refine OL.q (Q1.move rfl) rfl rfl ?_
            refine OL.q (Q1.move rfl) rfl rfl ?_
            refine OL.nil ?_
            refine r_block ?_
            refine r_loop (I := fun m E W => ∃ (n : Nat) (i : Nat), E = [(0, v_b), (1, .int .i64 at_), (8, .int .u64 (((n : Nat) : Int))), (34, .int .i64 (((size : Nat) : Int))), (35, .int .i64 (((i : Nat) : Int)))] ∧ m = size - i ∧ Ext w0 W ∧ w0.heap.size ≤ W.heap.size ∧ Sl encB W (Iv 0 w0.heap.size) v_b b ∧ (n = numN ((b.drop at_.toNat).take i)) ∧ (i ≤ size)) ?_ ?_
            · refine ⟨_, _, ⟨(0 : Nat), (0 : Nat), rfl, rfl, hE0, Nat.le_refl _, h_b, (by rfl), (by omega)⟩, ⟨rfl, rfl, rfl, rfl, rfl, trivial⟩⟩
            · rintro _ _ w1 ⟨n, i, rfl, rfl, hE1, hs1, f1, hn, hil⟩ ih1
              have hnb := num_small (i := i) (l := b.drop at_.toNat) (by omega)
              rw [← hn] at hnb
              refine r_seq ?_
              refine r_region ?_
              refine OL.qb (Q1.lt rfl rfl) rfl rfl ?_
              intro b6 hb6
              refine OL.nil ?_
              refine r_seq ?_
              cases b6 with
              | true =>
                replace hb6 := of_decide_eq_true hb6.symm
                refine r_cond_t rfl ?_
                refine r_skip ?_
                refine r_seq ?_
                refine r_block ?_
                refine r_seq ?_
                refine r_region ?_
                refine OL.q (Q1.move rfl) rfl rfl ?_
                refine OL.q (Q1.assign rfl) rfl rfl ?_
                refine OL.nil ?_
                refine r_region ?_
                refine OL.q (Q1.move rfl) rfl rfl ?_
                refine OL.q (Q1.shl8 (a := n) rfl rfl (by omega)) rfl rfl ?_
                refine OL.q (Q1.move rfl) rfl rfl ?_
                refine OL.q (Q1.move rfl) rfl rfl ?_
                refine OL.q (Q1.move rfl) rfl rfl ?_
                refine OL.q (Q1.addI ((at_ + (((i : Nat) : Int)))) rfl rfl (by omega)) rfl rfl ?_
                obtain ⟨x1, b7, o1, hx1, hr1, hl1, hu1, hw1⟩ := Sl.at' (P := Try.prog) f1 Try.underlying25 ti5 encB_len (k := .i64) (n := (at_ + (((i : Nat) : Int)))) (((at_ + (((i : Nat) : Int)))).toNat) (by omega) (by first | assumption | omega)
                refine OL.q (Q1.indexAddr rfl rfl hr1) rfl rfl ?_
                refine OL.q (Q1.load1 ti5 rfl (fun _ e => e ▸ hw1)) rfl rfl ?_
                have hx1b := x1.toNat_lt
                refine OL.q (Q1.convN (by kernel_rfl) Try.underlying149 rfl (IntWalk.u64_in _ (by omega))) rfl rfl ?_
                refine OL.q (Q1.orB (a := n) (b := x1.toNat) rfl rfl (by omega) (by omega)) rfl rfl ?_
                refine OL.q (Q1.assign rfl) rfl rfl ?_
                refine OL.nil ?_
                refine r_inBlock ?_
                refine r_region ?_
                refine OL.q (Q1.addI (((i + 1 : Nat) : Int)) rfl rfl (by omega)) rfl rfl ?_
                refine OL.q (Q1.move rfl) rfl rfl ?_
                refine OL.nil ?_
                exact (ih1 _ _ _ ⟨(n * 256 + x1.toNat : Nat), (i + 1 : Nat), rfl, rfl, hE1, (by omega), f1, (by first | refine num_step hn hx1 ?_; omega | (exfalso; omega)), (by first | omega | (exfalso; omega))⟩ (by omega)).sub ⟨rfl, rfl, rfl, rfl, rfl, trivial⟩
              | false =>
                replace hb6 := of_decide_eq_false hb6.symm
                refine r_cond_f rfl ?_
                refine r_exit rfl ?_
                refine r_seq ?_
                refine r_region ?_
                refine OL.q (Q1.move rfl) rfl rfl ?_
                refine OL.q (Q1.convN (by kernel_rfl) Try.underlying3 rfl (IntWalk.i64_in _ (by omega))) rfl rfl ?_
                refine OL.q (Q1.assign rfl) rfl rfl ?_
                refine OL.q (Q1.assign rfl) rfl rfl ?_
                refine OL.nil ?_
                refine r_ret2 Try.func66 rfl rfl rfl ?_
                exact Ret.mk ⟨_, _, rfl, (congrArg (Value.int .i64) (by first | exact (numV_no (by omega)).1 | exact (numV_no (by omega)).2 | (rw [hn, ← (numV_yes (by omega)).1, show i = size from by omega]; simp) | exact (numV_yes (by omega)).2 | (exfalso; omega))), ⟨_, (by first | exact (numV_no (by omega)).1 | exact (numV_no (by omega)).2 | (rw [hn, ← (numV_yes (by omega)).1, show i = size from by omega]; simp) | exact (numV_yes (by omega)).2 | (exfalso; omega)), rfl⟩, hE1⟩
set_option maxRecDepth 20000 in
set_option maxHeartbeats 4000000 in
theorem r2of_c {w0 : World}  {v_b : Value} {b : List UInt8} (h_b : Sl encB w0 (Iv 0 w0.heap.size) v_b b) (hbl : b.length ≤ 4000000) :
    Calls Try.prog 104 #[v_b] w0 (Ret fun rv w1 => rv = .int .u32 (((sumN b : Nat) : Int)) ∧ Ext w0 w1) := by
  have hE0 : Ext w0 w0 := Mod.refl _ _
  have hle1 := h_b.le
  refine calls_enter Try.func104 rfl Try.ntmps104 rfl ?_
  refine r_seq ?_
  refine r_region ?_
  refine OL.q (Q1.assign rfl) rfl rfl ?_
  refine OL.nil ?_
  refine r_seq ?_
  refine r_region ?_
  refine OL.q (Q1.assign rfl) rfl rfl ?_
  refine OL.nil ?_
  refine r_seq ?_
  refine r_seq ?_
  refine r_region ?_
  refine OL.q (Q1.assign rfl) rfl rfl ?_
  refine OL.nil ?_
  refine r_block ?_
  refine r_loop (I := fun m E W => ∃ (c : Nat) (i : Nat), E = [(0, v_b), (3, .int .u32 (((c : Nat) : Int))), (4, .int .i64 (((i : Nat) : Int)))] ∧ m = b.length - i ∧ Ext w0 W ∧ w0.heap.size ≤ W.heap.size ∧ Sl encB W (Iv 0 w0.heap.size) v_b b ∧ (c = crcF 4294967295 (b.take i)) ∧ (c < 4294967296) ∧ (i ≤ b.length)) ?_ ?_
  · refine ⟨_, _, ⟨(4294967295 : Nat), (0 : Nat), rfl, rfl, hE0, Nat.le_refl _, h_b, (by rfl), (by omega), (by omega)⟩, ⟨rfl, rfl, rfl, trivial⟩⟩
  · rintro _ _ w1 ⟨c, i, rfl, rfl, hE1, hs1, f1, hc, hcl, hil⟩ ih1
    refine r_seq ?_
    refine r_seq ?_
    refine r_region ?_
    refine OL.q (Q1.move rfl) rfl rfl ?_
    refine OL.q (Q1.move rfl) rfl rfl ?_
    refine OL.q (Q1.lenSl Try.underlying25 (f1) rfl) rfl rfl ?_
    refine OL.qb (Q1.lt rfl rfl) rfl rfl ?_
    intro b1 hb1
    refine OL.nil ?_
    cases b1 with
    | true =>
      replace hb1 := of_decide_eq_true hb1.symm
      refine r_cond_t rfl ?_
      refine r_skip ?_
      refine r_seq ?_
      refine r_block ?_
      refine r_seq ?_
      refine r_region ?_
      refine OL.q (Q1.assign rfl) rfl rfl ?_
      obtain ⟨xi, hxi⟩ : ∃ x, b[i]? = some x := ⟨_, List.getElem?_eq_getElem (by omega)⟩
      have hxib := xi.toNat_lt
      refine OL.nil ?_
      refine r_block ?_
      refine r_loop (I := fun m E W => ∃ (c1 : Nat) (k : Nat), E = [(0, v_b), (3, .int .u32 (((c1 : Nat) : Int))), (4, .int .i64 (((i : Nat) : Int))), (5, .int .i64 (((k : Nat) : Int)))] ∧ m = 8 - k ∧ Ext w0 W ∧ w1.heap.size ≤ W.heap.size ∧ Sl encB W (Iv 0 w0.heap.size) v_b b ∧ (RefK c xi.toNat k c1) ∧ (k ≤ 8)) ?_ ?_
      · refine ⟨_, _, ⟨(c : Nat), (0 : Nat), rfl, rfl, hE1, Nat.le_refl _, f1, (by exact RefK.start hcl), (by omega)⟩, ⟨rfl, rfl, rfl, rfl, trivial⟩⟩
      · rintro _ _ w2 ⟨c1, k, rfl, rfl, hE2, hs2, f2, hr, hk8⟩ ih2
        have hcl1 := hr.2
        refine r_seq ?_
        refine r_seq ?_
        refine r_region ?_
        refine OL.q (Q1.move rfl) rfl rfl ?_
        refine OL.qb (Q1.lt rfl rfl) rfl rfl ?_
        intro b2 hb2
        refine OL.nil ?_
        cases b2 with
        | true =>
          replace hb2 := of_decide_eq_true hb2.symm
          refine r_cond_t rfl ?_
          refine r_skip ?_
          refine r_seq ?_
          refine r_block ?_
          refine r_seq ?_
          refine r_region ?_
          refine OL.q (Q1.move rfl) rfl rfl ?_
          refine OL.q (Q1.remI (((c1 % 2 : Nat) : Int)) rfl rfl ⟨Int.natCast_nonneg _, by omega, rfl⟩) rfl rfl ?_
          refine OL.q (Q1.move rfl) rfl rfl ?_
          refine OL.q (Q1.move rfl) rfl rfl ?_
          obtain ⟨x1, b3, o1, hx1, hr1, hl1, hu1, hw1⟩ := Sl.at' (P := Try.prog) f2 Try.underlying25 ti5 encB_len (k := .i64) (n := ((i : Nat) : Int)) (i) (by omega) (by first | assumption | omega)
          refine OL.q (Q1.indexAddr rfl rfl hr1) rfl rfl ?_
          obtain rfl : x1 = xi := Option.some.inj (hx1.symm.trans hxi)
          refine OL.q (Q1.load1 ti5 rfl (fun _ e => e ▸ hw1)) rfl rfl ?_
          refine OL.q (Q1.convN (by kernel_rfl) Try.underlying95 rfl (IntWalk.u32_in _ (by omega))) rfl rfl ?_
          refine OL.q (Q1.move rfl) rfl rfl ?_
          refine OL.q (Q1.shrN k rfl rfl (by omega) (by simp only [IntKind.bits]; omega)) rfl rfl ?_
          rw [show (((x1.toNat : Int) : Int) / 2 ^ k) = ((x1.toNat / 2 ^ k : Nat) : Int) from by norm_cast]
          refine OL.q (Q1.remI ((((x1.toNat / 2 ^ k) % 2 : Nat) : Int)) rfl rfl ⟨Int.natCast_nonneg _, by omega, rfl⟩) rfl rfl ?_
          refine OL.qb (Q1.ne rfl rfl) rfl rfl ?_
          intro b4 hb3
          refine OL.q (Q1.assign rfl) rfl rfl ?_
          refine OL.nil ?_
          refine r_seq ?_
          refine r_region ?_
          refine OL.q (Q1.move rfl) rfl rfl ?_
          refine OL.q (Q1.quoU32 (a := c1) 2 rfl rfl (by omega) (by omega)) rfl rfl ?_
          refine OL.q (Q1.assign rfl) rfl rfl ?_
          refine OL.nil ?_
          refine r_seq ?_
          refine r_region ?_
          refine OL.q (Q1.move rfl) rfl rfl ?_
          refine OL.nil ?_
          cases b4 with
          | true =>
            replace hb3 := bne_iff_ne.1 hb3.symm
            refine r_cond_t rfl ?_
            refine r_region ?_
            refine OL.q (Q1.move rfl) rfl rfl ?_
            have hxl1 := xor_lt32 (a := c1 / 2) (b := 3988292384) (by omega) (by omega)
            refine OL.q (Q1.xor32 (a := c1 / 2) (b := 3988292384) rfl rfl (by omega) (by omega)) rfl rfl ?_
            refine OL.q (Q1.assign rfl) rfl rfl ?_
            refine OL.nil ?_
            refine r_inBlock ?_
            refine r_region ?_
            refine OL.q (Q1.move rfl) rfl rfl ?_
            refine OL.q (Q1.addI (((k + 1 : Nat) : Int)) rfl rfl (by omega)) rfl rfl ?_
            refine OL.q (Q1.assign rfl) rfl rfl ?_
            refine OL.nil ?_
            exact (ih2 _ _ _ ⟨((c1 / 2) ^^^ 3988292384 : Nat), (k + 1 : Nat), rfl, rfl, hE2, (by omega), f2, (by first | exact hr.one (UInt8.toNat_lt _) (by omega) | exact hr.nil (UInt8.toNat_lt _) (by omega) | (exfalso; omega)), (by first | omega | (exfalso; omega))⟩ (by omega)).sub ⟨rfl, rfl, rfl, rfl, trivial⟩
          | false =>
            replace hb3 := bne_eq_false_iff_eq.1 hb3.symm
            refine r_cond_f rfl ?_
            refine r_skip ?_
            refine r_inBlock ?_
            refine r_region ?_
            refine OL.q (Q1.move rfl) rfl rfl ?_
            refine OL.q (Q1.addI (((k + 1 : Nat) : Int)) rfl rfl (by omega)) rfl rfl ?_
            refine OL.q (Q1.assign rfl) rfl rfl ?_
            refine OL.nil ?_
            exact (ih2 _ _ _ ⟨(c1 / 2 : Nat), (k + 1 : Nat), rfl, rfl, hE2, (by omega), f2, (by first | exact hr.one (UInt8.toNat_lt _) (by omega) | exact hr.nil (UInt8.toNat_lt _) (by omega) | (exfalso; omega)), (by first | omega | (exfalso; omega))⟩ (by omega)).sub ⟨rfl, rfl, rfl, rfl, trivial⟩
        | false =>
          replace hb2 := of_decide_eq_false hb2.symm
          refine r_cond_f rfl ?_
          refine r_exit rfl ?_
          refine r_inBlock ?_
          refine r_region ?_
          refine OL.q (Q1.move rfl) rfl rfl ?_
          refine OL.q (Q1.addI (((i + 1 : Nat) : Int)) rfl rfl (by omega)) rfl rfl ?_
          refine OL.q (Q1.assign rfl) rfl rfl ?_
          refine OL.nil ?_
          exact (ih1 _ _ _ ⟨(c1 : Nat), (i + 1 : Nat), rfl, rfl, hE2, (by omega), f2, (by first | (rw [crcF_take hxi, ← hc]; exact RefK.fin (by rw [show k = 8 from by omega] at hr; exact hr) xi.toNat_lt) | (exfalso; omega)), (by first | exact hr.2 | (exfalso; omega)), (by first | omega | (exfalso; omega))⟩ (by omega)).sub ⟨rfl, rfl, rfl, trivial⟩
    | false =>
      replace hb1 := of_decide_eq_false hb1.symm
      refine r_cond_f rfl ?_
      refine r_exit rfl ?_
      refine r_seq ?_
      refine r_region ?_
      refine OL.q (Q1.move rfl) rfl rfl ?_
      refine OL.q (Q1.subU32 (a := 4294967295) (b := c) rfl rfl (by omega) (by omega)) rfl rfl ?_
      refine OL.q (Q1.assign rfl) rfl rfl ?_
      refine OL.nil ?_
      refine r_ret1 Try.func104 rfl rfl ?_
      exact Ret.mk ⟨(congrArg (Value.int .u32) (by first | (rw [hc, List.take_of_length_le (by omega)]; rfl) | (exfalso; omega))), hE1⟩
set_option maxRecDepth 20000 in
set_option maxHeartbeats 4000000 in
theorem r3put_c {w0 : World}  {v_b : Value} {b : List UInt8} (n : Int) (size : Nat) (h_b : Sl encB w0 (Iv 0 w0.heap.size) v_b b) (hbl : b.length ≤ 4000000) (hsz : size ≤ 8) :
    Calls Try.prog 93 #[v_b, .int .i64 n, .int .i64 (((size : Nat) : Int))] w0 (Ret fun rv w1 => (∃ gr, Acc encB 5 1 w1 gr rv (b ++ putN n size) ∧ (gr = 0 ∨ w0.heap.size < gr)) ∧ Ext w0 w1) := by
  have hE0 : Ext w0 w0 := Mod.refl _ _
  have hle1 := h_b.le
  refine calls_enter Try.func93 rfl Try.ntmps93 rfl ?_
  refine r_seq ?_
  refine r_region ?_
  refine OL.q (Q1.assign rfl) rfl rfl ?_
  refine OL.nil ?_
  refine r_seq ?_
  refine r_region ?_
  refine OL.q (Q1.move rfl) rfl rfl ?_
  refine OL.act rfl rfl (AW.append (Acc.nil (enc := encB) (e := 5) (sz := 1) (w := w0)) Try.underlying25 ti5 rfl encB_len encB_one rfl rfl (h_b) (by first | omega | (simp only [List.length_append, List.length_cons, List.length_nil]; omega) | (simp; omega)) (by unfold maxLen; first | omega | (simp only [List.length_append, List.length_cons, List.length_nil]; omega) | (simp; omega)) ?_)
  intro v1 g1 w1 ha1 hm1 hg1 hz1
  replace hm1 := hm1.toExt
  have f1 := h_b.ext hm1
  have hE1 := hE0.ext hm1
  have hs1 := hm1.size
  refine OL.q (Q1.assign rfl) rfl rfl ?_
  refine OL.nil ?_
  refine r_seq ?_
  refine r_region ?_
  refine OL.q (Q1.move rfl) rfl rfl ?_
  refine OL.q (Q1.convI (by kernel_rfl) Try.underlying149 rfl) rfl rfl ?_
  refine OL.q (Q1.assign rfl) rfl rfl ?_
  refine OL.nil ?_
  refine r_seq ?_
  refine r_seq ?_
  refine r_region ?_
  refine OL.q (Q1.move rfl) rfl rfl ?_
  refine OL.q (Q1.max rfl rfl) rfl rfl ?_
  refine OL.q (Q1.min rfl rfl) rfl rfl ?_
  rw [show (min (max (size : Int) 0) 8) = ((size : Nat) : Int) from by omega]
  refine OL.q (Q1.subI ((((size : Nat) : Int) - 1)) rfl rfl (by omega)) rfl rfl ?_
  refine OL.q (Q1.assign rfl) rfl rfl ?_
  refine OL.nil ?_
  refine r_block ?_
  refine r_loop (I := fun m E W => ∃ (v_out : Value) (g_out : Nat) (out : List UInt8) (i : Int), E = [(7, v_out), (8, .int .u64 ((IntKind.u64.wrap n))), (9, .int .i64 i)] ∧ m = (i + 1).toNat ∧ Ext w0 W ∧ w1.heap.size ≤ W.heap.size ∧ Acc encB 5 1 W g_out v_out out ∧ (g_out = 0 ∨ w0.heap.size < g_out) ∧ (out = b ++ (putN n size).take (size - 1 - i).toNat) ∧ (out.length ≤ b.length + (size - 1 - i).toNat) ∧ (-1 ≤ i ∧ i < (size : Int))) ?_ ?_
  · refine ⟨_, _, ⟨(v1 : Value), (g1 : Nat), (([] ++ b) : List UInt8), ((((size : Nat) : Int) - 1) : Int), rfl, rfl, hE1, Nat.le_refl _, ha1, (by omega), (by (rw [show ((size : Int) - 1 - ((size : Int) - 1)).toNat = 0 from by omega]; simp)), (by simp), (by omega)⟩, ⟨rfl, rfl, rfl, trivial⟩⟩
  · rintro _ _ w2 ⟨v_out, g_out, out, i, rfl, rfl, hE2, hs2, ha2, hg2, ho, hol, hil⟩ ih1
    refine r_seq ?_
    refine r_seq ?_
    refine r_region ?_
    refine OL.q (Q1.move rfl) rfl rfl ?_
    refine OL.qb (Q1.ge rfl rfl) rfl rfl ?_
    intro b1 hb1
    refine OL.nil ?_
    cases b1 with
    | true =>
      replace hb1 := of_decide_eq_true hb1.symm
      refine r_cond_t rfl ?_
      refine r_skip ?_
      refine r_seq ?_
      refine r_block ?_
      refine r_region ?_
      refine OL.q (Q1.move rfl) rfl rfl ?_
      refine OL.q (Q1.move rfl) rfl rfl ?_
      refine OL.q (Q1.move rfl) rfl rfl ?_
      refine OL.q (Q1.mulI ((8 * i)) rfl rfl (by omega)) rfl rfl ?_
      refine OL.q (Q1.shrN (((8 * i)).toNat) rfl rfl (by omega) (by simp only [IntKind.bits]; omega)) rfl rfl ?_
      refine OL.q (Q1.convB (by kernel_rfl) Try.underlying5 rfl) rfl rfl ?_
      refine OL.act rfl rfl (AW.buildSlice [(.int .u8 (((byN (((IntKind.u64.wrap n) / 2 ^ (((8 * i)).toNat)))).toNat : Int)) : Value)] Try.underlying25 ti5 rfl rfl rfl (by decide) ?_)
      intro w3 b2 hm2 hb2 hz2 hk1
      have hl1 := ha2.lt
      have f2 := ha2.ext hm2
      have hE3 := hE2.ext hm2
      have hs3 := hm2.size
      have hl2 := Sl.of_blk (enc := encB) hk1 ([(byN (((IntKind.u64.wrap n) / 2 ^ (((8 * i)).toNat))))] : List UInt8) 1 rfl rfl (by unfold maxLen; omega)
      have hl3 := f2.lt
      refine OL.act rfl rfl (AW.append f2 Try.underlying25 ti5 rfl encB_len encB_one rfl rfl (hl2) (by first | omega | (simp only [List.length_append, List.length_cons, List.length_nil]; omega) | (simp; omega)) (by unfold maxLen; first | omega | (simp only [List.length_append, List.length_cons, List.length_nil]; omega) | (simp; omega)) ?_)
      intro v2 g2 w4 ha3 hm3 hg3 hz3
      have hl4 := f2.lt
      have f3 := hl2.keepG hm3 (by omega)
      have hE4 := Ext.thenG hE3 hm3 (by omega)
      have hs4 := hm3.size
      refine OL.q (Q1.assign rfl) rfl rfl ?_
      refine OL.nil ?_
      refine r_inBlock ?_
      refine r_region ?_
      refine OL.q (Q1.move rfl) rfl rfl ?_
      refine OL.q (Q1.subI ((i - 1)) rfl rfl (by omega)) rfl rfl ?_
      refine OL.q (Q1.assign rfl) rfl rfl ?_
      refine OL.nil ?_
      exact (ih1 _ _ _ ⟨(v2 : Value), (g2 : Nat), ((out ++ [(byN (((IntKind.u64.wrap n) / 2 ^ (((8 * i)).toNat))))]) : List UInt8), ((i - 1) : Int), rfl, rfl, hE4, (by omega), ha3, (by omega), (by first | exact put_down ho (by omega) (by omega) | (exfalso; omega)), (by first | (simp only [List.length_append, List.length_cons, List.length_nil]; omega) | (exfalso; omega)), (by first | omega | (exfalso; omega))⟩ (by omega)).sub ⟨rfl, rfl, rfl, trivial⟩
    | false =>
      replace hb1 := of_decide_eq_false hb1.symm
      refine r_cond_f rfl ?_
      refine r_exit rfl ?_
      refine r_seq ?_
      refine r_region ?_
      refine OL.q (Q1.move rfl) rfl rfl ?_
      refine OL.q (Q1.assign rfl) rfl rfl ?_
      refine OL.nil ?_
      refine r_ret1 Try.func93 rfl rfl ?_
      exact Ret.mk ⟨⟨_, Acc.cast ha2 (by first | (rw [ho, List.take_of_length_le (by rw [putN_len]; omega)]) | (exfalso; omega)), by omega⟩, hE2⟩
set_option maxRecDepth 20000 in
set_option maxHeartbeats 4000000 in
theorem r3num_c {w0 : World}  {v_b : Value} {b : List UInt8} (at_ : Int) (size : Nat) (h_b : Sl encB w0 (Iv 0 w0.heap.size) v_b b) (h_at_ : I64 at_) (hbl : b.length ≤ 4000000) (hsz : 1 ≤ size ∧ size ≤ 4) :
    Calls Try.prog 103 #[v_b, .int .i64 at_, .int .i64 (((size : Nat) : Int))] w0 (Ret fun rv w1 => ∃ u0 u1, rv = .tuple #[u0, u1] ∧ u0 = .int .i64 (numV b at_ size) ∧ (∃ rb : Bool, rb = (numOk b at_ size) ∧ u1 = .bool rb) ∧ Ext w0 w1) := by
  have hE0 : Ext w0 w0 := Mod.refl _ _
  have hle1 := h_b.le
  refine calls_enter Try.func103 rfl Try.ntmps103 rfl ?_
  refine r_seq ?_
  refine r_region ?_
  refine OL.q (Q1.assign rfl) rfl rfl ?_
  refine OL.q (Q1.assign rfl) rfl rfl ?_
  refine OL.nil ?_
  refine r_seq ?_
  refine r_seq ?_
  refine r_region ?_
  refine OL.q (Q1.move rfl) rfl rfl ?_
  refine OL.qb (Q1.lt rfl rfl) rfl rfl ?_
  intro b1 hb1
  refine OL.q (Q1.move rfl) rfl rfl ?_
  cases b1 with
  | true =>
    replace hb1 := of_decide_eq_true hb1.symm
    refine OL.sk rfl rfl ?_
    refine OL.sk rfl rfl ?_
    refine OL.q (Q1.pick_t rfl rfl) rfl rfl ?_
    refine OL.q (Q1.move rfl) rfl rfl ?_
    refine OL.sk rfl rfl ?_
    refine OL.sk rfl rfl ?_
    refine OL.q (Q1.pick_t rfl rfl) rfl rfl ?_
    refine OL.q (Q1.move rfl) rfl rfl ?_
    refine OL.sk rfl rfl ?_
    refine OL.sk rfl rfl ?_
    refine OL.sk rfl rfl ?_
    refine OL.sk rfl rfl ?_
    refine OL.q (Q1.pick_t rfl rfl) rfl rfl ?_
    refine OL.q (Q1.move rfl) rfl rfl ?_
    refine OL.sk rfl rfl ?_
    refine OL.sk rfl rfl ?_
    refine OL.sk rfl rfl ?_
    refine OL.sk rfl rfl ?_
    refine OL.sk rfl rfl ?_
    refine OL.sk rfl rfl ?_
    refine OL.q (Q1.pick_t rfl rfl) rfl rfl ?_
    refine OL.nil ?_
    refine r_cond_t rfl ?_
    refine r_seq ?_
    refine r_region ?_
    refine OL.q (Q1.assign rfl) rfl rfl ?_
    refine OL.q (Q1.assign rfl) rfl rfl ?_
    refine OL.nil ?_
    refine r_ret2 Try.func103 rfl rfl rfl ?_
    exact Ret.mk ⟨_, _, rfl, (congrArg (Value.int .i64) (by first | exact (numV_no (by omega)).1 | exact (numV_no (by omega)).2 | (rw [hn, ← (numV_yes (by omega)).1, show i = size from by omega]; simp) | exact (numV_yes (by omega)).2 | (exfalso; omega))), ⟨_, (by first | exact (numV_no (by omega)).1 | exact (numV_no (by omega)).2 | (rw [hn, ← (numV_yes (by omega)).1, show i = size from by omega]; simp) | exact (numV_yes (by omega)).2 | (exfalso; omega)), rfl⟩, hE0⟩
  | false =>
    replace hb1 := of_decide_eq_false hb1.symm
    refine OL.q (Q1.move rfl) rfl rfl ?_
    refine OL.qb (Q1.gt rfl rfl) rfl rfl ?_
    intro b2 hb2
    refine OL.q (Q1.pick_f rfl rfl) rfl rfl ?_
    refine OL.q (Q1.move rfl) rfl rfl ?_
    cases b2 with
    | true =>
      replace hb2 := of_decide_eq_true hb2.symm
      refine OL.sk rfl rfl ?_
      refine OL.sk rfl rfl ?_
      refine OL.q (Q1.pick_t rfl rfl) rfl rfl ?_
      refine OL.q (Q1.move rfl) rfl rfl ?_
      refine OL.sk rfl rfl ?_
      refine OL.sk rfl rfl ?_
      refine OL.sk rfl rfl ?_
      refine OL.sk rfl rfl ?_
      refine OL.q (Q1.pick_t rfl rfl) rfl rfl ?_
      refine OL.q (Q1.move rfl) rfl rfl ?_
      refine OL.sk rfl rfl ?_
      refine OL.sk rfl rfl ?_
      refine OL.sk rfl rfl ?_
      refine OL.sk rfl rfl ?_
      refine OL.sk rfl rfl ?_
      refine OL.sk rfl rfl ?_
      refine OL.q (Q1.pick_t rfl rfl) rfl rfl ?_
      refine OL.nil ?_
      refine r_cond_t rfl ?_
      refine r_seq ?_
      refine r_region ?_
      refine OL.q (Q1.assign rfl) rfl rfl ?_
      refine OL.q (Q1.assign rfl) rfl rfl ?_
      refine OL.nil ?_
      refine r_ret2 Try.func103 rfl rfl rfl ?_
      exact Ret.mk ⟨_, _, rfl, (congrArg (Value.int .i64) (by first | exact (numV_no (by omega)).1 | exact (numV_no (by omega)).2 | (rw [hn, ← (numV_yes (by omega)).1, show i = size from by omega]; simp) | exact (numV_yes (by omega)).2 | (exfalso; omega))), ⟨_, (by first | exact (numV_no (by omega)).1 | exact (numV_no (by omega)).2 | (rw [hn, ← (numV_yes (by omega)).1, show i = size from by omega]; simp) | exact (numV_yes (by omega)).2 | (exfalso; omega)), rfl⟩, hE0⟩
    | false =>
      replace hb2 := of_decide_eq_false hb2.symm
      refine OL.q (Q1.move rfl) rfl rfl ?_
      refine OL.qb (Q1.lt rfl rfl) rfl rfl ?_
      intro b3 hb3
      refine OL.q (Q1.pick_f rfl rfl) rfl rfl ?_
      refine OL.q (Q1.move rfl) rfl rfl ?_
      cases b3 with
      | true =>
        replace hb3 := of_decide_eq_true hb3.symm
        refine OL.sk rfl rfl ?_
        refine OL.sk rfl rfl ?_
        refine OL.sk rfl rfl ?_
        refine OL.sk rfl rfl ?_
        refine OL.q (Q1.pick_t rfl rfl) rfl rfl ?_
        refine OL.q (Q1.move rfl) rfl rfl ?_
        refine OL.sk rfl rfl ?_
        refine OL.sk rfl rfl ?_
        refine OL.sk rfl rfl ?_
        refine OL.sk rfl rfl ?_
        refine OL.sk rfl rfl ?_
        refine OL.sk rfl rfl ?_
        refine OL.q (Q1.pick_t rfl rfl) rfl rfl ?_
        refine OL.nil ?_
        refine r_cond_t rfl ?_
        refine r_seq ?_
        refine r_region ?_
        refine OL.q (Q1.assign rfl) rfl rfl ?_
        refine OL.q (Q1.assign rfl) rfl rfl ?_
        refine OL.nil ?_
        refine r_ret2 Try.func103 rfl rfl rfl ?_
        exact Ret.mk ⟨_, _, rfl, (congrArg (Value.int .i64) (by first | exact (numV_no (by omega)).1 | exact (numV_no (by omega)).2 | (rw [hn, ← (numV_yes (by omega)).1, show i = size from by omega]; simp) | exact (numV_yes (by omega)).2 | (exfalso; omega))), ⟨_, (by first | exact (numV_no (by omega)).1 | exact (numV_no (by omega)).2 | (rw [hn, ← (numV_yes (by omega)).1, show i = size from by omega]; simp) | exact (numV_yes (by omega)).2 | (exfalso; omega)), rfl⟩, hE0⟩
      | false =>
        replace hb3 := of_decide_eq_false hb3.symm
        refine OL.q (Q1.move rfl) rfl rfl ?_
        refine OL.q (Q1.move rfl) rfl rfl ?_
        refine OL.q (Q1.lenSl Try.underlying25 (h_b) rfl) rfl rfl ?_
        refine OL.qb (Q1.gt rfl rfl) rfl rfl ?_
        intro b4 hb4
        refine OL.q (Q1.pick_f rfl rfl) rfl rfl ?_
        refine OL.q (Q1.move rfl) rfl rfl ?_
        cases b4 with
        | true =>
          replace hb4 := of_decide_eq_true hb4.symm
          refine OL.sk rfl rfl ?_
          refine OL.sk rfl rfl ?_
          refine OL.sk rfl rfl ?_
          refine OL.sk rfl rfl ?_
          refine OL.sk rfl rfl ?_
          refine OL.sk rfl rfl ?_
          refine OL.q (Q1.pick_t rfl rfl) rfl rfl ?_
          refine OL.nil ?_
          refine r_cond_t rfl ?_
          refine r_seq ?_
          refine r_region ?_
          refine OL.q (Q1.assign rfl) rfl rfl ?_
          refine OL.q (Q1.assign rfl) rfl rfl ?_
          refine OL.nil ?_
          refine r_ret2 Try.func103 rfl rfl rfl ?_
          exact Ret.mk ⟨_, _, rfl, (congrArg (Value.int .i64) (by first | exact (numV_no (by omega)).1 | exact (numV_no (by omega)).2 | (rw [hn, ← (numV_yes (by omega)).1, show i = size from by omega]; simp) | exact (numV_yes (by omega)).2 | (exfalso; omega))), ⟨_, (by first | exact (numV_no (by omega)).1 | exact (numV_no (by omega)).2 | (rw [hn, ← (numV_yes (by omega)).1, show i = size from by omega]; simp) | exact (numV_yes (by omega)).2 | (exfalso; omega)), rfl⟩, hE0⟩
        | false =>
          replace hb4 := of_decide_eq_false hb4.symm
          refine OL.q (Q1.move rfl) rfl rfl ?_
          refine OL.q (Q1.move rfl) rfl rfl ?_
          refine OL.q (Q1.lenSl Try.underlying25 (h_b) rfl) rfl rfl ?_
          refine OL.q (Q1.move rfl) rfl rfl ?_
          refine OL.q (Q1.subI ((((b.length : Nat) : Int) - at_)) rfl rfl (by omega)) rfl rfl ?_
          refine OL.qb (Q1.gt rfl rfl) rfl rfl ?_
          intro b5 hb5
          refine OL.q (Q1.pick_f rfl rfl) rfl rfl ?_
          refine OL.nil ?_
          cases b5 with
          | true =>
            replace hb5 := of_decide_eq_true hb5.symm
            refine r_cond_t rfl ?_
            refine r_seq ?_
            refine r_region ?_
            refine OL.q (Q1.assign rfl) rfl rfl ?_
            refine OL.q (Q1.assign rfl) rfl rfl ?_
            refine OL.nil ?_
            refine r_ret2 Try.func103 rfl rfl rfl ?_
            exact Ret.mk ⟨_, _, rfl, (congrArg (Value.int .i64) (by first | exact (numV_no (by omega)).1 | exact (numV_no (by omega)).2 | (rw [hn, ← (numV_yes (by omega)).1, show i = size from by omega]; simp) | exact (numV_yes (by omega)).2 | (exfalso; omega))), ⟨_, (by first | exact (numV_no (by omega)).1 | exact (numV_no (by omega)).2 | (rw [hn, ← (numV_yes (by omega)).1, show i = size from by omega]; simp) | exact (numV_yes (by omega)).2 | (exfalso; omega)), rfl⟩, hE0⟩
          | false =>
            replace hb5 := of_decide_eq_false hb5.symm
            refine r_cond_f rfl ?_
            refine r_skip ?_
            refine r_seq ?_
            refine r_region ?_
            refine OL.q (Q1.assign rfl) rfl rfl ?_
            refine OL.nil ?_
            refine r_seq ?_
            refine r_seq ?_
            refine r_region ?_
            refine OL.q (Q1.assign rfl) rfl rfl ?_
            refine OL.nil ?_
            refine r_block ?_
            refine r_loop (I := fun m E W => ∃ (n : Nat) (i : Nat), E = [(0, v_b), (1, .int .i64 at_), (2, .int .i64 (((size : Nat) : Int))), (8, .int .u64 (((n : Nat) : Int))), (9, .int .i64 (((i : Nat) : Int)))] ∧ m = size - i ∧ Ext w0 W ∧ w0.heap.size ≤ W.heap.size ∧ Sl encB W (Iv 0 w0.heap.size) v_b b ∧ (n = numN ((b.drop at_.toNat).take i)) ∧ (i ≤ size)) ?_ ?_
            · refine ⟨_, _, ⟨(0 : Nat), (0 : Nat), rfl, rfl, hE0, Nat.le_refl _, h_b, (by rfl), (by omega)⟩, ⟨rfl, rfl, rfl, rfl, rfl, trivial⟩⟩
            · rintro _ _ w1 ⟨n, i, rfl, rfl, hE1, hs1, f1, hn, hil⟩ ih1
              have hnb := num_small (i := i) (l := b.drop at_.toNat) (by omega)
              rw [← hn] at hnb
              refine r_seq ?_
              refine r_seq ?_
              refine r_region ?_
              refine OL.q (Q1.move rfl) rfl rfl ?_
              refine OL.q (Q1.move rfl) rfl rfl ?_
              refine OL.qb (Q1.lt rfl rfl) rfl rfl ?_
              intro b6 hb6
              refine OL.nil ?_
              cases b6 with
              | true =>
                replace hb6 := of_decide_eq_true hb6.symm
                refine r_cond_t rfl ?_
                refine r_skip ?_
                refine r_seq ?_
                refine r_block ?_
                refine r_region ?_
                refine OL.q (Q1.move rfl) rfl rfl ?_
                refine OL.q (Q1.shl8 (a := n) rfl rfl (by omega)) rfl rfl ?_
                refine OL.q (Q1.move rfl) rfl rfl ?_
                refine OL.q (Q1.move rfl) rfl rfl ?_
                refine OL.q (Q1.move rfl) rfl rfl ?_
                refine OL.q (Q1.addI ((at_ + (((i : Nat) : Int)))) rfl rfl (by omega)) rfl rfl ?_
                obtain ⟨x1, b7, o1, hx1, hr1, hl1, hu1, hw1⟩ := Sl.at' (P := Try.prog) f1 Try.underlying25 ti5 encB_len (k := .i64) (n := (at_ + (((i : Nat) : Int)))) (((at_ + (((i : Nat) : Int)))).toNat) (by omega) (by first | assumption | omega)
                refine OL.q (Q1.indexAddr rfl rfl hr1) rfl rfl ?_
                refine OL.q (Q1.load1 ti5 rfl (fun _ e => e ▸ hw1)) rfl rfl ?_
                have hx1b := x1.toNat_lt
                refine OL.q (Q1.convN (by kernel_rfl) Try.underlying149 rfl (IntWalk.u64_in _ (by omega))) rfl rfl ?_
                refine OL.q (Q1.orB (a := n) (b := x1.toNat) rfl rfl (by omega) (by omega)) rfl rfl ?_
                refine OL.q (Q1.assign rfl) rfl rfl ?_
                refine OL.nil ?_
                refine r_inBlock ?_
                refine r_region ?_
                refine OL.q (Q1.move rfl) rfl rfl ?_
                refine OL.q (Q1.addI (((i + 1 : Nat) : Int)) rfl rfl (by omega)) rfl rfl ?_
                refine OL.q (Q1.assign rfl) rfl rfl ?_
                refine OL.nil ?_
                exact (ih1 _ _ _ ⟨(n * 256 + x1.toNat : Nat), (i + 1 : Nat), rfl, rfl, hE1, (by omega), f1, (by first | refine num_step hn hx1 ?_; omega | (exfalso; omega)), (by first | omega | (exfalso; omega))⟩ (by omega)).sub ⟨rfl, rfl, rfl, rfl, rfl, trivial⟩
              | false =>
                replace hb6 := of_decide_eq_false hb6.symm
                refine r_cond_f rfl ?_
                refine r_exit rfl ?_
                refine r_seq ?_
                refine r_region ?_
                refine OL.q (Q1.move rfl) rfl rfl ?_
                refine OL.q (Q1.convN (by kernel_rfl) Try.underlying3 rfl (IntWalk.i64_in _ (by omega))) rfl rfl ?_
                refine OL.q (Q1.assign rfl) rfl rfl ?_
                refine OL.q (Q1.assign rfl) rfl rfl ?_
                refine OL.nil ?_
                refine r_ret2 Try.func103 rfl rfl rfl ?_
                exact Ret.mk ⟨_, _, rfl, (congrArg (Value.int .i64) (by first | exact (numV_no (by omega)).1 | exact (numV_no (by omega)).2 | (rw [hn, ← (numV_yes (by omega)).1, show i = size from by omega]; simp) | exact (numV_yes (by omega)).2 | (exfalso; omega))), ⟨_, (by first | exact (numV_no (by omega)).1 | exact (numV_no (by omega)).2 | (rw [hn, ← (numV_yes (by omega)).1, show i = size from by omega]; simp) | exact (numV_yes (by omega)).2 | (exfalso; omega)), rfl⟩, hE1⟩
end Go.Proofs
