/-
  The walk through the law GraphNone.
-/
import Derived.Test.YtpdmkdhnppbllaaWAwake
set_option linter.unusedVariables false
set_option linter.unusedSimpArgs false
namespace Go.Proofs
open Go.Ik Go.Ml
set_option maxRecDepth 20000 in
set_option maxHeartbeats 4000000 in
theorem GraphNone_c {w0 : World}  (n : Int) (r : Int) (w : Str) (h_n : I64 n) (h_r : -2147483648 ≤ r ∧ r ≤ 2147483647) :
    Calls Try.prog 8 #[.int .i64 n, .int .i32 r, strV w] w0 (Ret fun rv w1 => (∃ rb : Bool, rb = true ∧ rv = .bool rb) ∧ Ext w0 w1) := by
  have hE0 : Ext w0 w0 := Mod.refl _ _
  refine calls_enter Try.func8 rfl Try.ntmps8 rfl ?_
  refine r_seq ?_
  refine r_region ?_
  refine OL.q (Q1.assign rfl) rfl rfl ?_
  refine OL.nil ?_
  refine r_seq ?_
  refine r_seq ?_
  refine r_region ?_
  refine OL.q (Q1.move rfl) rfl rfl ?_
  refine OL.q (Q1.lenS Try.underlying9 rfl) rfl rfl ?_
  refine OL.qb (Q1.gt rfl rfl) rfl rfl ?_
  intro b1 hb1
  refine OL.nil ?_
  cases b1 with
  | true =>
    replace hb1 := of_decide_eq_true hb1.symm
    refine r_cond_t rfl ?_
    refine r_seq ?_
    refine r_region ?_
    refine OL.act rfl rfl (AW.callF cl12 rfl (awake8_c (w0 := w0)   ) ?_)
    rintro _ w1 ⟨⟨_, rfl, rfl⟩, hm1⟩
    have hE1 := hE0.ext hm1
    have hs1 := hm1.size
    refine OL.q (Q1.assign rfl) rfl rfl ?_
    refine OL.nil ?_
    refine r_ret1 Try.func8 rfl rfl ?_
    exact Ret.mk ⟨⟨_, (by rfl), rfl⟩, hE1⟩
  | false =>
    replace hb1 := of_decide_eq_false hb1.symm
    refine r_cond_f rfl ?_
    refine r_skip ?_
    refine r_seq ?_
    refine r_region ?_
    refine OL.q (Q1.assign rfl) rfl rfl ?_
    have hnn : nodeAt ([] : List GN) n = (false, []) := Ml.nodeAt_nil n
    have hok0 := GOk.nil
    refine OL.nil ?_
    refine r_seq ?_
    refine r_region ?_
    refine OL.q (Q1.move rfl) rfl rfl ?_
    refine OL.q (Q1.move rfl) rfl rfl ?_
    refine OL.q (Q1.move rfl) rfl rfl ?_
    refine OL.act rfl rfl (AW.callF cl29 rfl (next_c (w0 := w0)  (n) (r) (.inl ⟨rfl, rfl⟩ : Gr 0 w0 0 0 (.pointer none) []) (Nat.zero_le _) (by first | omega | assumption) (by first | omega | assumption) (by first | assumption | omega | (simp; done)) (by first | assumption | (simp; done))) ?_)
    rintro _ w1 ⟨_, _, rfl, rfl, ⟨b2, hb2, rfl⟩, hm1⟩
    have hE1 := hE0.ext hm1
    have hs1 := hm1.size
    refine OL.q (Q1.move rfl) rfl rfl ?_
    refine OL.q (Q1.extract rfl rfl) rfl rfl ?_
    refine OL.q (Q1.extract rfl rfl) rfl rfl ?_
    obtain rfl : b2 = false := hb2.trans (by first | (rw [hnn]; done) | (rw [hnn]; rfl))
    refine OL.q (Q1.assign rfl) rfl rfl ?_
    refine OL.q (Q1.assign rfl) rfl rfl ?_
    refine OL.nil ?_
    refine r_seq ?_
    refine r_region ?_
    refine OL.q (Q1.move rfl) rfl rfl ?_
    refine OL.qb (Q1.eq rfl rfl) rfl rfl ?_
    intro b3 hb3
    obtain rfl : b3 = true := hb3.trans (by exact beq_iff_eq.2 (by first | (rw [hnn]; done) | (rw [hnn]; rfl)))
    refine OL.q (Q1.move rfl) rfl rfl ?_
    refine OL.q (Q1.move rfl) rfl rfl ?_
    refine OL.q (Q1.not rfl) rfl rfl ?_
    refine OL.q (Q1.pick_t rfl rfl) rfl rfl ?_
    refine OL.q (Q1.move rfl) rfl rfl ?_
    refine OL.q (Q1.move rfl) rfl rfl ?_
    refine OL.act rfl rfl (AW.callF cl18 rfl (nodes_c (w0 := w1)   (.inl ⟨rfl, rfl⟩ : Gr 0 w1 0 0 (.pointer none) []) (Nat.zero_le _)) ?_)
    rintro _ w2 ⟨rfl, hm2⟩
    have hE2 := hE1.ext hm2
    have hs2 := hm2.size
    refine OL.qb (Q1.eq rfl rfl) rfl rfl ?_
    intro b4 hb4
    obtain rfl : b4 = true := hb4.trans (by rfl)
    refine OL.q (Q1.pick_t rfl rfl) rfl rfl ?_
    refine OL.q (Q1.move rfl) rfl rfl ?_
    refine OL.q (Q1.move rfl) rfl rfl ?_
    refine OL.q (Q1.move rfl) rfl rfl ?_
    refine OL.act rfl rfl (AW.callF cl20 rfl (final_c (w0 := w2)  (n) (.inl ⟨rfl, rfl⟩ : Gr 0 w2 0 0 (.pointer none) []) (Nat.zero_le _) (by first | omega | assumption) (by first | assumption | omega | (simp; done))) ?_)
    rintro _ w3 ⟨⟨b5, hb5, rfl⟩, hm3⟩
    have hE3 := hE2.ext hm3
    have hs3 := hm3.size
    obtain rfl : b5 = false := hb5.trans (by first | (rw [hnn]; done) | (rw [hnn]; rfl))
    refine OL.q (Q1.not rfl) rfl rfl ?_
    refine OL.q (Q1.pick_t rfl rfl) rfl rfl ?_
    refine OL.q (Q1.move rfl) rfl rfl ?_
    refine OL.q (Q1.move rfl) rfl rfl ?_
    refine OL.q (Q1.move rfl) rfl rfl ?_
    refine OL.act rfl rfl (AW.callF cl19 rfl (edges_c (w0 := w3)  (n) (.inl ⟨rfl, rfl⟩ : Gr 0 w3 0 0 (.pointer none) []) (Nat.zero_le _) (by first | omega | assumption) (by first | assumption | omega | (simp; done)) (by first | assumption | (simp; done))) ?_)
    rintro v1 w4 ⟨⟨gr1, h1, hg1⟩, hm4⟩
    have hE4 := hE3.ext hm4
    have hs4 := hm4.size
    have hle_1 := h1.le
    refine OL.q (Q1.lenSl Try.underlying39 (h1.sl) rfl) rfl rfl ?_
    refine OL.qb (Q1.eq rfl rfl) rfl rfl ?_
    intro b6 hb6
    obtain rfl : b6 = true := hb6.trans (by exact beq_iff_eq.2 (by first | (rw [hnn]; done) | (rw [hnn]; rfl)))
    refine OL.q (Q1.pick_t rfl rfl) rfl rfl ?_
    refine OL.q (Q1.move rfl) rfl rfl ?_
    refine OL.q (Q1.move rfl) rfl rfl ?_
    refine OL.q (Q1.move rfl) rfl rfl ?_
    refine OL.act rfl rfl (AW.callF cl31 rfl (has_c (w0 := w4)  w (.inl ⟨rfl, rfl⟩ : Gr 0 w4 0 0 (.pointer none) []) (Nat.zero_le _) (by assumption) (by first | assumption | omega | (simp; done))) ?_)
    rintro _ w5 ⟨⟨b7, hb7, rfl⟩, hm5⟩
    have hl1 := h1.lt
    have f1 := h1.ext hm5
    have hE5 := hE4.ext hm5
    have hs5 := hm5.size
    obtain rfl : b7 = false := hb7.trans (by rfl)
    refine OL.q (Q1.not rfl) rfl rfl ?_
    refine OL.q (Q1.pick_t rfl rfl) rfl rfl ?_
    refine OL.q (Q1.move rfl) rfl rfl ?_
    refine OL.q (Q1.move rfl) rfl rfl ?_
    refine OL.act rfl rfl (AW.callF cl34 rfl (words_c (w0 := w5)  (.inl ⟨rfl, rfl⟩ : Gr 0 w5 0 0 (.pointer none) []) (Nat.zero_le _) GOk.nil (by first | omega | (simp; done))) ?_)
    rintro v2 w6 ⟨⟨gr2, h2, hg2⟩, hm6⟩
    have hl2 := f1.lt
    have f2 := f1.ext hm6
    have hE6 := hE5.ext hm6
    have hs6 := hm6.size
    have hle_2 := h2.le
    have hlt_1 := h2.lt
    refine OL.q (Q1.lenSl Try.underlying22 (h2.sl) rfl) rfl rfl ?_
    refine OL.qb (Q1.eq rfl rfl) rfl rfl ?_
    intro b8 hb8
    obtain rfl : b8 = true := hb8.trans (by rfl)
    refine OL.q (Q1.pick_t rfl rfl) rfl rfl ?_
    refine OL.q (Q1.move rfl) rfl rfl ?_
    refine OL.q (Q1.move rfl) rfl rfl ?_
    refine OL.q (Q1.move rfl) rfl rfl ?_
    refine OL.q (Q1.move rfl) rfl rfl ?_
    refine OL.act rfl rfl (AW.callF cl33 rfl (from_c (w0 := w6) w (n) (by first | assumption | omega) (.inl ⟨rfl, rfl⟩ : Gr 0 w6 0 0 (.pointer none) []) (Nat.zero_le _) GOk.nil (by first | omega | (simp; done))) ?_)
    rintro v3 w7 ⟨⟨gr3, h3, hg3⟩, hm7⟩
    have hl3 := f2.lt
    have hl4 := h2.lt
    have f3 := f2.ext hm7
    have f4 := h2.ext hm7
    have hE7 := hE6.ext hm7
    have hs7 := hm7.size
    have hle_3 := h3.le
    have hlt_2 := h3.lt
    refine OL.q (Q1.lenSl Try.underlying22 (h3.sl) rfl) rfl rfl ?_
    refine OL.qb (Q1.eq rfl rfl) rfl rfl ?_
    intro b9 hb9
    obtain rfl : b9 = true := hb9.trans (by exact beq_iff_eq.2 (by rw [Ml.fromM_take]; simp [Ml.geF]))
    refine OL.q (Q1.pick_t rfl rfl) rfl rfl ?_
    refine OL.q (Q1.move rfl) rfl rfl ?_
    refine OL.act rfl rfl (AW.callF cl12 rfl (awake8_c (w0 := w7)   ) ?_)
    rintro _ w8 ⟨⟨_, rfl, rfl⟩, hm8⟩
    have hl5 := f3.lt
    have hl6 := f4.lt
    have hl7 := h3.lt
    have f5 := f3.ext hm8
    have f6 := f4.ext hm8
    have f7 := h3.ext hm8
    have hE8 := hE7.ext hm8
    have hs8 := hm8.size
    refine OL.q (Q1.pick_t rfl rfl) rfl rfl ?_
    refine OL.q (Q1.assign rfl) rfl rfl ?_
    refine OL.nil ?_
    refine r_ret1 Try.func8 rfl rfl ?_
    exact Ret.mk ⟨⟨_, (by rfl), rfl⟩, hE8⟩
end Go.Proofs
