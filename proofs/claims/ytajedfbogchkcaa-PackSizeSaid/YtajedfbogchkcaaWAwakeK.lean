/-
  The walk through awake of chapter 9.
-/
import Derived.Test.YtajedfbogchkcaaWDecode
import Derived.Test.YtajedfbogchkcaaWPack
import Derived.Test.YtajedfbogchkcaaWShared
set_option linter.unusedVariables false
set_option linter.unusedSimpArgs false
namespace Go.Proofs
open Go.Ik Go.Ml
set_option maxRecDepth 20000 in
set_option maxHeartbeats 4000000 in
theorem awake9_c {w0 : World}    :
    Calls Try.prog 14 #[] w0 (Ret fun rv w1 => (∃ rb : Bool, rb = true ∧ rv = .bool rb) ∧ Ext w0 w1) := by
  have hE0 : Ext w0 w0 := Mod.refl _ _
  refine calls_enter Try.func14 rfl Try.ntmps14 rfl ?_
  refine r_seq ?_
  refine r_region ?_
  refine OL.q (Q1.assign rfl) rfl rfl ?_
  refine OL.nil ?_
  refine r_seq ?_
  refine r_region ?_
  refine OL.act rfl rfl (AW.callF cl15 rfl (packof_c (w0 := w0) (words := [])  Sl.nil (by first | assumption | (intro s hs; simp at hs)) (by first | assumption | omega | (simp; done))) ?_)
  rintro _ w1 ⟨v1, _, rfl, ⟨gr1, h1, hg1⟩, rfl, hm1⟩
  have hE1 := hE0.ext hm1
  have hs1 := hm1.size
  have hle_1 := h1.le
  have hlt_1 := h1.lt
  have := imgM_len []
  refine OL.q (Q1.move rfl) rfl rfl ?_
  refine OL.q (Q1.extract rfl rfl) rfl rfl ?_
  refine OL.q (Q1.extract rfl rfl) rfl rfl ?_
  refine OL.q (Q1.assign rfl) rfl rfl ?_
  refine OL.q (Q1.assign rfl) rfl rfl ?_
  refine OL.nil ?_
  refine r_seq ?_
  refine r_seq ?_
  refine r_region ?_
  refine OL.q (Q1.move rfl) rfl rfl ?_
  have hl13 : (imgM []).length = 13 := by decide +kernel
  refine OL.qb (Q1.ne rfl rfl) rfl rfl ?_
  intro b1 hb1
  obtain rfl : b1 = false := hb1.trans (by decide +kernel)
  refine OL.q (Q1.move rfl) rfl rfl ?_
  refine OL.q (Q1.move rfl) rfl rfl ?_
  refine OL.q (Q1.lenSl Try.underlying25 (h1.sl) rfl) rfl rfl ?_
  refine OL.qb (Q1.ne rfl rfl) rfl rfl ?_
  intro b2 hb2
  obtain rfl : b2 = false := hb2.trans (by decide +kernel)
  refine OL.q (Q1.pick_f rfl rfl) rfl rfl ?_
  refine OL.q (Q1.move rfl) rfl rfl ?_
  refine OL.q (Q1.move rfl) rfl rfl ?_
  obtain ⟨x1, b3, o1, hx1, hr1, hl1, hu1, hw1⟩ := Sl.at' (P := Try.prog) h1.sl Try.underlying25 ti5 encB_len (k := .i64) (n := 0) (0) (by omega) (by first | assumption | omega)
  refine OL.q (Q1.indexAddr rfl rfl hr1) rfl rfl ?_
  refine OL.q (Q1.load1 ti5 rfl (fun _ e => e ▸ hw1)) rfl rfl ?_
  refine OL.qb (Q1.ne rfl rfl) rfl rfl ?_
  intro b4 hb3
  obtain rfl : b4 = false := hb3.trans (by (have hq : (imgM [])[0]? = some 73 := (by decide +kernel); obtain rfl := Option.some.inj (hx1.symm.trans hq); decide))
  refine OL.q (Q1.pick_f rfl rfl) rfl rfl ?_
  refine OL.q (Q1.move rfl) rfl rfl ?_
  refine OL.q (Q1.move rfl) rfl rfl ?_
  obtain ⟨x2, b5, o2, hx2, hr2, hl2, hu2, hw2⟩ := Sl.at' (P := Try.prog) h1.sl Try.underlying25 ti5 encB_len (k := .i64) (n := 5) (5) (by omega) (by first | assumption | omega)
  refine OL.q (Q1.indexAddr rfl rfl hr2) rfl rfl ?_
  refine OL.q (Q1.load1 ti5 rfl (fun _ e => e ▸ hw2)) rfl rfl ?_
  refine OL.qb (Q1.ne rfl rfl) rfl rfl ?_
  intro b6 hb4
  obtain rfl : b6 = false := hb4.trans (by (have hq : (imgM [])[5]? = some 1 := (by decide +kernel); obtain rfl := Option.some.inj (hx2.symm.trans hq); decide))
  refine OL.q (Q1.pick_f rfl rfl) rfl rfl ?_
  refine OL.nil ?_
  refine r_cond_f rfl ?_
  refine r_skip ?_
  refine r_seq ?_
  refine r_region ?_
  refine OL.q (Q1.move rfl) rfl rfl ?_
  refine OL.act rfl rfl (AW.callF cl22 rfl (decode_c (w0 := w1) (b := (imgM []))  ((h1.sl).iv (Nat.zero_le _) (by omega)) (by first | assumption | omega)) ?_)
  rintro _ w2 ⟨vg1, _, rfl, ⟨lo1, hi1, hgr_1, hlo1, hhi1⟩, rfl, hm2⟩
  have hl3 := h1.lt
  have f1 := h1.ext hm2
  have hE2 := hE1.ext hm2
  have hs2 := hm2.size
  refine OL.q (Q1.move rfl) rfl rfl ?_
  refine OL.q (Q1.extract rfl rfl) rfl rfl ?_
  refine OL.q (Q1.extract rfl rfl) rfl rfl ?_
  refine OL.q (Q1.assign rfl) rfl rfl ?_
  refine OL.q (Q1.assign rfl) rfl rfl ?_
  refine OL.nil ?_
  refine r_seq ?_
  refine r_region ?_
  refine OL.q (Q1.move rfl) rfl rfl ?_
  refine OL.qb (Q1.eq rfl rfl) rfl rfl ?_
  intro b7 hb5
  obtain rfl : b7 = true := hb5.trans (by (rw [dec_img (by decide)]; rfl))
  refine OL.q (Q1.move rfl) rfl rfl ?_
  refine OL.q (Q1.move rfl) rfl rfl ?_
  have hgr1 := hgr_1
  rcases hgr_1 with ⟨hv1, hN1⟩ | ⟨b8, vn1, nds1, hv1, hN1, hrw1, hsl1, hrel1⟩
  · exact absurd hN1 (by (rw [dec_img (by decide)]; exact gnodes_nn (words := []) (by decide)))
  · subst hv1
    have hnl1 := (All2.get hrel1).1
    refine OL.q (Q1.neNil Try.underlying33 rfl rfl) rfl rfl ?_
    refine OL.q (Q1.pick_t rfl rfl) rfl rfl ?_
    refine OL.q (Q1.move rfl) rfl rfl ?_
    refine OL.q (Q1.move rfl) rfl rfl ?_
    refine OL.act rfl rfl (AW.callF cl30 rfl (nodes_c (w0 := w2)   hgr1 (by omega)) ?_)
    rintro _ w3 ⟨rfl, hm3⟩
    have hl4 := f1.lt
    have f2 := f1.ext hm3
    have f3 := hgr1.ext hm3
    have f4 := hrel1.ext hm3
    have f5 := hsl1.ext hm3
    have f6 := hrw1.ext hm3
    have hE3 := hE2.ext hm3
    have hs3 := hm3.size
    refine OL.qb (Q1.eq rfl rfl) rfl rfl ?_
    intro b9 hb6
    obtain rfl : b9 = true := hb6.trans (by (rw [dec_img (by decide), gnodes_nil rfl]; rfl))
    refine OL.q (Q1.pick_t rfl rfl) rfl rfl ?_
    refine OL.q (Q1.assign rfl) rfl rfl ?_
    refine OL.nil ?_
    refine r_ret1 Try.func14 rfl rfl ?_
    exact Ret.mk ⟨⟨_, (by rfl), rfl⟩, hE3⟩
end Go.Proofs
