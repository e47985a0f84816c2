/-
  The walk through the law WalkOwn.
-/
import Derived.Test.YtjhbobjjkbppkaaWAwake
import Derived.Test.YtjhbobjjkbppkaaWSorted
import Derived.Test.YtjhbobjjkbppkaaLwWalk2
set_option linter.unusedVariables false
set_option linter.unusedSimpArgs false
namespace Go.Proofs
open Go.Ik Go.Ml
set_option maxRecDepth 20000 in
set_option maxHeartbeats 4000000 in
theorem WalkOwn_c {w0 : World}  {v_texts : Value} {texts : List Str} (which : Int) (k : Int) (h_texts : Sl encS w0 (Iv 0 w0.heap.size) v_texts texts) (h_which : I64 which) (h_k : I64 k) (hok : Ml.LOk texts) :
    Calls Try.prog 10 #[v_texts, .int .i64 which, .int .i64 k] w0 (Ret fun rv w1 => (∃ rb : Bool, rb = true ∧ rv = .bool rb) ∧ Ext w0 w1) := by
  have hE0 : Ext w0 w0 := Mod.refl _ _
  have hle1 := h_texts.le
  refine calls_enter Try.func10 rfl Try.ntmps10 rfl ?_
  refine r_seq ?_
  refine r_region ?_
  refine OL.q (Q1.assign rfl) rfl rfl ?_
  refine OL.nil ?_
  refine r_seq ?_
  refine r_seq ?_
  refine r_region ?_
  refine OL.q (Q1.move rfl) rfl rfl ?_
  refine OL.act rfl rfl (AW.callF cl27 rfl (greatT_c (w0 := w0) (l := texts)  ((h_texts).iv (Nat.zero_le _) (by omega))) ?_)
  rintro _ w1 ⟨⟨b1, hb1, rfl⟩, hm1⟩
  have f1 := h_texts.ext hm1
  have hE1 := hE0.ext hm1
  have hs1 := hm1.size
  refine OL.nil ?_
  cases b1 with
  | true =>
    replace hb1 := hb1.symm
    refine r_cond_t rfl ?_
    refine r_seq ?_
    refine r_region ?_
    refine OL.act rfl rfl (AW.callF cl13 rfl (awake11_c (w0 := w1)   ) ?_)
    rintro _ w2 ⟨⟨_, rfl, rfl⟩, hm2⟩
    have f2 := f1.ext hm2
    have hE2 := hE1.ext hm2
    have hs2 := hm2.size
    refine OL.q (Q1.assign rfl) rfl rfl ?_
    refine OL.nil ?_
    refine r_ret1 Try.func10 rfl rfl ?_
    exact Ret.mk ⟨⟨_, (by rfl), rfl⟩, hE2⟩
  | false =>
    replace hb1 := hb1.symm
    refine r_cond_f rfl ?_
    refine r_skip ?_
    refine r_seq ?_
    refine r_region ?_
    refine OL.q (Q1.move rfl) rfl rfl ?_
    have hl8 := Ml.greatT_len (l := texts) (by assumption)
    refine OL.act rfl rfl (AW.callF cl31 rfl (lsorted_c (w0 := w1) (words := texts)  ((f1).iv (Nat.zero_le _) (by omega)) (by first | assumption | (intro s hs; revert s; decide +kernel)) (by first | assumption | omega | (simp; done))) ?_)
    rintro v1 w2 ⟨⟨gr1, h1, hg1⟩, hm2⟩
    have f2 := f1.ext hm2
    have hE2 := hE1.ext hm2
    have hs2 := hm2.size
    have hle_1 := h1.le
    have hlt_1 := h1.lt
    have := Ml.sortedM_len texts
    refine OL.q (Q1.assign rfl) rfl rfl ?_
    refine OL.nil ?_
    refine r_seq ?_
    refine r_seq ?_
    refine r_region ?_
    refine OL.q (Q1.move rfl) rfl rfl ?_
    refine OL.q (Q1.lenSl Try.underlying22 (h1.sl) rfl) rfl rfl ?_
    refine OL.qb (Q1.eq rfl rfl) rfl rfl ?_
    intro b2 hb2
    refine OL.q (Q1.move rfl) rfl rfl ?_
    cases b2 with
    | true =>
      replace hb2 := eq_of_beq hb2.symm
      refine OL.sk rfl rfl ?_
      refine OL.sk rfl rfl ?_
      refine OL.sk rfl rfl ?_
      refine OL.q (Q1.pick_t rfl rfl) rfl rfl ?_
      refine OL.nil ?_
      refine r_cond_t rfl ?_
      refine r_seq ?_
      refine r_region ?_
      refine OL.act rfl rfl (AW.callF cl13 rfl (awake11_c (w0 := w2)   ) ?_)
      rintro _ w3 ⟨⟨_, rfl, rfl⟩, hm3⟩
      have hl1 := h1.lt
      have f3 := f2.ext hm3
      have f4 := h1.ext hm3
      have hE3 := hE2.ext hm3
      have hs3 := hm3.size
      refine OL.q (Q1.assign rfl) rfl rfl ?_
      refine OL.nil ?_
      refine r_ret1 Try.func10 rfl rfl ?_
      exact Ret.mk ⟨⟨_, (by rfl), rfl⟩, hE3⟩
    | false =>
      replace hb2 := ne_of_beq_false hb2.symm
      refine OL.q (Q1.move rfl) rfl rfl ?_
      refine OL.q (Q1.lenSl Try.underlying22 (h1.sl) rfl) rfl rfl ?_
      refine OL.qb (Q1.gt rfl rfl) rfl rfl ?_
      intro b3 hb3
      refine OL.q (Q1.pick_f rfl rfl) rfl rfl ?_
      refine OL.nil ?_
      cases b3 with
      | true =>
        replace hb3 := of_decide_eq_true hb3.symm
        refine r_cond_t rfl ?_
        refine r_seq ?_
        refine r_region ?_
        refine OL.act rfl rfl (AW.callF cl13 rfl (awake11_c (w0 := w2)   ) ?_)
        rintro _ w3 ⟨⟨_, rfl, rfl⟩, hm3⟩
        have hl1 := h1.lt
        have f3 := f2.ext hm3
        have f4 := h1.ext hm3
        have hE3 := hE2.ext hm3
        have hs3 := hm3.size
        refine OL.q (Q1.assign rfl) rfl rfl ?_
        refine OL.nil ?_
        refine r_ret1 Try.func10 rfl rfl ?_
        exact Ret.mk ⟨⟨_, (by rfl), rfl⟩, hE3⟩
      | false =>
        replace hb3 := of_decide_eq_false hb3.symm
        refine r_cond_f rfl ?_
        refine r_skip ?_
        refine r_seq ?_
        refine r_region ?_
        refine OL.q (Q1.move rfl) rfl rfl ?_
        refine OL.q (Q1.move rfl) rfl rfl ?_
        refine OL.q (Q1.move rfl) rfl rfl ?_
        refine OL.q (Q1.lenSl Try.underlying22 (h1.sl) rfl) rfl rfl ?_
        refine OL.act rfl rfl (AW.callF cl20 rfl (low_c (w0 := w2)  (which) (((((Ml.sortedM texts)).length : Nat) : Int)) (by first | omega | assumption) (by first | omega | assumption) (by omega)) ?_)
        rintro _ w3 ⟨rfl, hm3, hp1⟩
        have hl1 := h1.lt
        have f3 := f2.ext hm3
        have f4 := h1.ext hm3
        have hE3 := hE2.ext hm3
        have hs3 := hm3.size
        obtain ⟨x1, b4, o1, hx1, hr1, hl2, hu1, hw1⟩ := Sl.at' (P := Try.prog) f4.sl Try.underlying22 ti9 encS_len (k := .i64) (n := (Ml.lowM which (((((Ml.sortedM texts)).length : Nat) : Int)))) (((Ml.lowM which (((((Ml.sortedM texts)).length : Nat) : Int)))).toNat) (by omega) (by first | assumption | omega)
        refine OL.q (Q1.indexAddr rfl rfl hr1) rfl rfl ?_
        refine OL.q (Q1.load1 ti9 rfl (fun _ e => e ▸ hw1)) rfl rfl ?_
        refine OL.q (Q1.assign rfl) rfl rfl ?_
        refine OL.nil ?_
        refine r_seq ?_
        refine r_region ?_
        refine OL.q (Q1.move rfl) rfl rfl ?_
        refine OL.act rfl rfl (AW.callF cl20 rfl (low_c (w0 := w3)  (k) (5) (by first | omega | assumption) (by first | omega | assumption) (by omega)) ?_)
        rintro _ w4 ⟨rfl, hm4, hp2⟩
        have hl3 := f4.lt
        have f5 := f3.ext hm4
        have f6 := f4.ext hm4
        have hE4 := hE3.ext hm4
        have hs4 := hm4.size
        refine OL.q (Q1.assign rfl) rfl rfl ?_
        refine OL.nil ?_
        refine r_seq ?_
        refine r_region ?_
        refine OL.q (Q1.move rfl) rfl rfl ?_
        have hg0 : Ml.goodL ((Ml.sortedM texts)) = 0 := Ml.sorted_good (by omega)
        have hx1m := List.mem_of_getElem? hx1
        have hws := good_len48 hg0
        have hx1w := hws _ hx1m
        have hkr := Ml.low_range k 5 (by omega)
        obtain ⟨I, hown⟩ := own_law (k := Ml.lowM k 5) hg0 hx1m (by omega)
        have hIp := hown.pos
        have hIl := hown.le
        have hoA := hown.one
        have hoB := hown.all
        have hoC := hown.rest
        have hoAl := congrArg (fun x : List Itm × Bool => x.1.length) hoA
        have hoBl := congrArg (fun x : List Itm × Bool => x.1.length) hoB
        simp only [List.length_cons, List.length_nil] at hoAl hoBl
        have hgok : GOk (Ml.gnodes (Ml.sortedM texts)) (Ml.graphB (Ml.sortedM texts)) (Ml.sortedM texts) := Ml.gok_of hg0
        obtain ⟨hI, hgl, hel⟩ := hgok.edges
        refine OL.act rfl rfl (AW.callF cl14 rfl (build_c (w0 := w4) (words := (Ml.sortedM texts))  ((f6.sl).iv (Nat.zero_le _) (by omega)) (by exact fun s hs => by have := hws s hs; omega) (by omega)) ?_)
        rintro _ w5 ⟨vg1, _, rfl, ⟨lo1, hi1, hgr_1, hlo1, hhi1⟩, rfl, hm5⟩
        have hl4 := f6.lt
        have f7 := f5.ext hm5
        have f8 := f6.ext hm5
        have hE5 := hE4.ext hm5
        have hs5 := hm5.size
        have := Ml.goodL_range ((Ml.sortedM texts))
        refine OL.q (Q1.move rfl) rfl rfl ?_
        refine OL.q (Q1.extract rfl rfl) rfl rfl ?_
        refine OL.q (Q1.extract rfl rfl) rfl rfl ?_
        refine OL.q (Q1.assign rfl) rfl rfl ?_
        refine OL.q (Q1.assign rfl) rfl rfl ?_
        refine OL.nil ?_
        refine r_seq ?_
        refine r_seq ?_
        refine r_region ?_
        refine OL.q (Q1.move rfl) rfl rfl ?_
        refine OL.qb (Q1.ne rfl rfl) rfl rfl ?_
        intro b5 hb4
        obtain rfl : b5 = false := hb4.trans (by exact bne_eq_false_iff_eq.2 hg0)
        refine OL.nil ?_
        refine r_cond_f rfl ?_
        refine r_skip ?_
        refine r_seq ?_
        refine r_region ?_
        refine OL.q (Q1.move rfl) rfl rfl ?_
        refine OL.q (Q1.move rfl) rfl rfl ?_
        refine OL.q (Q1.move rfl) rfl rfl ?_
        refine OL.q (Q1.build (vs := #[]) (v := .agg #[.int .i64 0, strV []]) rfl (fun _ => by kernel_rfl)) rfl rfl ?_
        refine OL.act rfl rfl (AW.callF cl15 rfl (wnext_c (w0 := w5) (after := (Itm.mk 0 [])) x1 ((Ml.lowM k 5)) true (1) hgr_1 (by omega) (by first | omega | assumption) (by first | omega | assumption) (by exact hgok) (by omega) (by omega) (by first | decide | (show I64 (0 : Int); decide)) (by first | (simp; done) | (show x1.length ≤ _; omega))) ?_)
        rintro _ w6 ⟨v2, _, rfl, ⟨gr2, h2, hg2⟩, ⟨b6, hb5, rfl⟩, hm6⟩
        have hl5 := f8.lt
        have f9 := f7.ext hm6
        have f10 := f8.ext hm6
        have f11 := hgr_1.ext hm6
        have hE6 := hE5.ext hm6
        have hs6 := hm6.size
        have hle_2 := h2.le
        have hlt_2 := h2.lt
        have := nextA_lenE ((Ml.gnodes ((Ml.sortedM texts)))) ((Ml.sortedM texts)) x1 ((Ml.lowM k 5)) true ((Itm.mk 0 [])) 1
        refine OL.q (Q1.move rfl) rfl rfl ?_
        refine OL.q (Q1.extract rfl rfl) rfl rfl ?_
        refine OL.q (Q1.extract rfl rfl) rfl rfl ?_
        refine OL.q (Q1.assign rfl) rfl rfl ?_
        refine OL.q (Q1.assign rfl) rfl rfl ?_
        refine OL.nil ?_
        refine r_seq ?_
        refine r_region ?_
        refine OL.q (Q1.move rfl) rfl rfl ?_
        refine OL.q (Q1.move rfl) rfl rfl ?_
        refine OL.q (Q1.move rfl) rfl rfl ?_
        refine OL.q (Q1.build (vs := #[]) (v := .agg #[.int .i64 0, strV []]) rfl (fun _ => by kernel_rfl)) rfl rfl ?_
        refine OL.act rfl rfl (AW.callF cl15 rfl (wnext_c (w0 := w6) (after := (Itm.mk 0 [])) x1 ((Ml.lowM k 5)) true (60) f11 (by omega) (by first | omega | assumption) (by first | omega | assumption) (by exact hgok) (by omega) (by omega) (by first | decide | (show I64 (0 : Int); decide)) (by first | (simp; done) | (show x1.length ≤ _; omega))) ?_)
        rintro _ w7 ⟨v3, _, rfl, ⟨gr3, h3, hg3⟩, ⟨b7, hb6, rfl⟩, hm7⟩
        have hl6 := f10.lt
        have hl7 := h2.lt
        have f12 := f9.ext hm7
        have f13 := f10.ext hm7
        have f14 := f11.ext hm7
        have f15 := h2.ext hm7
        have hE7 := hE6.ext hm7
        have hs7 := hm7.size
        have hle_3 := h3.le
        have hlt_3 := h3.lt
        have := nextA_lenE ((Ml.gnodes ((Ml.sortedM texts)))) ((Ml.sortedM texts)) x1 ((Ml.lowM k 5)) true ((Itm.mk 0 [])) 60
        refine OL.q (Q1.move rfl) rfl rfl ?_
        refine OL.q (Q1.extract rfl rfl) rfl rfl ?_
        refine OL.q (Q1.extract rfl rfl) rfl rfl ?_
        refine OL.q (Q1.assign rfl) rfl rfl ?_
        refine OL.q (Q1.assign rfl) rfl rfl ?_
        refine OL.nil ?_
        refine r_seq ?_
        refine r_region ?_
        refine OL.q (Q1.move rfl) rfl rfl ?_
        refine OL.q (Q1.move rfl) rfl rfl ?_
        refine OL.q (Q1.move rfl) rfl rfl ?_
        refine OL.q (Q1.move rfl) rfl rfl ?_
        refine OL.q (Q1.build (vs := #[(1, strV x1)]) (v := .agg #[.int .i64 0, strV x1]) rfl (fun _ => by kernel_rfl)) rfl rfl ?_
        refine OL.act rfl rfl (AW.callF cl15 rfl (wnext_c (w0 := w7) (after := (Itm.mk 0 x1)) x1 ((Ml.lowM k 5)) false (60) f14 (by omega) (by first | omega | assumption) (by first | omega | assumption) (by exact hgok) (by omega) (by omega) (by first | decide | (show I64 (0 : Int); decide)) (by first | (simp; done) | (show x1.length ≤ _; omega))) ?_)
        rintro _ w8 ⟨v4, _, rfl, ⟨gr4, h4, hg4⟩, ⟨b8, hb7, rfl⟩, hm8⟩
        have hl8 := f13.lt
        have hl9 := f15.lt
        have hl10 := h3.lt
        have f16 := f12.ext hm8
        have f17 := f13.ext hm8
        have f18 := f14.ext hm8
        have f19 := f15.ext hm8
        have f20 := h3.ext hm8
        have hE8 := hE7.ext hm8
        have hs8 := hm8.size
        have hle_4 := h4.le
        have hlt_4 := h4.lt
        have := nextA_lenE ((Ml.gnodes ((Ml.sortedM texts)))) ((Ml.sortedM texts)) x1 ((Ml.lowM k 5)) false ((Itm.mk 0 x1)) 60
        refine OL.q (Q1.move rfl) rfl rfl ?_
        refine OL.q (Q1.extract rfl rfl) rfl rfl ?_
        refine OL.q (Q1.extract rfl rfl) rfl rfl ?_
        refine OL.q (Q1.assign rfl) rfl rfl ?_
        refine OL.q (Q1.assign rfl) rfl rfl ?_
        refine OL.nil ?_
        refine r_seq ?_
        refine r_seq ?_
        refine r_region ?_
        refine OL.q (Q1.move rfl) rfl rfl ?_
        refine OL.q (Q1.lenSl Try.underlying31 (f19.sl) rfl) rfl rfl ?_
        refine OL.qb (Q1.ne rfl rfl) rfl rfl ?_
        intro b9 hb8
        obtain rfl : b9 = false := hb8.trans (by exact bne_eq_false_iff_eq.2 (by rw [hoA]; rfl))
        refine OL.q (Q1.move rfl) rfl rfl ?_
        refine OL.q (Q1.move rfl) rfl rfl ?_
        obtain ⟨x2, b10, o2, hx2, hr2, hl11, hu2, hw2⟩ := Sl.at' (P := Try.prog) f19.sl Try.underlying31 ti24 encItm_len (k := .i64) (n := 0) (0) (by omega) (by first | assumption | omega)
        refine OL.q (Q1.indexAddr rfl rfl hr2) rfl rfl ?_
        refine OL.q (Q1.loadN ti24 rfl (fun _ e => e ▸ hw2) rfl) rfl rfl ?_
        have hx2e : x2 = Itm.mk 0 x1 := by rw [hoA] at hx2; simpa using hx2.symm
        refine OL.q (Q1.move rfl) rfl rfl ?_
        refine OL.q (Q1.build (vs := #[(1, strV x1)]) (v := .agg #[.int .i64 0, strV x1]) rfl (fun _ => by kernel_rfl)) rfl rfl ?_
        refine OL.qb (Q1.neStruct (by kernel_rfl) (eqS24 x2 ((Itm.mk 0 x1))) rfl rfl) rfl rfl ?_
        intro b11 hb9
        obtain rfl : b11 = false := hb9.trans (by rw [hx2e]; simp)
        refine OL.q (Q1.pick_f rfl rfl) rfl rfl ?_
        refine OL.q (Q1.move rfl) rfl rfl ?_
        refine OL.q (Q1.move rfl) rfl rfl ?_
        refine OL.q (Q1.lenSl Try.underlying31 (f20.sl) rfl) rfl rfl ?_
        refine OL.qb (Q1.lt rfl rfl) rfl rfl ?_
        intro b12 hb10
        obtain rfl : b12 = false := hb10.trans (by exact decide_eq_false (by omega))
        refine OL.q (Q1.pick_f rfl rfl) rfl rfl ?_
        refine OL.q (Q1.move rfl) rfl rfl ?_
        refine OL.q (Q1.move rfl) rfl rfl ?_
        obtain rfl : b7 = true := hb6.trans (by rw [hoB])
        refine OL.q (Q1.not rfl) rfl rfl ?_
        refine OL.q (Q1.pick_f rfl rfl) rfl rfl ?_
        refine OL.q (Q1.move rfl) rfl rfl ?_
        refine OL.q (Q1.move rfl) rfl rfl ?_
        obtain rfl : b8 = true := hb7.trans (by rw [hoC])
        refine OL.q (Q1.not rfl) rfl rfl ?_
        refine OL.q (Q1.pick_f rfl rfl) rfl rfl ?_
        refine OL.q (Q1.move rfl) rfl rfl ?_
        refine OL.q (Q1.move rfl) rfl rfl ?_
        refine OL.q (Q1.move rfl) rfl rfl ?_
        refine OL.q (Q1.lenSl Try.underlying31 (f20.sl) rfl) rfl rfl ?_
        refine OL.qb (Q1.eq rfl rfl) rfl rfl ?_
        intro b13 hb11
        refine OL.qb (Q1.neB Try.underlying4 rfl rfl) rfl rfl ?_
        intro b14 hb12
        obtain rfl : b14 = false := hb12.trans (by exact Ml.nbeqBB (by assumption) (by assumption) (by rw [hoA, hoB]; exact own_end hIp))
        refine OL.q (Q1.pick_f rfl rfl) rfl rfl ?_
        refine OL.nil ?_
        refine r_cond_f rfl ?_
        refine r_skip ?_
        refine r_seq ?_
        refine r_region ?_
        refine OL.q (Q1.move rfl) rfl rfl ?_
        refine OL.q (Q1.move rfl) rfl rfl ?_
        obtain ⟨v5, hr3, hl12⟩ := Sl.part (P := Try.prog) f20.sl Try.underlying31 ti24 encItm_len (1) ((((nextA ((Ml.gnodes ((Ml.sortedM texts)))) ((Ml.sortedM texts)) x1 ((Ml.lowM k 5)) true ((Itm.mk 0 [])) 60).1)).length) (.inr ⟨.i64, 1, rfl, by omega⟩) (.inl ⟨rfl, rfl⟩) (by omega) (by first | assumption | omega)
        refine OL.q (Q1.sliceV rfl rfl rfl rfl hr3) rfl rfl ?_
        replace hl12 : Sl encItm w8 (Iv ((gr3 - 1)) gr3) v5 ((((nextA ((Ml.gnodes ((Ml.sortedM texts)))) ((Ml.sortedM texts)) x1 ((Ml.lowM k 5)) true ((Itm.mk 0 [])) 60).1)).drop 1) := by simpa using hl12
        refine OL.act rfl rfl (AW.callF cl17 rfl (sameIt_c (w0 := w8) (a := ((nextA ((Ml.gnodes ((Ml.sortedM texts)))) ((Ml.sortedM texts)) x1 ((Ml.lowM k 5)) false ((Itm.mk 0 x1)) 60).1)) (b := ((((nextA ((Ml.gnodes ((Ml.sortedM texts)))) ((Ml.sortedM texts)) x1 ((Ml.lowM k 5)) true ((Itm.mk 0 [])) 60).1)).drop 1))  ((h4.sl).iv (Nat.zero_le _) (by omega)) ((hl12).iv (Nat.zero_le _) (by omega))) ?_)
        rintro _ w9 ⟨⟨b15, hb13, rfl⟩, hm9⟩
        have hl13 := f17.lt
        have hl14 := f19.lt
        have hl15 := f20.lt
        have hl16 := h4.lt
        have f21 := f16.ext hm9
        have f22 := f17.ext hm9
        have f23 := f18.ext hm9
        have f24 := f19.ext hm9
        have f25 := f20.ext hm9
        have f26 := h4.ext hm9
        have f27 := hl12.ext hm9
        have hE9 := hE8.ext hm9
        have hs9 := hm9.size
        obtain rfl : b15 = true := hb13.trans (by exact decide_eq_true (by rw [hoC, hoB]))
        refine OL.q (Q1.move rfl) rfl rfl ?_
        refine OL.act rfl rfl (AW.callF cl13 rfl (awake11_c (w0 := w9)   ) ?_)
        rintro _ w10 ⟨⟨_, rfl, rfl⟩, hm10⟩
        have hl17 := f22.lt
        have hl18 := f24.lt
        have hl19 := f25.lt
        have hl20 := f26.lt
        have f28 := f21.ext hm10
        have f29 := f22.ext hm10
        have f30 := f23.ext hm10
        have f31 := f24.ext hm10
        have f32 := f25.ext hm10
        have f33 := f26.ext hm10
        have f34 := f27.ext hm10
        have hE10 := hE9.ext hm10
        have hs10 := hm10.size
        refine OL.q (Q1.pick_t rfl rfl) rfl rfl ?_
        refine OL.q (Q1.assign rfl) rfl rfl ?_
        refine OL.nil ?_
        refine r_ret1 Try.func10 rfl rfl ?_
        exact Ret.mk ⟨⟨_, (by rfl), rfl⟩, hE10⟩
end Go.Proofs
