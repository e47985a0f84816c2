/-
  The walk through the law WalkRenamed.
-/
import Derived.Test.YtjhbobjjkbppkaaWAwake
import Derived.Test.YtjhbobjjkbppkaaWUp
import Derived.Test.YtjhbobjjkbppkaaWSorted
set_option linter.unusedVariables false
set_option linter.unusedSimpArgs false
namespace Go.Proofs
open Go.Ik Go.Ml
set_option maxRecDepth 20000 in
set_option maxHeartbeats 4000000 in
theorem WalkRenamed_c {w0 : World}  {v_texts : Value} {texts : List Str} (s : Str) (k : Int) (h_texts : Sl encS w0 (Iv 0 w0.heap.size) v_texts texts) (h_k : I64 k) (hok : Ml.LOk texts) :
    Calls Try.prog 11 #[v_texts, strV s, .int .i64 k] w0 (Ret fun rv w1 => (∃ rb : Bool, rb = true ∧ rv = .bool rb) ∧ Ext w0 w1) := by
  have hE0 : Ext w0 w0 := Mod.refl _ _
  have hle1 := h_texts.le
  refine calls_enter Try.func11 rfl Try.ntmps11 rfl ?_
  refine r_seq ?_
  refine r_region ?_
  refine OL.q (Q1.assign rfl) rfl rfl ?_
  refine OL.nil ?_
  refine r_seq ?_
  refine r_seq ?_
  refine r_region ?_
  refine OL.q (Q1.move rfl) rfl rfl ?_
  refine OL.act rfl rfl (AW.callF cl27 rfl (greatT_c (w0 := w0) (l := texts)  ((h_texts).iv (Nat.zero_le _) (by omega))) ?_)
  rintro _ w1 ⟨⟨b1, hb1, rfl⟩, hm1⟩
  have f1 := h_texts.ext hm1
  have hE1 := hE0.ext hm1
  have hs1 := hm1.size
  refine OL.q (Q1.move rfl) rfl rfl ?_
  cases b1 with
  | true =>
    replace hb1 := hb1.symm
    refine OL.sk rfl rfl ?_
    refine OL.sk rfl rfl ?_
    refine OL.sk rfl rfl ?_
    refine OL.q (Q1.pick_t rfl rfl) rfl rfl ?_
    refine OL.nil ?_
    refine r_cond_t rfl ?_
    refine r_seq ?_
    refine r_region ?_
    refine OL.act rfl rfl (AW.callF cl13 rfl (awake11_c (w0 := w1)   ) ?_)
    rintro _ w2 ⟨⟨_, rfl, rfl⟩, hm2⟩
    have f2 := f1.ext hm2
    have hE2 := hE1.ext hm2
    have hs2 := hm2.size
    refine OL.q (Q1.assign rfl) rfl rfl ?_
    refine OL.nil ?_
    refine r_ret1 Try.func11 rfl rfl ?_
    exact Ret.mk ⟨⟨_, (by rfl), rfl⟩, hE2⟩
  | false =>
    replace hb1 := hb1.symm
    refine OL.q (Q1.move rfl) rfl rfl ?_
    refine OL.q (Q1.lenS Try.underlying9 rfl) rfl rfl ?_
    refine OL.qb (Q1.gt rfl rfl) rfl rfl ?_
    intro b2 hb2
    refine OL.q (Q1.pick_f rfl rfl) rfl rfl ?_
    refine OL.nil ?_
    cases b2 with
    | true =>
      replace hb2 := of_decide_eq_true hb2.symm
      refine r_cond_t rfl ?_
      refine r_seq ?_
      refine r_region ?_
      refine OL.act rfl rfl (AW.callF cl13 rfl (awake11_c (w0 := w1)   ) ?_)
      rintro _ w2 ⟨⟨_, rfl, rfl⟩, hm2⟩
      have f2 := f1.ext hm2
      have hE2 := hE1.ext hm2
      have hs2 := hm2.size
      refine OL.q (Q1.assign rfl) rfl rfl ?_
      refine OL.nil ?_
      refine r_ret1 Try.func11 rfl rfl ?_
      exact Ret.mk ⟨⟨_, (by rfl), rfl⟩, hE2⟩
    | false =>
      replace hb2 := of_decide_eq_false hb2.symm
      refine r_cond_f rfl ?_
      refine r_skip ?_
      refine r_seq ?_
      refine r_region ?_
      refine OL.q (Q1.move rfl) rfl rfl ?_
      have hl8 := Ml.greatT_len (l := texts) (by assumption)
      refine OL.act rfl rfl (AW.callF cl31 rfl (lsorted_c (w0 := w1) (words := texts)  ((f1).iv (Nat.zero_le _) (by omega)) (by first | assumption | (intro s hs; revert s; decide +kernel)) (by first | assumption | omega | (simp; done))) ?_)
      rintro v1 w2 ⟨⟨gr1, h1, hg1⟩, hm2⟩
      have f2 := f1.ext hm2
      have hE2 := hE1.ext hm2
      have hs2 := hm2.size
      have hle_1 := h1.le
      have hlt_1 := h1.lt
      have := Ml.sortedM_len texts
      refine OL.q (Q1.assign rfl) rfl rfl ?_
      refine OL.nil ?_
      refine r_seq ?_
      refine r_seq ?_
      refine r_region ?_
      refine OL.q (Q1.move rfl) rfl rfl ?_
      refine OL.q (Q1.lenSl Try.underlying22 (h1.sl) rfl) rfl rfl ?_
      refine OL.qb (Q1.gt rfl rfl) rfl rfl ?_
      intro b3 hb3
      refine OL.nil ?_
      cases b3 with
      | true =>
        replace hb3 := of_decide_eq_true hb3.symm
        refine r_cond_t rfl ?_
        refine r_seq ?_
        refine r_region ?_
        refine OL.act rfl rfl (AW.callF cl13 rfl (awake11_c (w0 := w2)   ) ?_)
        rintro _ w3 ⟨⟨_, rfl, rfl⟩, hm3⟩
        have hl1 := h1.lt
        have f3 := f2.ext hm3
        have f4 := h1.ext hm3
        have hE3 := hE2.ext hm3
        have hs3 := hm3.size
        refine OL.q (Q1.assign rfl) rfl rfl ?_
        refine OL.nil ?_
        refine r_ret1 Try.func11 rfl rfl ?_
        exact Ret.mk ⟨⟨_, (by rfl), rfl⟩, hE3⟩
      | false =>
        replace hb3 := of_decide_eq_false hb3.symm
        refine r_cond_f rfl ?_
        refine r_skip ?_
        refine r_seq ?_
        refine r_region ?_
        refine OL.q (Q1.move rfl) rfl rfl ?_
        have hg0 : Ml.goodL (Ml.sortedM texts) = 0 := Ml.sorted_good (by omega)
        have hws := good_len48 hg0
        have hws48 : ∀ w ∈ (Ml.sortedM texts), w.length ≤ 48 := fun w hw => Ml.word_short ((Ml.good_words hg0).2.1 w hw)
        refine OL.q (Q1.assign rfl) rfl rfl ?_
        refine OL.nil ?_
        refine r_seq ?_
        refine r_region ?_
        refine OL.q (Q1.assign rfl) rfl rfl ?_
        refine OL.nil ?_
        refine r_seq ?_
        refine r_seq ?_
        refine r_region ?_
        refine OL.q (Q1.assign rfl) rfl rfl ?_
        refine OL.nil ?_
        refine r_block ?_
        refine r_loop (I := fun m E W => ∃ (all : Str) (v_other : Value) (g_other : Nat) (other : List Str) (i : Nat), E = [(1, strV s), (2, .int .i64 k), (7, v1), (8, strV all), (9, v_other), (10, .int .i64 (((i : Nat) : Int)))] ∧ m = (Ml.sortedM texts).length - i ∧ Ext w0 W ∧ w2.heap.size ≤ W.heap.size ∧ Acc encS 9 1 W g_other v_other other ∧ (g_other = 0 ∨ w0.heap.size < g_other) ∧ Acc encS 9 1 W gr1 v1 ((Ml.sortedM texts)) ∧ (g_other ≠ gr1 ∨ gr1 = 0) ∧ (all = s ++ ((Ml.sortedM texts).take i).flatten) ∧ (other = ((Ml.sortedM texts).take i).map Ml.upM) ∧ (all.length ≤ 16 + 48 * i) ∧ (other.length = i) ∧ (i ≤ (Ml.sortedM texts).length)) ?_ ?_
        · refine ⟨_, _, ⟨(s : Str), (.slice none 0 0 : Value), (0 : Nat), ([] : List Str), (0 : Nat), rfl, rfl, hE2, Nat.le_refl _, Acc.nil, (by omega), h1, (by omega), (by simp), (by rfl), (by omega), (by rfl), (by omega)⟩, ⟨rfl, rfl, rfl, rfl, rfl, rfl, trivial⟩⟩
        · rintro _ _ w3 ⟨all, v_other, g_other, other, i, rfl, rfl, hE3, hs3, ha1, hg2, f3, hn1, hall, hoth, hal, hol, hil⟩ ih1
          refine r_seq ?_
          refine r_seq ?_
          refine r_region ?_
          refine OL.q (Q1.move rfl) rfl rfl ?_
          refine OL.q (Q1.move rfl) rfl rfl ?_
          refine OL.q (Q1.lenSl Try.underlying22 (f3.sl) rfl) rfl rfl ?_
          refine OL.qb (Q1.lt rfl rfl) rfl rfl ?_
          intro b4 hb4
          refine OL.nil ?_
          cases b4 with
          | true =>
            replace hb4 := of_decide_eq_true hb4.symm
            refine r_cond_t rfl ?_
            refine r_skip ?_
            refine r_seq ?_
            refine r_block ?_
            refine r_seq ?_
            refine r_region ?_
            refine OL.q (Q1.move rfl) rfl rfl ?_
            refine OL.q (Q1.move rfl) rfl rfl ?_
            refine OL.q (Q1.move rfl) rfl rfl ?_
            obtain ⟨x1, b5, o1, hx1, hr1, hl1, hu1, hw1⟩ := Sl.at' (P := Try.prog) f3.sl Try.underlying22 ti9 encS_len (k := .i64) (n := ((i : Nat) : Int)) (i) (by omega) (by first | assumption | omega)
            refine OL.q (Q1.indexAddr rfl rfl hr1) rfl rfl ?_
            refine OL.q (Q1.load1 ti9 rfl (fun _ e => e ▸ hw1)) rfl rfl ?_
            have hx1m := List.mem_of_getElem? hx1
            have hx1w := hws48 _ hx1m
            refine OL.q (Q1.catS rfl rfl (by first | omega | (simp only [List.length_append]; omega) | (simp only [List.length_append, List.length_cons, List.length_nil]; omega))) rfl rfl ?_
            refine OL.q (Q1.assign rfl) rfl rfl ?_
            refine OL.nil ?_
            refine r_region ?_
            refine OL.q (Q1.move rfl) rfl rfl ?_
            refine OL.q (Q1.move rfl) rfl rfl ?_
            refine OL.q (Q1.move rfl) rfl rfl ?_
            obtain ⟨x2, b6, o2, hx2, hr2, hl2, hu2, hw2⟩ := Sl.at' (P := Try.prog) f3.sl Try.underlying22 ti9 encS_len (k := .i64) (n := ((i : Nat) : Int)) (i) (by omega) (by first | assumption | omega)
            obtain rfl : x1 = x2 := Option.some.inj (hx1.symm.trans hx2)
            refine OL.q (Q1.indexAddr rfl rfl hr2) rfl rfl ?_
            refine OL.q (Q1.load1 ti9 rfl (fun _ e => e ▸ hw2)) rfl rfl ?_
            have hx2m := List.mem_of_getElem? hx2
            have hx2w := hws48 _ hx2m
            refine OL.act rfl rfl (AW.callF cl32 rfl (up_c (w0 := w3)  x1 (by first | assumption | omega)) ?_)
            rintro _ w4 ⟨rfl, hm3⟩
            have hl3 := ha1.lt
            have hl4 := f3.lt
            have f4 := ha1.ext hm3
            have f5 := f3.ext hm3
            have hE4 := hE3.ext hm3
            have hs4 := hm3.size
            have := Ml.upM_len x1
            refine OL.act rfl rfl (AW.buildSlice [strV ((upM x1))] Try.underlying22 ti9 rfl rfl rfl (by decide) ?_)
            intro w5 b7 hm4 hb5 hz1 hk1
            have hl5 := f4.lt
            have hl6 := f5.lt
            have f6 := f4.ext hm4
            have f7 := f5.ext hm4
            have hE5 := hE4.ext hm4
            have hs5 := hm4.size
            have hl7 := Sl.of_blk (enc := encS) hk1 ([(upM x1)] : List Str) 1 rfl rfl (by unfold maxLen; omega)
            have hl8 := f6.lt
            refine OL.act rfl rfl (AW.append f6 Try.underlying22 ti9 rfl encS_len encS_one rfl rfl (hl7) (by first | omega | (simp only [List.length_append, List.length_cons, List.length_nil]; omega) | (simp; omega)) (by unfold maxLen; first | omega | (simp only [List.length_append, List.length_cons, List.length_nil]; omega) | (simp; omega)) ?_)
            intro v2 g1 w6 ha2 hm5 hg3 hz2
            have hl9 := f6.lt
            have hl10 := f7.lt
            have f8 := f7.keepG hm5 (by omega)
            have f9 := hl7.keepG hm5 (by omega)
            have hE6 := Ext.thenG hE5 hm5 (by omega)
            have hs6 := hm5.size
            refine OL.q (Q1.assign rfl) rfl rfl ?_
            refine OL.nil ?_
            refine r_inBlock ?_
            refine r_region ?_
            refine OL.q (Q1.move rfl) rfl rfl ?_
            refine OL.q (Q1.addI (((i + 1 : Nat) : Int)) rfl rfl (by omega)) rfl rfl ?_
            refine OL.q (Q1.assign rfl) rfl rfl ?_
            refine OL.nil ?_
            exact (ih1 _ _ _ ⟨((all ++ x1) : Str), (v2 : Value), (g1 : Nat), ((other ++ [(upM x1)]) : List Str), (i + 1 : Nat), rfl, rfl, hE6, (by omega), ha2, (by omega), f8, (by omega), (by first | exact all_next hall hx1 | (exfalso; omega)), (by first | exact up_next hoth hx2 | (exfalso; omega)), (by first | (simp only [List.length_append]; omega) | (exfalso; omega)), (by first | (simp only [List.length_append, List.length_cons, List.length_nil]; omega) | (exfalso; omega)), (by first | omega | (exfalso; omega))⟩ (by omega)).sub ⟨rfl, rfl, rfl, rfl, rfl, rfl, trivial⟩
          | false =>
            replace hb4 := of_decide_eq_false hb4.symm
            refine r_cond_f rfl ?_
            refine r_exit rfl ?_
            refine r_seq ?_
            refine r_seq ?_
            refine r_region ?_
            refine OL.q (Q1.assign rfl) rfl rfl ?_
            refine OL.nil ?_
            refine r_block ?_
            refine r_loop (I := fun m E W => ∃ (j : Nat), E = [(1, strV s), (2, .int .i64 k), (7, v1), (8, strV all), (9, v_other), (11, .int .i64 (((j : Nat) : Int)))] ∧ m = all.length - j ∧ Ext w0 W ∧ w3.heap.size ≤ W.heap.size ∧ Acc encS 9 1 W gr1 v1 ((Ml.sortedM texts)) ∧ Acc encS 9 1 W g_other v_other other ∧ (∀ b ∈ all.take j, b.toNat ≤ 127) ∧ (j ≤ all.length)) ?_ ?_
            · refine ⟨_, _, ⟨(0 : Nat), rfl, rfl, hE3, Nat.le_refl _, f3, ha1, (by (intro b hb; simp at hb)), (by omega)⟩, ⟨rfl, rfl, rfl, rfl, rfl, rfl, trivial⟩⟩
            · rintro _ _ w4 ⟨j, rfl, rfl, hE4, hs4, f4, f5, hlow, hjl⟩ ih2
              refine r_seq ?_
              refine r_seq ?_
              refine r_region ?_
              refine OL.q (Q1.move rfl) rfl rfl ?_
              refine OL.q (Q1.move rfl) rfl rfl ?_
              refine OL.q (Q1.lenS Try.underlying9 rfl) rfl rfl ?_
              refine OL.qb (Q1.lt rfl rfl) rfl rfl ?_
              intro b5 hb5
              refine OL.nil ?_
              cases b5 with
              | true =>
                replace hb5 := of_decide_eq_true hb5.symm
                refine r_cond_t rfl ?_
                refine r_skip ?_
                refine r_seq ?_
                refine r_block ?_
                refine r_seq ?_
                refine r_region ?_
                refine OL.q (Q1.move rfl) rfl rfl ?_
                refine OL.q (Q1.move rfl) rfl rfl ?_
                have hy1 := byteAt_lt all (j)
                refine OL.q (Q1.indexB (j) Try.underlying9 rfl rfl (by omega) (by first | assumption | omega)) rfl rfl ?_
                refine OL.qb (Q1.gt rfl rfl) rfl rfl ?_
                intro b6 hb6
                refine OL.nil ?_
                cases b6 with
                | true =>
                  replace hb6 := of_decide_eq_true hb6.symm
                  refine r_cond_t rfl ?_
                  refine r_seq ?_
                  refine r_region ?_
                  refine OL.act rfl rfl (AW.callF cl13 rfl (awake11_c (w0 := w4)   ) ?_)
                  rintro _ w5 ⟨⟨_, rfl, rfl⟩, hm3⟩
                  have hl1 := f4.lt
                  have hl2 := f5.lt
                  have f6 := f4.ext hm3
                  have f7 := f5.ext hm3
                  have hE5 := hE4.ext hm3
                  have hs5 := hm3.size
                  refine OL.q (Q1.assign rfl) rfl rfl ?_
                  refine OL.nil ?_
                  refine r_ret1 Try.func11 rfl rfl ?_
                  exact Ret.mk ⟨⟨_, (by rfl), rfl⟩, hE5⟩
                | false =>
                  replace hb6 := of_decide_eq_false hb6.symm
                  refine r_cond_f rfl ?_
                  refine r_skip ?_
                  refine r_inBlock ?_
                  refine r_region ?_
                  refine OL.q (Q1.move rfl) rfl rfl ?_
                  refine OL.q (Q1.addI (((j + 1 : Nat) : Int)) rfl rfl (by omega)) rfl rfl ?_
                  refine OL.q (Q1.assign rfl) rfl rfl ?_
                  refine OL.nil ?_
                  exact (ih2 _ _ _ ⟨(j + 1 : Nat), rfl, rfl, hE4, (by omega), f4, f5, (by first | exact low_nextB hlow (by omega) (by omega) | (exfalso; omega)), (by first | omega | (exfalso; omega))⟩ (by omega)).sub ⟨rfl, rfl, rfl, rfl, rfl, rfl, trivial⟩
              | false =>
                replace hb5 := of_decide_eq_false hb5.symm
                refine r_cond_f rfl ?_
                refine r_exit rfl ?_
                refine r_seq ?_
                refine r_region ?_
                refine OL.q (Q1.move rfl) rfl rfl ?_
                have hallE : all = s ++ (Ml.sortedM texts).flatten := by rw [hall, List.take_of_length_le (by omega)]
                obtain ⟨hls, hlL⟩ := low_split (n := j) (l := (Ml.sortedM texts)) (by rw [← hallE]; exact hlow) (by rw [← hallE]; omega)
                refine OL.act rfl rfl (AW.callF cl20 rfl (low_c (w0 := w4)  (k) (5) (by first | omega | assumption) (by first | omega | assumption) (by omega)) ?_)
                rintro _ w5 ⟨rfl, hm3, hp1⟩
                have hl1 := f4.lt
                have hl2 := f5.lt
                have f6 := f4.ext hm3
                have f7 := f5.ext hm3
                have hE5 := hE4.ext hm3
                have hs5 := hm3.size
                refine OL.q (Q1.assign rfl) rfl rfl ?_
                refine OL.nil ?_
                refine r_seq ?_
                refine r_region ?_
                refine OL.q (Q1.move rfl) rfl rfl ?_
                have hkr := Ml.low_range k 5 (by omega)
                obtain ⟨Iq, hren⟩ := ren_law (k := Ml.lowM k 5) hg0 hlL hls (by omega) (by omega)
                have hoth2 : other = ((Ml.sortedM texts).map Ml.upM) := by rw [hoth, List.take_of_length_le (by omega)]
                have hg2 : Ml.goodL other = 0 := by rw [hoth2]; exact hren.good
                have hnd : (Ml.gnodes other).length = (Ml.gnodes (Ml.sortedM texts)).length := by rw [hoth2]; exact hren.nodes
                have hIl := hren.le
                have hIw := hren.low
                have hoA := hren.one
                have hoB := hren.two
                rw [← hoth2] at hoB
                have hws2 := good_len48 hg2
                have hgok : GOk (Ml.gnodes (Ml.sortedM texts)) (Ml.graphB (Ml.sortedM texts)) (Ml.sortedM texts) := Ml.gok_of hg0
                obtain ⟨hI, hgl, hel⟩ := hgok.edges
                have hgok2 : GOk (Ml.gnodes other) (Ml.graphB other) other := Ml.gok_of hg2
                obtain ⟨hI2, hgl2, hel2⟩ := hgok2.edges
                refine OL.act rfl rfl (AW.callF cl14 rfl (build_c (w0 := w5) (words := (Ml.sortedM texts))  ((f6.sl).iv (Nat.zero_le _) (by omega)) (by first | exact fun s hs => by have := hws s hs; omega | exact fun s hs => by have := hws2 s hs; omega) (by omega)) ?_)
                rintro _ w6 ⟨vg1, _, rfl, ⟨lo1, hi1, hgr_1, hlo1, hhi1⟩, rfl, hm4⟩
                have hl3 := f6.lt
                have hl4 := f7.lt
                have f8 := f6.ext hm4
                have f9 := f7.ext hm4
                have hE6 := hE5.ext hm4
                have hs6 := hm4.size
                have := Ml.goodL_range ((Ml.sortedM texts))
                refine OL.q (Q1.move rfl) rfl rfl ?_
                refine OL.q (Q1.extract rfl rfl) rfl rfl ?_
                refine OL.q (Q1.extract rfl rfl) rfl rfl ?_
                refine OL.q (Q1.assign rfl) rfl rfl ?_
                refine OL.q (Q1.assign rfl) rfl rfl ?_
                refine OL.nil ?_
                refine r_seq ?_
                refine r_region ?_
                refine OL.q (Q1.move rfl) rfl rfl ?_
                refine OL.act rfl rfl (AW.callF cl14 rfl (build_c (w0 := w6) (words := other)  ((f9.sl).iv (Nat.zero_le _) (by omega)) (by first | exact fun s hs => by have := hws s hs; omega | exact fun s hs => by have := hws2 s hs; omega) (by omega)) ?_)
                rintro _ w7 ⟨vg2, _, rfl, ⟨lo2, hi2, hgr_2, hlo2, hhi2⟩, rfl, hm5⟩
                have hl5 := f8.lt
                have hl6 := f9.lt
                have f10 := f8.ext hm5
                have f11 := f9.ext hm5
                have f12 := hgr_1.ext hm5
                have hE7 := hE6.ext hm5
                have hs7 := hm5.size
                have := Ml.goodL_range other
                refine OL.q (Q1.move rfl) rfl rfl ?_
                refine OL.q (Q1.extract rfl rfl) rfl rfl ?_
                refine OL.q (Q1.extract rfl rfl) rfl rfl ?_
                refine OL.q (Q1.assign rfl) rfl rfl ?_
                refine OL.q (Q1.assign rfl) rfl rfl ?_
                refine OL.nil ?_
                refine r_seq ?_
                refine r_seq ?_
                refine r_region ?_
                refine OL.q (Q1.move rfl) rfl rfl ?_
                refine OL.qb (Q1.ne rfl rfl) rfl rfl ?_
                intro b6 hb6
                obtain rfl : b6 = false := hb6.trans (by exact bne_eq_false_iff_eq.2 hg0)
                refine OL.q (Q1.move rfl) rfl rfl ?_
                refine OL.q (Q1.move rfl) rfl rfl ?_
                refine OL.qb (Q1.ne rfl rfl) rfl rfl ?_
                intro b7 hb7
                obtain rfl : b7 = false := hb7.trans (by exact bne_eq_false_iff_eq.2 hg2)
                refine OL.q (Q1.pick_f rfl rfl) rfl rfl ?_
                refine OL.q (Q1.move rfl) rfl rfl ?_
                refine OL.q (Q1.move rfl) rfl rfl ?_
                refine OL.act rfl rfl (AW.callF cl33 rfl (nodes_c (w0 := w7)   f12 (by omega)) ?_)
                rintro _ w8 ⟨rfl, hm6⟩
                have hl7 := f10.lt
                have hl8 := f11.lt
                have f13 := f10.ext hm6
                have f14 := f11.ext hm6
                have f15 := f12.ext hm6
                have f16 := hgr_2.ext hm6
                have hE8 := hE7.ext hm6
                have hs8 := hm6.size
                refine OL.q (Q1.move rfl) rfl rfl ?_
                refine OL.act rfl rfl (AW.callF cl33 rfl (nodes_c (w0 := w8)   f16 (by omega)) ?_)
                rintro _ w9 ⟨rfl, hm7⟩
                have hl9 := f13.lt
                have hl10 := f14.lt
                have f17 := f13.ext hm7
                have f18 := f14.ext hm7
                have f19 := f15.ext hm7
                have f20 := f16.ext hm7
                have hE9 := hE8.ext hm7
                have hs9 := hm7.size
                refine OL.qb (Q1.ne rfl rfl) rfl rfl ?_
                intro b8 hb8
                obtain rfl : b8 = false := hb8.trans (by exact bne_eq_false_iff_eq.2 (by rw [hnd]))
                refine OL.q (Q1.pick_f rfl rfl) rfl rfl ?_
                refine OL.nil ?_
                refine r_cond_f rfl ?_
                refine r_skip ?_
                refine r_seq ?_
                refine r_region ?_
                refine OL.q (Q1.move rfl) rfl rfl ?_
                refine OL.q (Q1.move rfl) rfl rfl ?_
                refine OL.q (Q1.move rfl) rfl rfl ?_
                refine OL.q (Q1.build (vs := #[]) (v := .agg #[.int .i64 0, strV []]) rfl (fun _ => by kernel_rfl)) rfl rfl ?_
                refine OL.act rfl rfl (AW.callF cl15 rfl (wnext_c (w0 := w9) (after := (Itm.mk 0 [])) s ((Ml.lowM k 5)) true (60) f19 (by omega) (by first | omega | assumption) (by first | omega | assumption) (by first | exact hgok | exact hgok2) (by omega) (by omega) (by first | decide | (show I64 (0 : Int); decide)) (by (simp; done))) ?_)
                rintro _ w10 ⟨v2, _, rfl, ⟨gr2, h2, hg3⟩, ⟨b9, hb9, rfl⟩, hm8⟩
                have hl11 := f17.lt
                have hl12 := f18.lt
                have f21 := f17.ext hm8
                have f22 := f18.ext hm8
                have f23 := f19.ext hm8
                have f24 := f20.ext hm8
                have hE10 := hE9.ext hm8
                have hs10 := hm8.size
                have hle_2 := h2.le
                have hlt_2 := h2.lt
                have := nextA_lenE ((Ml.gnodes ((Ml.sortedM texts)))) ((Ml.sortedM texts)) s ((Ml.lowM k 5)) true ((Itm.mk 0 [])) 60
                refine OL.q (Q1.move rfl) rfl rfl ?_
                refine OL.q (Q1.extract rfl rfl) rfl rfl ?_
                refine OL.q (Q1.extract rfl rfl) rfl rfl ?_
                refine OL.q (Q1.assign rfl) rfl rfl ?_
                refine OL.q (Q1.assign rfl) rfl rfl ?_
                refine OL.nil ?_
                refine r_seq ?_
                refine r_region ?_
                refine OL.q (Q1.move rfl) rfl rfl ?_
                refine OL.q (Q1.move rfl) rfl rfl ?_
                refine OL.act rfl rfl (AW.callF cl32 rfl (up_c (w0 := w10)  s (by first | assumption | omega)) ?_)
                rintro _ w11 ⟨rfl, hm9⟩
                have hl13 := f21.lt
                have hl14 := f22.lt
                have hl15 := h2.lt
                have f25 := f21.ext hm9
                have f26 := f22.ext hm9
                have f27 := f23.ext hm9
                have f28 := f24.ext hm9
                have f29 := h2.ext hm9
                have hE11 := hE10.ext hm9
                have hs11 := hm9.size
                have := Ml.upM_len s
                refine OL.q (Q1.move rfl) rfl rfl ?_
                refine OL.q (Q1.build (vs := #[]) (v := .agg #[.int .i64 0, strV []]) rfl (fun _ => by kernel_rfl)) rfl rfl ?_
                refine OL.act rfl rfl (AW.callF cl15 rfl (wnext_c (w0 := w11) (after := (Itm.mk 0 [])) ((upM s)) ((Ml.lowM k 5)) true (60) f28 (by omega) (by first | omega | assumption) (by first | omega | assumption) (by first | exact hgok | exact hgok2) (by omega) (by omega) (by first | decide | (show I64 (0 : Int); decide)) (by (simp; done))) ?_)
                rintro _ w12 ⟨v3, _, rfl, ⟨gr3, h3, hg4⟩, ⟨b10, hb10, rfl⟩, hm10⟩
                have hl16 := f25.lt
                have hl17 := f26.lt
                have hl18 := f29.lt
                have f30 := f25.ext hm10
                have f31 := f26.ext hm10
                have f32 := f27.ext hm10
                have f33 := f28.ext hm10
                have f34 := f29.ext hm10
                have hE12 := hE11.ext hm10
                have hs12 := hm10.size
                have hle_3 := h3.le
                have hlt_3 := h3.lt
                have := nextA_lenE ((Ml.gnodes other)) other ((upM s)) ((Ml.lowM k 5)) true ((Itm.mk 0 [])) 60
                refine OL.q (Q1.move rfl) rfl rfl ?_
                refine OL.q (Q1.extract rfl rfl) rfl rfl ?_
                refine OL.q (Q1.extract rfl rfl) rfl rfl ?_
                refine OL.q (Q1.assign rfl) rfl rfl ?_
                refine OL.q (Q1.assign rfl) rfl rfl ?_
                refine OL.nil ?_
                refine r_seq ?_
                refine r_seq ?_
                refine r_region ?_
                refine OL.q (Q1.move rfl) rfl rfl ?_
                have hlA : (nextA (Ml.gnodes (Ml.sortedM texts)) (Ml.sortedM texts) s (Ml.lowM k 5) true (Itm.mk 0 []) 60).1.length = Iq.length := by rw [hoA]
                have hlB : (nextA (Ml.gnodes other) other (Ml.upM s) (Ml.lowM k 5) true (Itm.mk 0 []) 60).1.length = Iq.length := by rw [hoB]; exact List.length_map ..
                refine OL.q (Q1.lenSl Try.underlying31 (f34.sl) rfl) rfl rfl ?_
                refine OL.q (Q1.move rfl) rfl rfl ?_
                refine OL.q (Q1.lenSl Try.underlying31 (h3.sl) rfl) rfl rfl ?_
                refine OL.qb (Q1.ne rfl rfl) rfl rfl ?_
                intro b11 hb11
                obtain rfl : b11 = false := hb11.trans (by exact bne_eq_false_iff_eq.2 (by rw [hlA, hlB]))
                refine OL.q (Q1.move rfl) rfl rfl ?_
                refine OL.q (Q1.move rfl) rfl rfl ?_
                refine OL.q (Q1.move rfl) rfl rfl ?_
                refine OL.qb (Q1.neB Try.underlying4 rfl rfl) rfl rfl ?_
                intro b12 hb12
                obtain rfl : b12 = false := hb12.trans (by exact Ml.nbeqBB (by assumption) (by assumption) (by rw [hoA, hoB]))
                refine OL.q (Q1.pick_f rfl rfl) rfl rfl ?_
                refine OL.nil ?_
                refine r_cond_f rfl ?_
                refine r_skip ?_
                refine r_seq ?_
                refine r_seq ?_
                refine r_region ?_
                refine OL.q (Q1.assign rfl) rfl rfl ?_
                refine OL.nil ?_
                refine r_block ?_
                refine r_loop (I := fun m E W => ∃ (i : Nat), E = [(16, v2), (18, v3), (20, .int .i64 (((i : Nat) : Int)))] ∧ m = (nextA (Ml.gnodes (Ml.sortedM texts)) (Ml.sortedM texts) s (Ml.lowM k 5) true (Itm.mk 0 []) 60).1.length - i ∧ Ext w0 W ∧ w12.heap.size ≤ W.heap.size ∧ Acc encItm 24 2 W gr2 v2 (((nextA ((Ml.gnodes ((Ml.sortedM texts)))) ((Ml.sortedM texts)) s ((Ml.lowM k 5)) true ((Itm.mk 0 [])) 60).1)) ∧ Acc encItm 24 2 W gr3 v3 (((nextA ((Ml.gnodes other)) other ((upM s)) ((Ml.lowM k 5)) true ((Itm.mk 0 [])) 60).1))) ?_ ?_
                · refine ⟨_, _, ⟨(0 : Nat), rfl, rfl, hE12, Nat.le_refl _, f34, h3⟩, ⟨rfl, rfl, rfl, trivial⟩⟩
                · rintro _ _ w13 ⟨i, rfl, rfl, hE13, hs13, f35, f36⟩ ih3
                  refine r_seq ?_
                  refine r_seq ?_
                  refine r_region ?_
                  refine OL.q (Q1.move rfl) rfl rfl ?_
                  refine OL.q (Q1.move rfl) rfl rfl ?_
                  refine OL.q (Q1.lenSl Try.underlying31 (f35.sl) rfl) rfl rfl ?_
                  refine OL.qb (Q1.lt rfl rfl) rfl rfl ?_
                  intro b13 hb13
                  refine OL.nil ?_
                  cases b13 with
                  | true =>
                    replace hb13 := of_decide_eq_true hb13.symm
                    refine r_cond_t rfl ?_
                    refine r_skip ?_
                    refine r_seq ?_
                    refine r_block ?_
                    refine r_seq ?_
                    refine r_draw1 (fun i => Nat.beq i 14) 17 (fun w' => Mod (Mg 0) w13 w') mixed (by kernel_rfl) ?_
                    intro w14 hm11
                    have hl19 := f35.lt
                    have hl20 := f36.lt
                    have f37 := f35.ext hm11
                    have f38 := f36.ext hm11
                    have hE14 := hE13.ext hm11
                    have hs14 := hm11.size
                    have hCw14 : Mod (Mg 0) w13 w14 := Mod.ofExt hm11
                    refine ⟨hCw14, ?_⟩
                    rw [show List.range' 0 (Array.size _) = [0, 1, 2, 3, 4, 5, 6, 7, 8, 9, 10, 11, 12, 13, 14, 15, 16] from rfl]
                    refine OD.q rfl rfl (Q1.move rfl) rfl rfl ?_
                    refine OD.q rfl rfl (Q1.move rfl) rfl rfl ?_
                    obtain ⟨x1, b14, o1, hx1, hr1, hl21, hu1, hw1⟩ := Sl.at' (P := Try.prog) f36.sl Try.underlying31 ti24 encItm_len (k := .i64) (n := ((i : Nat) : Int)) (i) (by omega) (by first | assumption | omega)
                    refine OD.q rfl rfl (Q1.indexAddr rfl rfl hr1) rfl rfl ?_
                    refine OD.q rfl rfl (Q1.loadN ti24 rfl (fun _ hc => hw1.keepG hc (by omega)) rfl) rfl rfl ?_
                    refine OD.q rfl rfl (Q1.move rfl) rfl rfl ?_
                    refine OD.q rfl rfl (Q1.move rfl) rfl rfl ?_
                    obtain ⟨x2, b15, o2, hx2, hr2, hl22, hu2, hw2⟩ := Sl.at' (P := Try.prog) f35.sl Try.underlying31 ti24 encItm_len (k := .i64) (n := ((i : Nat) : Int)) (i) (by omega) (by first | assumption | omega)
                    refine OD.q rfl rfl (Q1.indexAddr rfl rfl hr2) rfl rfl ?_
                    refine OD.q rfl rfl (Q1.fieldAddr fl24_0 rfl) rfl rfl ?_
                    have hr3 := hw2.sub 0 1 (Nat.le_of_ble_eq_true rfl)
                    refine OD.q rfl rfl (Q1.load1 ti3 rfl (fun _ hc => hr3.keepG hc (by omega))) rfl rfl ?_
                    have hx1i := hx1
                    have hx2i := hx2
                    rw [hoB] at hx1i
                    rw [hoA] at hx2i
                    have hx2w := hIw _ (List.mem_of_getElem? hx2i)
                    have hx1u : x1 = Ml.upI x2 := up_at hx1i hx2i
                    refine OD.q rfl rfl (Q1.move rfl) rfl rfl ?_
                    refine OD.q rfl rfl (Q1.move rfl) rfl rfl ?_
                    obtain ⟨x3, b16, o3, hx3, hr4, hl23, hu3, hw3⟩ := Sl.at' (P := Try.prog) f35.sl Try.underlying31 ti24 encItm_len (k := .i64) (n := ((i : Nat) : Int)) (i) (by omega) (by first | assumption | omega)
                    obtain rfl : x2 = x3 := Option.some.inj (hx2.symm.trans hx3)
                    refine OD.q rfl rfl (Q1.indexAddr rfl rfl hr4) rfl rfl ?_
                    refine OD.q rfl rfl (Q1.fieldAddr fl24_1 rfl) rfl rfl ?_
                    have hr5 := hw3.sub 1 1 (Nat.le_of_ble_eq_true rfl)
                    refine OD.q rfl rfl (Q1.load1 ti9 rfl (fun _ hc => hr5.keepG hc (by omega))) rfl rfl ?_
                    refine OD.act rfl rfl rfl rfl (AW.callF cl32 rfl (up_c (w0 := w14)  x2.word (by first | assumption | omega)) ?_)
                    rintro _ w15 ⟨rfl, hm12⟩
                    have hl24 := f37.lt
                    have hl25 := f38.lt
                    have f39 := f37.ext hm12
                    have f40 := f38.ext hm12
                    have hE15 := hE14.ext hm12
                    have hs15 := hm12.size
                    have hCw15 := hCw14.ext hm12
                    refine ⟨.inr hCw15, ?_⟩
                    have := Ml.upM_len x2.word
                    refine OD.q rfl rfl (Q1.build (vs := #[(0, (.int .i64 x2.dist : Value)), (1, strV ((upM x2.word)))]) (v := .agg #[.int .i64 x2.dist, strV ((upM x2.word))]) rfl (fun _ => by kernel_rfl)) rfl rfl ?_
                    refine OD.qb rfl rfl (Q1.neStruct (by kernel_rfl) (eqS24 x1 ((Itm.mk x2.dist ((upM x2.word))))) rfl rfl) rfl rfl ?_
                    intro b17 hb14
                    obtain rfl : b17 = false := hb14.trans (by rw [hx1u]; simp [Ml.upI])
                    refine OD.nil ?_
                    refine r_cond_f rfl ?_
                    refine r_skip ?_
                    refine r_inBlock ?_
                    refine r_region ?_
                    refine OL.q (Q1.move rfl) rfl rfl ?_
                    refine OL.q (Q1.addI (((i + 1 : Nat) : Int)) rfl rfl (by omega)) rfl rfl ?_
                    refine OL.q (Q1.assign rfl) rfl rfl ?_
                    refine OL.nil ?_
                    exact (ih3 _ _ _ ⟨(i + 1 : Nat), rfl, rfl, hE15, (by omega), f39, f40⟩ (by omega)).sub ⟨rfl, rfl, rfl, trivial⟩
                  | false =>
                    replace hb13 := of_decide_eq_false hb13.symm
                    refine r_cond_f rfl ?_
                    refine r_exit rfl ?_
                    refine r_seq ?_
                    refine r_region ?_
                    refine OL.act rfl rfl (AW.callF cl13 rfl (awake11_c (w0 := w13)   ) ?_)
                    rintro _ w14 ⟨⟨_, rfl, rfl⟩, hm11⟩
                    have hl19 := f35.lt
                    have hl20 := f36.lt
                    have f37 := f35.ext hm11
                    have f38 := f36.ext hm11
                    have hE14 := hE13.ext hm11
                    have hs14 := hm11.size
                    refine OL.q (Q1.assign rfl) rfl rfl ?_
                    refine OL.nil ?_
                    refine r_ret1 Try.func11 rfl rfl ?_
                    exact Ret.mk ⟨⟨_, (by rfl), rfl⟩, hE14⟩
end Go.Proofs
