/-
  What the law PackReads needs, part 7 of 8: theory, and walks through the code.
-/
import Derived.Test.YtajedfbogchkcaaSPackReadsF
set_option linter.unusedVariables false
set_option linter.unusedSimpArgs false
namespace Go.Proofs
open Go.Ik Go.Ml
set_option maxRecDepth 20000 in
set_option maxHeartbeats 4000000 in
theorem r4good_c {w0 : World}  {v_l : Value} {l : List Str} (h_l : Sl encS w0 (Iv 0 w0.heap.size) v_l l) (hsk_l : Ml.SOk l) :
    Calls Try.prog 85 #[v_l] w0 (Ret fun rv w1 => rv = .int .i64 (Ml.goodL l) ∧ Ext w0 w1) := by
  have hE0 : Ext w0 w0 := Mod.refl _ _
  have hle1 := h_l.le
  refine calls_enter Try.func85 rfl Try.ntmps85 rfl ?_
  refine r_seq ?_
  refine r_region ?_
  refine OL.q (Q1.assign rfl) rfl rfl ?_
  refine OL.nil ?_
  refine r_seq ?_
  refine r_seq ?_
  refine r_region ?_
  refine OL.q (Q1.move rfl) rfl rfl ?_
  refine OL.q (Q1.lenSl Try.underlying22 (h_l) rfl) rfl rfl ?_
  refine OL.qb (Q1.gt rfl rfl) rfl rfl ?_
  intro b1 hb1
  refine OL.nil ?_
  cases b1 with
  | true =>
    replace hb1 := of_decide_eq_true hb1.symm
    refine r_cond_t rfl ?_
    refine r_seq ?_
    refine r_region ?_
    refine OL.q (Q1.assign rfl) rfl rfl ?_
    refine OL.nil ?_
    refine r_ret1 Try.func85 rfl rfl ?_
    exact Ret.mk ⟨(congrArg (Value.int .i64) (by first | exact Ml.goodL_full (by omega) | exact Ml.goodL_word (by omega) hx1 (by assumption) | exact Ml.goodL_sort' (by omega) ha hj hx1 hx2 (by omega) | exact Ml.goodL_ok (by omega) ha hr (by omega) | (exfalso; omega))), hE0⟩
  | false =>
    replace hb1 := of_decide_eq_false hb1.symm
    refine r_cond_f rfl ?_
    refine r_skip ?_
    refine r_seq ?_
    refine r_seq ?_
    refine r_region ?_
    refine OL.q (Q1.assign rfl) rfl rfl ?_
    refine OL.nil ?_
    refine r_block ?_
    refine r_loop (I := fun m E W => ∃ (k : Nat), E = [(0, v_l), (3, .int .i64 (((k : Nat) : Int)))] ∧ m = l.length - k ∧ Ext w0 W ∧ w0.heap.size ≤ W.heap.size ∧ Sl encS W (Iv 0 w0.heap.size) v_l l ∧ ((l.take k).all Ml.word = true)) ?_ ?_
    · refine ⟨_, _, ⟨(0 : Nat), rfl, rfl, hE0, Nat.le_refl _, h_l, (by rfl)⟩, ⟨rfl, rfl, trivial⟩⟩
    · rintro _ _ w1 ⟨k, rfl, rfl, hE1, hs1, f1, hi⟩ ih1
      refine r_seq ?_
      refine r_seq ?_
      refine r_region ?_
      refine OL.q (Q1.move rfl) rfl rfl ?_
      refine OL.q (Q1.move rfl) rfl rfl ?_
      refine OL.q (Q1.lenSl Try.underlying22 (f1) rfl) rfl rfl ?_
      refine OL.qb (Q1.lt rfl rfl) rfl rfl ?_
      intro b2 hb2
      refine OL.nil ?_
      cases b2 with
      | true =>
        replace hb2 := of_decide_eq_true hb2.symm
        refine r_cond_t rfl ?_
        refine r_skip ?_
        refine r_seq ?_
        refine r_block ?_
        refine r_seq ?_
        refine r_region ?_
        refine OL.q (Q1.move rfl) rfl rfl ?_
        refine OL.q (Q1.move rfl) rfl rfl ?_
        obtain ⟨x1, b3, o1, hx1, hr1, hl1, hu1, hw1⟩ := Sl.at' (P := Try.prog) f1 Try.underlying22 ti9 encS_len (k := .i64) (n := ((k : Nat) : Int)) (k) (by omega) (by first | assumption | omega)
        refine OL.q (Q1.indexAddr rfl rfl hr1) rfl rfl ?_
        refine OL.q (Q1.load1 ti9 rfl (fun _ e => e ▸ hw1)) rfl rfl ?_
        refine OL.act rfl rfl (AW.callF cl112 rfl (rword_c (w0 := w1)  x1 (by exact hsk_l.at (by assumption))) ?_)
        rintro _ w2 ⟨⟨b4, hb3, rfl⟩, hm1⟩
        have f2 := f1.ext hm1
        have hE2 := hE1.ext hm1
        have hs2 := hm1.size
        cases b4 with
        | true =>
          replace hb3 := hb3.symm
          refine OL.q (Q1.not rfl) rfl rfl ?_
          refine OL.nil ?_
          refine r_cond_f rfl ?_
          refine r_skip ?_
          refine r_inBlock ?_
          refine r_region ?_
          refine OL.q (Q1.move rfl) rfl rfl ?_
          refine OL.q (Q1.addI (((k + 1 : Nat) : Int)) rfl rfl (by omega)) rfl rfl ?_
          refine OL.q (Q1.assign rfl) rfl rfl ?_
          refine OL.nil ?_
          exact (ih1 _ _ _ ⟨(k + 1 : Nat), rfl, rfl, hE2, (by omega), f2, (by first | exact Ml.all_take_succ hi (by assumption) (by assumption) | (exfalso; omega))⟩ (by omega)).sub ⟨rfl, rfl, trivial⟩
        | false =>
          replace hb3 := hb3.symm
          refine OL.q (Q1.not rfl) rfl rfl ?_
          refine OL.nil ?_
          refine r_cond_t rfl ?_
          refine r_seq ?_
          refine r_region ?_
          refine OL.q (Q1.assign rfl) rfl rfl ?_
          refine OL.nil ?_
          refine r_ret1 Try.func85 rfl rfl ?_
          exact Ret.mk ⟨(congrArg (Value.int .i64) (by first | exact Ml.goodL_full (by omega) | exact Ml.goodL_word (by omega) hx1 (by assumption) | exact Ml.goodL_sort' (by omega) ha hj hx1 hx2 (by omega) | exact Ml.goodL_ok (by omega) ha hr (by omega) | (exfalso; omega))), hE2⟩
      | false =>
        replace hb2 := of_decide_eq_false hb2.symm
        refine r_cond_f rfl ?_
        refine r_exit rfl ?_
        refine r_seq ?_
        refine r_seq ?_
        refine r_region ?_
        refine OL.q (Q1.assign rfl) rfl rfl ?_
        refine OL.nil ?_
        refine r_block ?_
        refine r_loop (I := fun m E W => ∃ (j : Nat), E = [(0, v_l), (4, .int .i64 (((j : Nat) : Int)))] ∧ m = l.length - j ∧ Ext w0 W ∧ w1.heap.size ≤ W.heap.size ∧ Sl encS W (Iv 0 w0.heap.size) v_l l ∧ (1 ≤ j) ∧ (Ml.rising (l.take j) = true)) ?_ ?_
        · refine ⟨_, _, ⟨(1 : Nat), rfl, rfl, hE1, Nat.le_refl _, f1, (by omega), (by exact Ml.rising_one _)⟩, ⟨rfl, rfl, trivial⟩⟩
        · rintro _ _ w2 ⟨j, rfl, rfl, hE2, hs2, f2, hj, hr⟩ ih2
          have ha := Ml.all_of_take hi (by omega)
          refine r_seq ?_
          refine r_seq ?_
          refine r_region ?_
          refine OL.q (Q1.move rfl) rfl rfl ?_
          refine OL.q (Q1.move rfl) rfl rfl ?_
          refine OL.q (Q1.lenSl Try.underlying22 (f2) rfl) rfl rfl ?_
          refine OL.qb (Q1.lt rfl rfl) rfl rfl ?_
          intro b3 hb3
          refine OL.nil ?_
          cases b3 with
          | true =>
            replace hb3 := of_decide_eq_true hb3.symm
            refine r_cond_t rfl ?_
            refine r_skip ?_
            refine r_seq ?_
            refine r_block ?_
            refine r_seq ?_
            refine r_draw1 (fun i => Nat.beq i 9) 11 (fun w' => Mod (Mg 0) w2 w') mixed (by kernel_rfl) ?_
            intro w3 hm1
            have f3 := f2.ext hm1
            have hE3 := hE2.ext hm1
            have hs3 := hm1.size
            have hCw3 : Mod (Mg 0) w2 w3 := Mod.ofExt hm1
            refine ⟨hCw3, ?_⟩
            rw [show List.range' 0 (Array.size _) = [0, 1, 2, 3, 4, 5, 6, 7, 8, 9, 10] from rfl]
            refine OD.q rfl rfl (Q1.move rfl) rfl rfl ?_
            refine OD.q rfl rfl (Q1.move rfl) rfl rfl ?_
            refine OD.q rfl rfl (Q1.subI ((((j : Nat) : Int) - 1)) rfl rfl (by omega)) rfl rfl ?_
            obtain ⟨x1, b4, o1, hx1, hr1, hl1, hu1, hw1⟩ := Sl.at' (P := Try.prog) f2 Try.underlying22 ti9 encS_len (k := .i64) (n := (((j : Nat) : Int) - 1)) ((j - 1)) (by omega) (by first | assumption | omega)
            refine OD.q rfl rfl (Q1.indexAddr rfl rfl hr1) rfl rfl ?_
            refine OD.q rfl rfl (Q1.load1 ti9 rfl (fun _ hc => hw1.keepG hc (by omega))) rfl rfl ?_
            refine OD.q rfl rfl (Q1.move rfl) rfl rfl ?_
            refine OD.q rfl rfl (Q1.move rfl) rfl rfl ?_
            obtain ⟨x2, b5, o2, hx2, hr2, hl2, hu2, hw2⟩ := Sl.at' (P := Try.prog) f2 Try.underlying22 ti9 encS_len (k := .i64) (n := ((j : Nat) : Int)) (j) (by omega) (by first | assumption | omega)
            refine OD.q rfl rfl (Q1.indexAddr rfl rfl hr2) rfl rfl ?_
            refine OD.q rfl rfl (Q1.load1 ti9 rfl (fun _ hc => hw2.keepG hc (by omega))) rfl rfl ?_
            refine OD.act rfl rfl rfl rfl (AW.callF cl113 rfl (rcmp_c (w0 := w3)  x1 x2 (by exact hsk_l.at hx1) (by exact hsk_l.at hx2)) ?_)
            rintro _ w4 ⟨rfl, hm2, hp1⟩
            have f4 := f3.ext hm2
            have hE4 := hE3.ext hm2
            have hs4 := hm2.size
            have hCw4 := hCw3.ext hm2
            refine ⟨.inr hCw4, ?_⟩
            refine OD.qb rfl rfl (Q1.ge rfl rfl) rfl rfl ?_
            intro b6 hb4
            refine OD.nil ?_
            cases b6 with
            | true =>
              replace hb4 := of_decide_eq_true hb4.symm
              refine r_cond_t rfl ?_
              refine r_seq ?_
              refine r_region ?_
              refine OL.q (Q1.assign rfl) rfl rfl ?_
              refine OL.nil ?_
              refine r_ret1 Try.func85 rfl rfl ?_
              exact Ret.mk ⟨(congrArg (Value.int .i64) (by first | exact Ml.goodL_full (by omega) | exact Ml.goodL_word (by omega) hx1 (by assumption) | exact Ml.goodL_sort' (by omega) ha hj hx1 hx2 (by omega) | exact Ml.goodL_ok (by omega) ha hr (by omega) | (exfalso; omega))), hE4⟩
            | false =>
              replace hb4 := of_decide_eq_false hb4.symm
              refine r_cond_f rfl ?_
              refine r_skip ?_
              refine r_inBlock ?_
              refine r_region ?_
              refine OL.q (Q1.move rfl) rfl rfl ?_
              refine OL.q (Q1.addI (((j + 1 : Nat) : Int)) rfl rfl (by omega)) rfl rfl ?_
              refine OL.q (Q1.assign rfl) rfl rfl ?_
              refine OL.nil ?_
              exact (ih2 _ _ _ ⟨(j + 1 : Nat), rfl, rfl, hE4, (by omega), f4, (by first | omega | (exfalso; omega)), (by first | exact Ml.rising_step hr hj (by assumption) (by assumption) (by omega) | (exfalso; omega))⟩ (by omega)).sub ⟨rfl, rfl, trivial⟩
          | false =>
            replace hb3 := of_decide_eq_false hb3.symm
            refine r_cond_f rfl ?_
            refine r_exit rfl ?_
            refine r_seq ?_
            refine r_region ?_
            refine OL.q (Q1.assign rfl) rfl rfl ?_
            refine OL.nil ?_
            refine r_ret1 Try.func85 rfl rfl ?_
            exact Ret.mk ⟨(congrArg (Value.int .i64) (by first | exact Ml.goodL_full (by omega) | exact Ml.goodL_word (by omega) hx1 (by assumption) | exact Ml.goodL_sort' (by omega) ha hj hx1 hx2 (by omega) | exact Ml.goodL_ok (by omega) ha hr (by omega) | (exfalso; omega))), hE2⟩
set_option maxRecDepth 20000 in
set_option maxHeartbeats 4000000 in
theorem r8same_c {w0 : World}  {v_a : Value} {a : List Str} {v_b : Value} {b : List Str} (h_a : Sl encS w0 (Iv 0 w0.heap.size) v_a a) (h_b : Sl encS w0 (Iv 0 w0.heap.size) v_b b) :
    Calls Try.prog 117 #[v_a, v_b] w0 (Ret fun rv w1 => (∃ rb : Bool, rb = (decide (a = b)) ∧ rv = .bool rb) ∧ Ext w0 w1) := by
  have hE0 : Ext w0 w0 := Mod.refl _ _
  have hle1 := h_a.le
  have hle2 := h_b.le
  refine calls_enter Try.func117 rfl Try.ntmps117 rfl ?_
  refine r_seq ?_
  refine r_region ?_
  refine OL.q (Q1.assign rfl) rfl rfl ?_
  refine OL.nil ?_
  refine r_seq ?_
  refine r_seq ?_
  refine r_region ?_
  refine OL.q (Q1.move rfl) rfl rfl ?_
  refine OL.q (Q1.lenSl Try.underlying22 (h_a) rfl) rfl rfl ?_
  refine OL.q (Q1.move rfl) rfl rfl ?_
  refine OL.q (Q1.lenSl Try.underlying22 (h_b) rfl) rfl rfl ?_
  refine OL.qb (Q1.ne rfl rfl) rfl rfl ?_
  intro b1 hb1
  refine OL.nil ?_
  cases b1 with
  | true =>
    replace hb1 := bne_iff_ne.1 hb1.symm
    refine r_cond_t rfl ?_
    refine r_seq ?_
    refine r_region ?_
    refine OL.q (Q1.assign rfl) rfl rfl ?_
    refine OL.nil ?_
    refine r_ret1 Try.func117 rfl rfl ?_
    exact Ret.mk ⟨⟨_, (by first | (have e := Ml.same_not hx1 hx2 (by assumption); simp [e]) | (have e := Ml.same_all hi (by omega) (by omega); simp [e]) | (have e : a ≠ b := (fun e => absurd (congrArg List.length e) (by omega)); simp [e]) | (exfalso; omega)), rfl⟩, hE0⟩
  | false =>
    replace hb1 := bne_eq_false_iff_eq.1 hb1.symm
    refine r_cond_f rfl ?_
    refine r_skip ?_
    refine r_seq ?_
    refine r_seq ?_
    refine r_region ?_
    refine OL.q (Q1.assign rfl) rfl rfl ?_
    refine OL.nil ?_
    refine r_block ?_
    refine r_loop (I := fun m E W => ∃ (k : Nat), E = [(0, v_a), (1, v_b), (5, .int .i64 (((k : Nat) : Int)))] ∧ m = a.length - k ∧ Ext w0 W ∧ w0.heap.size ≤ W.heap.size ∧ Sl encS W (Iv 0 w0.heap.size) v_a a ∧ Sl encS W (Iv 0 w0.heap.size) v_b b ∧ (a.take k = b.take k)) ?_ ?_
    · refine ⟨_, _, ⟨(0 : Nat), rfl, rfl, hE0, Nat.le_refl _, h_a, h_b, (by rfl)⟩, ⟨rfl, rfl, rfl, trivial⟩⟩
    · rintro _ _ w1 ⟨k, rfl, rfl, hE1, hs1, f1, f2, hi⟩ ih1
      refine r_seq ?_
      refine r_seq ?_
      refine r_region ?_
      refine OL.q (Q1.move rfl) rfl rfl ?_
      refine OL.q (Q1.move rfl) rfl rfl ?_
      refine OL.q (Q1.lenSl Try.underlying22 (f1) rfl) rfl rfl ?_
      refine OL.qb (Q1.lt rfl rfl) rfl rfl ?_
      intro b2 hb2
      refine OL.nil ?_
      cases b2 with
      | true =>
        replace hb2 := of_decide_eq_true hb2.symm
        refine r_cond_t rfl ?_
        refine r_skip ?_
        refine r_seq ?_
        refine r_block ?_
        refine r_seq ?_
        refine r_draw1 (fun i => false) 9 (fun w' => Mod (Mg 0) w1 w') mixed (by kernel_rfl) ?_
        intro w2 hm1
        have f3 := f1.ext hm1
        have f4 := f2.ext hm1
        have hE2 := hE1.ext hm1
        have hs2 := hm1.size
        have hCw2 : Mod (Mg 0) w1 w2 := Mod.ofExt hm1
        refine ⟨hCw2, ?_⟩
        rw [show List.range' 0 (Array.size _) = [0, 1, 2, 3, 4, 5, 6, 7, 8] from rfl]
        refine OD.q rfl rfl (Q1.move rfl) rfl rfl ?_
        refine OD.q rfl rfl (Q1.move rfl) rfl rfl ?_
        obtain ⟨x1, b3, o1, hx1, hr1, hl1, hu1, hw1⟩ := Sl.at' (P := Try.prog) f1 Try.underlying22 ti9 encS_len (k := .i64) (n := ((k : Nat) : Int)) (k) (by omega) (by first | assumption | omega)
        refine OD.q rfl rfl (Q1.indexAddr rfl rfl hr1) rfl rfl ?_
        refine OD.q rfl rfl (Q1.load1 ti9 rfl (fun _ hc => hw1.keepG hc (by omega))) rfl rfl ?_
        refine OD.q rfl rfl (Q1.move rfl) rfl rfl ?_
        refine OD.q rfl rfl (Q1.move rfl) rfl rfl ?_
        obtain ⟨x2, b4, o2, hx2, hr2, hl2, hu2, hw2⟩ := Sl.at' (P := Try.prog) f2 Try.underlying22 ti9 encS_len (k := .i64) (n := ((k : Nat) : Int)) (k) (by omega) (by first | assumption | omega)
        refine OD.q rfl rfl (Q1.indexAddr rfl rfl hr2) rfl rfl ?_
        refine OD.q rfl rfl (Q1.load1 ti9 rfl (fun _ hc => hw2.keepG hc (by omega))) rfl rfl ?_
        refine OD.qb rfl rfl (Q1.neS rfl rfl) rfl rfl ?_
        intro b5 hb3
        refine OD.nil ?_
        cases b5 with
        | true =>
          replace hb3 := nbeq_t hb3
          refine r_cond_t rfl ?_
          refine r_seq ?_
          refine r_region ?_
          refine OL.q (Q1.assign rfl) rfl rfl ?_
          refine OL.nil ?_
          refine r_ret1 Try.func117 rfl rfl ?_
          exact Ret.mk ⟨⟨_, (by first | (have e := Ml.same_not hx1 hx2 (by assumption); simp [e]) | (have e := Ml.same_all hi (by omega) (by omega); simp [e]) | (have e : a ≠ b := (fun e => absurd (congrArg List.length e) (by omega)); simp [e]) | (exfalso; omega)), rfl⟩, hE2⟩
        | false =>
          replace hb3 := nbeq_f hb3
          refine r_cond_f rfl ?_
          refine r_skip ?_
          refine r_inBlock ?_
          refine r_region ?_
          refine OL.q (Q1.move rfl) rfl rfl ?_
          refine OL.q (Q1.addI (((k + 1 : Nat) : Int)) rfl rfl (by omega)) rfl rfl ?_
          refine OL.q (Q1.assign rfl) rfl rfl ?_
          refine OL.nil ?_
          exact (ih1 _ _ _ ⟨(k + 1 : Nat), rfl, rfl, hE2, (by omega), f3, f4, (by first | exact Ml.same_take hi hx1 hx2 (by assumption) | (exfalso; omega))⟩ (by omega)).sub ⟨rfl, rfl, rfl, trivial⟩
      | false =>
        replace hb2 := of_decide_eq_false hb2.symm
        refine r_cond_f rfl ?_
        refine r_exit rfl ?_
        refine r_seq ?_
        refine r_region ?_
        refine OL.q (Q1.assign rfl) rfl rfl ?_
        refine OL.nil ?_
        refine r_ret1 Try.func117 rfl rfl ?_
        exact Ret.mk ⟨⟨_, (by first | (have e := Ml.same_not hx1 hx2 (by assumption); simp [e]) | (have e := Ml.same_all hi (by omega) (by omega); simp [e]) | (have e : a ≠ b := (fun e => absurd (congrArg List.length e) (by omega)); simp [e]) | (exfalso; omega)), rfl⟩, hE1⟩
set_option maxRecDepth 20000 in
set_option maxHeartbeats 8000000 in
theorem r8add_c : ∀ (f : Nat) {R : Nat → Prop} {w0 : World} {F : Nat → Prop} {bG : Nat} {v_r : Value} {rests : List Str} {hs : List Value} {s : GS} (hA : (boxR (R := R) [rgR 142 144 bG s hs, slR encS [(v_r, rests)]]).p F w0) (hF : ∀ b, F b → b < w0.heap.size ∧ ¬ R b) (hR : ∀ b, R b → b < w0.heap.size) (hlen : hs.length = s.length) (hd : Deep f rests) (hg : GoodR rests) (hnd : (names s).Nodup) (hsz : s.length + 1 + sumLen rests ≤ 1000000) (hrl : rests.length ≤ 1000) (hok : ∀ x ∈ s, x.1.length ≤ 1000),
    Calls Try.prog 92 #[ptr bG 0, v_r] w0 (Ret fun rv w1 => rv = .int .i64 ((addM (f + 1) s rests).2 : Int) ∧ Mod F w0 w1 ∧ ∃ t, ∃ F2, (rgR 142 144 (R := R) bG (addM (f + 1) s rests).1 (hs ++ t)).p F2 w1 ∧ ∀ b, F2 b → b < w1.heap.size ∧ (F b ∨ w0.heap.size ≤ b)) := by
  intro f
  induction f using Nat.strongRecOn with
  | _ f ih0 =>
  intro R w0 F bG v_r rests hs s hA hF hR hlen hd hg hnd hsz hrl hok
  have hS00 := St.start1 hA hF hR
  have hS1 : St R F w0 w0 [rgR 142 144 bG s hs, slR encS [(v_r, rests)]] := St.open (L1 := []) hS00
  have hpos := sumLen_dropE rests
  have hdl := dropE_len rests
  obtain ⟨⟨vN1, nds1⟩, hS2⟩ := hS1.exo (i := 0) rfl
  obtain ⟨hmap1, hS3⟩ := hS2.and (i := 0) rfl
  change St R F w0 w0 [boxR [bkR bG [vN1] 142, accR encRd 144 2 vN1 nds1, rrR nds1 s], slR encS [(v_r, rests)]] at hS3
  change nds1.map (fun n : RNd => n.r.val) = hs at hmap1
  have hS4 : St R F w0 w0 [slR encS [(v_r, rests)], boxR [bkR bG [vN1] 142, accR encRd 144 2 vN1 nds1, rrR nds1 s]] := hS3.sel [1, 0] (by rfl) (by decide)
  have hS5 : St R F w0 w0 [slR encS [(v_r, rests)], boxR [bkR bG [vN1] 142, accR encRd 144 2 vN1 nds1, rrR nds1 s]] := hS4
  have hS6 : St R F w0 w0 [slR encS [(v_r, rests)], bkR bG [vN1] 142, accR encRd 144 2 vN1 nds1, rrR nds1 s] := St.open (L1 := [slR encS [(v_r, rests)]]) hS5
  have hrl1 : nds1.length = s.length := hS6.rrLen (i := 3) rfl
  have f1 := hS6.sl (i := 0) (k := 0) rfl rfl
  have hle1 := f1.le
  refine calls_enter Try.func92 rfl Try.ntmps92 rfl ?_
  refine r_seq ?_
  refine r_region ?_
  refine OL.q (Q1.assign rfl) rfl rfl ?_
  refine OL.nil ?_
  refine r_seq ?_
  refine r_seq ?_
  refine r_region ?_
  refine OL.q (Q1.assign rfl) rfl rfl ?_
  refine OL.nil ?_
  refine r_block ?_
  have hS8 : St R F w0 w0 [accR encRd 144 2 vN1 nds1, bkR bG [vN1] 142, rrR nds1 s, slR encS [(v_r, rests)]] := hS6.sel [2, 1, 3, 0] (by rfl) (by decide)
  refine r_loop (I := fun m E W => ∃ (i0 : Nat), E = [(0, ptr bG 0), (1, v_r), (5, .int .i64 (((i0 : Nat) : Int)))] ∧ m = nds1.length - i0 ∧ St R F w0 W [accR encRd 144 2 vN1 nds1, bkR bG [vN1] 142, rrR nds1 s, slR encS [(v_r, rests)]] ∧ (∀ y ∈ s.take i0, y.1 ≠ rests)) ?_ ?_
  · refine ⟨_, _, ⟨(0 : Nat), rfl, rfl, hS8, (by simp)⟩, ⟨rfl, rfl, rfl, trivial⟩⟩
  · rintro _ _ w1 ⟨i0, rfl, rfl, hS7, hno⟩ ih1
    refine r_seq ?_
    refine r_seq ?_
    refine r_region ?_
    refine OL.q (Q1.move rfl) rfl rfl ?_
    refine OL.q (Q1.move rfl) rfl rfl ?_
    refine OL.q (Q1.nilCheckP rfl) rfl rfl ?_
    refine OL.q (Q1.fieldAddr fl142_0 rfl) rfl rfl ?_
    have f2 := hS7.bk (i := 1) rfl
    refine OL.q (Q1.load1 ti140 rfl (fun _ e => e ▸ (f2.cell 0 _ rfl))) rfl rfl ?_
    obtain ⟨g1, f3, hl1, k1⟩ := hS7.accK (i := 0) rfl
    refine OL.q (Q1.lenSl Try.underlying140 (f3.sl) rfl) rfl rfl ?_
    refine OL.qb (Q1.lt rfl rfl) rfl rfl ?_
    intro b1 hb1
    refine OL.nil ?_
    cases b1 with
    | true =>
      replace hb1 := of_decide_eq_true hb1.symm
      refine r_cond_t rfl ?_
      refine r_skip ?_
      refine r_seq ?_
      refine r_block ?_
      refine r_seq ?_
      refine r_region ?_
      refine OL.q (Q1.move rfl) rfl rfl ?_
      refine OL.q (Q1.nilCheckP rfl) rfl rfl ?_
      refine OL.q (Q1.fieldAddr fl142_0 rfl) rfl rfl ?_
      refine OL.q (Q1.load1 ti140 rfl (fun _ e => e ▸ (f2.cell 0 _ rfl))) rfl rfl ?_
      refine OL.q (Q1.move rfl) rfl rfl ?_
      obtain ⟨x1, b2, o1, hx1, hr1, hl2, hw1⟩ := Sl.atF (P := Try.prog) f3.sl Try.underlying140 ti144 encRd_len (k := .i64) (n := ((i0 : Nat) : Int)) (i0) (by omega) (by first | assumption | omega)
      refine OL.q (Q1.indexAddr rfl rfl hr1) rfl rfl ?_
      refine OL.q (Q1.fieldAddr fl144_0 rfl) rfl rfl ?_
      have hr2 := hw1.sub 0 1 (Nat.le_of_ble_eq_true rfl)
      refine OL.q (Q1.load1 ti22 rfl (fun _ e => e ▸ hr2)) rfl rfl ?_
      obtain ⟨gx1, hgx1, hn1, hn2⟩ := hS7.rrAt (i := 2) rfl hx1
      refine OL.q (Q1.move rfl) rfl rfl ?_
      have f5 := hS7.sl (i := 3) (k := 0) rfl rfl
      refine OL.act rfl rfl (AW.callF cl117 rfl (r8same_c (w0 := w1) (a := gx1.1) (b := rests)  hn1 f5) ?_)
      rintro _ w2 ⟨⟨b3, hb2, rfl⟩, hm1⟩
      have hS9 := hS7.ext hm1
      refine OL.nil ?_
      cases b3 with
      | true =>
        replace hb2 := hb2.symm
        refine r_cond_t rfl ?_
        refine r_seq ?_
        refine r_region ?_
        refine OL.q (Q1.move rfl) rfl rfl ?_
        refine OL.q (Q1.assign rfl) rfl rfl ?_
        refine OL.nil ?_
        refine r_ret1 Try.func92 rfl rfl ?_
        have hfi := find_at hno hgx1 (of_decide_eq_true (by assumption))
        have hS10 : St R F w0 w2 [slR encS [(v_r, rests)], bkR bG [vN1] 142, accR encRd 144 2 vN1 nds1, rrR nds1 s] := hS9.sel [3, 1, 0, 2] (by rfl) (by decide)
        have hS11 : St R F w0 w2 [slR encS [(v_r, rests)], boxR [bkR bG [vN1] 142, accR encRd 144 2 vN1 nds1, rrR nds1 s]] := St.close (L1 := [slR encS [(v_r, rests)]]) hS10
        have hS12 : St R F w0 w2 [slR encS [(v_r, rests)], andR (nds1.map (fun n : RNd => n.r.val) = hs) (boxR [bkR bG [vN1] 142, accR encRd 144 2 vN1 nds1, rrR nds1 s])] := hS11.imp (i := 1) rfl (fun F_ h_ => ⟨hmap1, h_⟩)
        have hS13 : St R F w0 w2 [slR encS [(v_r, rests)], rgR 142 144 bG s hs] := hS12.exi (vN1, nds1) (i := 1) rfl
        have hS14 : St R F w0 w2 [rgR 142 144 bG s hs] := hS13.sel [1] (by rfl) (by decide)
        obtain ⟨hmF, F2, hA2, hF2⟩ := hS14.fin
        exact Ret.mk ⟨by rw [addM_hit hfi], hmF, [], F2, by rw [addM_hit hfi, List.append_nil]; exact hA2, hF2⟩
      | false =>
        replace hb2 := hb2.symm
        refine r_cond_f rfl ?_
        refine r_skip ?_
        refine r_inBlock ?_
        refine r_region ?_
        refine OL.q (Q1.move rfl) rfl rfl ?_
        refine OL.q (Q1.addI (((i0 + 1 : Nat) : Int)) rfl rfl (by omega)) rfl rfl ?_
        refine OL.q (Q1.assign rfl) rfl rfl ?_
        refine OL.nil ?_
        exact (ih1 _ _ _ ⟨(i0 + 1 : Nat), rfl, rfl, hS9, (by first | exact find_step hno hgx1 (of_decide_eq_false (by assumption)) | (exfalso; omega))⟩ (by omega)).sub ⟨rfl, rfl, rfl, trivial⟩
    | false =>
      replace hb1 := of_decide_eq_false hb1.symm
      refine r_cond_f rfl ?_
      refine r_exit rfl ?_
      refine r_seq ?_
      refine r_region ?_
      refine OL.q (Q1.move rfl) rfl rfl ?_
      refine OL.q (Q1.nilCheckP rfl) rfl rfl ?_
      refine OL.q (Q1.fieldAddr fl142_0 rfl) rfl rfl ?_
      refine OL.q (Q1.load1 ti140 rfl (fun _ e => e ▸ (f2.cell 0 _ rfl))) rfl rfl ?_
      refine OL.q (Q1.lenSl Try.underlying140 (f3.sl) rfl) rfl rfl ?_
      refine OL.q (Q1.assign rfl) rfl rfl ?_
      have hfi := find_no hno (by omega)
      refine OL.nil ?_
      refine r_seq ?_
      refine r_region ?_
      refine OL.q (Q1.move rfl) rfl rfl ?_
      refine OL.q (Q1.move rfl) rfl rfl ?_
      refine OL.q (Q1.nilCheckP rfl) rfl rfl ?_
      refine OL.q (Q1.fieldAddr fl142_0 rfl) rfl rfl ?_
      refine OL.q (Q1.load1 ti140 rfl (fun _ e => e ▸ (f2.cell 0 _ rfl))) rfl rfl ?_
      refine OL.q (Q1.move rfl) rfl rfl ?_
      have f4 := hS7.sl (i := 3) (k := 0) rfl rfl
      obtain ⟨ad1, cp1, hv1⟩ := f4.shape
      subst hv1
      refine OL.q (Q1.build (vs := #[(0, (.slice ad1 rests.length cp1))]) (v := .agg #[(.slice ad1 rests.length cp1), .slice none 0 0]) rfl (fun _ => by kernel_rfl)) rfl rfl ?_
      refine OL.act rfl rfl (AW.buildSlice [(.agg #[(.slice ad1 rests.length cp1), .slice none 0 0] : Value)] Try.underlying140 ti144 rfl rfl rfl (by decide) ?_)
      intro w2 b2 hm1 hb2 hz1 hk1
      have hS9 := hS7.ext hm1
      have hl2 := Sl.of_blk (enc := encRd) hk1 ([(RNd.mk (SH.mk ad1 rests.length cp1) (SH.mk none 0 0))] : List RNd) 1 rfl rfl (by unfold maxLen; omega)
      have hS10 : St R F w0 w2 [accR encRd 144 2 vN1 nds1, bkR bG [vN1] 142, rrR nds1 s, slR encS [((.slice ad1 rests.length cp1), rests)], slR encRd [((.slice (some ⟨b2, 0, none⟩) 1 1), [(RNd.mk (SH.mk ad1 rests.length cp1) (SH.mk none 0 0))])]] := hS7.newSlB hm1 hb2 hz1 hl2
      obtain ⟨g3, f5, hl3, k2⟩ := hS10.accK (i := 0) rfl
      have f6 := hS10.sl (i := 4) (k := 0) rfl rfl
      refine OL.act rfl rfl (AW.append f5 Try.underlying140 ti144 rfl encRd_len encRd_one rfl rfl (f6) (by first | omega | (simp only [List.length_append, List.length_cons, List.length_nil]; omega) | (simp; omega)) (by unfold maxLen; first | omega | (simp only [List.length_append, List.length_cons, List.length_nil]; omega) | (simp; omega)) ?_)
      intro v1 g2 w3 ha1 hm2 hg1 hz2
      have hS11 : St R F w0 w3 [accR encRd 144 2 v1 ((nds1 ++ [(RNd.mk (SH.mk ad1 rests.length cp1) (SH.mk none 0 0))])), bkR bG [vN1] 142, rrR nds1 s, slR encS [((.slice ad1 rests.length cp1), rests)], slR encRd [((.slice (some ⟨b2, 0, none⟩) 1 1), [(RNd.mk (SH.mk ad1 rests.length cp1) (SH.mk none 0 0))])]] := k2 _ _ _ _ hm2 ha1 hg1
      clear hg1
      refine OL.q (Q1.nilCheckP rfl) rfl rfl ?_
      refine OL.q (Q1.fieldAddr fl142_0 rfl) rfl rfl ?_
      obtain ⟨g4, f7, hl4, k3⟩ := hS11.accK (i := 0) rfl
      obtain ⟨ad2, cp2, hv2⟩ := f7.shape
      subst hv2
      have f8 := hS11.bk (i := 1) rfl
      refine OL.act rfl rfl (AW.store ti140 rfl rfl rfl rfl rfl f8 (Nat.le_of_ble_eq_true rfl) ?_)
      intro w4 hm3 hz3 hk2
      have hS12 : St R F w0 w4 [accR encRd 144 2 ((.slice ad2 ((nds1 ++ [(RNd.mk (SH.mk ad1 rests.length cp1) (SH.mk none 0 0))])).length cp2)) ((nds1 ++ [(RNd.mk (SH.mk ad1 rests.length cp1) (SH.mk none 0 0))])), bkR bG [(.slice ad2 ((nds1 ++ [(RNd.mk (SH.mk ad1 rests.length cp1) (SH.mk none 0 0))])).length cp2)] 142, rrR nds1 s, slR encS [((.slice ad1 rests.length cp1), rests)], slR encRd [((.slice (some ⟨b2, 0, none⟩) 1 1), [(RNd.mk (SH.mk ad1 rests.length cp1) (SH.mk none 0 0))])]] := hS11.bkK (i := 1) rfl hm3 hk2
      have hS13 : St R F w0 w4 [accR encRd 144 2 ((.slice ad2 ((nds1 ++ [(RNd.mk (SH.mk ad1 rests.length cp1) (SH.mk none 0 0))])).length cp2)) ((nds1 ++ [(RNd.mk (SH.mk ad1 rests.length cp1) (SH.mk none 0 0))])), bkR bG [(.slice ad2 ((nds1 ++ [(RNd.mk (SH.mk ad1 rests.length cp1) (SH.mk none 0 0))])).length cp2)] 142, slR encRd [((.slice (some ⟨b2, 0, none⟩) 1 1), [(RNd.mk (SH.mk ad1 rests.length cp1) (SH.mk none 0 0))])], rrR nds1 s, slR encS [((.slice ad1 rests.length cp1), rests)]] := hS12.sel [0, 1, 4, 2, 3] (by rfl) (by decide)
      have hS14 : St R F w0 w4 [accR encRd 144 2 ((.slice ad2 ((nds1 ++ [(RNd.mk (SH.mk ad1 rests.length cp1) (SH.mk none 0 0))])).length cp2)) ((nds1 ++ [(RNd.mk (SH.mk ad1 rests.length cp1) (SH.mk none 0 0))])), bkR bG [(.slice ad2 ((nds1 ++ [(RNd.mk (SH.mk ad1 rests.length cp1) (SH.mk none 0 0))])).length cp2)] 142, slR encRd [((.slice (some ⟨b2, 0, none⟩) 1 1), [(RNd.mk (SH.mk ad1 rests.length cp1) (SH.mk none 0 0))])], boxR [rrR nds1 s, slR encS [((.slice ad1 rests.length cp1), rests)]]] := St.close (L1 := [accR encRd 144 2 ((.slice ad2 ((nds1 ++ [(RNd.mk (SH.mk ad1 rests.length cp1) (SH.mk none 0 0))])).length cp2)) ((nds1 ++ [(RNd.mk (SH.mk ad1 rests.length cp1) (SH.mk none 0 0))])), bkR bG [(.slice ad2 ((nds1 ++ [(RNd.mk (SH.mk ad1 rests.length cp1) (SH.mk none 0 0))])).length cp2)] 142, slR encRd [((.slice (some ⟨b2, 0, none⟩) 1 1), [(RNd.mk (SH.mk ad1 rests.length cp1) (SH.mk none 0 0))])]]) hS13
      have hS15 : St R F w0 w4 [accR encRd 144 2 ((.slice ad2 ((nds1 ++ [(RNd.mk (SH.mk ad1 rests.length cp1) (SH.mk none 0 0))])).length cp2)) ((nds1 ++ [(RNd.mk (SH.mk ad1 rests.length cp1) (SH.mk none 0 0))])), bkR bG [(.slice ad2 ((nds1 ++ [(RNd.mk (SH.mk ad1 rests.length cp1) (SH.mk none 0 0))])).length cp2)] 142, slR encRd [((.slice (some ⟨b2, 0, none⟩) 1 1), [(RNd.mk (SH.mk ad1 rests.length cp1) (SH.mk none 0 0))])], rrR (nds1 ++ [(RNd.mk (SH.mk ad1 rests.length cp1) (SH.mk none 0 0))]) (s ++ [(rests, [])])] := hS14.imp (i := 3) rfl (fun F_ h_ => rr_push rfl rfl h_)
      have hmap2 : (nds1 ++ [(RNd.mk (SH.mk ad1 rests.length cp1) (SH.mk none 0 0))]).map (fun n : RNd => n.r.val) = hs ++ [(.slice ad1 rests.length cp1)] := by rw [List.map_append, hmap1]; rfl
      have hS16 : St R F w0 w4 [slR encRd [((.slice (some ⟨b2, 0, none⟩) 1 1), [(RNd.mk (SH.mk ad1 rests.length cp1) (SH.mk none 0 0))])], bkR bG [(.slice ad2 ((nds1 ++ [(RNd.mk (SH.mk ad1 rests.length cp1) (SH.mk none 0 0))])).length cp2)] 142, accR encRd 144 2 ((.slice ad2 ((nds1 ++ [(RNd.mk (SH.mk ad1 rests.length cp1) (SH.mk none 0 0))])).length cp2)) ((nds1 ++ [(RNd.mk (SH.mk ad1 rests.length cp1) (SH.mk none 0 0))])), rrR (nds1 ++ [(RNd.mk (SH.mk ad1 rests.length cp1) (SH.mk none 0 0))]) (s ++ [(rests, [])])] := hS15.sel [2, 1, 0, 3] (by rfl) (by decide)
      have hS17 : St R F w0 w4 [slR encRd [((.slice (some ⟨b2, 0, none⟩) 1 1), [(RNd.mk (SH.mk ad1 rests.length cp1) (SH.mk none 0 0))])], boxR [bkR bG [(.slice ad2 ((nds1 ++ [(RNd.mk (SH.mk ad1 rests.length cp1) (SH.mk none 0 0))])).length cp2)] 142, accR encRd 144 2 ((.slice ad2 ((nds1 ++ [(RNd.mk (SH.mk ad1 rests.length cp1) (SH.mk none 0 0))])).length cp2)) ((nds1 ++ [(RNd.mk (SH.mk ad1 rests.length cp1) (SH.mk none 0 0))])), rrR (nds1 ++ [(RNd.mk (SH.mk ad1 rests.length cp1) (SH.mk none 0 0))]) (s ++ [(rests, [])])]] := St.close (L1 := [slR encRd [((.slice (some ⟨b2, 0, none⟩) 1 1), [(RNd.mk (SH.mk ad1 rests.length cp1) (SH.mk none 0 0))])]]) hS16
      have hS18 : St R F w0 w4 [slR encRd [((.slice (some ⟨b2, 0, none⟩) 1 1), [(RNd.mk (SH.mk ad1 rests.length cp1) (SH.mk none 0 0))])], andR (((nds1 ++ [(RNd.mk (SH.mk ad1 rests.length cp1) (SH.mk none 0 0))])).map (fun n : RNd => n.r.val) = (hs ++ (.slice ad1 rests.length cp1) :: [])) (boxR [bkR bG [(.slice ad2 ((nds1 ++ [(RNd.mk (SH.mk ad1 rests.length cp1) (SH.mk none 0 0))])).length cp2)] 142, accR encRd 144 2 ((.slice ad2 ((nds1 ++ [(RNd.mk (SH.mk ad1 rests.length cp1) (SH.mk none 0 0))])).length cp2)) ((nds1 ++ [(RNd.mk (SH.mk ad1 rests.length cp1) (SH.mk none 0 0))])), rrR (nds1 ++ [(RNd.mk (SH.mk ad1 rests.length cp1) (SH.mk none 0 0))]) (s ++ [(rests, [])])])] := hS17.imp (i := 1) rfl (fun F_ h_ => ⟨hmap2, h_⟩)
      have hS19 : St R F w0 w4 [slR encRd [((.slice (some ⟨b2, 0, none⟩) 1 1), [(RNd.mk (SH.mk ad1 rests.length cp1) (SH.mk none 0 0))])], rgR 142 144 bG ((s ++ (rests, []) :: [])) ((hs ++ (.slice ad1 rests.length cp1) :: []))] := hS18.exi ((.slice ad2 ((nds1 ++ [(RNd.mk (SH.mk ad1 rests.length cp1) (SH.mk none 0 0))])).length cp2), (nds1 ++ [(RNd.mk (SH.mk ad1 rests.length cp1) (SH.mk none 0 0))])) (i := 1) rfl
      refine OL.nil ?_
      refine r_seq ?_
      refine r_region ?_
      refine OL.q (Q1.assign rfl) rfl rfl ?_
      refine OL.nil ?_
      refine r_seq ?_
      refine r_seq ?_
      refine r_region ?_
      refine OL.q (Q1.assign rfl) rfl rfl ?_
      refine OL.nil ?_
      refine r_block ?_
      have hS21 : St R F w0 w4 [slR encRd [((.slice (some ⟨b2, 0, none⟩) 1 1), [(RNd.mk (SH.mk ad1 rests.length cp1) (SH.mk none 0 0))])], rgR 142 144 bG ((s ++ (rests, []) :: [])) ((hs ++ (.slice ad1 rests.length cp1) :: [])), accR encE 94 2 (.slice none 0 0) []] := hS19.newAcc (Mod.refl _ _) Acc.nil (.inl rfl)
      have hS22 : St R F w0 w4 [rgR 142 144 bG ((s ++ (rests, []) :: [])) ((hs ++ (.slice ad1 rests.length cp1) :: [])), accR encE 94 2 (.slice none 0 0) []] := hS21.sel [1, 2] (by rfl) (by decide)
      refine r_loop (I := fun m E W => ∃ (v_ES : Value) (ES : List Ed) (k : Nat) (xs : GS) (ths : List Value), E = [(0, ptr bG 0), (1, (.slice ad1 rests.length cp1)), (6, .int .i64 (((nds1.length : Nat) : Int))), (7, v_ES), (8, .int .i64 (((k : Nat) : Int)))] ∧ m = rests.length - k ∧ St R F w0 W [rgR 142 144 bG (s ++ (rests, []) :: xs) (hs ++ (.slice ad1 rests.length cp1) :: ths), accR encE 94 2 v_ES ES] ∧ (EInv f (s ++ [(rests, [])]) (groups (dropE rests)) (s ++ (rests, []) :: xs) ES (remR rests k)) ∧ ((names (s ++ (rests, []) :: xs)).Nodup) ∧ (s.length + 1 + xs.length + sumLen (remR rests k) ≤ 1000000) ∧ (ths.length = xs.length) ∧ (ES.length ≤ k) ∧ (k ≤ rests.length) ∧ (∀ x ∈ (s ++ (rests, []) :: xs), x.1.length ≤ 1000)) ?_ ?_
      · refine ⟨_, _, ⟨(.slice none 0 0 : Value), ([] : List Ed), (0 : Nat), ([] : GS), ([] : List Value), rfl, rfl, hS22, (by exact EInv.start f _ _), (by exact names_put' hfi hnd), (by (rw [rem_zero]; simp only [List.length_nil]; omega)), (by rfl), (by exact Nat.zero_le _), (by exact Nat.zero_le _), (by (intro x hx; rcases List.mem_append.1 hx with h | h; exact hok x h; simp only [List.mem_cons, List.not_mem_nil, or_false] at h; subst h; exact hrl))⟩, ⟨rfl, rfl, rfl, rfl, rfl, trivial⟩⟩
      · rintro _ _ w5 ⟨v_ES, ES, k, xs, ths, rfl, rfl, hS20, hEI, hnd1, hs1, hth, hel, hkl, hok1⟩ ih2
        refine r_seq ?_
        refine r_seq ?_
        refine r_region ?_
        refine OL.q (Q1.move rfl) rfl rfl ?_
        refine OL.q (Q1.move rfl) rfl rfl ?_
        have f9 := (show Sl encS w5 (Iv 0 w5.heap.size) (.slice ad1 rests.length cp1) rests from hS20.rgAt (i := 0) rfl (at_mid hlen.symm) (at_mid rfl))
        refine OL.q (Q1.lenSl Try.underlying22 (f9) rfl) rfl rfl ?_
        refine OL.qb (Q1.lt rfl rfl) rfl rfl ?_
        intro b3 hb3
        refine OL.nil ?_
        cases b3 with
        | true =>
          replace hb3 := of_decide_eq_true hb3.symm
          refine r_cond_t rfl ?_
          refine r_skip ?_
          refine r_block ?_
          refine r_seq ?_
          refine r_seq ?_
          refine r_region ?_
          refine OL.q (Q1.move rfl) rfl rfl ?_
          refine OL.q (Q1.move rfl) rfl rfl ?_
          obtain ⟨x1, b4, o1, hx1, hr1, hl5, hw1⟩ := Sl.atF (P := Try.prog) f9 Try.underlying22 ti9 encS_len (k := .i64) (n := ((k : Nat) : Int)) (k) (by omega) (by first | assumption | omega)
          refine OL.q (Q1.indexAddr rfl rfl hr1) rfl rfl ?_
          refine OL.q (Q1.load1 ti9 rfl (fun _ e => e ▸ hw1)) rfl rfl ?_
          refine OL.qb (Q1.eqS rfl rfl) rfl rfl ?_
          intro b5 hb4
          refine OL.nil ?_
          cases b5 with
          | true =>
            replace hb4 := eq_of_beq hb4.symm
            refine r_cond_t rfl ?_
            refine r_seq ?_
            refine r_region ?_
            refine OL.q (Q1.move rfl) rfl rfl ?_
            have hsk := rem_skip hg hx1 (by assumption)
            refine OL.q (Q1.addI (((k + 1 : Nat) : Int)) rfl rfl (by omega)) rfl rfl ?_
            refine OL.q (Q1.assign rfl) rfl rfl ?_
            refine OL.nil ?_
            refine r_exit rfl ?_
            exact (ih2 _ _ _ ⟨(v_ES : Value), (ES : List Ed), (k + 1 : Nat), (xs : GS), (ths : List Value), rfl, rfl, hS20, (by first | exact EInv.cast hEInx (by simp) (by rw [rem_pos (by omega), ← hst2, List.drop_drop]; congr 1; omega) | exact EInv.cast hEI rfl hsk.1 | (exfalso; omega)), (by first | exact hnd1 | (rw [show s ++ (rests, []) :: (xs ++ xs2) = (s ++ (rests, []) :: xs) ++ xs2 by simp]; exact hnm) | (exfalso; omega)), (by first | (rw [← hsk.1]; exact hs1) | (rw [rem_pos (by omega), show rests.drop k1 = moreP (pfx x1) (rests.drop k) from by rw [← hst2, List.drop_drop]; congr 1; omega]; simp only [List.length_append]; omega) | (exfalso; omega)), (by first | exact hth | (simp only [List.length_append]; omega) | (exfalso; omega)), (by first | omega | (simp only [List.length_append, List.length_cons, List.length_nil]; omega) | (exfalso; omega)), (by first | omega | (exfalso; omega)), (by first | exact hok1 | (rw [show s ++ (rests, []) :: (xs ++ xs2) = (s ++ (rests, []) :: xs) ++ xs2 by simp]; exact hak) | (exfalso; omega))⟩ (by omega)).sub ⟨rfl, rfl, rfl, rfl, rfl, trivial⟩
          | false =>
            replace hb4 := ne_of_beq_false hb4.symm
            refine r_cond_f rfl ?_
            refine r_skip ?_
            refine r_seq ?_
            refine r_region ?_
            refine OL.q (Q1.move rfl) rfl rfl ?_
            have hxm := List.mem_of_getElem? hx1
            have hxf := hg.fine x1 hxm
            have hxn : x1 ≠ [] := by assumption
            have hfh := fine_head hxf hxn
            obtain ⟨f2, rfl⟩ := deep_succ hd hxm hxn
            have hwd := wdN_le x1 hxn
            have hxl := sum_mem hxm
            have hdn := hdN_le x1
            have hwl := pfx_len hxn
            refine OL.q (Q1.move rfl) rfl rfl ?_
            obtain ⟨x2, b6, o2, hx2, hr2, hl6, hw2⟩ := Sl.atF (P := Try.prog) f9 Try.underlying22 ti9 encS_len (k := .i64) (n := ((k : Nat) : Int)) (k) (by omega) (by first | assumption | omega)
            obtain rfl : x1 = x2 := Option.some.inj (hx1.symm.trans hx2)
            refine OL.q (Q1.indexAddr rfl rfl hr2) rfl rfl ?_
            refine OL.q (Q1.load1 ti9 rfl (fun _ e => e ▸ hw2)) rfl rfl ?_
            refine OL.act rfl rfl (AW.callF cl118 rfl (rrunes_c (w0 := w5)  x1 (by first | assumption | omega)) ?_)
            rintro _ w6 ⟨v2, _, rfl, h1, ⟨b7, hb5, rfl⟩, hm4⟩
            have hS23 := hS20.ext hm4
            have hS24 : St R F w0 w6 [rgR 142 144 bG (s ++ (rests, []) :: xs) (hs ++ (.slice ad1 rests.length cp1) :: ths), accR encE 94 2 v_ES ES, slR encRn [(v2, (Ml.runesM x1))]] := hS20.newSl hm4 h1
            have hle_1 := h1.le
            refine OL.q (Q1.move rfl) rfl rfl ?_
            refine OL.q (Q1.extract rfl rfl) rfl rfl ?_
            refine OL.q (Q1.extract rfl rfl) rfl rfl ?_
            refine OL.q (Q1.assign rfl) rfl rfl ?_
            refine OL.q (Q1.assign rfl) rfl rfl ?_
            refine OL.nil ?_
            refine r_seq ?_
            refine r_region ?_
            refine OL.q (Q1.move rfl) rfl rfl ?_
            refine OL.q (Q1.move rfl) rfl rfl ?_
            have f10 := (show Sl encS w6 (Iv 0 w6.heap.size) (.slice ad1 rests.length cp1) rests from hS24.rgAt (i := 0) rfl (at_mid hlen.symm) (at_mid rfl))
            obtain ⟨x3, b8, o3, hx3, hr3, hl7, hw3⟩ := Sl.atF (P := Try.prog) f10 Try.underlying22 ti9 encS_len (k := .i64) (n := ((k : Nat) : Int)) (k) (by omega) (by first | assumption | omega)
            obtain rfl : x1 = x3 := Option.some.inj (hx1.symm.trans hx3)
            refine OL.q (Q1.indexAddr rfl rfl hr3) rfl rfl ?_
            refine OL.q (Q1.load1 ti9 rfl (fun _ e => e ▸ hw3)) rfl rfl ?_
            refine OL.act rfl rfl (AW.callF cl119 rfl (rpfx_c (w0 := w6)  x1 (1) (by first | omega | assumption) (by first | assumption | omega) (by first | rfl | omega) (by first | exact hxf | exact hg.fine _ (List.mem_of_getElem? (by assumption))) (by first | exact hxn | exact pos_ne hg.sorted (by assumption) (by omega) | exact hxk)) ?_)
            rintro _ w7 ⟨rfl, hm5⟩
            have hS25 := hS24.ext hm5
            refine OL.q (Q1.assign rfl) rfl rfl ?_
            refine OL.nil ?_
            refine r_seq ?_
            refine r_region ?_
            refine OL.q (Q1.assign rfl) rfl rfl ?_
            refine OL.nil ?_
            refine r_seq ?_
            refine r_block ?_
            have hS27 : St R F w0 w7 [rgR 142 144 bG (s ++ (rests, []) :: xs) (hs ++ (.slice ad1 rests.length cp1) :: ths), accR encE 94 2 v_ES ES, slR encRn [(v2, (Ml.runesM x1))], accR encS 9 1 (.slice none 0 0) []] := hS25.newAcc (Mod.refl _ _) Acc.nil (.inl rfl)
            refine r_loop (I := fun m E W => ∃ (k1 : Nat) (v_b2 : Value) (b2 : List Str), E = [(0, ptr bG 0), (1, (.slice ad1 rests.length cp1)), (6, .int .i64 (((nds1.length : Nat) : Int))), (7, v_ES), (8, .int .i64 (((k1 : Nat) : Int))), (9, v2), (11, strV ((Ml.pfx x1))), (12, v_b2)] ∧ m = rests.length - k1 ∧ St R F w0 W [rgR 142 144 bG (s ++ (rests, []) :: xs) (hs ++ (.slice ad1 rests.length cp1) :: ths), accR encE 94 2 v_ES ES, slR encRn [(v2, (Ml.runesM x1))], accR encS 9 1 v_b2 b2] ∧ (SpanInv (pfx x1) (rests.drop k) (k1 - k) b2) ∧ (k ≤ k1 ∧ k1 ≤ rests.length) ∧ (b2.length = k1 - k)) ?_ ?_
            · refine ⟨_, _, ⟨(k : Nat), (.slice none 0 0 : Value), ([] : List Str), rfl, rfl, hS27, (by (rw [Nat.sub_self]; exact SpanInv.start _ _)), (by omega), (by simp)⟩, ⟨rfl, rfl, rfl, rfl, rfl, rfl, rfl, rfl, trivial⟩⟩
            · rintro _ _ w8 ⟨k1, v_b2, b2, rfl, rfl, hS26, hsp, hkk, hbl⟩ ih3
              refine r_seq ?_
              refine r_seq ?_
              refine r_region ?_
              refine OL.q (Q1.move rfl) rfl rfl ?_
              refine OL.q (Q1.move rfl) rfl rfl ?_
              have f11 := (show Sl encS w8 (Iv 0 w8.heap.size) (.slice ad1 rests.length cp1) rests from hS26.rgAt (i := 0) rfl (at_mid hlen.symm) (at_mid rfl))
              refine OL.q (Q1.lenSl Try.underlying22 (f11) rfl) rfl rfl ?_
              refine OL.qb (Q1.lt rfl rfl) rfl rfl ?_
              intro b9 hb6
              refine OL.q (Q1.move rfl) rfl rfl ?_
              cases b9 with
              | true =>
                replace hb6 := of_decide_eq_true hb6.symm
                refine OL.q (Q1.move rfl) rfl rfl ?_
                refine OL.q (Q1.move rfl) rfl rfl ?_
                obtain ⟨x4, b10, o4, hx4, hr4, hl8, hw4⟩ := Sl.atF (P := Try.prog) f11 Try.underlying22 ti9 encS_len (k := .i64) (n := ((k1 : Nat) : Int)) (k1) (by omega) (by first | assumption | omega)
                refine OL.q (Q1.indexAddr rfl rfl hr4) rfl rfl ?_
                refine OL.q (Q1.load1 ti9 rfl (fun _ e => e ▸ hw4)) rfl rfl ?_
                have hxk : x4 ≠ [] := ne_at hg.sorted hx1 hxn (by omega) hx4
                have hx2l := sum_mem (List.mem_of_getElem? hx4)
                refine OL.act rfl rfl (AW.callF cl119 rfl (rpfx_c (w0 := w8)  x4 (1) (by first | omega | assumption) (by first | assumption | omega) (by first | rfl | omega) (by first | exact hxf | exact hg.fine _ (List.mem_of_getElem? (by assumption))) (by first | exact hxn | exact pos_ne hg.sorted (by assumption) (by omega) | exact hxk)) ?_)
                rintro _ w9 ⟨rfl, hm6⟩
                have hS28 := hS26.ext hm6
                refine OL.q (Q1.move rfl) rfl rfl ?_
                refine OL.qb (Q1.eqS rfl rfl) rfl rfl ?_
                intro b11 hb7
                refine OL.q (Q1.pick_t rfl rfl) rfl rfl ?_
                refine OL.nil ?_
                cases b11 with
                | true =>
                  replace hb7 := eq_of_beq hb7.symm
                  refine r_cond_t rfl ?_
                  refine r_skip ?_
                  refine r_block ?_
                  refine r_seq ?_
                  refine r_region ?_
                  refine OL.q (Q1.move rfl) rfl rfl ?_
                  have hpf : (pfx x1).isPrefixOf x4 = true := (by rw [← pfx_eq hxf hxn (hg.fine _ (List.mem_of_getElem? hx4)) hxk]; exact beq_iff_eq.2 (by assumption))
                  have hpl := hp_le hpf rfl
                  refine OL.q (Q1.move rfl) rfl rfl ?_
                  refine OL.q (Q1.move rfl) rfl rfl ?_
                  have f12 := (show Sl encS w9 (Iv 0 w9.heap.size) (.slice ad1 rests.length cp1) rests from hS28.rgAt (i := 0) rfl (at_mid hlen.symm) (at_mid rfl))
                  obtain ⟨x5, b12, o5, hx5, hr5, hl9, hw5⟩ := Sl.atF (P := Try.prog) f12 Try.underlying22 ti9 encS_len (k := .i64) (n := ((k1 : Nat) : Int)) (k1) (by omega) (by first | assumption | omega)
                  obtain rfl : x4 = x5 := Option.some.inj (hx4.symm.trans hx5)
                  refine OL.q (Q1.indexAddr rfl rfl hr5) rfl rfl ?_
                  refine OL.q (Q1.load1 ti9 rfl (fun _ e => e ▸ hw5)) rfl rfl ?_
                  refine OL.q (Q1.move rfl) rfl rfl ?_
                  refine OL.q (Q1.lenS Try.underlying9 rfl) rfl rfl ?_
                  refine OL.q (Q1.sliceS_lo (((Ml.pfx x1)).length) Try.underlying9 rfl rfl (by omega) (by first | assumption | omega)) rfl rfl ?_
                  refine OL.act rfl rfl (AW.buildSlice [strV ((x4.drop (((Ml.pfx x1)).length)))] Try.underlying22 ti9 rfl rfl rfl (by decide) ?_)
                  intro w10 b13 hm7 hb8 hz4 hk3
                  have hS29 := hS28.ext hm7
                  have hl10 := Sl.of_blk (enc := encS) hk3 ([(x4.drop (((Ml.pfx x1)).length))] : List Str) 1 rfl rfl (by unfold maxLen; omega)
                  have hS30 : St R F w0 w10 [rgR 142 144 bG (s ++ (rests, []) :: xs) (hs ++ (.slice ad1 rests.length cp1) :: ths), accR encE 94 2 v_ES ES, slR encRn [(v2, (Ml.runesM x1))], accR encS 9 1 v_b2 b2, slR encS [((.slice (some ⟨b13, 0, none⟩) 1 1), [(x4.drop (((Ml.pfx x1)).length))])]] := hS28.newSlB hm7 hb8 hz4 hl10
                  obtain ⟨g6, f13, hl11, k4⟩ := hS30.accK (i := 3) rfl
                  have f14 := hS30.sl (i := 4) (k := 0) rfl rfl
                  refine OL.act rfl rfl (AW.append f13 Try.underlying22 ti9 rfl encS_len encS_one rfl rfl (f14) (by first | omega | (simp only [List.length_append, List.length_cons, List.length_nil]; omega) | (simp; omega)) (by unfold maxLen; first | omega | (simp only [List.length_append, List.length_cons, List.length_nil]; omega) | (simp; omega)) ?_)
                  intro v3 g5 w11 ha2 hm8 hg2 hz5
                  have hS31 : St R F w0 w11 [rgR 142 144 bG (s ++ (rests, []) :: xs) (hs ++ (.slice ad1 rests.length cp1) :: ths), accR encE 94 2 v_ES ES, slR encRn [(v2, (Ml.runesM x1))], accR encS 9 1 v3 ((b2 ++ [(x4.drop (((Ml.pfx x1)).length))])), slR encS [((.slice (some ⟨b13, 0, none⟩) 1 1), [(x4.drop (((Ml.pfx x1)).length))])]] := k4 _ _ _ _ hm8 ha2 hg2
                  clear hg2
                  refine OL.q (Q1.assign rfl) rfl rfl ?_
                  refine OL.nil ?_
                  refine r_region ?_
                  refine OL.q (Q1.move rfl) rfl rfl ?_
                  refine OL.q (Q1.addI (((k1 + 1 : Nat) : Int)) rfl rfl (by omega)) rfl rfl ?_
                  refine OL.q (Q1.assign rfl) rfl rfl ?_
                  refine OL.nil ?_
                  refine r_inBlock ?_
                  have hS32 : St R F w0 w11 [rgR 142 144 bG (s ++ (rests, []) :: xs) (hs ++ (.slice ad1 rests.length cp1) :: ths), accR encE 94 2 v_ES ES, slR encRn [(v2, (Ml.runesM x1))], accR encS 9 1 v3 ((b2 ++ [(x4.drop (((Ml.pfx x1)).length))]))] := hS31.sel [0, 1, 2, 3] (by rfl) (by decide)
                  exact (ih3 _ _ _ ⟨(k1 + 1 : Nat), (v3 : Value), ((b2 ++ [(x4.drop (((Ml.pfx x1)).length))]) : List Str), rfl, rfl, hS32, (by first | (rw [show k1 + 1 - k = (k1 - k) + 1 from by omega]; exact hsp.nxt rfl (by rw [List.getElem?_drop, show k + (k1 - k) = k1 from by omega]; exact hx4) hpf) | (exfalso; omega)), (by first | omega | (exfalso; omega)), (by first | (simp only [List.length_append, List.length_cons, List.length_nil]; omega) | (exfalso; omega))⟩ (by omega)).sub ⟨rfl, rfl, rfl, rfl, rfl, rfl, rfl, rfl, trivial⟩
                | false =>
                  replace hb7 := ne_of_beq_false hb7.symm
                  refine r_cond_f rfl ?_
                  refine r_exit rfl ?_
                  have f12 := hS28.sl (i := 2) (k := 0) rfl rfl
                  obtain ⟨xl, bl, ol, hxl, hrun1, _, hwl1⟩ := Sl.atF (P := Try.prog) f12 Try.underlying159 ti21 encRn_len (k := .i64) (n := 0) 0 rfl (by omega)
                  obtain rfl : xl = ((hdN x1 : Nat) : Int) := Option.some.inj (hxl.symm.trans hfh.2.2.1)
                  refine r_draw1 (fun i => Nat.beq i 6 || Nat.beq i 8 || Nat.beq i 9) 11 (fun w' => Row w' bl ol (encRn ((hdN x1 : Nat) : Int))) mixed (by kernel_rfl) ?_
                  intro w10 hm7
                  have hS29 := hS28.ext hm7
                  have f13 := hS29.sl (i := 2) (k := 0) rfl rfl
                  refine ⟨(Sl.rowAt f13 Try.underlying159 ti21 encRn_len 0 rfl hxl hrun1), ?_⟩
                  rw [show List.range' 0 (Array.size _) = [0, 1, 2, 3, 4, 5, 6, 7, 8, 9, 10] from rfl]
                  have hspe : (rests.drop k).length ≤ k1 - k ∨ ∃ t, (rests.drop k)[k1 - k]? = some t ∧ (pfx x1).isPrefixOf t = false := by first | exact .inl (by rw [List.length_drop]; omega) | exact .inr ⟨x4, by rw [List.getElem?_drop, show k + (k1 - k) = k1 from by omega]; exact hx4, (by rw [← pfx_eq hxf hxn (hg.fine _ (List.mem_of_getElem? hx4)) hxk]; exact beq_eq_false_iff_ne.2 (by assumption))⟩
                  refine OD.q rfl rfl (Q1.move rfl) rfl rfl ?_
                  refine OD.q rfl rfl (Q1.move rfl) rfl rfl ?_
                  refine OD.q rfl rfl (Q1.indexAddr rfl rfl hrun1) rfl rfl ?_
                  refine OD.q rfl rfl (Q1.load1 ti21 rfl (fun _ hc => hc)) rfl rfl ?_
                  refine OD.q rfl rfl (Q1.move rfl) rfl rfl ?_
                  refine OD.q rfl rfl (Q1.move rfl) rfl rfl ?_
                  obtain ⟨hst, hst2⟩ := hsp.fin hspe
                  have hrem := rem_good hg hd k
                  rw [rem_grp hx1 hxn] at hrem
                  have hx0 : (rests.drop k)[0]? = some x1 := by rw [List.getElem?_drop]; exact hx1
                  have hsf := strip_facts hx0 hrem
                  subst hst
                  rw [rem_grp hx1 hxn] at hEI
                  have hEInx := hEI.next2 hx0
                  have hsm := rem_sum rests k
                  rw [rem_grp hx1 hxn] at hsm hs1
                  have hdk : (rests.drop k).length ≤ rests.length := by rw [List.length_drop]; omega
                  have hS30 : St R F w0 w10 [rgR 142 144 bG (s ++ (rests, []) :: xs) (hs ++ (.slice ad1 rests.length cp1) :: ths), accR encE 94 2 v_ES ES, slR encRn [(v2, (Ml.runesM x1))], slR encS [(v_b2, (stripP (pfx x1) (rests.drop k)))]] := hS29.freeze (i := 3) rfl
                  have hnm := addM_nodup hsf.2.2.1 hsf.1 hsf.2.1 hnd1
                  have hS31 : St R F w0 w10 [accR encE 94 2 v_ES ES, slR encRn [(v2, (Ml.runesM x1))], rgR 142 144 bG (s ++ (rests, []) :: xs) (hs ++ (.slice ad1 rests.length cp1) :: ths), slR encS [(v_b2, (stripP (pfx x1) (rests.drop k)))]] := hS30.sel [1, 2, 0, 3] (by rfl) (by decide)
                  have hS32 : St R F w0 w10 [accR encE 94 2 v_ES ES, slR encRn [(v2, (Ml.runesM x1))], boxR [rgR 142 144 bG (s ++ (rests, []) :: xs) (hs ++ (.slice ad1 rests.length cp1) :: ths), slR encS [(v_b2, (stripP (pfx x1) (rests.drop k)))]]] := St.close (L1 := [accR encE 94 2 v_ES ES, slR encRn [(v2, (Ml.runesM x1))]]) hS31
                  obtain ⟨Fb, hAb, hFb, hkb⟩ := hS32.act (i := 2) rfl
                  refine OD.act rfl rfl rfl rfl (AW.callF cl92 rfl (ih0 f2 (by omega) hAb (fun b hb => ⟨(hFb b hb).2, (hFb b hb).1.2⟩) hS32.rlt (by simp only [List.length_append, List.length_cons]; omega) hsf.2.2.1 hsf.1 hnd1 (by simp only [List.length_append, List.length_cons]; omega) (by omega) hok1) ?_)
                  rintro _ w11 ⟨rfl, hm8, t2, F2b, hB2, hF2b⟩
                  obtain ⟨xs2, hqe, _⟩ := (addM_ok f2 (s ++ (rests, []) :: xs) (stripP (pfx x1) (rests.drop k)) hsf.2.2.1 hsf.1 hsf.2.1 hnd1).tail
                  rw [hqe] at hB2 hEInx hnm
                  have ht2 := rg_len hB2
                  simp only [List.length_append, List.length_cons] at ht2
                  have hS33 : St R F w0 w11 [accR encE 94 2 v_ES ES, slR encRn [(v2, (Ml.runesM x1))], rgR 142 144 bG ((s ++ (rests, []) :: xs) ++ xs2) ((hs ++ (.slice ad1 rests.length cp1) :: ths) ++ t2)] := hkb _ _ _ hm8 hB2 hF2b
                  clear hAb hFb hkb hB2 hF2b
                  have hS34 : St R F w0 w11 [accR encE 94 2 v_ES ES, slR encRn [(v2, (Ml.runesM x1))], rgR 142 144 bG (s ++ (rests, []) :: (xs ++ xs2)) (hs ++ (.slice ad1 rests.length cp1) :: (ths ++ t2))] := hS33.imp (i := 2) rfl (fun F_ h_ => by simpa only [List.append_assoc, List.cons_append] using h_)
                  have hal := addM_len (f2 + 1) (s ++ (rests, []) :: xs) (stripP (pfx x1) (rests.drop k)) hsf.1
                  have hak := addM_short (L := 1000) (f2 + 1) (s ++ (rests, []) :: xs) (stripP (pfx x1) (rests.drop k)) hok1 (by omega)
                  rw [hqe] at hal hak
                  simp only [List.length_append, List.length_cons] at hal
                  have hidx : (addM (f2 + 1) (s ++ (rests, []) :: xs) (stripP (pfx x1) (rests.drop k))).2 < ((s ++ (rests, []) :: xs) ++ xs2).length := by rw [← hqe]; exact addM_lt hsf.2.2.1 hsf.1 hsf.2.1 hnd1
                  simp only [List.length_append, List.length_cons] at hidx
                  have f14 := hS34.sl (i := 1) (k := 0) rfl rfl
                  refine ⟨.inr (Sl.rowAt f14 Try.underlying159 ti21 encRn_len 0 rfl hxl hrun1), ?_⟩
                  refine OD.q rfl rfl (Q1.build (vs := #[(0, (.int .i32 (((hdN x1 : Nat) : Int)) : Value)), (1, (.int .i64 ((((addM (f2 + 1) (s ++ (rests, []) :: xs) (stripP (pfx x1) (rests.drop k))).2 : Nat) : Int)) : Value))]) (v := .agg #[.int .i32 (((hdN x1 : Nat) : Int)), .int .i64 ((((addM (f2 + 1) (s ++ (rests, []) :: xs) (stripP (pfx x1) (rests.drop k))).2 : Nat) : Int))]) rfl (fun _ => by kernel_rfl)) rfl rfl ?_
                  refine OD.act rfl rfl rfl rfl (AW.buildSlice [(.agg #[.int .i32 (((hdN x1 : Nat) : Int)), .int .i64 ((((addM (f2 + 1) (s ++ (rests, []) :: xs) (stripP (pfx x1) (rests.drop k))).2 : Nat) : Int))] : Value)] Try.underlying49 ti94 rfl rfl rfl (by decide) ?_)
                  intro w12 b12 hm9 hb8 hz4 hk3
                  have hS35 := hS34.ext hm9
                  have hl9 := Sl.of_blk (enc := encE) hk3 ([(Ed.mk (((hdN x1 : Nat) : Int)) ((((addM (f2 + 1) (s ++ (rests, []) :: xs) (stripP (pfx x1) (rests.drop k))).2 : Nat) : Int)))] : List Ed) 1 rfl rfl (by unfold maxLen; omega)
                  have hS36 : St R F w0 w12 [accR encE 94 2 v_ES ES, slR encRn [(v2, (Ml.runesM x1))], rgR 142 144 bG (s ++ (rests, []) :: (xs ++ xs2)) (hs ++ (.slice ad1 rests.length cp1) :: (ths ++ t2)), slR encE [((.slice (some ⟨b12, 0, none⟩) 1 1), [(Ed.mk (((hdN x1 : Nat) : Int)) ((((addM (f2 + 1) (s ++ (rests, []) :: xs) (stripP (pfx x1) (rests.drop k))).2 : Nat) : Int)))])]] := hS34.newSlB hm9 hb8 hz4 hl9
                  have f15 := hS36.sl (i := 1) (k := 0) rfl rfl
                  refine ⟨.inr (Sl.rowAt f15 Try.underlying159 ti21 encRn_len 0 rfl hxl hrun1), ?_⟩
                  obtain ⟨g6, f16, hl10, k4⟩ := hS36.accK (i := 0) rfl
                  have f17 := hS36.sl (i := 3) (k := 0) rfl rfl
                  refine OD.act rfl rfl rfl rfl (AW.append f16 Try.underlying49 ti94 rfl encE_len encE_one rfl rfl (f17) (by first | omega | (simp only [List.length_append, List.length_cons, List.length_nil]; omega) | (simp; omega)) (by unfold maxLen; first | omega | (simp only [List.length_append, List.length_cons, List.length_nil]; omega) | (simp; omega)) ?_)
                  intro v3 g5 w13 ha2 hm10 hg2 hz5
                  have hS37 : St R F w0 w13 [accR encE 94 2 v3 ((ES ++ [(Ed.mk (((hdN x1 : Nat) : Int)) ((((addM (f2 + 1) (s ++ (rests, []) :: xs) (stripP (pfx x1) (rests.drop k))).2 : Nat) : Int)))])), slR encRn [(v2, (Ml.runesM x1))], rgR 142 144 bG (s ++ (rests, []) :: (xs ++ xs2)) (hs ++ (.slice ad1 rests.length cp1) :: (ths ++ t2)), slR encE [((.slice (some ⟨b12, 0, none⟩) 1 1), [(Ed.mk (((hdN x1 : Nat) : Int)) ((((addM (f2 + 1) (s ++ (rests, []) :: xs) (stripP (pfx x1) (rests.drop k))).2 : Nat) : Int)))])]] := k4 _ _ _ _ hm10 ha2 hg2
                  have f18 := hS37.sl (i := 1) (k := 0) rfl rfl
                  refine ⟨.inr (Sl.rowAt f18 Try.underlying159 ti21 encRn_len 0 rfl hxl hrun1), ?_⟩
                  clear hg2
                  refine OD.q rfl rfl (Q1.assign rfl) rfl rfl ?_
                  refine OD.nil ?_
                  refine r_inBlock ?_
                  have hS38 : St R F w0 w13 [rgR 142 144 bG (s ++ (rests, []) :: (xs ++ xs2)) (hs ++ (.slice ad1 rests.length cp1) :: (ths ++ t2)), accR encE 94 2 v3 ((ES ++ [(Ed.mk (((hdN x1 : Nat) : Int)) ((((addM (f2 + 1) (s ++ (rests, []) :: xs) (stripP (pfx x1) (rests.drop k))).2 : Nat) : Int)))]))] := hS37.sel [2, 0] (by rfl) (by decide)
                  exact (ih2 _ _ _ ⟨(v3 : Value), ((ES ++ [(Ed.mk (((hdN x1 : Nat) : Int)) ((((addM (f2 + 1) (s ++ (rests, []) :: xs) (stripP (pfx x1) (rests.drop k))).2 : Nat) : Int)))]) : List Ed), (k1 : Nat), ((xs ++ xs2) : GS), ((ths ++ t2) : List Value), rfl, rfl, hS38, (by first | exact EInv.cast hEInx (by simp) (by rw [rem_pos (by omega), ← hst2, List.drop_drop]; congr 1; omega) | exact EInv.cast hEI rfl hsk.1 | (exfalso; omega)), (by first | exact hnd1 | (rw [show s ++ (rests, []) :: (xs ++ xs2) = (s ++ (rests, []) :: xs) ++ xs2 by simp]; exact hnm) | (exfalso; omega)), (by first | (rw [← hsk.1]; exact hs1) | (rw [rem_pos (by omega), show rests.drop k1 = moreP (pfx x1) (rests.drop k) from by rw [← hst2, List.drop_drop]; congr 1; omega]; simp only [List.length_append]; omega) | (exfalso; omega)), (by first | exact hth | (simp only [List.length_append]; omega) | (exfalso; omega)), (by first | omega | (simp only [List.length_append, List.length_cons, List.length_nil]; omega) | (exfalso; omega)), (by first | omega | (exfalso; omega)), (by first | exact hok1 | (rw [show s ++ (rests, []) :: (xs ++ xs2) = (s ++ (rests, []) :: xs) ++ xs2 by simp]; exact hak) | (exfalso; omega))⟩ (by omega)).sub ⟨rfl, rfl, rfl, rfl, rfl, trivial⟩
              | false =>
                replace hb6 := of_decide_eq_false hb6.symm
                refine OL.sk rfl rfl ?_
                refine OL.sk rfl rfl ?_
                refine OL.sk rfl rfl ?_
                refine OL.sk rfl rfl ?_
                refine OL.sk rfl rfl ?_
                refine OL.sk rfl rfl ?_
                refine OL.sk rfl rfl ?_
                refine OL.q (Q1.pick_f rfl rfl) rfl rfl ?_
                refine OL.nil ?_
                refine r_cond_f rfl ?_
                refine r_exit rfl ?_
                have f12 := hS26.sl (i := 2) (k := 0) rfl rfl
                obtain ⟨xl, bl, ol, hxl, hrun1, _, hwl1⟩ := Sl.atF (P := Try.prog) f12 Try.underlying159 ti21 encRn_len (k := .i64) (n := 0) 0 rfl (by omega)
                obtain rfl : xl = ((hdN x1 : Nat) : Int) := Option.some.inj (hxl.symm.trans hfh.2.2.1)
                refine r_draw1 (fun i => Nat.beq i 6 || Nat.beq i 8 || Nat.beq i 9) 11 (fun w' => Row w' bl ol (encRn ((hdN x1 : Nat) : Int))) mixed (by kernel_rfl) ?_
                intro w9 hm6
                have hS28 := hS26.ext hm6
                have f13 := hS28.sl (i := 2) (k := 0) rfl rfl
                refine ⟨(Sl.rowAt f13 Try.underlying159 ti21 encRn_len 0 rfl hxl hrun1), ?_⟩
                rw [show List.range' 0 (Array.size _) = [0, 1, 2, 3, 4, 5, 6, 7, 8, 9, 10] from rfl]
                have hspe : (rests.drop k).length ≤ k1 - k ∨ ∃ t, (rests.drop k)[k1 - k]? = some t ∧ (pfx x1).isPrefixOf t = false := by first | exact .inl (by rw [List.length_drop]; omega) | exact .inr ⟨x4, by rw [List.getElem?_drop, show k + (k1 - k) = k1 from by omega]; exact hx4, (by rw [← pfx_eq hxf hxn (hg.fine _ (List.mem_of_getElem? hx4)) hxk]; exact beq_eq_false_iff_ne.2 (by assumption))⟩
                refine OD.q rfl rfl (Q1.move rfl) rfl rfl ?_
                refine OD.q rfl rfl (Q1.move rfl) rfl rfl ?_
                refine OD.q rfl rfl (Q1.indexAddr rfl rfl hrun1) rfl rfl ?_
                refine OD.q rfl rfl (Q1.load1 ti21 rfl (fun _ hc => hc)) rfl rfl ?_
                refine OD.q rfl rfl (Q1.move rfl) rfl rfl ?_
                refine OD.q rfl rfl (Q1.move rfl) rfl rfl ?_
                obtain ⟨hst, hst2⟩ := hsp.fin hspe
                have hrem := rem_good hg hd k
                rw [rem_grp hx1 hxn] at hrem
                have hx0 : (rests.drop k)[0]? = some x1 := by rw [List.getElem?_drop]; exact hx1
                have hsf := strip_facts hx0 hrem
                subst hst
                rw [rem_grp hx1 hxn] at hEI
                have hEInx := hEI.next2 hx0
                have hsm := rem_sum rests k
                rw [rem_grp hx1 hxn] at hsm hs1
                have hdk : (rests.drop k).length ≤ rests.length := by rw [List.length_drop]; omega
                have hS29 : St R F w0 w9 [rgR 142 144 bG (s ++ (rests, []) :: xs) (hs ++ (.slice ad1 rests.length cp1) :: ths), accR encE 94 2 v_ES ES, slR encRn [(v2, (Ml.runesM x1))], slR encS [(v_b2, (stripP (pfx x1) (rests.drop k)))]] := hS28.freeze (i := 3) rfl
                have hnm := addM_nodup hsf.2.2.1 hsf.1 hsf.2.1 hnd1
                have hS30 : St R F w0 w9 [accR encE 94 2 v_ES ES, slR encRn [(v2, (Ml.runesM x1))], rgR 142 144 bG (s ++ (rests, []) :: xs) (hs ++ (.slice ad1 rests.length cp1) :: ths), slR encS [(v_b2, (stripP (pfx x1) (rests.drop k)))]] := hS29.sel [1, 2, 0, 3] (by rfl) (by decide)
                have hS31 : St R F w0 w9 [accR encE 94 2 v_ES ES, slR encRn [(v2, (Ml.runesM x1))], boxR [rgR 142 144 bG (s ++ (rests, []) :: xs) (hs ++ (.slice ad1 rests.length cp1) :: ths), slR encS [(v_b2, (stripP (pfx x1) (rests.drop k)))]]] := St.close (L1 := [accR encE 94 2 v_ES ES, slR encRn [(v2, (Ml.runesM x1))]]) hS30
                obtain ⟨Fb, hAb, hFb, hkb⟩ := hS31.act (i := 2) rfl
                refine OD.act rfl rfl rfl rfl (AW.callF cl92 rfl (ih0 f2 (by omega) hAb (fun b hb => ⟨(hFb b hb).2, (hFb b hb).1.2⟩) hS31.rlt (by simp only [List.length_append, List.length_cons]; omega) hsf.2.2.1 hsf.1 hnd1 (by simp only [List.length_append, List.length_cons]; omega) (by omega) hok1) ?_)
                rintro _ w10 ⟨rfl, hm7, t2, F2b, hB2, hF2b⟩
                obtain ⟨xs2, hqe, _⟩ := (addM_ok f2 (s ++ (rests, []) :: xs) (stripP (pfx x1) (rests.drop k)) hsf.2.2.1 hsf.1 hsf.2.1 hnd1).tail
                rw [hqe] at hB2 hEInx hnm
                have ht2 := rg_len hB2
                simp only [List.length_append, List.length_cons] at ht2
                have hS32 : St R F w0 w10 [accR encE 94 2 v_ES ES, slR encRn [(v2, (Ml.runesM x1))], rgR 142 144 bG ((s ++ (rests, []) :: xs) ++ xs2) ((hs ++ (.slice ad1 rests.length cp1) :: ths) ++ t2)] := hkb _ _ _ hm7 hB2 hF2b
                clear hAb hFb hkb hB2 hF2b
                have hS33 : St R F w0 w10 [accR encE 94 2 v_ES ES, slR encRn [(v2, (Ml.runesM x1))], rgR 142 144 bG (s ++ (rests, []) :: (xs ++ xs2)) (hs ++ (.slice ad1 rests.length cp1) :: (ths ++ t2))] := hS32.imp (i := 2) rfl (fun F_ h_ => by simpa only [List.append_assoc, List.cons_append] using h_)
                have hal := addM_len (f2 + 1) (s ++ (rests, []) :: xs) (stripP (pfx x1) (rests.drop k)) hsf.1
                have hak := addM_short (L := 1000) (f2 + 1) (s ++ (rests, []) :: xs) (stripP (pfx x1) (rests.drop k)) hok1 (by omega)
                rw [hqe] at hal hak
                simp only [List.length_append, List.length_cons] at hal
                have hidx : (addM (f2 + 1) (s ++ (rests, []) :: xs) (stripP (pfx x1) (rests.drop k))).2 < ((s ++ (rests, []) :: xs) ++ xs2).length := by rw [← hqe]; exact addM_lt hsf.2.2.1 hsf.1 hsf.2.1 hnd1
                simp only [List.length_append, List.length_cons] at hidx
                have f14 := hS33.sl (i := 1) (k := 0) rfl rfl
                refine ⟨.inr (Sl.rowAt f14 Try.underlying159 ti21 encRn_len 0 rfl hxl hrun1), ?_⟩
                refine OD.q rfl rfl (Q1.build (vs := #[(0, (.int .i32 (((hdN x1 : Nat) : Int)) : Value)), (1, (.int .i64 ((((addM (f2 + 1) (s ++ (rests, []) :: xs) (stripP (pfx x1) (rests.drop k))).2 : Nat) : Int)) : Value))]) (v := .agg #[.int .i32 (((hdN x1 : Nat) : Int)), .int .i64 ((((addM (f2 + 1) (s ++ (rests, []) :: xs) (stripP (pfx x1) (rests.drop k))).2 : Nat) : Int))]) rfl (fun _ => by kernel_rfl)) rfl rfl ?_
                refine OD.act rfl rfl rfl rfl (AW.buildSlice [(.agg #[.int .i32 (((hdN x1 : Nat) : Int)), .int .i64 ((((addM (f2 + 1) (s ++ (rests, []) :: xs) (stripP (pfx x1) (rests.drop k))).2 : Nat) : Int))] : Value)] Try.underlying49 ti94 rfl rfl rfl (by decide) ?_)
                intro w11 b10 hm8 hb7 hz4 hk3
                have hS34 := hS33.ext hm8
                have hl8 := Sl.of_blk (enc := encE) hk3 ([(Ed.mk (((hdN x1 : Nat) : Int)) ((((addM (f2 + 1) (s ++ (rests, []) :: xs) (stripP (pfx x1) (rests.drop k))).2 : Nat) : Int)))] : List Ed) 1 rfl rfl (by unfold maxLen; omega)
                have hS35 : St R F w0 w11 [accR encE 94 2 v_ES ES, slR encRn [(v2, (Ml.runesM x1))], rgR 142 144 bG (s ++ (rests, []) :: (xs ++ xs2)) (hs ++ (.slice ad1 rests.length cp1) :: (ths ++ t2)), slR encE [((.slice (some ⟨b10, 0, none⟩) 1 1), [(Ed.mk (((hdN x1 : Nat) : Int)) ((((addM (f2 + 1) (s ++ (rests, []) :: xs) (stripP (pfx x1) (rests.drop k))).2 : Nat) : Int)))])]] := hS33.newSlB hm8 hb7 hz4 hl8
                have f15 := hS35.sl (i := 1) (k := 0) rfl rfl
                refine ⟨.inr (Sl.rowAt f15 Try.underlying159 ti21 encRn_len 0 rfl hxl hrun1), ?_⟩
                obtain ⟨g6, f16, hl9, k4⟩ := hS35.accK (i := 0) rfl
                have f17 := hS35.sl (i := 3) (k := 0) rfl rfl
                refine OD.act rfl rfl rfl rfl (AW.append f16 Try.underlying49 ti94 rfl encE_len encE_one rfl rfl (f17) (by first | omega | (simp only [List.length_append, List.length_cons, List.length_nil]; omega) | (simp; omega)) (by unfold maxLen; first | omega | (simp only [List.length_append, List.length_cons, List.length_nil]; omega) | (simp; omega)) ?_)
                intro v3 g5 w12 ha2 hm9 hg2 hz5
                have hS36 : St R F w0 w12 [accR encE 94 2 v3 ((ES ++ [(Ed.mk (((hdN x1 : Nat) : Int)) ((((addM (f2 + 1) (s ++ (rests, []) :: xs) (stripP (pfx x1) (rests.drop k))).2 : Nat) : Int)))])), slR encRn [(v2, (Ml.runesM x1))], rgR 142 144 bG (s ++ (rests, []) :: (xs ++ xs2)) (hs ++ (.slice ad1 rests.length cp1) :: (ths ++ t2)), slR encE [((.slice (some ⟨b10, 0, none⟩) 1 1), [(Ed.mk (((hdN x1 : Nat) : Int)) ((((addM (f2 + 1) (s ++ (rests, []) :: xs) (stripP (pfx x1) (rests.drop k))).2 : Nat) : Int)))])]] := k4 _ _ _ _ hm9 ha2 hg2
                have f18 := hS36.sl (i := 1) (k := 0) rfl rfl
                refine ⟨.inr (Sl.rowAt f18 Try.underlying159 ti21 encRn_len 0 rfl hxl hrun1), ?_⟩
                clear hg2
                refine OD.q rfl rfl (Q1.assign rfl) rfl rfl ?_
                refine OD.nil ?_
                refine r_inBlock ?_
                have hS37 : St R F w0 w12 [rgR 142 144 bG (s ++ (rests, []) :: (xs ++ xs2)) (hs ++ (.slice ad1 rests.length cp1) :: (ths ++ t2)), accR encE 94 2 v3 ((ES ++ [(Ed.mk (((hdN x1 : Nat) : Int)) ((((addM (f2 + 1) (s ++ (rests, []) :: xs) (stripP (pfx x1) (rests.drop k))).2 : Nat) : Int)))]))] := hS36.sel [2, 0] (by rfl) (by decide)
                exact (ih2 _ _ _ ⟨(v3 : Value), ((ES ++ [(Ed.mk (((hdN x1 : Nat) : Int)) ((((addM (f2 + 1) (s ++ (rests, []) :: xs) (stripP (pfx x1) (rests.drop k))).2 : Nat) : Int)))]) : List Ed), (k1 : Nat), ((xs ++ xs2) : GS), ((ths ++ t2) : List Value), rfl, rfl, hS37, (by first | exact EInv.cast hEInx (by simp) (by rw [rem_pos (by omega), ← hst2, List.drop_drop]; congr 1; omega) | exact EInv.cast hEI rfl hsk.1 | (exfalso; omega)), (by first | exact hnd1 | (rw [show s ++ (rests, []) :: (xs ++ xs2) = (s ++ (rests, []) :: xs) ++ xs2 by simp]; exact hnm) | (exfalso; omega)), (by first | (rw [← hsk.1]; exact hs1) | (rw [rem_pos (by omega), show rests.drop k1 = moreP (pfx x1) (rests.drop k) from by rw [← hst2, List.drop_drop]; congr 1; omega]; simp only [List.length_append]; omega) | (exfalso; omega)), (by first | exact hth | (simp only [List.length_append]; omega) | (exfalso; omega)), (by first | omega | (simp only [List.length_append, List.length_cons, List.length_nil]; omega) | (exfalso; omega)), (by first | omega | (exfalso; omega)), (by first | exact hok1 | (rw [show s ++ (rests, []) :: (xs ++ xs2) = (s ++ (rests, []) :: xs) ++ xs2 by simp]; exact hak) | (exfalso; omega))⟩ (by omega)).sub ⟨rfl, rfl, rfl, rfl, rfl, trivial⟩
        | false =>
          replace hb3 := of_decide_eq_false hb3.symm
          refine r_cond_f rfl ?_
          refine r_exit rfl ?_
          refine r_seq ?_
          refine r_region ?_
          obtain ⟨⟨vN2, nds2⟩, hS23⟩ := hS20.exo (i := 0) rfl
          obtain ⟨hmap2, hS24⟩ := hS23.and (i := 0) rfl
          change St R F w0 w5 [boxR [bkR bG [vN2] 142, accR encRd 144 2 vN2 nds2, rrR nds2 ((s ++ (rests, []) :: xs))], accR encE 94 2 v_ES ES] at hS24
          change nds2.map (fun n : RNd => n.r.val) = (hs ++ (.slice ad1 rests.length cp1) :: ths) at hmap2
          have hS25 : St R F w0 w5 [accR encE 94 2 v_ES ES, boxR [bkR bG [vN2] 142, accR encRd 144 2 vN2 nds2, rrR nds2 ((s ++ (rests, []) :: xs))]] := hS24.sel [1, 0] (by rfl) (by decide)
          have hS26 : St R F w0 w5 [accR encE 94 2 v_ES ES, boxR [bkR bG [vN2] 142, accR encRd 144 2 vN2 nds2, rrR nds2 ((s ++ (rests, []) :: xs))]] := hS25
          have hS27 : St R F w0 w5 [accR encE 94 2 v_ES ES, bkR bG [vN2] 142, accR encRd 144 2 vN2 nds2, rrR nds2 ((s ++ (rests, []) :: xs))] := St.open (L1 := [accR encE 94 2 v_ES ES]) hS26
          have hrl2 : nds2.length = ((s ++ (rests, []) :: xs)).length := hS27.rrLen (i := 3) rfl
          have hn2 : nds1.length < nds2.length := by rw [hrl2]; simp only [List.length_append, List.length_cons]; omega
          refine OL.q (Q1.move rfl) rfl rfl ?_
          refine OL.q (Q1.nilCheckP rfl) rfl rfl ?_
          refine OL.q (Q1.fieldAddr fl142_0 rfl) rfl rfl ?_
          have f10 := hS27.bk (i := 1) rfl
          refine OL.q (Q1.load1 ti140 rfl (fun _ e => e ▸ (f10.cell 0 _ rfl))) rfl rfl ?_
          refine OL.q (Q1.move rfl) rfl rfl ?_
          refine OL.q (Q1.move rfl) rfl rfl ?_
          obtain ⟨g5, f11, hl5, k4⟩ := hS27.accK (i := 2) rfl
          obtain ⟨hr1, x1, hx1⟩ := Acc.at (P := Try.prog) f11 Try.underlying140 ti144 (k := .i64) (n := ((nds1.length : Nat) : Int)) (nds1.length) (by omega) (by first | assumption | omega | (simp; done))
          refine OL.q (Q1.indexAddr rfl rfl hr1) rfl rfl ?_
          refine OL.q (Q1.fieldAddr fl144_1 rfl) rfl rfl ?_
          obtain ⟨g6, f12, hl7, k5⟩ := hS27.accK (i := 0) rfl
          obtain ⟨ad3, cp3, hv3⟩ := f12.shape
          subst hv3
          refine OL.act rfl rfl (AW.storeA f11 encRd_len (i := nds1.length) (o := 1) hx1 ((RNd.mk x1.r (SH.mk ad3 ES.length cp3))) ti49 rfl (by first | omega | rfl) rfl rfl rfl rfl (by decide) (by first | rfl | simp [encRd]) ?_)
          intro w6 hm4 hz4 ha2
          have hl6 : (nds2.set nds1.length ((RNd.mk x1.r (SH.mk ad3 ES.length cp3)))).length = nds2.length := List.length_set
          have hS28 : St R F w0 w6 [accR encE 94 2 ((.slice ad3 ES.length cp3)) ES, bkR bG [vN2] 142, accR encRd 144 2 vN2 ((nds2.set nds1.length ((RNd.mk x1.r (SH.mk ad3 ES.length cp3))))), rrR nds2 ((s ++ (rests, []) :: xs))] := k4 _ _ _ _ hm4 ha2 (.inl rfl)
          refine OL.nil ?_
          refine r_seq ?_
          refine r_region ?_
          refine OL.q (Q1.move rfl) rfl rfl ?_
          refine OL.q (Q1.assign rfl) rfl rfl ?_
          refine OL.nil ?_
          refine r_ret1 Try.func92 rfl rfl ?_
          have hr0 : remR rests k = [] := rem_end (by omega)
          rw [hr0] at hEI
          have hAD := addM_miss hfi hEI.fin
          have hS29 : St R F w0 w6 [bkR bG [vN2] 142, accR encRd 144 2 vN2 ((nds2.set nds1.length ((RNd.mk x1.r (SH.mk ad3 ES.length cp3))))), rrR nds2 ((s ++ (rests, []) :: xs)), accR encE 94 2 ((.slice ad3 ES.length cp3)) ES] := hS28.sel [1, 2, 3, 0] (by rfl) (by decide)
          have hS30 : St R F w0 w6 [bkR bG [vN2] 142, accR encRd 144 2 vN2 ((nds2.set nds1.length ((RNd.mk x1.r (SH.mk ad3 ES.length cp3))))), boxR [rrR nds2 ((s ++ (rests, []) :: xs)), accR encE 94 2 ((.slice ad3 ES.length cp3)) ES]] := St.close (L1 := [bkR bG [vN2] 142, accR encRd 144 2 vN2 ((nds2.set nds1.length ((RNd.mk x1.r (SH.mk ad3 ES.length cp3)))))]) hS29
          have hns : nds1.length = s.length := by omega
          have hS31 : St R F w0 w6 [bkR bG [vN2] 142, accR encRd 144 2 vN2 ((nds2.set nds1.length ((RNd.mk x1.r (SH.mk ad3 ES.length cp3))))), rrR (nds2.set nds1.length ((RNd.mk x1.r (SH.mk ad3 ES.length cp3)))) (s ++ (rests, ES) :: xs)] := hS30.imp (i := 2) rfl (fun F_ h_ => by have e_ := rr_set (hd := (SH.mk ad3 ES.length cp3)) hx1 (at_mid (b := xs) hns) rfl h_; rw [set_mid hns] at e_; exact e_)
          have hS32 : St R F w0 w6 [boxR [bkR bG [vN2] 142, accR encRd 144 2 vN2 ((nds2.set nds1.length ((RNd.mk x1.r (SH.mk ad3 ES.length cp3))))), rrR (nds2.set nds1.length ((RNd.mk x1.r (SH.mk ad3 ES.length cp3)))) (s ++ (rests, ES) :: xs)]] := St.close (L1 := []) hS31
          have hS33 : St R F w0 w6 [andR (((nds2.set nds1.length ((RNd.mk x1.r (SH.mk ad3 ES.length cp3))))).map (fun n : RNd => n.r.val) = (hs ++ (.slice ad1 rests.length cp1) :: ths)) (boxR [bkR bG [vN2] 142, accR encRd 144 2 vN2 ((nds2.set nds1.length ((RNd.mk x1.r (SH.mk ad3 ES.length cp3))))), rrR (nds2.set nds1.length ((RNd.mk x1.r (SH.mk ad3 ES.length cp3)))) (s ++ (rests, ES) :: xs)])] := hS32.imp (i := 0) rfl (fun F_ h_ => ⟨by rw [map_set_r hx1]; exact hmap2, h_⟩)
          have hS34 : St R F w0 w6 [rgR 142 144 bG ((s ++ (rests, ES) :: xs)) ((hs ++ (.slice ad1 rests.length cp1) :: ths))] := hS33.exi (vN2, (nds2.set nds1.length ((RNd.mk x1.r (SH.mk ad3 ES.length cp3))))) (i := 0) rfl
          obtain ⟨hmF, F2, hA2, hF2⟩ := hS34.fin
          exact Ret.mk ⟨by rw [hAD]; simp [hrl1], hmF, (.slice ad1 rests.length cp1) :: ths, F2, by rw [hAD]; exact hA2, hF2⟩
set_option maxRecDepth 20000 in
set_option maxHeartbeats 8000000 in
theorem r8build_c {R : Nat → Prop} {w0 : World} {v_words : Value} {words : List Str} (h_words : Sl encS w0 R v_words words) (hR : ∀ b, R b → b < w0.heap.size) (hok : SOk words) (hsz : words.length ≤ 1000000) :
    Calls Try.prog 59 #[v_words] w0 (Ret fun rv w1 => ∃ u0, rv = .tuple #[u0, .int .i64 (goodL words)] ∧ Ext w0 w1 ∧ ((goodL words ≠ 0 ∧ u0 = .pointer none) ∨ (goodL words = 0 ∧ ∃ bG hs F2, u0 = ptr bG 0 ∧ (rgR 142 144 (R := R) bG (graphB words) hs).p F2 w1 ∧ ∀ b, F2 b → b < w1.heap.size ∧ w0.heap.size ≤ b))) := by
  have hS0 := St.start w0 hR
  have hle1 := h_words.le
  have h_iv := h_words.mono (F' := Iv 0 w0.heap.size) (fun b hb => ⟨Nat.zero_le _, hR b hb⟩)
  refine calls_enter Try.func59 rfl Try.ntmps59 rfl ?_
  refine r_seq ?_
  refine r_region ?_
  refine OL.q (Q1.assign rfl) rfl rfl ?_
  refine OL.q (Q1.assign rfl) rfl rfl ?_
  refine OL.nil ?_
  refine r_seq ?_
  refine r_region ?_
  refine OL.q (Q1.move rfl) rfl rfl ?_
  refine OL.act rfl rfl (AW.callF cl85 rfl (r4good_c (w0 := w0) (l := words) h_iv hok) ?_)
  rintro _ w1 ⟨rfl, hm1⟩
  have hS1 := hS0.ext hm1
  have := goodL_range words
  refine OL.q (Q1.assign rfl) rfl rfl ?_
  refine OL.nil ?_
  refine r_seq ?_
  refine r_seq ?_
  refine r_region ?_
  refine OL.q (Q1.move rfl) rfl rfl ?_
  refine OL.qb (Q1.ne rfl rfl) rfl rfl ?_
  intro b1 hb1
  refine OL.nil ?_
  cases b1 with
  | true =>
    replace hb1 := bne_iff_ne.1 hb1.symm
    refine r_cond_t rfl ?_
    refine r_seq ?_
    refine r_region ?_
    refine OL.q (Q1.move rfl) rfl rfl ?_
    refine OL.q (Q1.assign rfl) rfl rfl ?_
    refine OL.q (Q1.assign rfl) rfl rfl ?_
    refine OL.nil ?_
    refine r_ret2 Try.func59 rfl rfl rfl ?_
    exact Ret.mk ⟨_, rfl, hS1.mod, .inl ⟨by assumption, rfl⟩⟩
  | false =>
    replace hb1 := bne_eq_false_iff_eq.1 hb1.symm
    refine r_cond_f rfl ?_
    refine r_skip ?_
    refine r_seq ?_
    refine r_region ?_
    refine OL.q (Q1.build (vs := #[]) (v := .agg #[.slice none 0 0]) rfl (fun _ => by kernel_rfl)) rfl rfl ?_
    have hg0 : goodL words = 0 := by assumption
    have hgd := good_deep hg0
    have hgs := good_sum hg0
    refine OL.act rfl rfl (AW.box [.slice none 0 0] rfl rfl ?_)
    intro w2 b2 hm2 hb2 hz1 hk1
    have hS2 := hS1.ext hm2
    have hS3 : St R (fun _ => False) w0 w2 [bkR b2 [.slice none 0 0] 142] := hS1.newBk hm2 hb2 hk1
    refine OL.q (Q1.assign rfl) rfl rfl ?_
    refine OL.nil ?_
    refine r_seq ?_
    refine r_region ?_
    refine OL.q (Q1.move rfl) rfl rfl ?_
    refine OL.q (Q1.move rfl) rfl rfl ?_
    have hS4 : St R (fun _ => False) w0 w2 [bkR b2 [.slice none 0 0] 142, accR encRd 144 2 (.slice none 0 0) []] := hS3.newAcc (Mod.refl _ _) Acc.nil (.inl rfl)
    have hS5 : St R (fun _ => False) w0 w2 [bkR b2 [.slice none 0 0] 142, accR encRd 144 2 (.slice none 0 0) [], rrR [] []] := hS4.new (Mod.refl _ _) (F := fun _ => False) (All2.nil : RR _ _ [] []) (fun _ h => h.elim)
    have hS6 : St R (fun _ => False) w0 w2 [boxR [bkR b2 [.slice none 0 0] 142, accR encRd 144 2 (.slice none 0 0) [], rrR [] []]] := St.close (L1 := []) hS5
    have hS7 : St R (fun _ => False) w0 w2 [andR ([].map (fun n : RNd => n.r.val) = []) (boxR [bkR b2 [.slice none 0 0] 142, accR encRd 144 2 (.slice none 0 0) [], rrR [] []])] := hS6.imp (i := 0) rfl (fun F_ h_ => ⟨rfl, h_⟩)
    have hS8 : St R (fun _ => False) w0 w2 [rgR 142 144 b2 [] []] := hS7.exi (.slice none 0 0, []) (i := 0) rfl
    have hS9 : St R (fun _ => False) w0 w2 [rgR 142 144 b2 [] [], slR encS [(v_words, words)]] := hS8.newFar h_words (fun _ hb => hb)
    have hS10 : St R (fun _ => False) w0 w2 [boxR [rgR 142 144 b2 [] [], slR encS [(v_words, words)]]] := St.close (L1 := []) hS9
    obtain ⟨Fb, hAb, hFb, hkb⟩ := hS10.act (i := 0) rfl
    refine OL.act rfl rfl (AW.callF cl92 rfl (r8add_c 12 hAb (fun b hb => ⟨(hFb b hb).2, (hFb b hb).1.2⟩) hS10.rlt rfl hgd.2 hgd.1 (by simp [names]) (by simp only [List.length_nil]; omega) (by omega) (by simp)) ?_)
    rintro _ w3 ⟨rfl, hm3, t2, F2b, hB2, hF2b⟩
    rw [graphB_add] at hB2
    have hS11 : St R (fun _ => False) w0 w3 [rgR 142 144 b2 (graphB words) ([] ++ t2)] := hkb _ _ _ hm3 hB2 hF2b
    refine OL.nil ?_
    refine r_seq ?_
    refine r_region ?_
    refine OL.q (Q1.move rfl) rfl rfl ?_
    refine OL.q (Q1.assign rfl) rfl rfl ?_
    refine OL.q (Q1.assign rfl) rfl rfl ?_
    refine OL.nil ?_
    refine r_ret2 Try.func59 rfl rfl rfl ?_
    obtain ⟨hmF, F2, hA2, hF2⟩ := hS11.fin
    exact Ret.mk ⟨_, by rw [hg0], hmF, .inr ⟨hg0, _, _, F2, rfl, hA2, fun b hb => ⟨(hF2 b hb).1, (hF2 b hb).2.resolve_left id⟩⟩⟩
set_option maxRecDepth 20000 in
set_option maxHeartbeats 4000000 in
theorem r8final_c {w0 : World}  {vN_g : Value} {lo_g hi_g b_g : Nat} {nds_g : List RNd} {g : GS} (n : Int) (hrw_g : Rw w0 lo_g hi_g b_g [vN_g]) (hsl_g : Sl encRd w0 (Iv lo_g hi_g) vN_g nds_g) (hrr_g : RR w0 (Iv 0 hi_g) nds_g g) (hgn_g : nds_g.length ≤ 1000000 ∧ hi_g ≤ w0.heap.size) (h_n : I64 n) :
    Calls Try.prog 94 #[ptr b_g 0, .int .i64 n] w0 (Ret fun rv w1 => (∃ rb : Bool, rb = ((nodeAt (gnOf g) n).1) ∧ rv = .bool rb) ∧ Ext w0 w1) := by
  have hE0 : Ext w0 w0 := Mod.refl _ _
  have hle1 := hsl_g.le
  have hgl := (All2.get hrr_g).1
  obtain ⟨hgn1, hgn2⟩ := hgn_g
  refine calls_enter Try.func94 rfl Try.ntmps94 rfl ?_
  refine r_seq ?_
  refine r_region ?_
  refine OL.q (Q1.assign rfl) rfl rfl ?_
  refine OL.nil ?_
  refine r_seq ?_
  refine r_region ?_
  refine OL.q (Q1.move rfl) rfl rfl ?_
  refine OL.qb (Q1.ge rfl rfl) rfl rfl ?_
  intro b1 hb1
  refine OL.q (Q1.move rfl) rfl rfl ?_
  cases b1 with
  | true =>
    replace hb1 := of_decide_eq_true hb1.symm
    refine OL.q (Q1.move rfl) rfl rfl ?_
    refine OL.q (Q1.move rfl) rfl rfl ?_
    refine OL.q (Q1.nilCheckP rfl) rfl rfl ?_
    refine OL.q (Q1.fieldAddr fl142_0 rfl) rfl rfl ?_
    refine OL.q (Q1.load1 ti140 rfl (fun _ e => e ▸ (hrw_g.cell 0 _ rfl))) rfl rfl ?_
    refine OL.q (Q1.lenSl Try.underlying140 (hsl_g) rfl) rfl rfl ?_
    refine OL.qb (Q1.lt rfl rfl) rfl rfl ?_
    intro b2 hb2
    refine OL.q (Q1.pick_t rfl rfl) rfl rfl ?_
    refine OL.q (Q1.move rfl) rfl rfl ?_
    cases b2 with
    | true =>
      replace hb2 := of_decide_eq_true hb2.symm
      refine OL.q (Q1.move rfl) rfl rfl ?_
      refine OL.q (Q1.nilCheckP rfl) rfl rfl ?_
      refine OL.q (Q1.fieldAddr fl142_0 rfl) rfl rfl ?_
      refine OL.q (Q1.load1 ti140 rfl (fun _ e => e ▸ (hrw_g.cell 0 _ rfl))) rfl rfl ?_
      refine OL.q (Q1.move rfl) rfl rfl ?_
      obtain ⟨x1, b3, o1, hx1, hr1, hl1, hu1, hw1⟩ := Sl.at' (P := Try.prog) hsl_g Try.underlying140 ti144 encRd_len (k := .i64) (n := n) ((n).toNat) (by omega) (by first | assumption | omega)
      refine OL.q (Q1.indexAddr rfl rfl hr1) rfl rfl ?_
      refine OL.q (Q1.fieldAddr fl144_0 rfl) rfl rfl ?_
      have hr2 := hw1.sub 0 1 (Nat.le_of_ble_eq_true rfl)
      obtain ⟨gx1, hgx1, hn1, hn2⟩ := RR.at hrr_g hx1
      replace hn1 : Sl encS w0 (Iv 0 hi_g) x1.r.val gx1.1 := hn1
      have hle_1 := hn1.le
      refine OL.q (Q1.load1 ti22 rfl (fun _ e => e ▸ hr2)) rfl rfl ?_
      refine OL.q (Q1.lenSl Try.underlying22 (hn1) rfl) rfl rfl ?_
      refine OL.qb (Q1.gt rfl rfl) rfl rfl ?_
      intro b4 hb3
      refine OL.q (Q1.pick_t rfl rfl) rfl rfl ?_
      refine OL.q (Q1.move rfl) rfl rfl ?_
      cases b4 with
      | true =>
        replace hb3 := of_decide_eq_true hb3.symm
        refine OL.q (Q1.move rfl) rfl rfl ?_
        refine OL.q (Q1.nilCheckP rfl) rfl rfl ?_
        refine OL.q (Q1.fieldAddr fl142_0 rfl) rfl rfl ?_
        refine OL.q (Q1.load1 ti140 rfl (fun _ e => e ▸ (hrw_g.cell 0 _ rfl))) rfl rfl ?_
        refine OL.q (Q1.move rfl) rfl rfl ?_
        obtain ⟨x2, b5, o2, hx2, hr3, hl2, hu2, hw2⟩ := Sl.at' (P := Try.prog) hsl_g Try.underlying140 ti144 encRd_len (k := .i64) (n := n) ((n).toNat) (by omega) (by first | assumption | omega)
        obtain rfl : x1 = x2 := Option.some.inj (hx1.symm.trans hx2)
        refine OL.q (Q1.indexAddr rfl rfl hr3) rfl rfl ?_
        refine OL.q (Q1.fieldAddr fl144_0 rfl) rfl rfl ?_
        have hr4 := hw2.sub 0 1 (Nat.le_of_ble_eq_true rfl)
        obtain ⟨gx2, hgx2, hn3, hn4⟩ := RR.at hrr_g hx2
        obtain rfl : gx1 = gx2 := Option.some.inj (hgx1.symm.trans hgx2)
        replace hn3 : Sl encS w0 (Iv 0 hi_g) x1.r.val gx1.1 := hn3
        have hle_2 := hn3.le
        refine OL.q (Q1.load1 ti22 rfl (fun _ e => e ▸ hr4)) rfl rfl ?_
        obtain ⟨x3, b6, o3, hx3, hr5, hl3, hu3, hw3⟩ := Sl.at' (P := Try.prog) hn3 Try.underlying22 ti9 encS_len (k := .i64) (n := 0) (0) (by omega) (by first | assumption | omega)
        refine OL.q (Q1.indexAddr rfl rfl hr5) rfl rfl ?_
        refine OL.q (Q1.load1 ti9 rfl (fun _ e => e ▸ hw3)) rfl rfl ?_
        refine OL.qb (Q1.eqS rfl rfl) rfl rfl ?_
        intro b7 hb4
        refine OL.q (Q1.pick_t rfl rfl) rfl rfl ?_
        refine OL.q (Q1.assign rfl) rfl rfl ?_
        refine OL.nil ?_
        refine r_ret1 Try.func94 rfl rfl ?_
        exact Ret.mk ⟨⟨_, (by first | (rw [node_no (by omega)]; done) | (rw [node_yes (by omega) hgx1]; exact fin_head0 (by assumption) (by assumption)) | (rw [node_yes (by omega) hgx1]; exact fin_nil (by omega)) | (exfalso; omega)), rfl⟩, hE0⟩
      | false =>
        replace hb3 := of_decide_eq_false hb3.symm
        refine OL.sk rfl rfl ?_
        refine OL.sk rfl rfl ?_
        refine OL.sk rfl rfl ?_
        refine OL.sk rfl rfl ?_
        refine OL.sk rfl rfl ?_
        refine OL.sk rfl rfl ?_
        refine OL.sk rfl rfl ?_
        refine OL.sk rfl rfl ?_
        refine OL.sk rfl rfl ?_
        refine OL.sk rfl rfl ?_
        refine OL.sk rfl rfl ?_
        refine OL.q (Q1.pick_f rfl rfl) rfl rfl ?_
        refine OL.q (Q1.assign rfl) rfl rfl ?_
        refine OL.nil ?_
        refine r_ret1 Try.func94 rfl rfl ?_
        exact Ret.mk ⟨⟨_, (by first | (rw [node_no (by omega)]; done) | (rw [node_yes (by omega) hgx1]; exact fin_head0 (by assumption) (by assumption)) | (rw [node_yes (by omega) hgx1]; exact fin_nil (by omega)) | (exfalso; omega)), rfl⟩, hE0⟩
    | false =>
      replace hb2 := of_decide_eq_false hb2.symm
      refine OL.sk rfl rfl ?_
      refine OL.sk rfl rfl ?_
      refine OL.sk rfl rfl ?_
      refine OL.sk rfl rfl ?_
      refine OL.sk rfl rfl ?_
      refine OL.sk rfl rfl ?_
      refine OL.sk rfl rfl ?_
      refine OL.sk rfl rfl ?_
      refine OL.sk rfl rfl ?_
      refine OL.sk rfl rfl ?_
      refine OL.q (Q1.pick_f rfl rfl) rfl rfl ?_
      refine OL.q (Q1.move rfl) rfl rfl ?_
      refine OL.sk rfl rfl ?_
      refine OL.sk rfl rfl ?_
      refine OL.sk rfl rfl ?_
      refine OL.sk rfl rfl ?_
      refine OL.sk rfl rfl ?_
      refine OL.sk rfl rfl ?_
      refine OL.sk rfl rfl ?_
      refine OL.sk rfl rfl ?_
      refine OL.sk rfl rfl ?_
      refine OL.sk rfl rfl ?_
      refine OL.sk rfl rfl ?_
      refine OL.q (Q1.pick_f rfl rfl) rfl rfl ?_
      refine OL.q (Q1.assign rfl) rfl rfl ?_
      refine OL.nil ?_
      refine r_ret1 Try.func94 rfl rfl ?_
      exact Ret.mk ⟨⟨_, (by first | (rw [node_no (by omega)]; done) | (rw [node_yes (by omega) hgx1]; exact fin_head0 (by assumption) (by assumption)) | (rw [node_yes (by omega) hgx1]; exact fin_nil (by omega)) | (exfalso; omega)), rfl⟩, hE0⟩
  | false =>
    replace hb1 := of_decide_eq_false hb1.symm
    refine OL.sk rfl rfl ?_
    refine OL.sk rfl rfl ?_
    refine OL.sk rfl rfl ?_
    refine OL.sk rfl rfl ?_
    refine OL.sk rfl rfl ?_
    refine OL.sk rfl rfl ?_
    refine OL.sk rfl rfl ?_
    refine OL.q (Q1.pick_f rfl rfl) rfl rfl ?_
    refine OL.q (Q1.move rfl) rfl rfl ?_
    refine OL.sk rfl rfl ?_
    refine OL.sk rfl rfl ?_
    refine OL.sk rfl rfl ?_
    refine OL.sk rfl rfl ?_
    refine OL.sk rfl rfl ?_
    refine OL.sk rfl rfl ?_
    refine OL.sk rfl rfl ?_
    refine OL.sk rfl rfl ?_
    refine OL.sk rfl rfl ?_
    refine OL.sk rfl rfl ?_
    refine OL.q (Q1.pick_f rfl rfl) rfl rfl ?_
    refine OL.q (Q1.move rfl) rfl rfl ?_
    refine OL.sk rfl rfl ?_
    refine OL.sk rfl rfl ?_
    refine OL.sk rfl rfl ?_
    refine OL.sk rfl rfl ?_
    refine OL.sk rfl rfl ?_
    refine OL.sk rfl rfl ?_
    refine OL.sk rfl rfl ?_
    refine OL.sk rfl rfl ?_
    refine OL.sk rfl rfl ?_
    refine OL.sk rfl rfl ?_
    refine OL.sk rfl rfl ?_
    refine OL.q (Q1.pick_f rfl rfl) rfl rfl ?_
    refine OL.q (Q1.assign rfl) rfl rfl ?_
    refine OL.nil ?_
    refine r_ret1 Try.func94 rfl rfl ?_
    exact Ret.mk ⟨⟨_, (by first | (rw [node_no (by omega)]; done) | (rw [node_yes (by omega) hgx1]; exact fin_head0 (by assumption) (by assumption)) | (rw [node_yes (by omega) hgx1]; exact fin_nil (by omega)) | (exfalso; omega)), rfl⟩, hE0⟩
end Go.Proofs
namespace Go.Proofs
open Go.Ik Go.Ml
set_option maxRecDepth 20000 in
set_option maxHeartbeats 4000000 in
theorem r9seal_c {w0 : World}  {v_b : Value} {b : List UInt8} (h_b : Sl encB w0 (Iv 0 w0.heap.size) v_b b) (hbl : b.length ≤ 3000000) :
    Calls Try.prog 95 #[v_b] w0 (Ret fun rv w1 => (∃ gr, Acc encB 5 1 w1 gr rv (sealB b) ∧ (gr = 0 ∨ w0.heap.size < gr)) ∧ Ext w0 w1) := by
  have hE0 : Ext w0 w0 := Mod.refl _ _
  have hle1 := h_b.le
  refine calls_enter Try.func95 rfl Try.ntmps95 rfl ?_
  refine r_seq ?_
  refine r_region ?_
  refine OL.q (Q1.assign rfl) rfl rfl ?_
  refine OL.nil ?_
  refine r_seq ?_
  refine r_region ?_
  refine OL.q (Q1.move rfl) rfl rfl ?_
  refine OL.q (Q1.move rfl) rfl rfl ?_
  refine OL.act rfl rfl (AW.callF cl104 rfl (r2of_c (w0 := w0) (b := b)  ((h_b).iv (Nat.zero_le _) (by omega)) (by first | assumption | omega | (simp only [List.length_append, putN_len, List.length_cons, List.length_nil]; omega))) ?_)
  rintro _ w1 ⟨rfl, hm1⟩
  have f1 := h_b.ext hm1
  have hE1 := hE0.ext hm1
  have hs1 := hm1.size
  have := sumF_lt 0 b
  change sumN b < _ at this
  refine OL.q (Q1.convN (by kernel_rfl) Try.underlying3 rfl (IntWalk.i64_in _ (by omega))) rfl rfl ?_
  refine OL.act rfl rfl (AW.callF cl93 rfl (r3put_c (w0 := w1) (b := b) ((((sumN b : Nat) : Int))) (4) ((f1).iv (Nat.zero_le _) (by omega)) (by first | assumption | omega | (simp only [List.length_append, putN_len, List.length_cons, List.length_nil]; omega)) (by first | omega | decide)) ?_)
  rintro v1 w2 ⟨⟨gr1, h1, hg1⟩, hm2⟩
  have f2 := f1.ext hm2
  have hE2 := hE1.ext hm2
  have hs2 := hm2.size
  have hle_1 := h1.le
  have hlt_1 := h1.lt
  have := putN_len ((((sumN b : Nat) : Int))) 4
  refine OL.q (Q1.assign rfl) rfl rfl ?_
  refine OL.nil ?_
  refine r_ret1 Try.func95 rfl rfl ?_
  exact Ret.mk ⟨⟨_, Acc.cast h1 (by rfl), by omega⟩, hE2⟩
set_option maxRecDepth 20000 in
set_option maxHeartbeats 1000000 in
theorem r9encode_c {w0 : World}  {vN_g : Value} {lo_g hi_g b_g : Nat} {nds_g : List RNd} {g : GS} (hrw_g : Rw w0 lo_g hi_g b_g [vN_g]) (hsl_g : Sl encRd w0 (Iv lo_g hi_g) vN_g nds_g) (hrr_g : RR w0 (Iv 0 hi_g) nds_g g) (hgn_g : nds_g.length ≤ 1000000 ∧ hi_g ≤ w0.heap.size) (hel : ∀ x ∈ g, x.2.length ≤ 1000000) (hI : ∀ x ∈ gnOf g, ∀ e ∈ x.2, I64 e.to ∧ -2147483648 ≤ e.rune ∧ e.rune ≤ 2147483647) (hbd : (bodyB (gnOf g)).length ≤ 3000000) :
    Calls Try.prog 60 #[ptr b_g 0] w0 (Ret fun rv w1 => (∃ gr, Acc encB 5 1 w1 gr rv (encB_ (gnOf g)) ∧ (gr = 0 ∨ w0.heap.size < gr)) ∧ Ext w0 w1) := by
  have hE0 : Ext w0 w0 := Mod.refl _ _
  have hle1 := hsl_g.le
  have hgl := (All2.get hrr_g).1
  obtain ⟨hgn1, hgn2⟩ := hgn_g
  have hgo := gnOf_len g
  refine calls_enter Try.func60 rfl Try.ntmps60 rfl ?_
  refine r_seq ?_
  refine r_region ?_
  refine OL.q (Q1.assign rfl) rfl rfl ?_
  refine OL.nil ?_
  refine r_seq ?_
  refine r_region ?_
  refine OL.act rfl rfl (AW.buildSlice [(.int .u8 73 : Value), (.int .u8 78 : Value), (.int .u8 75 : Value), (.int .u8 49 : Value)] Try.underlying25 ti5 rfl rfl rfl (by decide) ?_)
  intro w1 b1 hm1 hb1 hz1 hk1
  have f1 := hsl_g.ext hm1
  have f2 := hrr_g.ext hm1
  have f3 := hrw_g.ext hm1
  have hE1 := hE0.ext hm1
  have hs1 := hm1.size
  have hl1 := Sl.of_blk (enc := encB) hk1 ([(73 : UInt8), (78 : UInt8), (75 : UInt8), (49 : UInt8)] : List UInt8) 4 rfl rfl (by unfold maxLen; omega)
  refine OL.q (Q1.move rfl) rfl rfl ?_
  refine OL.q (Q1.nilCheckP rfl) rfl rfl ?_
  refine OL.q (Q1.fieldAddr fl142_0 rfl) rfl rfl ?_
  refine OL.q (Q1.load1 ti140 rfl (fun _ e => e ▸ (f3.cell 0 _ rfl))) rfl rfl ?_
  refine OL.q (Q1.lenSl Try.underlying140 (f1) rfl) rfl rfl ?_
  refine OL.act rfl rfl (AW.callF cl93 rfl (r3put_c (w0 := w1) (b := [(73 : UInt8), (78 : UInt8), (75 : UInt8), (49 : UInt8)]) (((nds_g.length : Nat) : Int)) (2) ((hl1).iv (Nat.zero_le _) (by omega)) (by first | assumption | omega | (simp only [List.length_append, putN_len, List.length_cons, List.length_nil]; omega)) (by first | omega | decide)) ?_)
  rintro v1 w2 ⟨⟨gr1, h1, hg1⟩, hm2⟩
  have f4 := f1.ext hm2
  have f5 := f2.ext hm2
  have f6 := f3.ext hm2
  have f7 := hl1.ext hm2
  have hE2 := hE1.ext hm2
  have hs2 := hm2.size
  have hle_1 := h1.le
  have hlt_1 := h1.lt
  have := putN_len (((nds_g.length : Nat) : Int)) 2
  refine OL.q (Q1.assign rfl) rfl rfl ?_
  refine OL.nil ?_
  refine r_seq ?_
  refine r_seq ?_
  refine r_region ?_
  refine OL.q (Q1.assign rfl) rfl rfl ?_
  refine OL.nil ?_
  refine r_block ?_
  refine r_loop (I := fun m E W => ∃ (v_out : Value) (g_out : Nat) (out : List UInt8) (i : Nat), E = [(0, ptr b_g 0), (3, v_out), (4, .int .i64 (((i : Nat) : Int)))] ∧ m = g.length - i ∧ Ext w0 W ∧ w2.heap.size ≤ W.heap.size ∧ Acc encB 5 1 W g_out v_out out ∧ (g_out = 0 ∨ w0.heap.size < g_out) ∧ Rw W lo_g hi_g b_g [vN_g] ∧ Sl encRd W (Iv lo_g hi_g) vN_g nds_g ∧ RR W (Iv 0 hi_g) nds_g g ∧ (g_out ≤ lo_g ∨ hi_g < g_out) ∧ (out ++ ((gnOf g).drop i).flatMap nodeB = bodyB (gnOf g)) ∧ (i ≤ g.length)) ?_ ?_
  · refine ⟨_, _, ⟨(v1 : Value), (gr1 : Nat), ((([(73 : UInt8), (78 : UInt8), (75 : UInt8), (49 : UInt8)]) ++ putN (((nds_g.length : Nat) : Int)) 2) : List UInt8), (0 : Nat), rfl, rfl, hE2, Nat.le_refl _, h1, (by omega), f6, f4, f5, (by omega), (by (have := enc_start (gnOf g); rw [hgo] at this; rw [hgl]; exact this)), (by omega)⟩, ⟨rfl, rfl, rfl, trivial⟩⟩
  · rintro _ _ w3 ⟨v_out, g_out, out, i, rfl, rfl, hE3, hs3, ha1, hg2, f8, f9, f10, hn1, hO, hil⟩ ih1
    have hbl := enc_len hO
    refine r_seq ?_
    refine r_seq ?_
    refine r_region ?_
    refine OL.q (Q1.move rfl) rfl rfl ?_
    refine OL.q (Q1.move rfl) rfl rfl ?_
    refine OL.q (Q1.nilCheckP rfl) rfl rfl ?_
    refine OL.q (Q1.fieldAddr fl142_0 rfl) rfl rfl ?_
    refine OL.q (Q1.load1 ti140 rfl (fun _ e => e ▸ (f8.cell 0 _ rfl))) rfl rfl ?_
    refine OL.q (Q1.lenSl Try.underlying140 (f9) rfl) rfl rfl ?_
    refine OL.qb (Q1.lt rfl rfl) rfl rfl ?_
    intro b2 hb2
    refine OL.nil ?_
    cases b2 with
    | true =>
      replace hb2 := of_decide_eq_true hb2.symm
      refine r_cond_t rfl ?_
      refine r_skip ?_
      refine r_seq ?_
      refine r_block ?_
      refine r_seq ?_
      refine r_region ?_
      refine OL.q (Q1.assign rfl) rfl rfl ?_
      refine OL.nil ?_
      refine r_seq ?_
      refine r_seq ?_
      refine r_region ?_
      refine OL.q (Q1.move rfl) rfl rfl ?_
      refine OL.q (Q1.move rfl) rfl rfl ?_
      refine OL.act rfl rfl (AW.callF cl94 rfl (r8final_c (w0 := w3)  (((i : Nat) : Int)) f8 f9 f10 ⟨by omega, by omega⟩ (by first | omega | assumption)) ?_)
      rintro _ w4 ⟨⟨b3, hb3, rfl⟩, hm3⟩
      have hl2 := ha1.lt
      have f11 := ha1.ext hm3
      have f12 := f8.ext hm3
      have f13 := f9.ext hm3
      have f14 := f10.ext hm3
      have hE4 := hE3.ext hm3
      have hs4 := hm3.size
      refine OL.nil ?_
      cases b3 with
      | true =>
        replace hb3 := hb3.symm
        refine r_cond_t rfl ?_
        refine r_region ?_
        refine OL.q (Q1.assign rfl) rfl rfl ?_
        refine OL.nil ?_
        refine r_seq ?_
        refine r_draw1 (fun i => Nat.beq i 2 || Nat.beq i 12) 14 (fun w' => Mod (Mg 0) w4 w') mixed (by kernel_rfl) ?_
        intro w5 hm4
        have hl3 := f11.lt
        have f15 := f11.ext hm4
        have f16 := f12.ext hm4
        have f17 := f13.ext hm4
        have f18 := f14.ext hm4
        have hE5 := hE4.ext hm4
        have hs5 := hm4.size
        have hCw5 : Mod (Mg 0) w4 w5 := Mod.ofExt hm4
        refine ⟨hCw5, ?_⟩
        rw [show List.range' 0 (Array.size _) = [0, 1, 2, 3, 4, 5, 6, 7, 8, 9, 10, 11, 12, 13] from rfl]
        refine OD.q rfl rfl (Q1.move rfl) rfl rfl ?_
        refine OD.q rfl rfl (Q1.move rfl) rfl rfl ?_
        refine OD.act rfl rfl rfl rfl (AW.callF cl93 rfl (r3put_c (w0 := w5) (b := out) (1) (1) ((f15.sl).iv (Nat.zero_le _) (by omega)) (by first | assumption | omega | (simp only [List.length_append, putN_len, List.length_cons, List.length_nil]; omega)) (by first | omega | decide)) ?_)
        rintro v2 w6 ⟨⟨gr2, h2, hg3⟩, hm5⟩
        have hl4 := f15.lt
        have f19 := f15.ext hm5
        have f20 := f16.ext hm5
        have f21 := f17.ext hm5
        have f22 := f18.ext hm5
        have hE6 := hE5.ext hm5
        have hs6 := hm5.size
        have hCw6 := hCw5.ext hm5
        refine ⟨.inr hCw6, ?_⟩
        have hle_2 := h2.le
        have hlt_2 := h2.lt
        have := putN_len 1 1
        refine OD.q rfl rfl (Q1.move rfl) rfl rfl ?_
        refine OD.q rfl rfl (Q1.nilCheckP rfl) rfl rfl ?_
        refine OD.q rfl rfl (Q1.fieldAddr fl142_0 rfl) rfl rfl ?_
        refine OD.q rfl rfl (Q1.load1 ti140 rfl (fun _ hc => (f12.cell 0 _ rfl).keepG hc (by omega))) rfl rfl ?_
        refine OD.q rfl rfl (Q1.move rfl) rfl rfl ?_
        obtain ⟨x1, b4, o1, hx1, hr1, hl5, hu1, hw1⟩ := Sl.at' (P := Try.prog) f13 Try.underlying140 ti144 encRd_len (k := .i64) (n := ((i : Nat) : Int)) (i) (by omega) (by first | assumption | omega)
        refine OD.q rfl rfl (Q1.indexAddr rfl rfl hr1) rfl rfl ?_
        refine OD.q rfl rfl (Q1.fieldAddr fl144_1 rfl) rfl rfl ?_
        have hr2 := hw1.sub 1 1 (Nat.le_of_ble_eq_true rfl)
        obtain ⟨gx1, hgx1, hn2, hn3⟩ := RR.at f22 hx1
        replace hn3 : Sl encE w6 (Iv 0 hi_g) x1.e.val gx1.2 := hn3
        have hle_3 := hn3.le
        refine OD.q rfl rfl (Q1.load1 ti49 rfl (fun _ hc => hr2.keepG hc (by omega))) rfl rfl ?_
        have hgi := gnOf_get hgx1
        have hgl3 := enc_lenN hO hgi
        have hxe := hel _ (List.mem_of_getElem? hgx1)
        refine OD.q rfl rfl (Q1.lenSl Try.underlying49 (hn3) rfl) rfl rfl ?_
        refine OD.act rfl rfl rfl rfl (AW.callF cl93 rfl (r3put_c (w0 := w6) (b := (out ++ putN 1 1)) (((gx1.2.length : Nat) : Int)) (2) ((h2.sl).iv (Nat.zero_le _) (by omega)) (by first | assumption | omega | (simp only [List.length_append, putN_len, List.length_cons, List.length_nil]; omega)) (by first | omega | decide)) ?_)
        rintro v3 w7 ⟨⟨gr3, h3, hg4⟩, hm6⟩
        have hl6 := f19.lt
        have hl7 := h2.lt
        have f23 := f19.ext hm6
        have f24 := f20.ext hm6
        have f25 := f21.ext hm6
        have f26 := f22.ext hm6
        have f27 := h2.ext hm6
        have f28 := hn3.ext hm6
        have hE7 := hE6.ext hm6
        have hs7 := hm6.size
        have hCw7 := hCw6.ext hm6
        refine ⟨.inr hCw7, ?_⟩
        have hle_4 := h3.le
        have hlt_3 := h3.lt
        have := putN_len (((gx1.2.length : Nat) : Int)) 2
        refine OD.q rfl rfl (Q1.assign rfl) rfl rfl ?_
        refine OD.nil ?_
        refine r_seq ?_
        refine r_region ?_
        refine OL.q (Q1.assign rfl) rfl rfl ?_
        refine OL.nil ?_
        refine r_block ?_
        refine r_loop (I := fun m E W => ∃ (v_out2 : Value) (g_out2 : Nat) (out2 : List UInt8) (k : Nat), E = [(0, ptr b_g 0), (3, v_out2), (4, .int .i64 (((i : Nat) : Int))), (6, .int .i64 (((k : Nat) : Int)))] ∧ m = gx1.2.length - k ∧ Ext w0 W ∧ w7.heap.size ≤ W.heap.size ∧ Acc encB 5 1 W g_out2 v_out2 out2 ∧ (g_out2 = 0 ∨ w0.heap.size < g_out2) ∧ Rw W lo_g hi_g b_g [vN_g] ∧ Sl encRd W (Iv lo_g hi_g) vN_g nds_g ∧ RR W (Iv 0 hi_g) nds_g g ∧ (g_out2 ≤ lo_g ∨ hi_g < g_out2) ∧ (out2 ++ ((gx1.2.drop k).flatMap edgeB ++ ((gnOf g).drop (i + 1)).flatMap nodeB) = bodyB (gnOf g))) ?_ ?_
        · refine ⟨_, _, ⟨(v3 : Value), (gr3 : Nat), ((((out ++ putN 1 1)) ++ putN (((gx1.2.length : Nat) : Int)) 2) : List UInt8), (0 : Nat), rfl, rfl, hE7, Nat.le_refl _, h3, (by omega), f24, f25, f26, (by omega), (by first | exact enc_nodeT hO hgx1 (by assumption) | exact enc_nodeF hO hgx1 (by assumption))⟩, ⟨rfl, rfl, rfl, rfl, trivial⟩⟩
        · rintro _ _ w8 ⟨v_out2, g_out2, out2, k, rfl, rfl, hE8, hs8, ha2, hg5, f29, f30, f31, hn4, hO2⟩ ih2
          have hbl2 := enc_len hO2
          refine r_seq ?_
          refine r_seq ?_
          refine r_region ?_
          refine OL.q (Q1.move rfl) rfl rfl ?_
          refine OL.q (Q1.move rfl) rfl rfl ?_
          refine OL.q (Q1.nilCheckP rfl) rfl rfl ?_
          refine OL.q (Q1.fieldAddr fl142_0 rfl) rfl rfl ?_
          refine OL.q (Q1.load1 ti140 rfl (fun _ e => e ▸ (f29.cell 0 _ rfl))) rfl rfl ?_
          refine OL.q (Q1.move rfl) rfl rfl ?_
          obtain ⟨x2, b5, o2, hx2, hr3, hl8, hu2, hw2⟩ := Sl.at' (P := Try.prog) f30 Try.underlying140 ti144 encRd_len (k := .i64) (n := ((i : Nat) : Int)) (i) (by omega) (by first | assumption | omega)
          obtain rfl : x1 = x2 := Option.some.inj (hx1.symm.trans hx2)
          refine OL.q (Q1.indexAddr rfl rfl hr3) rfl rfl ?_
          refine OL.q (Q1.fieldAddr fl144_1 rfl) rfl rfl ?_
          have hr4 := hw2.sub 1 1 (Nat.le_of_ble_eq_true rfl)
          obtain ⟨gx2, hgx2, hn5, hn6⟩ := RR.at f31 hx2
          obtain rfl : gx1 = gx2 := Option.some.inj (hgx1.symm.trans hgx2)
          replace hn6 : Sl encE w8 (Iv 0 hi_g) x1.e.val gx1.2 := hn6
          have hle_5 := hn6.le
          refine OL.q (Q1.load1 ti49 rfl (fun _ e => e ▸ hr4)) rfl rfl ?_
          refine OL.q (Q1.lenSl Try.underlying49 (hn6) rfl) rfl rfl ?_
          refine OL.qb (Q1.lt rfl rfl) rfl rfl ?_
          intro b6 hb4
          refine OL.nil ?_
          cases b6 with
          | true =>
            replace hb4 := of_decide_eq_true hb4.symm
            refine r_cond_t rfl ?_
            refine r_skip ?_
            refine r_seq ?_
            refine r_block ?_
            refine r_seq ?_
            refine r_region ?_
            refine OL.q (Q1.move rfl) rfl rfl ?_
            refine OL.q (Q1.nilCheckP rfl) rfl rfl ?_
            refine OL.q (Q1.fieldAddr fl142_0 rfl) rfl rfl ?_
            refine OL.q (Q1.load1 ti140 rfl (fun _ e => e ▸ (f29.cell 0 _ rfl))) rfl rfl ?_
            refine OL.q (Q1.move rfl) rfl rfl ?_
            obtain ⟨x3, b7, o3, hx3, hr5, hl9, hu3, hw3⟩ := Sl.at' (P := Try.prog) f30 Try.underlying140 ti144 encRd_len (k := .i64) (n := ((i : Nat) : Int)) (i) (by omega) (by first | assumption | omega)
            obtain rfl : x1 = x3 := Option.some.inj (hx1.symm.trans hx3)
            refine OL.q (Q1.indexAddr rfl rfl hr5) rfl rfl ?_
            refine OL.q (Q1.fieldAddr fl144_1 rfl) rfl rfl ?_
            have hr6 := hw3.sub 1 1 (Nat.le_of_ble_eq_true rfl)
            obtain ⟨gx3, hgx3, hn7, hn8⟩ := RR.at f31 hx3
            obtain rfl : gx1 = gx3 := Option.some.inj (hgx1.symm.trans hgx3)
            replace hn8 : Sl encE w8 (Iv 0 hi_g) x1.e.val gx1.2 := hn8
            have hle_6 := hn8.le
            refine OL.q (Q1.load1 ti49 rfl (fun _ e => e ▸ hr6)) rfl rfl ?_
            refine OL.q (Q1.move rfl) rfl rfl ?_
            obtain ⟨x4, b8, o4, hx4, hr7, hl10, hu4, hw4⟩ := Sl.at' (P := Try.prog) hn8 Try.underlying49 ti94 encE_len (k := .i64) (n := ((k : Nat) : Int)) (k) (by omega) (by first | assumption | omega)
            refine OL.q (Q1.indexAddr rfl rfl hr7) rfl rfl ?_
            have hl6 := enc_len4 hO2 hx4
            have hie := hI _ (List.mem_of_getElem? hgi) _ (List.mem_of_getElem? hx4)
            refine OL.q (Q1.loadN ti94 rfl (fun _ e => e ▸ hw4) rfl) rfl rfl ?_
            refine OL.act rfl rfl (AW.alloc ti94 ?_)
            intro w9 b9 hm7 hb5 hz2 hk2
            have hl11 := ha2.lt
            have f32 := ha2.ext hm7
            have f33 := f29.ext hm7
            have f34 := f30.ext hm7
            have f35 := f31.ext hm7
            have f36 := hn6.ext hm7
            have f37 := hn8.ext hm7
            have hE9 := hE8.ext hm7
            have hs9 := hm7.size
            refine OL.act rfl rfl (AW.store ti94 rfl rfl rfl rfl rfl hk2 (Nat.le_of_ble_eq_true rfl) ?_)
            intro w10 hm8 hz3 hk3
            replace hk3 : Bk w10 b9 [.int .i32 x4.rune, .int .i64 x4.to] 94 := hk3
            have hl12 := f32.lt
            have f38 := f32.keepG hm8 (by omega)
            have f39 := f33.keepG hm8 (by omega)
            have f40 := f34.keepG hm8 (by omega)
            have f41 := f35.keepG hm8 (by omega)
            have f42 := f36.keepG hm8 (by omega)
            have f43 := f37.keepG hm8 (by omega)
            have hE10 := Ext.thenG hE9 hm8 (by omega)
            have hs10 := hm8.size
            refine OL.nil ?_
            refine r_draw1 (fun i => Nat.beq i 4 || Nat.beq i 7) 9 (fun w' => Mod (Mg 0) w10 w') mixed (by kernel_rfl) ?_
            intro w11 hm9
            have hl13 := f38.lt
            have f44 := f38.ext hm9
            have f45 := f39.ext hm9
            have f46 := f40.ext hm9
            have f47 := f41.ext hm9
            have f48 := f42.ext hm9
            have f49 := f43.ext hm9
            have f50 := hk3.ext hm9
            have hE11 := hE10.ext hm9
            have hs11 := hm9.size
            have hCw11 : Mod (Mg 0) w10 w11 := Mod.ofExt hm9
            refine ⟨hCw11, ?_⟩
            rw [show List.range' 0 (Array.size _) = [0, 1, 2, 3, 4, 5, 6, 7, 8] from rfl]
            refine OD.q rfl rfl (Q1.move rfl) rfl rfl ?_
            refine OD.q rfl rfl (Q1.fieldAddr fl94_0 rfl) rfl rfl ?_
            refine OD.q rfl rfl (Q1.load1 ti21 rfl (fun _ hc => (hk3.cell 0 _ rfl).keepG hc (by omega))) rfl rfl ?_
            refine OD.q rfl rfl (Q1.convN (by kernel_rfl) Try.underlying3 rfl (IntWalk.i64_in _ (by omega))) rfl rfl ?_
            refine OD.act rfl rfl rfl rfl (AW.callF cl93 rfl (r3put_c (w0 := w11) (b := out2) (x4.rune) (4) ((f44.sl).iv (Nat.zero_le _) (by omega)) (by first | assumption | omega | (simp only [List.length_append, putN_len, List.length_cons, List.length_nil]; omega)) (by first | omega | decide)) ?_)
            rintro v4 w12 ⟨⟨gr4, h4, hg6⟩, hm10⟩
            have hl14 := f44.lt
            have f51 := f44.ext hm10
            have f52 := f45.ext hm10
            have f53 := f46.ext hm10
            have f54 := f47.ext hm10
            have f55 := f48.ext hm10
            have f56 := f49.ext hm10
            have f57 := f50.ext hm10
            have hE12 := hE11.ext hm10
            have hs12 := hm10.size
            have hCw12 := hCw11.ext hm10
            refine ⟨.inr hCw12, ?_⟩
            have hle_7 := h4.le
            have hlt_4 := h4.lt
            have := putN_len x4.rune 4
            refine OD.q rfl rfl (Q1.fieldAddr fl94_1 rfl) rfl rfl ?_
            refine OD.q rfl rfl (Q1.load1 ti3 rfl (fun _ hc => (hk3.cell 1 _ rfl).keepG hc (by omega))) rfl rfl ?_
            refine OD.act rfl rfl rfl rfl (AW.callF cl93 rfl (r3put_c (w0 := w12) (b := (out2 ++ putN x4.rune 4)) (x4.to) (2) ((h4.sl).iv (Nat.zero_le _) (by omega)) (by first | assumption | omega | (simp only [List.length_append, putN_len, List.length_cons, List.length_nil]; omega)) (by first | omega | decide)) ?_)
            rintro v5 w13 ⟨⟨gr5, h5, hg7⟩, hm11⟩
            have hl15 := f51.lt
            have hl16 := h4.lt
            have f58 := f51.ext hm11
            have f59 := f52.ext hm11
            have f60 := f53.ext hm11
            have f61 := f54.ext hm11
            have f62 := f55.ext hm11
            have f63 := f56.ext hm11
            have f64 := f57.ext hm11
            have f65 := h4.ext hm11
            have hE13 := hE12.ext hm11
            have hs13 := hm11.size
            have hCw13 := hCw12.ext hm11
            refine ⟨.inr hCw13, ?_⟩
            have hle_8 := h5.le
            have hlt_5 := h5.lt
            have := putN_len x4.to 2
            refine OD.q rfl rfl (Q1.assign rfl) rfl rfl ?_
            refine OD.nil ?_
            refine r_inBlock ?_
            refine r_region ?_
            refine OL.q (Q1.move rfl) rfl rfl ?_
            refine OL.q (Q1.addI (((k + 1 : Nat) : Int)) rfl rfl (by omega)) rfl rfl ?_
            refine OL.q (Q1.assign rfl) rfl rfl ?_
            refine OL.nil ?_
            exact (ih2 _ _ _ ⟨(v5 : Value), (gr5 : Nat), ((((out2 ++ putN x4.rune 4)) ++ putN x4.to 2) : List UInt8), (k + 1 : Nat), rfl, rfl, hE13, (by omega), h5, (by omega), f59, f60, f61, (by omega), (by first | exact enc_edge hO2 hx4 | (exfalso; omega))⟩ (by omega)).sub ⟨rfl, rfl, rfl, rfl, trivial⟩
          | false =>
            replace hb4 := of_decide_eq_false hb4.symm
            refine r_cond_f rfl ?_
            refine r_exit rfl ?_
            refine r_inBlock ?_
            refine r_region ?_
            refine OL.q (Q1.move rfl) rfl rfl ?_
            refine OL.q (Q1.addI (((i + 1 : Nat) : Int)) rfl rfl (by omega)) rfl rfl ?_
            refine OL.q (Q1.assign rfl) rfl rfl ?_
            refine OL.nil ?_
            exact (ih1 _ _ _ ⟨(v_out2 : Value), (g_out2 : Nat), (out2 : List UInt8), (i + 1 : Nat), rfl, rfl, hE8, (by omega), ha2, (by omega), f29, f30, f31, (by omega), (by first | exact enc_next hO2 (by omega) | (exfalso; omega)), (by first | omega | (exfalso; omega))⟩ (by omega)).sub ⟨rfl, rfl, rfl, trivial⟩
      | false =>
        replace hb3 := hb3.symm
        refine r_cond_f rfl ?_
        refine r_skip ?_
        refine r_seq ?_
        refine r_draw1 (fun i => Nat.beq i 2 || Nat.beq i 12) 14 (fun w' => Mod (Mg 0) w4 w') mixed (by kernel_rfl) ?_
        intro w5 hm4
        have hl3 := f11.lt
        have f15 := f11.ext hm4
        have f16 := f12.ext hm4
        have f17 := f13.ext hm4
        have f18 := f14.ext hm4
        have hE5 := hE4.ext hm4
        have hs5 := hm4.size
        have hCw5 : Mod (Mg 0) w4 w5 := Mod.ofExt hm4
        refine ⟨hCw5, ?_⟩
        rw [show List.range' 0 (Array.size _) = [0, 1, 2, 3, 4, 5, 6, 7, 8, 9, 10, 11, 12, 13] from rfl]
        refine OD.q rfl rfl (Q1.move rfl) rfl rfl ?_
        refine OD.q rfl rfl (Q1.move rfl) rfl rfl ?_
        refine OD.act rfl rfl rfl rfl (AW.callF cl93 rfl (r3put_c (w0 := w5) (b := out) (0) (1) ((f15.sl).iv (Nat.zero_le _) (by omega)) (by first | assumption | omega | (simp only [List.length_append, putN_len, List.length_cons, List.length_nil]; omega)) (by first | omega | decide)) ?_)
        rintro v2 w6 ⟨⟨gr2, h2, hg3⟩, hm5⟩
        have hl4 := f15.lt
        have f19 := f15.ext hm5
        have f20 := f16.ext hm5
        have f21 := f17.ext hm5
        have f22 := f18.ext hm5
        have hE6 := hE5.ext hm5
        have hs6 := hm5.size
        have hCw6 := hCw5.ext hm5
        refine ⟨.inr hCw6, ?_⟩
        have hle_2 := h2.le
        have hlt_2 := h2.lt
        have := putN_len 0 1
        refine OD.q rfl rfl (Q1.move rfl) rfl rfl ?_
        refine OD.q rfl rfl (Q1.nilCheckP rfl) rfl rfl ?_
        refine OD.q rfl rfl (Q1.fieldAddr fl142_0 rfl) rfl rfl ?_
        refine OD.q rfl rfl (Q1.load1 ti140 rfl (fun _ hc => (f12.cell 0 _ rfl).keepG hc (by omega))) rfl rfl ?_
        refine OD.q rfl rfl (Q1.move rfl) rfl rfl ?_
        obtain ⟨x1, b4, o1, hx1, hr1, hl5, hu1, hw1⟩ := Sl.at' (P := Try.prog) f13 Try.underlying140 ti144 encRd_len (k := .i64) (n := ((i : Nat) : Int)) (i) (by omega) (by first | assumption | omega)
        refine OD.q rfl rfl (Q1.indexAddr rfl rfl hr1) rfl rfl ?_
        refine OD.q rfl rfl (Q1.fieldAddr fl144_1 rfl) rfl rfl ?_
        have hr2 := hw1.sub 1 1 (Nat.le_of_ble_eq_true rfl)
        obtain ⟨gx1, hgx1, hn2, hn3⟩ := RR.at f22 hx1
        replace hn3 : Sl encE w6 (Iv 0 hi_g) x1.e.val gx1.2 := hn3
        have hle_3 := hn3.le
        refine OD.q rfl rfl (Q1.load1 ti49 rfl (fun _ hc => hr2.keepG hc (by omega))) rfl rfl ?_
        have hgi := gnOf_get hgx1
        have hgl3 := enc_lenN hO hgi
        have hxe := hel _ (List.mem_of_getElem? hgx1)
        refine OD.q rfl rfl (Q1.lenSl Try.underlying49 (hn3) rfl) rfl rfl ?_
        refine OD.act rfl rfl rfl rfl (AW.callF cl93 rfl (r3put_c (w0 := w6) (b := (out ++ putN 0 1)) (((gx1.2.length : Nat) : Int)) (2) ((h2.sl).iv (Nat.zero_le _) (by omega)) (by first | assumption | omega | (simp only [List.length_append, putN_len, List.length_cons, List.length_nil]; omega)) (by first | omega | decide)) ?_)
        rintro v3 w7 ⟨⟨gr3, h3, hg4⟩, hm6⟩
        have hl6 := f19.lt
        have hl7 := h2.lt
        have f23 := f19.ext hm6
        have f24 := f20.ext hm6
        have f25 := f21.ext hm6
        have f26 := f22.ext hm6
        have f27 := h2.ext hm6
        have f28 := hn3.ext hm6
        have hE7 := hE6.ext hm6
        have hs7 := hm6.size
        have hCw7 := hCw6.ext hm6
        refine ⟨.inr hCw7, ?_⟩
        have hle_4 := h3.le
        have hlt_3 := h3.lt
        have := putN_len (((gx1.2.length : Nat) : Int)) 2
        refine OD.q rfl rfl (Q1.assign rfl) rfl rfl ?_
        refine OD.nil ?_
        refine r_seq ?_
        refine r_region ?_
        refine OL.q (Q1.assign rfl) rfl rfl ?_
        refine OL.nil ?_
        refine r_block ?_
        refine r_loop (I := fun m E W => ∃ (v_out2 : Value) (g_out2 : Nat) (out2 : List UInt8) (k : Nat), E = [(0, ptr b_g 0), (3, v_out2), (4, .int .i64 (((i : Nat) : Int))), (6, .int .i64 (((k : Nat) : Int)))] ∧ m = gx1.2.length - k ∧ Ext w0 W ∧ w7.heap.size ≤ W.heap.size ∧ Acc encB 5 1 W g_out2 v_out2 out2 ∧ (g_out2 = 0 ∨ w0.heap.size < g_out2) ∧ Rw W lo_g hi_g b_g [vN_g] ∧ Sl encRd W (Iv lo_g hi_g) vN_g nds_g ∧ RR W (Iv 0 hi_g) nds_g g ∧ (g_out2 ≤ lo_g ∨ hi_g < g_out2) ∧ (out2 ++ ((gx1.2.drop k).flatMap edgeB ++ ((gnOf g).drop (i + 1)).flatMap nodeB) = bodyB (gnOf g))) ?_ ?_
        · refine ⟨_, _, ⟨(v3 : Value), (gr3 : Nat), ((((out ++ putN 0 1)) ++ putN (((gx1.2.length : Nat) : Int)) 2) : List UInt8), (0 : Nat), rfl, rfl, hE7, Nat.le_refl _, h3, (by omega), f24, f25, f26, (by omega), (by first | exact enc_nodeT hO hgx1 (by assumption) | exact enc_nodeF hO hgx1 (by assumption))⟩, ⟨rfl, rfl, rfl, rfl, trivial⟩⟩
        · rintro _ _ w8 ⟨v_out2, g_out2, out2, k, rfl, rfl, hE8, hs8, ha2, hg5, f29, f30, f31, hn4, hO2⟩ ih2
          have hbl2 := enc_len hO2
          refine r_seq ?_
          refine r_seq ?_
          refine r_region ?_
          refine OL.q (Q1.move rfl) rfl rfl ?_
          refine OL.q (Q1.move rfl) rfl rfl ?_
          refine OL.q (Q1.nilCheckP rfl) rfl rfl ?_
          refine OL.q (Q1.fieldAddr fl142_0 rfl) rfl rfl ?_
          refine OL.q (Q1.load1 ti140 rfl (fun _ e => e ▸ (f29.cell 0 _ rfl))) rfl rfl ?_
          refine OL.q (Q1.move rfl) rfl rfl ?_
          obtain ⟨x2, b5, o2, hx2, hr3, hl8, hu2, hw2⟩ := Sl.at' (P := Try.prog) f30 Try.underlying140 ti144 encRd_len (k := .i64) (n := ((i : Nat) : Int)) (i) (by omega) (by first | assumption | omega)
          obtain rfl : x1 = x2 := Option.some.inj (hx1.symm.trans hx2)
          refine OL.q (Q1.indexAddr rfl rfl hr3) rfl rfl ?_
          refine OL.q (Q1.fieldAddr fl144_1 rfl) rfl rfl ?_
          have hr4 := hw2.sub 1 1 (Nat.le_of_ble_eq_true rfl)
          obtain ⟨gx2, hgx2, hn5, hn6⟩ := RR.at f31 hx2
          obtain rfl : gx1 = gx2 := Option.some.inj (hgx1.symm.trans hgx2)
          replace hn6 : Sl encE w8 (Iv 0 hi_g) x1.e.val gx1.2 := hn6
          have hle_5 := hn6.le
          refine OL.q (Q1.load1 ti49 rfl (fun _ e => e ▸ hr4)) rfl rfl ?_
          refine OL.q (Q1.lenSl Try.underlying49 (hn6) rfl) rfl rfl ?_
          refine OL.qb (Q1.lt rfl rfl) rfl rfl ?_
          intro b6 hb4
          refine OL.nil ?_
          cases b6 with
          | true =>
            replace hb4 := of_decide_eq_true hb4.symm
            refine r_cond_t rfl ?_
            refine r_skip ?_
            refine r_seq ?_
            refine r_block ?_
            refine r_seq ?_
            refine r_region ?_
            refine OL.q (Q1.move rfl) rfl rfl ?_
            refine OL.q (Q1.nilCheckP rfl) rfl rfl ?_
            refine OL.q (Q1.fieldAddr fl142_0 rfl) rfl rfl ?_
            refine OL.q (Q1.load1 ti140 rfl (fun _ e => e ▸ (f29.cell 0 _ rfl))) rfl rfl ?_
            refine OL.q (Q1.move rfl) rfl rfl ?_
            obtain ⟨x3, b7, o3, hx3, hr5, hl9, hu3, hw3⟩ := Sl.at' (P := Try.prog) f30 Try.underlying140 ti144 encRd_len (k := .i64) (n := ((i : Nat) : Int)) (i) (by omega) (by first | assumption | omega)
            obtain rfl : x1 = x3 := Option.some.inj (hx1.symm.trans hx3)
            refine OL.q (Q1.indexAddr rfl rfl hr5) rfl rfl ?_
            refine OL.q (Q1.fieldAddr fl144_1 rfl) rfl rfl ?_
            have hr6 := hw3.sub 1 1 (Nat.le_of_ble_eq_true rfl)
            obtain ⟨gx3, hgx3, hn7, hn8⟩ := RR.at f31 hx3
            obtain rfl : gx1 = gx3 := Option.some.inj (hgx1.symm.trans hgx3)
            replace hn8 : Sl encE w8 (Iv 0 hi_g) x1.e.val gx1.2 := hn8
            have hle_6 := hn8.le
            refine OL.q (Q1.load1 ti49 rfl (fun _ e => e ▸ hr6)) rfl rfl ?_
            refine OL.q (Q1.move rfl) rfl rfl ?_
            obtain ⟨x4, b8, o4, hx4, hr7, hl10, hu4, hw4⟩ := Sl.at' (P := Try.prog) hn8 Try.underlying49 ti94 encE_len (k := .i64) (n := ((k : Nat) : Int)) (k) (by omega) (by first | assumption | omega)
            refine OL.q (Q1.indexAddr rfl rfl hr7) rfl rfl ?_
            have hl6 := enc_len4 hO2 hx4
            have hie := hI _ (List.mem_of_getElem? hgi) _ (List.mem_of_getElem? hx4)
            refine OL.q (Q1.loadN ti94 rfl (fun _ e => e ▸ hw4) rfl) rfl rfl ?_
            refine OL.act rfl rfl (AW.alloc ti94 ?_)
            intro w9 b9 hm7 hb5 hz2 hk2
            have hl11 := ha2.lt
            have f32 := ha2.ext hm7
            have f33 := f29.ext hm7
            have f34 := f30.ext hm7
            have f35 := f31.ext hm7
            have f36 := hn6.ext hm7
            have f37 := hn8.ext hm7
            have hE9 := hE8.ext hm7
            have hs9 := hm7.size
            refine OL.act rfl rfl (AW.store ti94 rfl rfl rfl rfl rfl hk2 (Nat.le_of_ble_eq_true rfl) ?_)
            intro w10 hm8 hz3 hk3
            replace hk3 : Bk w10 b9 [.int .i32 x4.rune, .int .i64 x4.to] 94 := hk3
            have hl12 := f32.lt
            have f38 := f32.keepG hm8 (by omega)
            have f39 := f33.keepG hm8 (by omega)
            have f40 := f34.keepG hm8 (by omega)
            have f41 := f35.keepG hm8 (by omega)
            have f42 := f36.keepG hm8 (by omega)
            have f43 := f37.keepG hm8 (by omega)
            have hE10 := Ext.thenG hE9 hm8 (by omega)
            have hs10 := hm8.size
            refine OL.nil ?_
            refine r_draw1 (fun i => Nat.beq i 4 || Nat.beq i 7) 9 (fun w' => Mod (Mg 0) w10 w') mixed (by kernel_rfl) ?_
            intro w11 hm9
            have hl13 := f38.lt
            have f44 := f38.ext hm9
            have f45 := f39.ext hm9
            have f46 := f40.ext hm9
            have f47 := f41.ext hm9
            have f48 := f42.ext hm9
            have f49 := f43.ext hm9
            have f50 := hk3.ext hm9
            have hE11 := hE10.ext hm9
            have hs11 := hm9.size
            have hCw11 : Mod (Mg 0) w10 w11 := Mod.ofExt hm9
            refine ⟨hCw11, ?_⟩
            rw [show List.range' 0 (Array.size _) = [0, 1, 2, 3, 4, 5, 6, 7, 8] from rfl]
            refine OD.q rfl rfl (Q1.move rfl) rfl rfl ?_
            refine OD.q rfl rfl (Q1.fieldAddr fl94_0 rfl) rfl rfl ?_
            refine OD.q rfl rfl (Q1.load1 ti21 rfl (fun _ hc => (hk3.cell 0 _ rfl).keepG hc (by omega))) rfl rfl ?_
            refine OD.q rfl rfl (Q1.convN (by kernel_rfl) Try.underlying3 rfl (IntWalk.i64_in _ (by omega))) rfl rfl ?_
            refine OD.act rfl rfl rfl rfl (AW.callF cl93 rfl (r3put_c (w0 := w11) (b := out2) (x4.rune) (4) ((f44.sl).iv (Nat.zero_le _) (by omega)) (by first | assumption | omega | (simp only [List.length_append, putN_len, List.length_cons, List.length_nil]; omega)) (by first | omega | decide)) ?_)
            rintro v4 w12 ⟨⟨gr4, h4, hg6⟩, hm10⟩
            have hl14 := f44.lt
            have f51 := f44.ext hm10
            have f52 := f45.ext hm10
            have f53 := f46.ext hm10
            have f54 := f47.ext hm10
            have f55 := f48.ext hm10
            have f56 := f49.ext hm10
            have f57 := f50.ext hm10
            have hE12 := hE11.ext hm10
            have hs12 := hm10.size
            have hCw12 := hCw11.ext hm10
            refine ⟨.inr hCw12, ?_⟩
            have hle_7 := h4.le
            have hlt_4 := h4.lt
            have := putN_len x4.rune 4
            refine OD.q rfl rfl (Q1.fieldAddr fl94_1 rfl) rfl rfl ?_
            refine OD.q rfl rfl (Q1.load1 ti3 rfl (fun _ hc => (hk3.cell 1 _ rfl).keepG hc (by omega))) rfl rfl ?_
            refine OD.act rfl rfl rfl rfl (AW.callF cl93 rfl (r3put_c (w0 := w12) (b := (out2 ++ putN x4.rune 4)) (x4.to) (2) ((h4.sl).iv (Nat.zero_le _) (by omega)) (by first | assumption | omega | (simp only [List.length_append, putN_len, List.length_cons, List.length_nil]; omega)) (by first | omega | decide)) ?_)
            rintro v5 w13 ⟨⟨gr5, h5, hg7⟩, hm11⟩
            have hl15 := f51.lt
            have hl16 := h4.lt
            have f58 := f51.ext hm11
            have f59 := f52.ext hm11
            have f60 := f53.ext hm11
            have f61 := f54.ext hm11
            have f62 := f55.ext hm11
            have f63 := f56.ext hm11
            have f64 := f57.ext hm11
            have f65 := h4.ext hm11
            have hE13 := hE12.ext hm11
            have hs13 := hm11.size
            have hCw13 := hCw12.ext hm11
            refine ⟨.inr hCw13, ?_⟩
            have hle_8 := h5.le
            have hlt_5 := h5.lt
            have := putN_len x4.to 2
            refine OD.q rfl rfl (Q1.assign rfl) rfl rfl ?_
            refine OD.nil ?_
            refine r_inBlock ?_
            refine r_region ?_
            refine OL.q (Q1.move rfl) rfl rfl ?_
            refine OL.q (Q1.addI (((k + 1 : Nat) : Int)) rfl rfl (by omega)) rfl rfl ?_
            refine OL.q (Q1.assign rfl) rfl rfl ?_
            refine OL.nil ?_
            exact (ih2 _ _ _ ⟨(v5 : Value), (gr5 : Nat), ((((out2 ++ putN x4.rune 4)) ++ putN x4.to 2) : List UInt8), (k + 1 : Nat), rfl, rfl, hE13, (by omega), h5, (by omega), f59, f60, f61, (by omega), (by first | exact enc_edge hO2 hx4 | (exfalso; omega))⟩ (by omega)).sub ⟨rfl, rfl, rfl, rfl, trivial⟩
          | false =>
            replace hb4 := of_decide_eq_false hb4.symm
            refine r_cond_f rfl ?_
            refine r_exit rfl ?_
            refine r_inBlock ?_
            refine r_region ?_
            refine OL.q (Q1.move rfl) rfl rfl ?_
            refine OL.q (Q1.addI (((i + 1 : Nat) : Int)) rfl rfl (by omega)) rfl rfl ?_
            refine OL.q (Q1.assign rfl) rfl rfl ?_
            refine OL.nil ?_
            exact (ih1 _ _ _ ⟨(v_out2 : Value), (g_out2 : Nat), (out2 : List UInt8), (i + 1 : Nat), rfl, rfl, hE8, (by omega), ha2, (by omega), f29, f30, f31, (by omega), (by first | exact enc_next hO2 (by omega) | (exfalso; omega)), (by first | omega | (exfalso; omega))⟩ (by omega)).sub ⟨rfl, rfl, rfl, trivial⟩
    | false =>
      replace hb2 := of_decide_eq_false hb2.symm
      refine r_cond_f rfl ?_
      refine r_exit rfl ?_
      refine r_seq ?_
      refine r_region ?_
      refine OL.q (Q1.move rfl) rfl rfl ?_
      have hl2 := ha1.lt
      refine OL.act rfl rfl (AW.callF cl95 rfl (r9seal_c (w0 := w3) (b := out)  ((ha1.sl).iv (Nat.zero_le _) (by omega)) (by first | assumption | omega | (simp only [List.length_append, putN_len, List.length_cons, List.length_nil]; omega))) ?_)
      rintro v2 w4 ⟨⟨gr2, h2, hg3⟩, hm3⟩
      have hl3 := ha1.lt
      have f11 := ha1.ext hm3
      have f12 := f8.ext hm3
      have f13 := f9.ext hm3
      have f14 := f10.ext hm3
      have hE4 := hE3.ext hm3
      have hs4 := hm3.size
      have hle_2 := h2.le
      have hlt_2 := h2.lt
      refine OL.q (Q1.assign rfl) rfl rfl ?_
      refine OL.nil ?_
      refine r_ret1 Try.func60 rfl rfl ?_
      exact Ret.mk ⟨⟨_, Acc.cast h2 (by first | (rw [enc_fin hO (by omega)]; rfl) | (exfalso; omega)), by omega⟩, hE4⟩
set_option maxRecDepth 20000 in
set_option maxHeartbeats 4000000 in
theorem r9of_c {w0 : World}  {v_words : Value} {words : List Str} (h_words : Sl encS w0 (Iv 0 w0.heap.size) v_words words) (hso : SOk words) (hsz : words.length ≤ 1000000) :
    Calls Try.prog 16 #[v_words] w0 (Ret fun rv w1 => ∃ u0 u1, rv = .tuple #[u0, u1] ∧ (∃ gr, Acc encB 5 1 w1 gr u0 (imgM words) ∧ (gr = 0 ∨ w0.heap.size < gr)) ∧ u1 = .int .i64 (goodL words) ∧ Ext w0 w1) := by
  have hE0 : Ext w0 w0 := Mod.refl _ _
  have hle1 := h_words.le
  refine calls_enter Try.func16 rfl Try.ntmps16 rfl ?_
  refine r_seq ?_
  refine r_region ?_
  refine OL.q (Q1.assign rfl) rfl rfl ?_
  refine OL.q (Q1.assign rfl) rfl rfl ?_
  refine OL.nil ?_
  refine r_seq ?_
  refine r_region ?_
  refine OL.q (Q1.move rfl) rfl rfl ?_
  refine OL.act rfl rfl (AW.callF cl59 rfl (r8build_c (w0 := w0) (R := Iv 0 w0.heap.size) (words := words) (h_words.iv (Nat.zero_le _) (by omega)) (fun b hb => hb.2) (by first | assumption) (by first | assumption | omega)) ?_)
  rintro _ w1 ⟨u1, rfl, hm1, hrg8⟩
  have f1 := h_words.ext hm1
  have hE1 := hE0.ext hm1
  have hs1 := hm1.size
  have := goodL_range words
  rcases hrg8 with ⟨hrn, hru⟩ | ⟨hry, bG8, hs8, F8, hru, hA8, hF8⟩
  · subst hru
    refine OL.q (Q1.move rfl) rfl rfl ?_
    refine OL.q (Q1.extract rfl rfl) rfl rfl ?_
    refine OL.q (Q1.extract rfl rfl) rfl rfl ?_
    refine OL.q (Q1.assign rfl) rfl rfl ?_
    refine OL.q (Q1.assign rfl) rfl rfl ?_
    refine OL.nil ?_
    refine r_seq ?_
    refine r_seq ?_
    refine r_region ?_
    refine OL.q (Q1.move rfl) rfl rfl ?_
    refine OL.qb (Q1.ne rfl rfl) rfl rfl ?_
    intro b1 hb1
    obtain rfl : b1 = true := hb1.trans (by exact bne_iff_ne.2 hrn)
    refine OL.nil ?_
    refine r_cond_t rfl ?_
    refine r_seq ?_
    refine r_region ?_
    refine OL.q (Q1.move rfl) rfl rfl ?_
    refine OL.q (Q1.assign rfl) rfl rfl ?_
    refine OL.q (Q1.assign rfl) rfl rfl ?_
    refine OL.nil ?_
    refine r_ret2 Try.func16 rfl rfl rfl ?_
    exact Ret.mk ⟨_, _, rfl, ⟨0, Acc.cast Acc.nil (by first | exact imgM_no hrn | rfl | (rw [← gnodes_yes hry]; exact enc_img hry) | exact hry.symm | (exfalso; omega)), .inl rfl⟩, (congrArg (Value.int .i64) (by first | exact imgM_no hrn | rfl | (rw [← gnodes_yes hry]; exact enc_img hry) | exact hry.symm | (exfalso; omega))), hE1⟩
  · subst hru
    obtain ⟨vN8, nds8, hrw8, hsl8, hrr8⟩ := rg_facts hA8 hF8 (fun b hb => by have := hb.2; omega)
    have hnl8 := (All2.get hrr8).1
    have hgok8 := gok_of hry
    have hsz8 := hgok8.size
    refine OL.q (Q1.move rfl) rfl rfl ?_
    refine OL.q (Q1.extract rfl rfl) rfl rfl ?_
    refine OL.q (Q1.extract rfl rfl) rfl rfl ?_
    refine OL.q (Q1.assign rfl) rfl rfl ?_
    refine OL.q (Q1.assign rfl) rfl rfl ?_
    refine OL.nil ?_
    refine r_seq ?_
    refine r_seq ?_
    refine r_region ?_
    refine OL.q (Q1.move rfl) rfl rfl ?_
    refine OL.qb (Q1.ne rfl rfl) rfl rfl ?_
    intro b1 hb1
    obtain rfl : b1 = false := hb1.trans (by exact bne_eq_false_iff_eq.2 hry)
    refine OL.nil ?_
    refine r_cond_f rfl ?_
    refine r_skip ?_
    refine r_seq ?_
    refine r_region ?_
    refine OL.q (Q1.move rfl) rfl rfl ?_
    refine OL.act rfl rfl (AW.callF cl60 rfl (r9encode_c (w0 := w1)   hrw8 hsl8 hrr8 ⟨by omega, by omega⟩ (by exact hgok8.elen) (by (rw [← gnodes_yes hry]; exact hgok8.edges.1)) (by (rw [← gnodes_yes hry]; exact body_len hry))) ?_)
    rintro v1 w2 ⟨⟨gr1, h1, hg1⟩, hm2⟩
    have f2 := f1.ext hm2
    have f3 := hsl8.ext hm2
    have f4 := hrr8.ext hm2
    have f5 := hrw8.ext hm2
    have hE2 := hE1.ext hm2
    have hs2 := hm2.size
    have hle_1 := h1.le
    have hlt_1 := h1.lt
    refine OL.q (Q1.assign rfl) rfl rfl ?_
    refine OL.q (Q1.assign rfl) rfl rfl ?_
    refine OL.nil ?_
    refine r_ret2 Try.func16 rfl rfl rfl ?_
    exact Ret.mk ⟨_, _, rfl, ⟨_, Acc.cast h1 (by first | exact imgM_no hrn | rfl | (rw [← gnodes_yes hry]; exact enc_img hry) | exact hry.symm | (exfalso; omega)), by omega⟩, (congrArg (Value.int .i64) (by first | exact imgM_no hrn | rfl | (rw [← gnodes_yes hry]; exact enc_img hry) | exact hry.symm | (exfalso; omega))), hE2⟩
end Go.Proofs
namespace Go.Proofs
open Go.Ik Go.Ml
set_option maxRecDepth 20000 in
set_option maxHeartbeats 4000000 in
theorem r9opened_c {w0 : World}  {v_b : Value} {b : List UInt8} (h_b : Sl encB w0 (Iv 0 w0.heap.size) v_b b) (hbl : b.length ≤ 4000000) :
    Calls Try.prog 70 #[v_b] w0 (Ret fun rv w1 => (∃ rb : Bool, rb = (openB b) ∧ rv = .bool rb) ∧ Ext w0 w1) := by
  have hE0 : Ext w0 w0 := Mod.refl _ _
  have hle1 := h_b.le
  refine calls_enter Try.func70 rfl Try.ntmps70 rfl ?_
  refine r_seq ?_
  refine r_region ?_
  refine OL.q (Q1.assign rfl) rfl rfl ?_
  refine OL.nil ?_
  refine r_seq ?_
  refine r_seq ?_
  refine r_region ?_
  refine OL.q (Q1.move rfl) rfl rfl ?_
  refine OL.q (Q1.lenSl Try.underlying25 (h_b) rfl) rfl rfl ?_
  refine OL.qb (Q1.lt rfl rfl) rfl rfl ?_
  intro b1 hb1
  refine OL.nil ?_
  cases b1 with
  | true =>
    replace hb1 := of_decide_eq_true hb1.symm
    refine r_cond_t rfl ?_
    refine r_seq ?_
    refine r_region ?_
    refine OL.q (Q1.assign rfl) rfl rfl ?_
    refine OL.nil ?_
    refine r_ret1 Try.func70 rfl rfl ?_
    exact Ret.mk ⟨⟨_, (by first | exact openB_short (by omega) | exact openB_eq (by omega) (by assumption) | (exfalso; omega)), rfl⟩, hE0⟩
  | false =>
    replace hb1 := of_decide_eq_false hb1.symm
    refine r_cond_f rfl ?_
    refine r_skip ?_
    refine r_seq ?_
    refine r_region ?_
    refine OL.q (Q1.move rfl) rfl rfl ?_
    refine OL.q (Q1.move rfl) rfl rfl ?_
    refine OL.q (Q1.lenSl Try.underlying25 (h_b) rfl) rfl rfl ?_
    refine OL.q (Q1.subI ((((b.length : Nat) : Int) - 4)) rfl rfl (by omega)) rfl rfl ?_
    refine OL.act rfl rfl (AW.callF cl103 rfl (r3num_c (w0 := w0) (b := b) ((((b.length : Nat) : Int) - 4)) (4) ((h_b).iv (Nat.zero_le _) (by omega)) (by first | omega | assumption) (by first | assumption | omega | (simp only [List.length_append, putN_len, List.length_cons, List.length_nil]; omega)) (by first | omega | decide)) ?_)
    rintro _ w1 ⟨_, _, rfl, rfl, ⟨b2, hb2, rfl⟩, hm1⟩
    have f1 := h_b.ext hm1
    have hE1 := hE0.ext hm1
    have hs1 := hm1.size
    have := numV_rng b ((((b.length : Nat) : Int) - 4)) 4
    refine OL.q (Q1.move rfl) rfl rfl ?_
    refine OL.q (Q1.extract rfl rfl) rfl rfl ?_
    refine OL.q (Q1.extract rfl rfl) rfl rfl ?_
    refine OL.q (Q1.assign rfl) rfl rfl ?_
    refine OL.q (Q1.assign rfl) rfl rfl ?_
    refine OL.nil ?_
    refine r_seq ?_
    refine r_region ?_
    refine OL.q (Q1.move rfl) rfl rfl ?_
    refine OL.q (Q1.move rfl) rfl rfl ?_
    refine OL.q (Q1.move rfl) rfl rfl ?_
    refine OL.q (Q1.lenSl Try.underlying25 (f1) rfl) rfl rfl ?_
    refine OL.q (Q1.subI ((((b.length : Nat) : Int) - 4)) rfl rfl (by omega)) rfl rfl ?_
    obtain ⟨v1, hr1, hl1⟩ := Sl.part (P := Try.prog) f1 Try.underlying25 ti5 encB_len (0) ((b.length - 4)) (.inl ⟨rfl, rfl⟩) (.inr ⟨.i64, (((b.length : Nat) : Int) - 4), rfl, by omega⟩) (by omega) (by first | assumption | omega)
    refine OL.q (Q1.sliceV rfl rfl rfl rfl hr1) rfl rfl ?_
    replace hl1 : Sl encB w1 (Iv 0 w0.heap.size) v1 (b.take ((b.length - 4))) := by simpa using hl1
    refine OL.act rfl rfl (AW.callF cl104 rfl (r2of_c (w0 := w1) (b := (b.take ((b.length - 4))))  ((hl1).iv (Nat.zero_le _) (by omega)) (by (simp only [List.length_take]; omega))) ?_)
    rintro _ w2 ⟨rfl, hm2⟩
    have f2 := f1.ext hm2
    have f3 := hl1.ext hm2
    have hE2 := hE1.ext hm2
    have hs2 := hm2.size
    have := sumF_lt 0 ((b.take ((b.length - 4))))
    change sumN ((b.take ((b.length - 4)))) < _ at this
    refine OL.q (Q1.convN (by kernel_rfl) Try.underlying3 rfl (IntWalk.i64_in _ (by omega))) rfl rfl ?_
    refine OL.qb (Q1.eq rfl rfl) rfl rfl ?_
    intro b3 hb3
    refine OL.q (Q1.assign rfl) rfl rfl ?_
    refine OL.nil ?_
    refine r_ret1 Try.func70 rfl rfl ?_
    exact Ret.mk ⟨⟨_, (by first | exact openB_short (by omega) | exact openB_eq (by omega) (by assumption) | (exfalso; omega)), rfl⟩, hE2⟩
set_option maxRecDepth 20000 in
set_option maxHeartbeats 4000000 in
theorem r9num_c {w0 : World} {F G : Nat → Prop} {br : Nat} {v_b : Value} {b : List UInt8} (a : Int) (q : Bool) (size : Nat) (hA : (bkR (R := fun _ => False) br [v_b, .int .i64 a, .bool q] 111).p F w0) (hF : ∀ b, F b → b < w0.heap.size) (hb : Sl encB w0 G v_b b) (hG : ∀ b, G b → ¬ F b) (hGl : ∀ b, G b → b < w0.heap.size) (ha : 0 ≤ a ∧ a ≤ b.length) (hbl : b.length ≤ 4000000) (hsz : 1 ≤ size ∧ size ≤ 4) :
    Calls Try.prog 71 #[ptr br 0, .int .i64 (size : Int)] w0 (Ret fun rv w1 => rv = .int .i64 (numR b size (a, q)).1 ∧ Mod F w0 w1 ∧ ∃ F2, (bkR (R := fun _ => False) br [v_b, .int .i64 ((numR b size (a, q)).2.1), .bool (numR b size (a, q)).2.2] 111).p F2 w1 ∧ ∀ b, F2 b → b < w1.heap.size ∧ (F b ∨ w0.heap.size ≤ b)) := by
  have hS00 := St.start1 (R := fun _ => False) hA (fun b hb => ⟨hF b hb, id⟩) (fun _ h => h.elim)
  have hS1 : St (fun _ => False) F w0 w0 [bkR br [v_b, .int .i64 a, .bool q] 111] := hS00
  have hble := hb.le
  refine calls_enter Try.func71 rfl Try.ntmps71 rfl ?_
  refine r_seq ?_
  refine r_region ?_
  refine OL.q (Q1.assign rfl) rfl rfl ?_
  refine OL.nil ?_
  refine r_seq ?_
  refine r_draw1 (fun i => Nat.beq i 9) 15 (fun w' => Mod (Mg 0) w0 w') mixed (by kernel_rfl) ?_
  intro w1 hm1
  have hS2 := hS1.ext hm1
  have hCw1 : Mod (Mg 0) w0 w1 := Mod.ofExt hm1
  refine ⟨hCw1, ?_⟩
  rw [show List.range' 0 (Array.size _) = [0, 1, 2, 3, 4, 5, 6, 7, 8, 9, 10, 11, 12, 13, 14] from rfl]
  refine OD.q rfl rfl (Q1.move rfl) rfl rfl ?_
  refine OD.q rfl rfl (Q1.nilCheckP rfl) rfl rfl ?_
  refine OD.q rfl rfl (Q1.fieldAddr fl111_0 rfl) rfl rfl ?_
  have f1 := hS1.bk (i := 0) rfl
  refine OD.q rfl rfl (Q1.load1 ti25 rfl (fun _ hc => (f1.cell 0 _ rfl).keepG hc (Nat.succ_ne_zero _))) rfl rfl ?_
  refine OD.q rfl rfl (Q1.move rfl) rfl rfl ?_
  refine OD.q rfl rfl (Q1.nilCheckP rfl) rfl rfl ?_
  refine OD.q rfl rfl (Q1.fieldAddr fl111_1 rfl) rfl rfl ?_
  refine OD.q rfl rfl (Q1.load1 ti3 rfl (fun _ hc => (f1.cell 1 _ rfl).keepG hc (Nat.succ_ne_zero _))) rfl rfl ?_
  refine OD.q rfl rfl (Q1.move rfl) rfl rfl ?_
  have f2 := hS2.out hb hG
  refine OD.act rfl rfl rfl rfl (AW.callF cl103 rfl (r3num_c (w0 := w1) (b := b) (a) (size) (f2.mono (fun b hb => ⟨Nat.zero_le _, Nat.lt_of_lt_of_le (hGl b hb) hS2.mod.size⟩)) (by first | omega | assumption) (by first | assumption | omega | (simp only [List.length_append, putN_len, List.length_cons, List.length_nil]; omega)) (by first | omega | decide)) ?_)
  rintro _ w2 ⟨_, _, rfl, rfl, ⟨b1, hb1, rfl⟩, hm2⟩
  have hS3 := hS2.ext hm2
  have hCw2 := hCw1.ext hm2
  refine ⟨.inr hCw2, ?_⟩
  have := numV_rng b a size
  refine OD.q rfl rfl (Q1.move rfl) rfl rfl ?_
  refine OD.q rfl rfl (Q1.extract rfl rfl) rfl rfl ?_
  refine OD.q rfl rfl (Q1.extract rfl rfl) rfl rfl ?_
  refine OD.q rfl rfl (Q1.assign rfl) rfl rfl ?_
  refine OD.q rfl rfl (Q1.assign rfl) rfl rfl ?_
  refine OD.nil ?_
  refine r_seq ?_
  refine r_seq ?_
  refine r_region ?_
  refine OL.q (Q1.move rfl) rfl rfl ?_
  cases b1 with
  | true =>
    replace hb1 := hb1.symm
    refine OL.q (Q1.not rfl) rfl rfl ?_
    refine OL.nil ?_
    refine r_cond_f rfl ?_
    refine r_skip ?_
    refine r_seq ?_
    refine r_region ?_
    refine OL.q (Q1.move rfl) rfl rfl ?_
    refine OL.q (Q1.move rfl) rfl rfl ?_
    refine OL.q (Q1.nilCheckP rfl) rfl rfl ?_
    refine OL.q (Q1.fieldAddr fl111_1 rfl) rfl rfl ?_
    have f3 := hS3.bk (i := 0) rfl
    refine OL.q (Q1.load1 ti3 rfl (fun _ e => e ▸ (f3.cell 1 _ rfl))) rfl rfl ?_
    refine OL.q (Q1.move rfl) rfl rfl ?_
    refine OL.q (Q1.addI ((a + (((size : Nat) : Int)))) rfl rfl (by omega)) rfl rfl ?_
    refine OL.q (Q1.nilCheckP rfl) rfl rfl ?_
    refine OL.q (Q1.fieldAddr fl111_1 rfl) rfl rfl ?_
    refine OL.act rfl rfl (AW.store ti3 rfl rfl rfl rfl rfl f3 (Nat.le_of_ble_eq_true rfl) ?_)
    intro w3 hm3 hz1 hk1
    have hS4 : St (fun _ => False) F w0 w3 [bkR br [v_b, .int .i64 ((a + (((size : Nat) : Int)))), .bool q] 111] := hS3.bkK (i := 0) rfl hm3 hk1
    refine OL.nil ?_
    refine r_seq ?_
    refine r_region ?_
    refine OL.q (Q1.move rfl) rfl rfl ?_
    refine OL.q (Q1.assign rfl) rfl rfl ?_
    refine OL.nil ?_
    refine r_ret1 Try.func71 rfl rfl ?_
    obtain ⟨hmF, F2r, hAr, hFr⟩ := hS4.fin
    have hnr : numR b size (a, q) = ((numV b a size), ((a + (((size : Nat) : Int))), q)) := by first | exact numR_yes (by assumption) | exact numR_no (by assumption)
    exact Ret.mk ⟨by first | (rw [hnr]; done) | (rw [hnr]; rfl), hmF, F2r, by rw [hnr]; exact hAr, hFr⟩
  | false =>
    replace hb1 := hb1.symm
    refine OL.q (Q1.not rfl) rfl rfl ?_
    refine OL.nil ?_
    refine r_cond_t rfl ?_
    refine r_seq ?_
    refine r_region ?_
    refine OL.q (Q1.move rfl) rfl rfl ?_
    refine OL.q (Q1.nilCheckP rfl) rfl rfl ?_
    refine OL.q (Q1.fieldAddr fl111_2 rfl) rfl rfl ?_
    have f3 := hS3.bk (i := 0) rfl
    refine OL.act rfl rfl (AW.store ti4 rfl rfl rfl rfl rfl f3 (Nat.le_of_ble_eq_true rfl) ?_)
    intro w3 hm3 hz1 hk1
    have hS4 : St (fun _ => False) F w0 w3 [bkR br [v_b, .int .i64 a, .bool true] 111] := hS3.bkK (i := 0) rfl hm3 hk1
    refine OL.nil ?_
    refine r_seq ?_
    refine r_region ?_
    refine OL.q (Q1.assign rfl) rfl rfl ?_
    refine OL.nil ?_
    refine r_ret1 Try.func71 rfl rfl ?_
    obtain ⟨hmF, F2r, hAr, hFr⟩ := hS4.fin
    have hnr : numR b size (a, q) = (0, (a, true)) := by first | exact numR_yes (by assumption) | exact numR_no (by assumption)
    exact Ret.mk ⟨by first | (rw [hnr]; done) | (rw [hnr]; rfl), hmF, F2r, by rw [hnr]; exact hAr, hFr⟩
set_option maxRecDepth 20000 in
set_option maxHeartbeats 4000000 in
theorem r9words_c : ∀ (f : Nat) {w0 : World} {F G : Nat → Prop} {vp vo : Value} {nds : List RNode} {N : List RP} {out : List Str} (n d : Int) (a : Str) (hA : (accR (R := fun _ => False) encS 9 1 vo out).p F w0) (hF : ∀ b, F b → b < w0.heap.size) (hsl : Sl encN w0 G vp nds) (hrel : PRel w0 G nds N) (hG : ∀ b, G b → ¬ F b) (hGl : ∀ b, G b → b < w0.heap.size) (hN : RpOk N) (hn : I64 n) (hd : 0 ≤ d ∧ d ≤ 13 ∧ 13 ≤ d + f) (ha : (a.length : Int) ≤ 4 * d) (ho : out.length ≤ 61),
    Calls Try.prog 72 #[vp, .int .i64 n, .int .i64 d, strV a, vo] w0 (Ret fun rv w1 => ∃ v2, rv = .tuple #[v2, .bool (wordsP N (f + 1) n d a out).2] ∧ Mod F w0 w1 ∧ ∃ F2, (accR (R := fun _ => False) encS 9 1 v2 (wordsP N (f + 1) n d a out).1).p F2 w1 ∧ ∀ b, F2 b → b < w1.heap.size ∧ (F b ∨ w0.heap.size ≤ b)) := by
  intro f
  induction f using Nat.strongRecOn with
  | _ f ih0 =>
  intro w0 F G vp vo nds N out n d a hA hF hsl hrel hG hGl hN hn hd ha ho
  have hS00 := St.start1 (R := fun _ => False) hA (fun b hb => ⟨hF b hb, id⟩) (fun _ h => h.elim)
  have hS1 : St (fun _ => False) F w0 w0 [accR encS 9 1 vo out] := hS00
  have hnl := (All2.get hrel).1
  have hple := hsl.le
  have hN1 := hN.1
  refine calls_enter Try.func72 rfl Try.ntmps72 rfl ?_
  refine r_seq ?_
  refine r_region ?_
  refine OL.q (Q1.assign rfl) rfl rfl ?_
  refine OL.q (Q1.assign rfl) rfl rfl ?_
  refine OL.nil ?_
  refine r_seq ?_
  refine r_seq ?_
  refine r_region ?_
  refine OL.q (Q1.move rfl) rfl rfl ?_
  refine OL.qb (Q1.lt rfl rfl) rfl rfl ?_
  intro b1 hb1
  refine OL.q (Q1.move rfl) rfl rfl ?_
  cases b1 with
  | true =>
    replace hb1 := of_decide_eq_true hb1.symm
    refine OL.sk rfl rfl ?_
    refine OL.sk rfl rfl ?_
    refine OL.sk rfl rfl ?_
    refine OL.sk rfl rfl ?_
    refine OL.q (Q1.pick_t rfl rfl) rfl rfl ?_
    refine OL.q (Q1.move rfl) rfl rfl ?_
    refine OL.sk rfl rfl ?_
    refine OL.sk rfl rfl ?_
    refine OL.q (Q1.pick_t rfl rfl) rfl rfl ?_
    refine OL.q (Q1.move rfl) rfl rfl ?_
    refine OL.sk rfl rfl ?_
    refine OL.sk rfl rfl ?_
    refine OL.sk rfl rfl ?_
    refine OL.q (Q1.pick_t rfl rfl) rfl rfl ?_
    refine OL.nil ?_
    refine r_cond_t rfl ?_
    refine r_seq ?_
    refine r_region ?_
    refine OL.q (Q1.move rfl) rfl rfl ?_
    refine OL.q (Q1.assign rfl) rfl rfl ?_
    refine OL.q (Q1.assign rfl) rfl rfl ?_
    refine OL.nil ?_
    refine r_ret2 Try.func72 rfl rfl rfl ?_
    have hw : wordsP N (f + 1) n d a out = (out, false) := wordsP_no (by omega)
    obtain ⟨hmF, F2r, hAr, hFr⟩ := hS1.fin
    exact Ret.mk ⟨_, by rw [hw], hmF, F2r, by rw [hw]; exact hAr, hFr⟩
  | false =>
    replace hb1 := of_decide_eq_false hb1.symm
    refine OL.q (Q1.move rfl) rfl rfl ?_
    refine OL.q (Q1.move rfl) rfl rfl ?_
    refine OL.q (Q1.lenSl Try.underlying112 (hsl) rfl) rfl rfl ?_
    refine OL.qb (Q1.ge rfl rfl) rfl rfl ?_
    intro b2 hb2
    refine OL.q (Q1.pick_f rfl rfl) rfl rfl ?_
    refine OL.q (Q1.move rfl) rfl rfl ?_
    cases b2 with
    | true =>
      replace hb2 := of_decide_eq_true hb2.symm
      refine OL.sk rfl rfl ?_
      refine OL.sk rfl rfl ?_
      refine OL.q (Q1.pick_t rfl rfl) rfl rfl ?_
      refine OL.q (Q1.move rfl) rfl rfl ?_
      refine OL.sk rfl rfl ?_
      refine OL.sk rfl rfl ?_
      refine OL.sk rfl rfl ?_
      refine OL.q (Q1.pick_t rfl rfl) rfl rfl ?_
      refine OL.nil ?_
      refine r_cond_t rfl ?_
      refine r_seq ?_
      refine r_region ?_
      refine OL.q (Q1.move rfl) rfl rfl ?_
      refine OL.q (Q1.assign rfl) rfl rfl ?_
      refine OL.q (Q1.assign rfl) rfl rfl ?_
      refine OL.nil ?_
      refine r_ret2 Try.func72 rfl rfl rfl ?_
      have hw : wordsP N (f + 1) n d a out = (out, false) := wordsP_no (by omega)
      obtain ⟨hmF, F2r, hAr, hFr⟩ := hS1.fin
      exact Ret.mk ⟨_, by rw [hw], hmF, F2r, by rw [hw]; exact hAr, hFr⟩
    | false =>
      replace hb2 := of_decide_eq_false hb2.symm
      refine OL.q (Q1.move rfl) rfl rfl ?_
      refine OL.qb (Q1.gt rfl rfl) rfl rfl ?_
      intro b3 hb3
      refine OL.q (Q1.pick_f rfl rfl) rfl rfl ?_
      refine OL.q (Q1.move rfl) rfl rfl ?_
      cases b3 with
      | true =>
        replace hb3 := of_decide_eq_true hb3.symm
        refine OL.sk rfl rfl ?_
        refine OL.sk rfl rfl ?_
        refine OL.sk rfl rfl ?_
        refine OL.q (Q1.pick_t rfl rfl) rfl rfl ?_
        refine OL.nil ?_
        refine r_cond_t rfl ?_
        refine r_seq ?_
        refine r_region ?_
        refine OL.q (Q1.move rfl) rfl rfl ?_
        refine OL.q (Q1.assign rfl) rfl rfl ?_
        refine OL.q (Q1.assign rfl) rfl rfl ?_
        refine OL.nil ?_
        refine r_ret2 Try.func72 rfl rfl rfl ?_
        have hw : wordsP N (f + 1) n d a out = (out, false) := wordsP_no (by omega)
        obtain ⟨hmF, F2r, hAr, hFr⟩ := hS1.fin
        exact Ret.mk ⟨_, by rw [hw], hmF, F2r, by rw [hw]; exact hAr, hFr⟩
      | false =>
        replace hb3 := of_decide_eq_false hb3.symm
        refine OL.q (Q1.move rfl) rfl rfl ?_
        obtain ⟨g1, f1, hl1, k1⟩ := hS1.accK (i := 0) rfl
        refine OL.q (Q1.lenSl Try.underlying22 (f1.sl) rfl) rfl rfl ?_
        refine OL.qb (Q1.gt rfl rfl) rfl rfl ?_
        intro b4 hb4
        refine OL.q (Q1.pick_f rfl rfl) rfl rfl ?_
        refine OL.nil ?_
        cases b4 with
        | true =>
          replace hb4 := of_decide_eq_true hb4.symm
          refine r_cond_t rfl ?_
          refine r_seq ?_
          refine r_region ?_
          refine OL.q (Q1.move rfl) rfl rfl ?_
          refine OL.q (Q1.assign rfl) rfl rfl ?_
          refine OL.q (Q1.assign rfl) rfl rfl ?_
          refine OL.nil ?_
          refine r_ret2 Try.func72 rfl rfl rfl ?_
          have hw : wordsP N (f + 1) n d a out = (out, false) := wordsP_no (by omega)
          obtain ⟨hmF, F2r, hAr, hFr⟩ := hS1.fin
          exact Ret.mk ⟨_, by rw [hw], hmF, F2r, by rw [hw]; exact hAr, hFr⟩
        | false =>
          replace hb4 := of_decide_eq_false hb4.symm
          refine r_cond_f rfl ?_
          refine r_skip ?_
          refine r_seq ?_
          refine r_seq ?_
          refine r_region ?_
          refine OL.q (Q1.move rfl) rfl rfl ?_
          obtain ⟨fe, hfe⟩ : ∃ e, f = e + 1 := ⟨f - 1, by omega⟩
          refine OL.q (Q1.move rfl) rfl rfl ?_
          obtain ⟨x1, b5, o1, hx1, hr1, hl2, hw1⟩ := Sl.atF (P := Try.prog) hsl Try.underlying112 ti115 encN_len (k := .i64) (n := n) ((n).toNat) (by omega) (by first | assumption | omega)
          refine OL.q (Q1.indexAddr rfl rfl hr1) rfl rfl ?_
          refine OL.q (Q1.fieldAddr fl115_0 rfl) rfl rfl ?_
          have hr2 := hw1.sub 0 1 (Nat.le_of_ble_eq_true rfl)
          refine OL.q (Q1.load1 ti4 rfl (fun _ e => e ▸ hr2)) rfl rfl ?_
          obtain ⟨gn1, hgn1, hgf1, hgs1⟩ := hrel.at hx1
          have hNb_gn1 := hN.2 _ (List.mem_of_getElem? hgn1)
          obtain ⟨fb1, hfq1⟩ : ∃ b, x1.fin = b := ⟨_, rfl⟩
          first | rw [show encN x1 = [.bool fb1, x1.e.val] from by rw [← hfq1]; rfl] | rw [hfq1]
          have hfb1 : fb1 = gn1.1 := by rw [← hfq1]; first | exact hgf1 | exact hgf1.symm
          refine OL.nil ?_
          cases fb1 with
          | true =>
            replace hfb1 := hfb1.symm
            refine r_cond_t rfl ?_
            refine r_region ?_
            refine OL.q (Q1.move rfl) rfl rfl ?_
            refine OL.q (Q1.move rfl) rfl rfl ?_
            refine OL.act rfl rfl (AW.buildSlice [strV a] Try.underlying22 ti9 rfl rfl rfl (by decide) ?_)
            intro w1 b6 hm1 hb5 hz1 hk1
            have hS2 := hS1.ext hm1
            have hl3 := Sl.of_blk (enc := encS) hk1 ([a] : List Str) 1 rfl rfl (by unfold maxLen; omega)
            have hS3 : St (fun _ => False) F w0 w1 [accR encS 9 1 vo out, slR encS [((.slice (some ⟨b6, 0, none⟩) 1 1), [a])]] := hS1.newSlB hm1 hb5 hz1 hl3
            obtain ⟨g3, f2, hl4, k2⟩ := hS3.accK (i := 0) rfl
            have f3 := hS3.sl (i := 1) (k := 0) rfl rfl
            refine OL.act rfl rfl (AW.append f2 Try.underlying22 ti9 rfl encS_len encS_one rfl rfl (f3) (by first | omega | (simp only [List.length_append, List.length_cons, List.length_nil]; omega) | (simp; omega)) (by unfold maxLen; first | omega | (simp only [List.length_append, List.length_cons, List.length_nil]; omega) | (simp; omega)) ?_)
            intro v1 g2 w2 ha1 hm2 hg1 hz2
            have hS4 : St (fun _ => False) F w0 w2 [accR encS 9 1 v1 ((out ++ [a])), slR encS [((.slice (some ⟨b6, 0, none⟩) 1 1), [a])]] := k2 _ _ _ _ hm2 ha1 hg1
            clear hg1
            refine OL.q (Q1.assign rfl) rfl rfl ?_
            refine OL.nil ?_
            refine r_seq ?_
            refine r_seq ?_
            refine r_region ?_
            refine OL.q (Q1.assign rfl) rfl rfl ?_
            refine OL.nil ?_
            refine r_block ?_
            have hS6 : St (fun _ => False) F w0 w2 [accR encS 9 1 v1 ((out ++ [a]))] := hS4.sel [0] (by rfl) (by decide)
            refine r_loop (I := fun m E W => ∃ (v_ol : Value) (ol : List Str) (k : Nat), E = [(0, vp), (1, .int .i64 n), (2, .int .i64 d), (3, strV a), (4, v_ol), (12, .int .i64 (((k : Nat) : Int)))] ∧ m = gn1.2.length - k ∧ St (fun _ => False) F w0 W [accR encS 9 1 v_ol ol] ∧ (wordsP N (f + 1) n d a out = eachP (fun out e => wordsP N f e.2 (d + 1) (a ++ encR e.1) out) ol (gn1.2.drop k)) ∧ (ol.length ≤ 61)) ?_ ?_
            · refine ⟨_, _, ⟨(v1 : Value), ((out ++ [a]) : List Str), (0 : Nat), rfl, rfl, hS6, (by rw [wordsP_go (by omega) hgn1, List.drop_zero]; first | rw [if_pos hfb1] | rw [if_neg (by rw [hfb1]; decide)]), (by first | omega | (simp only [List.length_append, List.length_cons, List.length_nil]; omega))⟩, ⟨rfl, rfl, rfl, rfl, rfl, rfl, trivial⟩⟩
            · rintro _ _ w3 ⟨v_ol, ol, k, rfl, rfl, hS5, hI, hol⟩ ih1
              refine r_seq ?_
              refine r_seq ?_
              refine r_region ?_
              refine OL.q (Q1.move rfl) rfl rfl ?_
              refine OL.q (Q1.move rfl) rfl rfl ?_
              refine OL.q (Q1.move rfl) rfl rfl ?_
              have f4 := hS5.out hsl hG
              obtain ⟨x2, b7, o2, hx2, hr3, hl5, hw2⟩ := Sl.atF (P := Try.prog) f4 Try.underlying112 ti115 encN_len (k := .i64) (n := n) ((n).toNat) (by omega) (by first | assumption | omega)
              obtain rfl : x1 = x2 := Option.some.inj (hx1.symm.trans hx2)
              refine OL.q (Q1.indexAddr rfl rfl hr3) rfl rfl ?_
              refine OL.q (Q1.fieldAddr fl115_1 rfl) rfl rfl ?_
              have hr4 := hw2.sub 1 1 (Nat.le_of_ble_eq_true rfl)
              refine OL.q (Q1.load1 ti113 rfl (fun _ e => e ▸ hr4)) rfl rfl ?_
              have f5 := hS5.out hgs1 hG
              refine OL.q (Q1.lenSl Try.underlying113 (f5) rfl) rfl rfl ?_
              refine OL.qb (Q1.lt rfl rfl) rfl rfl ?_
              intro b8 hb6
              refine OL.nil ?_
              cases b8 with
              | true =>
                replace hb6 := of_decide_eq_true hb6.symm
                refine r_cond_t rfl ?_
                refine r_skip ?_
                refine r_seq ?_
                refine r_block ?_
                refine r_seq ?_
                refine r_region ?_
                refine OL.q (Q1.move rfl) rfl rfl ?_
                refine OL.q (Q1.move rfl) rfl rfl ?_
                obtain ⟨x3, b9, o3, hx3, hr5, hl6, hw3⟩ := Sl.atF (P := Try.prog) f4 Try.underlying112 ti115 encN_len (k := .i64) (n := n) ((n).toNat) (by omega) (by first | assumption | omega)
                obtain rfl : x1 = x3 := Option.some.inj (hx1.symm.trans hx3)
                refine OL.q (Q1.indexAddr rfl rfl hr5) rfl rfl ?_
                refine OL.q (Q1.fieldAddr fl115_1 rfl) rfl rfl ?_
                have hr6 := hw3.sub 1 1 (Nat.le_of_ble_eq_true rfl)
                refine OL.q (Q1.load1 ti113 rfl (fun _ e => e ▸ hr6)) rfl rfl ?_
                refine OL.q (Q1.move rfl) rfl rfl ?_
                obtain ⟨x4, b10, o4, hx4, hr7, hl7, hw4⟩ := Sl.atF (P := Try.prog) f5 Try.underlying113 ti116 encI2_len (k := .i64) (n := ((k : Nat) : Int)) (k) (by omega) (by first | assumption | omega)
                refine OL.q (Q1.indexAddr rfl rfl hr7) rfl rfl ?_
                refine OL.q (Q1.indexArr Try.underlying116 ti3 rfl rfl 0 rfl (by decide)) rfl rfl ?_
                have hr8 := hw4.sub 0 1 (Nat.le_of_ble_eq_true rfl)
                refine OL.q (Q1.load1 ti3 rfl (fun _ e => e ▸ hr8)) rfl rfl ?_
                have hxE := hx4
                have hxB := (hNb_gn1).2 _ (List.mem_of_getElem? hx4)
                have hel := encR_le x4.1
                refine OL.q (Q1.assign rfl) rfl rfl ?_
                refine OL.nil ?_
                refine r_seq ?_
                refine r_seq ?_
                refine r_region ?_
                refine OL.q (Q1.move rfl) rfl rfl ?_
                refine OL.qb (Q1.gt rfl rfl) rfl rfl ?_
                intro b11 hb7
                refine OL.nil ?_
                cases b11 with
                | true =>
                  replace hb7 := of_decide_eq_true hb7.symm
                  refine r_cond_t rfl ?_
                  refine r_seq ?_
                  refine r_region ?_
                  refine OL.q (Q1.move rfl) rfl rfl ?_
                  refine OL.q (Q1.assign rfl) rfl rfl ?_
                  refine OL.q (Q1.assign rfl) rfl rfl ?_
                  refine OL.nil ?_
                  refine r_ret2 Try.func72 rfl rfl rfl ?_
                  have hw : wordsP N (f + 1) n d a out = (ol, false) := by rw [hI]; first | exact eachP_big hxE (by omega) | exact (eachP_stop hxE (by omega) (by (try dsimp only); rw [hwq]; first | exact .inl rfl | exact .inr (by (try dsimp only); omega))).trans (by (try dsimp only); rw [hwq]) | exact eachP_end _ _ (by omega)
                  obtain ⟨hmF, F2r, hAr, hFr⟩ := hS5.fin
                  exact Ret.mk ⟨_, by rw [hw], hmF, F2r, by rw [hw]; exact hAr, hFr⟩
                | false =>
                  replace hb7 := of_decide_eq_false hb7.symm
                  refine r_cond_f rfl ?_
                  refine r_skip ?_
                  refine r_seq ?_
                  refine r_region ?_
                  refine OL.q (Q1.move rfl) rfl rfl ?_
                  obtain ⟨g4, f6, hl8, k3⟩ := hS5.accK (i := 0) rfl
                  refine OL.q (Q1.lenSl Try.underlying22 (f6.sl) rfl) rfl rfl ?_
                  refine OL.q (Q1.assign rfl) rfl rfl ?_
                  refine OL.nil ?_
                  refine r_seq ?_
                  refine r_region ?_
                  refine OL.q (Q1.move rfl) rfl rfl ?_
                  refine OL.q (Q1.move rfl) rfl rfl ?_
                  refine OL.q (Q1.move rfl) rfl rfl ?_
                  obtain ⟨x5, b12, o5, hx5, hr9, hl9, hw5⟩ := Sl.atF (P := Try.prog) f4 Try.underlying112 ti115 encN_len (k := .i64) (n := n) ((n).toNat) (by omega) (by first | assumption | omega)
                  obtain rfl : x1 = x5 := Option.some.inj (hx1.symm.trans hx5)
                  refine OL.q (Q1.indexAddr rfl rfl hr9) rfl rfl ?_
                  refine OL.q (Q1.fieldAddr fl115_1 rfl) rfl rfl ?_
                  have hr10 := hw5.sub 1 1 (Nat.le_of_ble_eq_true rfl)
                  refine OL.q (Q1.load1 ti113 rfl (fun _ e => e ▸ hr10)) rfl rfl ?_
                  refine OL.q (Q1.move rfl) rfl rfl ?_
                  obtain ⟨x6, b13, o6, hx6, hr11, hl10, hw6⟩ := Sl.atF (P := Try.prog) f5 Try.underlying113 ti116 encI2_len (k := .i64) (n := ((k : Nat) : Int)) (k) (by omega) (by first | assumption | omega)
                  obtain rfl : x4 = x6 := Option.some.inj (hx4.symm.trans hx6)
                  refine OL.q (Q1.indexAddr rfl rfl hr11) rfl rfl ?_
                  refine OL.q (Q1.indexArr Try.underlying116 ti3 rfl rfl 1 rfl (by decide)) rfl rfl ?_
                  have hr12 := hw6.sub 1 1 (Nat.le_of_ble_eq_true rfl)
                  refine OL.q (Q1.load1 ti3 rfl (fun _ e => e ▸ hr12)) rfl rfl ?_
                  refine OL.q (Q1.move rfl) rfl rfl ?_
                  refine OL.q (Q1.addI ((d + 1)) rfl rfl (by omega)) rfl rfl ?_
                  refine OL.q (Q1.move rfl) rfl rfl ?_
                  refine OL.q (Q1.move rfl) rfl rfl ?_
                  refine OL.q (Q1.convN (by kernel_rfl) Try.underlying21 rfl (IntWalk.i32_in _ (by omega))) rfl rfl ?_
                  refine OL.q (Q1.convRS (by kernel_rfl) Try.underlying9 rfl) rfl rfl ?_
                  refine OL.q (Q1.catS rfl rfl (by first | omega | (simp only [List.length_append]; omega))) rfl rfl ?_
                  refine OL.q (Q1.move rfl) rfl rfl ?_
                  obtain ⟨Fy1, hAy1, hFy1, hky1⟩ := hS5.act (i := 0) rfl
                  refine OL.act rfl rfl (AW.callF cl72 rfl (ih0 fe (by omega) (w0 := w3) (x4.2) ((d + 1)) ((a ++ (encR x4.1))) hAy1 (fun b hb => (hFy1 b hb).2) (hsl.keep hS5.mod hG) (hrel.keep hS5.mod hG) (fun b hb hx => by have := (hFy1 b hx).1.1; rcases this with h | h; exact hG b hb h; have := hGl b hb; omega) (fun b hb => Nat.lt_of_lt_of_le (hGl b hb) hS5.mod.size) hN (by unfold I64; omega) (by omega) (by have := encR_le x4.1; simp only [List.length_append]; omega) hol) ?_)
                  rintro _ w4 ⟨v2, rfl, hm3, F1, hA1, hF1⟩
                  rw [← hfe] at hA1 ⊢
                  have hml := wordsP_len N f x4.2 ((d + 1)) ((a ++ (encR x4.1))) ol hol
                  obtain ⟨⟨mo, ok⟩, hwq⟩ : ∃ x, wordsP N f x4.2 ((d + 1)) ((a ++ (encR x4.1))) ol = x := ⟨_, rfl⟩
                  rw [hwq] at hA1 hml ⊢
                  dsimp only at hA1 hml ⊢
                  have hS7 : St (fun _ => False) F w0 w4 [accR encS 9 1 v2 mo] := hky1 _ _ _ hm3 hA1 hF1
                  clear hAy1 hFy1 hky1 hA1
                  refine OL.q (Q1.move rfl) rfl rfl ?_
                  refine OL.q (Q1.extract rfl rfl) rfl rfl ?_
                  refine OL.q (Q1.extract rfl rfl) rfl rfl ?_
                  refine OL.q (Q1.assign rfl) rfl rfl ?_
                  refine OL.q (Q1.assign rfl) rfl rfl ?_
                  refine OL.nil ?_
                  refine r_seq ?_
                  refine r_seq ?_
                  refine r_region ?_
                  refine OL.q (Q1.move rfl) rfl rfl ?_
                  cases ok with
                  | true =>
                    refine OL.q (Q1.not rfl) rfl rfl ?_
                    refine OL.q (Q1.move rfl) rfl rfl ?_
                    refine OL.q (Q1.move rfl) rfl rfl ?_
                    obtain ⟨g5, f7, hl11, k4⟩ := hS7.accK (i := 0) rfl
                    refine OL.q (Q1.lenSl Try.underlying22 (f7.sl) rfl) rfl rfl ?_
                    refine OL.q (Q1.move rfl) rfl rfl ?_
                    refine OL.qb (Q1.eq rfl rfl) rfl rfl ?_
                    intro b14 hb8
                    refine OL.q (Q1.pick_f rfl rfl) rfl rfl ?_
                    refine OL.nil ?_
                    cases b14 with
                    | true =>
                      replace hb8 := eq_of_beq hb8.symm
                      refine r_cond_t rfl ?_
                      refine r_seq ?_
                      refine r_region ?_
                      refine OL.q (Q1.move rfl) rfl rfl ?_
                      refine OL.q (Q1.assign rfl) rfl rfl ?_
                      refine OL.q (Q1.assign rfl) rfl rfl ?_
                      refine OL.nil ?_
                      refine r_ret2 Try.func72 rfl rfl rfl ?_
                      have hw : wordsP N (f + 1) n d a out = (mo, false) := by rw [hI]; first | exact eachP_big hxE (by omega) | exact (eachP_stop hxE (by omega) (by (try dsimp only); rw [hwq]; first | exact .inl rfl | exact .inr (by (try dsimp only); omega))).trans (by (try dsimp only); rw [hwq]) | exact eachP_end _ _ (by omega)
                      obtain ⟨hmF, F2r, hAr, hFr⟩ := hS7.fin
                      exact Ret.mk ⟨_, by rw [hw], hmF, F2r, by rw [hw]; exact hAr, hFr⟩
                    | false =>
                      replace hb8 := ne_of_beq_false hb8.symm
                      refine r_cond_f rfl ?_
                      refine r_skip ?_
                      refine r_region ?_
                      refine OL.q (Q1.move rfl) rfl rfl ?_
                      refine OL.q (Q1.assign rfl) rfl rfl ?_
                      refine OL.nil ?_
                      refine r_inBlock ?_
                      refine r_region ?_
                      refine OL.q (Q1.move rfl) rfl rfl ?_
                      refine OL.q (Q1.addI (((k + 1 : Nat) : Int)) rfl rfl (by omega)) rfl rfl ?_
                      refine OL.q (Q1.assign rfl) rfl rfl ?_
                      refine OL.nil ?_
                      exact (ih1 _ _ _ ⟨(v2 : Value), (mo : List Str), (k + 1 : Nat), rfl, rfl, hS7, (by first | rw [hI]; refine (eachP_on hxE (by omega) (by (try dsimp only); rw [hwq]; (try dsimp only); intro h; rcases h with h | h; exact absurd h (by decide); omega)).trans (by (try dsimp only); rw [hwq]) | (exfalso; omega)), (by first | omega | (exfalso; omega))⟩ (by omega)).sub ⟨rfl, rfl, rfl, rfl, rfl, rfl, trivial⟩
                  | false =>
                    refine OL.q (Q1.not rfl) rfl rfl ?_
                    refine OL.q (Q1.move rfl) rfl rfl ?_
                    refine OL.sk rfl rfl ?_
                    refine OL.sk rfl rfl ?_
                    refine OL.sk rfl rfl ?_
                    refine OL.sk rfl rfl ?_
                    refine OL.q (Q1.pick_t rfl rfl) rfl rfl ?_
                    refine OL.nil ?_
                    refine r_cond_t rfl ?_
                    refine r_seq ?_
                    refine r_region ?_
                    refine OL.q (Q1.move rfl) rfl rfl ?_
                    refine OL.q (Q1.assign rfl) rfl rfl ?_
                    refine OL.q (Q1.assign rfl) rfl rfl ?_
                    refine OL.nil ?_
                    refine r_ret2 Try.func72 rfl rfl rfl ?_
                    have hw : wordsP N (f + 1) n d a out = (mo, false) := by rw [hI]; first | exact eachP_big hxE (by omega) | exact (eachP_stop hxE (by omega) (by (try dsimp only); rw [hwq]; first | exact .inl rfl | exact .inr (by (try dsimp only); omega))).trans (by (try dsimp only); rw [hwq]) | exact eachP_end _ _ (by omega)
                    obtain ⟨hmF, F2r, hAr, hFr⟩ := hS7.fin
                    exact Ret.mk ⟨_, by rw [hw], hmF, F2r, by rw [hw]; exact hAr, hFr⟩
              | false =>
                replace hb6 := of_decide_eq_false hb6.symm
                refine r_cond_f rfl ?_
                refine r_exit rfl ?_
                refine r_seq ?_
                refine r_region ?_
                refine OL.q (Q1.move rfl) rfl rfl ?_
                refine OL.q (Q1.assign rfl) rfl rfl ?_
                refine OL.q (Q1.assign rfl) rfl rfl ?_
                refine OL.nil ?_
                refine r_ret2 Try.func72 rfl rfl rfl ?_
                have hw : wordsP N (f + 1) n d a out = (ol, true) := by rw [hI]; first | exact eachP_big hxE (by omega) | exact (eachP_stop hxE (by omega) (by (try dsimp only); rw [hwq]; first | exact .inl rfl | exact .inr (by (try dsimp only); omega))).trans (by (try dsimp only); rw [hwq]) | exact eachP_end _ _ (by omega)
                obtain ⟨hmF, F2r, hAr, hFr⟩ := hS5.fin
                exact Ret.mk ⟨_, by rw [hw], hmF, F2r, by rw [hw]; exact hAr, hFr⟩
          | false =>
            replace hfb1 := hfb1.symm
            refine r_cond_f rfl ?_
            refine r_skip ?_
            refine r_seq ?_
            refine r_seq ?_
            refine r_region ?_
            refine OL.q (Q1.assign rfl) rfl rfl ?_
            refine OL.nil ?_
            refine r_block ?_
            refine r_loop (I := fun m E W => ∃ (v_ol : Value) (ol : List Str) (k : Nat), E = [(0, vp), (1, .int .i64 n), (2, .int .i64 d), (3, strV a), (4, v_ol), (12, .int .i64 (((k : Nat) : Int)))] ∧ m = gn1.2.length - k ∧ St (fun _ => False) F w0 W [accR encS 9 1 v_ol ol] ∧ (wordsP N (f + 1) n d a out = eachP (fun out e => wordsP N f e.2 (d + 1) (a ++ encR e.1) out) ol (gn1.2.drop k)) ∧ (ol.length ≤ 61)) ?_ ?_
            · refine ⟨_, _, ⟨(vo : Value), (out : List Str), (0 : Nat), rfl, rfl, hS1, (by rw [wordsP_go (by omega) hgn1, List.drop_zero]; first | rw [if_pos hfb1] | rw [if_neg (by rw [hfb1]; decide)]), (by first | omega | (simp only [List.length_append, List.length_cons, List.length_nil]; omega))⟩, ⟨rfl, rfl, rfl, rfl, rfl, rfl, trivial⟩⟩
            · rintro _ _ w1 ⟨v_ol, ol, k, rfl, rfl, hS2, hI, hol⟩ ih1
              refine r_seq ?_
              refine r_seq ?_
              refine r_region ?_
              refine OL.q (Q1.move rfl) rfl rfl ?_
              refine OL.q (Q1.move rfl) rfl rfl ?_
              refine OL.q (Q1.move rfl) rfl rfl ?_
              have f2 := hS2.out hsl hG
              obtain ⟨x2, b6, o2, hx2, hr3, hl3, hw2⟩ := Sl.atF (P := Try.prog) f2 Try.underlying112 ti115 encN_len (k := .i64) (n := n) ((n).toNat) (by omega) (by first | assumption | omega)
              obtain rfl : x1 = x2 := Option.some.inj (hx1.symm.trans hx2)
              refine OL.q (Q1.indexAddr rfl rfl hr3) rfl rfl ?_
              refine OL.q (Q1.fieldAddr fl115_1 rfl) rfl rfl ?_
              have hr4 := hw2.sub 1 1 (Nat.le_of_ble_eq_true rfl)
              refine OL.q (Q1.load1 ti113 rfl (fun _ e => e ▸ hr4)) rfl rfl ?_
              have f3 := hS2.out hgs1 hG
              refine OL.q (Q1.lenSl Try.underlying113 (f3) rfl) rfl rfl ?_
              refine OL.qb (Q1.lt rfl rfl) rfl rfl ?_
              intro b7 hb5
              refine OL.nil ?_
              cases b7 with
              | true =>
                replace hb5 := of_decide_eq_true hb5.symm
                refine r_cond_t rfl ?_
                refine r_skip ?_
                refine r_seq ?_
                refine r_block ?_
                refine r_seq ?_
                refine r_region ?_
                refine OL.q (Q1.move rfl) rfl rfl ?_
                refine OL.q (Q1.move rfl) rfl rfl ?_
                obtain ⟨x3, b8, o3, hx3, hr5, hl4, hw3⟩ := Sl.atF (P := Try.prog) f2 Try.underlying112 ti115 encN_len (k := .i64) (n := n) ((n).toNat) (by omega) (by first | assumption | omega)
                obtain rfl : x1 = x3 := Option.some.inj (hx1.symm.trans hx3)
                refine OL.q (Q1.indexAddr rfl rfl hr5) rfl rfl ?_
                refine OL.q (Q1.fieldAddr fl115_1 rfl) rfl rfl ?_
                have hr6 := hw3.sub 1 1 (Nat.le_of_ble_eq_true rfl)
                refine OL.q (Q1.load1 ti113 rfl (fun _ e => e ▸ hr6)) rfl rfl ?_
                refine OL.q (Q1.move rfl) rfl rfl ?_
                obtain ⟨x4, b9, o4, hx4, hr7, hl5, hw4⟩ := Sl.atF (P := Try.prog) f3 Try.underlying113 ti116 encI2_len (k := .i64) (n := ((k : Nat) : Int)) (k) (by omega) (by first | assumption | omega)
                refine OL.q (Q1.indexAddr rfl rfl hr7) rfl rfl ?_
                refine OL.q (Q1.indexArr Try.underlying116 ti3 rfl rfl 0 rfl (by decide)) rfl rfl ?_
                have hr8 := hw4.sub 0 1 (Nat.le_of_ble_eq_true rfl)
                refine OL.q (Q1.load1 ti3 rfl (fun _ e => e ▸ hr8)) rfl rfl ?_
                have hxE := hx4
                have hxB := (hNb_gn1).2 _ (List.mem_of_getElem? hx4)
                have hel := encR_le x4.1
                refine OL.q (Q1.assign rfl) rfl rfl ?_
                refine OL.nil ?_
                refine r_seq ?_
                refine r_seq ?_
                refine r_region ?_
                refine OL.q (Q1.move rfl) rfl rfl ?_
                refine OL.qb (Q1.gt rfl rfl) rfl rfl ?_
                intro b10 hb6
                refine OL.nil ?_
                cases b10 with
                | true =>
                  replace hb6 := of_decide_eq_true hb6.symm
                  refine r_cond_t rfl ?_
                  refine r_seq ?_
                  refine r_region ?_
                  refine OL.q (Q1.move rfl) rfl rfl ?_
                  refine OL.q (Q1.assign rfl) rfl rfl ?_
                  refine OL.q (Q1.assign rfl) rfl rfl ?_
                  refine OL.nil ?_
                  refine r_ret2 Try.func72 rfl rfl rfl ?_
                  have hw : wordsP N (f + 1) n d a out = (ol, false) := by rw [hI]; first | exact eachP_big hxE (by omega) | exact (eachP_stop hxE (by omega) (by (try dsimp only); rw [hwq]; first | exact .inl rfl | exact .inr (by (try dsimp only); omega))).trans (by (try dsimp only); rw [hwq]) | exact eachP_end _ _ (by omega)
                  obtain ⟨hmF, F2r, hAr, hFr⟩ := hS2.fin
                  exact Ret.mk ⟨_, by rw [hw], hmF, F2r, by rw [hw]; exact hAr, hFr⟩
                | false =>
                  replace hb6 := of_decide_eq_false hb6.symm
                  refine r_cond_f rfl ?_
                  refine r_skip ?_
                  refine r_seq ?_
                  refine r_region ?_
                  refine OL.q (Q1.move rfl) rfl rfl ?_
                  obtain ⟨g2, f4, hl6, k2⟩ := hS2.accK (i := 0) rfl
                  refine OL.q (Q1.lenSl Try.underlying22 (f4.sl) rfl) rfl rfl ?_
                  refine OL.q (Q1.assign rfl) rfl rfl ?_
                  refine OL.nil ?_
                  refine r_seq ?_
                  refine r_region ?_
                  refine OL.q (Q1.move rfl) rfl rfl ?_
                  refine OL.q (Q1.move rfl) rfl rfl ?_
                  refine OL.q (Q1.move rfl) rfl rfl ?_
                  obtain ⟨x5, b11, o5, hx5, hr9, hl7, hw5⟩ := Sl.atF (P := Try.prog) f2 Try.underlying112 ti115 encN_len (k := .i64) (n := n) ((n).toNat) (by omega) (by first | assumption | omega)
                  obtain rfl : x1 = x5 := Option.some.inj (hx1.symm.trans hx5)
                  refine OL.q (Q1.indexAddr rfl rfl hr9) rfl rfl ?_
                  refine OL.q (Q1.fieldAddr fl115_1 rfl) rfl rfl ?_
                  have hr10 := hw5.sub 1 1 (Nat.le_of_ble_eq_true rfl)
                  refine OL.q (Q1.load1 ti113 rfl (fun _ e => e ▸ hr10)) rfl rfl ?_
                  refine OL.q (Q1.move rfl) rfl rfl ?_
                  obtain ⟨x6, b12, o6, hx6, hr11, hl8, hw6⟩ := Sl.atF (P := Try.prog) f3 Try.underlying113 ti116 encI2_len (k := .i64) (n := ((k : Nat) : Int)) (k) (by omega) (by first | assumption | omega)
                  obtain rfl : x4 = x6 := Option.some.inj (hx4.symm.trans hx6)
                  refine OL.q (Q1.indexAddr rfl rfl hr11) rfl rfl ?_
                  refine OL.q (Q1.indexArr Try.underlying116 ti3 rfl rfl 1 rfl (by decide)) rfl rfl ?_
                  have hr12 := hw6.sub 1 1 (Nat.le_of_ble_eq_true rfl)
                  refine OL.q (Q1.load1 ti3 rfl (fun _ e => e ▸ hr12)) rfl rfl ?_
                  refine OL.q (Q1.move rfl) rfl rfl ?_
                  refine OL.q (Q1.addI ((d + 1)) rfl rfl (by omega)) rfl rfl ?_
                  refine OL.q (Q1.move rfl) rfl rfl ?_
                  refine OL.q (Q1.move rfl) rfl rfl ?_
                  refine OL.q (Q1.convN (by kernel_rfl) Try.underlying21 rfl (IntWalk.i32_in _ (by omega))) rfl rfl ?_
                  refine OL.q (Q1.convRS (by kernel_rfl) Try.underlying9 rfl) rfl rfl ?_
                  refine OL.q (Q1.catS rfl rfl (by first | omega | (simp only [List.length_append]; omega))) rfl rfl ?_
                  refine OL.q (Q1.move rfl) rfl rfl ?_
                  obtain ⟨Fy1, hAy1, hFy1, hky1⟩ := hS2.act (i := 0) rfl
                  refine OL.act rfl rfl (AW.callF cl72 rfl (ih0 fe (by omega) (w0 := w1) (x4.2) ((d + 1)) ((a ++ (encR x4.1))) hAy1 (fun b hb => (hFy1 b hb).2) (hsl.keep hS2.mod hG) (hrel.keep hS2.mod hG) (fun b hb hx => by have := (hFy1 b hx).1.1; rcases this with h | h; exact hG b hb h; have := hGl b hb; omega) (fun b hb => Nat.lt_of_lt_of_le (hGl b hb) hS2.mod.size) hN (by unfold I64; omega) (by omega) (by have := encR_le x4.1; simp only [List.length_append]; omega) hol) ?_)
                  rintro _ w2 ⟨v1, rfl, hm1, F1, hA1, hF1⟩
                  rw [← hfe] at hA1 ⊢
                  have hml := wordsP_len N f x4.2 ((d + 1)) ((a ++ (encR x4.1))) ol hol
                  obtain ⟨⟨mo, ok⟩, hwq⟩ : ∃ x, wordsP N f x4.2 ((d + 1)) ((a ++ (encR x4.1))) ol = x := ⟨_, rfl⟩
                  rw [hwq] at hA1 hml ⊢
                  dsimp only at hA1 hml ⊢
                  have hS3 : St (fun _ => False) F w0 w2 [accR encS 9 1 v1 mo] := hky1 _ _ _ hm1 hA1 hF1
                  clear hAy1 hFy1 hky1 hA1
                  refine OL.q (Q1.move rfl) rfl rfl ?_
                  refine OL.q (Q1.extract rfl rfl) rfl rfl ?_
                  refine OL.q (Q1.extract rfl rfl) rfl rfl ?_
                  refine OL.q (Q1.assign rfl) rfl rfl ?_
                  refine OL.q (Q1.assign rfl) rfl rfl ?_
                  refine OL.nil ?_
                  refine r_seq ?_
                  refine r_seq ?_
                  refine r_region ?_
                  refine OL.q (Q1.move rfl) rfl rfl ?_
                  cases ok with
                  | true =>
                    refine OL.q (Q1.not rfl) rfl rfl ?_
                    refine OL.q (Q1.move rfl) rfl rfl ?_
                    refine OL.q (Q1.move rfl) rfl rfl ?_
                    obtain ⟨g3, f5, hl9, k3⟩ := hS3.accK (i := 0) rfl
                    refine OL.q (Q1.lenSl Try.underlying22 (f5.sl) rfl) rfl rfl ?_
                    refine OL.q (Q1.move rfl) rfl rfl ?_
                    refine OL.qb (Q1.eq rfl rfl) rfl rfl ?_
                    intro b13 hb7
                    refine OL.q (Q1.pick_f rfl rfl) rfl rfl ?_
                    refine OL.nil ?_
                    cases b13 with
                    | true =>
                      replace hb7 := eq_of_beq hb7.symm
                      refine r_cond_t rfl ?_
                      refine r_seq ?_
                      refine r_region ?_
                      refine OL.q (Q1.move rfl) rfl rfl ?_
                      refine OL.q (Q1.assign rfl) rfl rfl ?_
                      refine OL.q (Q1.assign rfl) rfl rfl ?_
                      refine OL.nil ?_
                      refine r_ret2 Try.func72 rfl rfl rfl ?_
                      have hw : wordsP N (f + 1) n d a out = (mo, false) := by rw [hI]; first | exact eachP_big hxE (by omega) | exact (eachP_stop hxE (by omega) (by (try dsimp only); rw [hwq]; first | exact .inl rfl | exact .inr (by (try dsimp only); omega))).trans (by (try dsimp only); rw [hwq]) | exact eachP_end _ _ (by omega)
                      obtain ⟨hmF, F2r, hAr, hFr⟩ := hS3.fin
                      exact Ret.mk ⟨_, by rw [hw], hmF, F2r, by rw [hw]; exact hAr, hFr⟩
                    | false =>
                      replace hb7 := ne_of_beq_false hb7.symm
                      refine r_cond_f rfl ?_
                      refine r_skip ?_
                      refine r_region ?_
                      refine OL.q (Q1.move rfl) rfl rfl ?_
                      refine OL.q (Q1.assign rfl) rfl rfl ?_
                      refine OL.nil ?_
                      refine r_inBlock ?_
                      refine r_region ?_
                      refine OL.q (Q1.move rfl) rfl rfl ?_
                      refine OL.q (Q1.addI (((k + 1 : Nat) : Int)) rfl rfl (by omega)) rfl rfl ?_
                      refine OL.q (Q1.assign rfl) rfl rfl ?_
                      refine OL.nil ?_
                      exact (ih1 _ _ _ ⟨(v1 : Value), (mo : List Str), (k + 1 : Nat), rfl, rfl, hS3, (by first | rw [hI]; refine (eachP_on hxE (by omega) (by (try dsimp only); rw [hwq]; (try dsimp only); intro h; rcases h with h | h; exact absurd h (by decide); omega)).trans (by (try dsimp only); rw [hwq]) | (exfalso; omega)), (by first | omega | (exfalso; omega))⟩ (by omega)).sub ⟨rfl, rfl, rfl, rfl, rfl, rfl, trivial⟩
                  | false =>
                    refine OL.q (Q1.not rfl) rfl rfl ?_
                    refine OL.q (Q1.move rfl) rfl rfl ?_
                    refine OL.sk rfl rfl ?_
                    refine OL.sk rfl rfl ?_
                    refine OL.sk rfl rfl ?_
                    refine OL.sk rfl rfl ?_
                    refine OL.q (Q1.pick_t rfl rfl) rfl rfl ?_
                    refine OL.nil ?_
                    refine r_cond_t rfl ?_
                    refine r_seq ?_
                    refine r_region ?_
                    refine OL.q (Q1.move rfl) rfl rfl ?_
                    refine OL.q (Q1.assign rfl) rfl rfl ?_
                    refine OL.q (Q1.assign rfl) rfl rfl ?_
                    refine OL.nil ?_
                    refine r_ret2 Try.func72 rfl rfl rfl ?_
                    have hw : wordsP N (f + 1) n d a out = (mo, false) := by rw [hI]; first | exact eachP_big hxE (by omega) | exact (eachP_stop hxE (by omega) (by (try dsimp only); rw [hwq]; first | exact .inl rfl | exact .inr (by (try dsimp only); omega))).trans (by (try dsimp only); rw [hwq]) | exact eachP_end _ _ (by omega)
                    obtain ⟨hmF, F2r, hAr, hFr⟩ := hS3.fin
                    exact Ret.mk ⟨_, by rw [hw], hmF, F2r, by rw [hw]; exact hAr, hFr⟩
              | false =>
                replace hb5 := of_decide_eq_false hb5.symm
                refine r_cond_f rfl ?_
                refine r_exit rfl ?_
                refine r_seq ?_
                refine r_region ?_
                refine OL.q (Q1.move rfl) rfl rfl ?_
                refine OL.q (Q1.assign rfl) rfl rfl ?_
                refine OL.q (Q1.assign rfl) rfl rfl ?_
                refine OL.nil ?_
                refine r_ret2 Try.func72 rfl rfl rfl ?_
                have hw : wordsP N (f + 1) n d a out = (ol, true) := by rw [hI]; first | exact eachP_big hxE (by omega) | exact (eachP_stop hxE (by omega) (by (try dsimp only); rw [hwq]; first | exact .inl rfl | exact .inr (by (try dsimp only); omega))).trans (by (try dsimp only); rw [hwq]) | exact eachP_end _ _ (by omega)
                obtain ⟨hmF, F2r, hAr, hFr⟩ := hS2.fin
                exact Ret.mk ⟨_, by rw [hw], hmF, F2r, by rw [hw]; exact hAr, hFr⟩
set_option maxRecDepth 20000 in
set_option maxHeartbeats 4000000 in
theorem r9decode_c {w0 : World}  {v_b : Value} {b : List UInt8} (h_b : Sl encB w0 (Iv 0 w0.heap.size) v_b b) (hbl : b.length ≤ 3000000) :
    Calls Try.prog 25 #[v_b] w0 (Ret fun rv w1 => ∃ u0 u1, rv = .tuple #[u0, u1] ∧ (∃ gr, Acc encS 9 1 w1 gr u0 ((decP b).1) ∧ (gr = 0 ∨ w0.heap.size < gr)) ∧ u1 = .int .i64 ((decP b).2) ∧ Ext w0 w1) := by
  have hle_b := h_b.le
  have hS0 := St.start0 w0
  refine calls_enter Try.func25 rfl Try.ntmps25 rfl ?_
  refine r_seq ?_
  refine r_region ?_
  refine OL.q (Q1.assign rfl) rfl rfl ?_
  refine OL.q (Q1.assign rfl) rfl rfl ?_
  refine OL.nil ?_
  refine r_seq ?_
  refine r_seq ?_
  refine r_region ?_
  refine OL.q (Q1.move rfl) rfl rfl ?_
  refine OL.act rfl rfl (AW.callF cl70 rfl (r9opened_c (w0 := w0) (b := b)  h_b (by first | assumption | omega)) ?_)
  rintro _ w1 ⟨⟨b1, hb1, rfl⟩, hm1⟩
  have hS1 := hS0.ext hm1
  cases b1 with
  | true =>
    replace hb1 := hb1.symm
    refine OL.q (Q1.not rfl) rfl rfl ?_
    refine OL.nil ?_
    refine r_cond_f rfl ?_
    refine r_skip ?_
    refine r_seq ?_
    refine r_region ?_
    refine OL.q (Q1.move rfl) rfl rfl ?_
    have hb4 := openB_len (by first | assumption | (symm; assumption))
    have f1 := hS1.out h_b (fun _ _ h => h)
    obtain ⟨ad1, cp1, hv1⟩ := f1.shape
    subst hv1
    refine OL.q (Q1.build (vs := #[(0, (.slice ad1 b.length cp1)), (1, (.int .i64 4 : Value))]) (v := .agg #[(.slice ad1 b.length cp1), .int .i64 4, .bool false]) rfl (fun _ => by kernel_rfl)) rfl rfl ?_
    refine OL.act rfl rfl (AW.box [(.slice ad1 b.length cp1), .int .i64 4, .bool false] rfl rfl ?_)
    intro w2 b2 hm2 hb2 hz1 hk1
    have hS2 := hS1.ext hm2
    have hS3 : St (fun _ => False) (fun _ => False) w0 w2 [bkR b2 [(.slice ad1 b.length cp1), .int .i64 4, .bool false] 111] := hS1.newBk hm2 hb2 hk1
    refine OL.q (Q1.assign rfl) rfl rfl ?_
    refine OL.nil ?_
    refine r_seq ?_
    refine r_region ?_
    refine OL.q (Q1.move rfl) rfl rfl ?_
    have f2 := hS3.out h_b (fun _ _ h => h)
    obtain ⟨Fy1, hAy1, hFy1, hky1⟩ := hS3.act (i := 0) rfl
    refine OL.act rfl rfl (AW.callF cl71 rfl (r9num_c (w0 := w2) (G := Iv 0 w0.heap.size) 4 false 2 hAy1 (fun b hb => (hFy1 b hb).2) f2 (fun b hb hx => by have := (hFy1 b hx).1.1; rcases this with h | h; exact h; unfold Iv at hb; omega) (fun b hb => Nat.lt_of_lt_of_le hb.2 hS3.mod.size) (by omega) (by omega) (by omega)) ?_)
    rintro _ w3 ⟨rfl, hm3, F1, hB1, hF1⟩
    obtain ⟨⟨nv1, na1, nq1⟩, hnx1⟩ : ∃ x, x = numR b 2 (4, false) := ⟨_, rfl⟩
    rw [← hnx1] at hB1
    rw [← hnx1]
    dsimp only at hB1 ⊢
    have hnr1 := numR_rng (by omega) (by omega) hnx1.symm
    have hnr1b := numR_byte hnx1.symm (by omega)
    have hS4 : St (fun _ => False) (fun _ => False) w0 w3 [bkR b2 [(.slice ad1 b.length cp1), .int .i64 na1, .bool nq1] 111] := hky1 _ _ _ hm3 hB1 hF1
    clear hAy1 hFy1 hky1 hB1
    refine OL.q (Q1.assign rfl) rfl rfl ?_
    refine OL.nil ?_
    refine r_seq ?_
    refine r_region ?_
    refine OL.q (Q1.assign rfl) rfl rfl ?_
    have hS5 : St (fun _ => False) (fun _ => False) w0 w3 [bkR b2 [(.slice ad1 b.length cp1), .int .i64 na1, .bool nq1] 111, prR ([] : List RNode) []] := hS4.new (Mod.refl _ _) (F := fun _ => False) (All2.nil) (fun _ h => h.elim)
    refine OL.nil ?_
    refine r_seq ?_
    refine r_seq ?_
    refine r_region ?_
    refine OL.q (Q1.assign rfl) rfl rfl ?_
    refine OL.nil ?_
    refine r_block ?_
    have hS7 : St (fun _ => False) (fun _ => False) w0 w3 [bkR b2 [(.slice ad1 b.length cp1), .int .i64 na1, .bool nq1] 111, prR ([] : List RNode) [], accR encN 115 2 (.slice none 0 0) []] := hS5.newAcc (Mod.refl _ _) Acc.nil (.inl rfl)
    have hS8 : St (fun _ => False) (fun _ => False) w0 w3 [bkR b2 [(.slice ad1 b.length cp1), .int .i64 na1, .bool nq1] 111, accR encN 115 2 (.slice none 0 0) [], prR ([] : List RNode) []] := hS7.sel [0, 2, 1] (by rfl) (by decide)
    refine r_loop (I := fun m E W => ∃ (ak : Int) (qk : Bool) (v_nds : Value) (nds : List RNode) (i : Nat) (N : List RP), E = [(0, (.slice ad1 b.length cp1)), (4, ptr b2 0), (5, .int .i64 nv1), (6, v_nds), (7, .int .i64 (((i : Nat) : Int)))] ∧ m = nv1.toNat - i ∧ St (fun _ => False) (fun _ => False) w0 W [bkR b2 [(.slice ad1 b.length cp1), .int .i64 ak, .bool qk] 111, accR encN 115 2 v_nds nds, prR nds N] ∧ (NdsQ b nv1.toNat (na1, nq1) i N (ak, qk)) ∧ (0 ≤ ak ∧ ak ≤ b.length) ∧ ((i : Int) ≤ nv1) ∧ (RpOk N) ∧ (N.length = i) ∧ (nds.length = i)) ?_ ?_
    · refine ⟨_, _, ⟨(na1 : Int), (nq1 : Bool), (.slice none 0 0 : Value), ([] : List RNode), (0 : Nat), ([] : List RP), rfl, rfl, hS8, (by exact NdsQ.start _ _ _), (by omega), (by omega), (by exact ⟨Nat.zero_le _, by simp⟩), (by rfl), (by rfl)⟩, ⟨rfl, rfl, rfl, rfl, rfl, trivial⟩⟩
    · rintro _ _ w4 ⟨ak, qk, v_nds, nds, i, N, rfl, rfl, hS6, hE, hak, hil, hok, hNl, hdl⟩ ih1
      refine r_seq ?_
      refine r_seq ?_
      refine r_region ?_
      refine OL.q (Q1.move rfl) rfl rfl ?_
      refine OL.q (Q1.move rfl) rfl rfl ?_
      refine OL.qb (Q1.lt rfl rfl) rfl rfl ?_
      intro b3 hb3
      refine OL.q (Q1.move rfl) rfl rfl ?_
      cases b3 with
      | true =>
        replace hb3 := of_decide_eq_true hb3.symm
        refine OL.q (Q1.move rfl) rfl rfl ?_
        refine OL.q (Q1.nilCheckP rfl) rfl rfl ?_
        refine OL.q (Q1.fieldAddr fl111_2 rfl) rfl rfl ?_
        have f3 := hS6.bk (i := 0) rfl
        refine OL.q (Q1.load1 ti4 rfl (fun _ e => e ▸ (f3.cell 2 _ rfl))) rfl rfl ?_
        cases qk with
        | true =>
          refine OL.q (Q1.not rfl) rfl rfl ?_
          refine OL.q (Q1.pick_t rfl rfl) rfl rfl ?_
          refine OL.nil ?_
          refine r_cond_f rfl ?_
          refine r_exit rfl ?_
          refine r_seq ?_
          refine r_seq ?_
          refine r_region ?_
          refine OL.q (Q1.move rfl) rfl rfl ?_
          refine OL.q (Q1.nilCheckP rfl) rfl rfl ?_
          refine OL.q (Q1.fieldAddr fl111_2 rfl) rfl rfl ?_
          refine OL.q (Q1.load1 ti4 rfl (fun _ e => e ▸ (f3.cell 2 _ rfl))) rfl rfl ?_
          refine OL.nil ?_
          refine r_cond_t rfl ?_
          refine r_seq ?_
          refine r_region ?_
          refine OL.q (Q1.assign rfl) rfl rfl ?_
          refine OL.q (Q1.assign rfl) rfl rfl ?_
          refine OL.nil ?_
          refine r_ret2 Try.func25 rfl rfl rfl ?_
          have hnds : nodesP b nv1.toNat (na1, nq1) = (N, (ak, true)) := by first | exact hE.bad | exact hE.fin (by omega)
          have hw : decP b = ([], 8) := decP_bad (by first | assumption | (symm; assumption)) hnx1 hnds rfl
          exact Ret.mk ⟨_, _, rfl, ⟨0, Acc.cast Acc.nil (by rw [hw]), .inl rfl⟩, by rw [hw], hS6.mod⟩
        | false =>
          refine OL.q (Q1.not rfl) rfl rfl ?_
          refine OL.q (Q1.pick_t rfl rfl) rfl rfl ?_
          refine OL.nil ?_
          refine r_cond_t rfl ?_
          refine r_skip ?_
          refine r_seq ?_
          refine r_block ?_
          refine r_seq ?_
          refine r_region ?_
          refine OL.q (Q1.move rfl) rfl rfl ?_
          have f4 := hS6.out h_b (fun _ _ h => h)
          obtain ⟨Fy2, hAy2, hFy2, hky2⟩ := hS6.act (i := 0) rfl
          refine OL.act rfl rfl (AW.callF cl71 rfl (r9num_c (w0 := w4) (G := Iv 0 w0.heap.size) ak false 1 hAy2 (fun b hb => (hFy2 b hb).2) f4 (fun b hb hx => by have := (hFy2 b hx).1.1; rcases this with h | h; exact h; unfold Iv at hb; omega) (fun b hb => Nat.lt_of_lt_of_le hb.2 hS6.mod.size) (by omega) (by omega) (by omega)) ?_)
          rintro _ w5 ⟨rfl, hm4, F2, hB2, hF2⟩
          obtain ⟨⟨nv2, na2, nq2⟩, hnx2⟩ : ∃ x, x = numR b 1 (ak, false) := ⟨_, rfl⟩
          rw [← hnx2] at hB2
          rw [← hnx2]
          dsimp only at hB2 ⊢
          have hnr2 := numR_rng (by omega) (by omega) hnx2.symm
          have hnr2b := numR_byte hnx2.symm (by omega)
          have hS9 : St (fun _ => False) (fun _ => False) w0 w5 [bkR b2 [(.slice ad1 b.length cp1), .int .i64 na2, .bool nq2] 111, accR encN 115 2 v_nds nds, prR nds N] := hky2 _ _ _ hm4 hB2 hF2
          clear hAy2 hFy2 hky2 hB2
          refine OL.qb (Q1.eq rfl rfl) rfl rfl ?_
          intro b4 hb4
          refine OL.q (Q1.build (vs := #[(0, (.bool b4 : Value))]) (v := .agg #[.bool b4, .slice none 0 0]) rfl (fun _ => by kernel_rfl)) rfl rfl ?_
          refine OL.act rfl rfl (AW.alloc ti115 ?_)
          intro w6 b5 hm5 hb5 hz2 hk2
          have hS10 := hS9.ext hm5
          have hS11 : St (fun _ => False) (fun _ => False) w0 w6 [bkR b2 [(.slice ad1 b.length cp1), .int .i64 na2, .bool nq2] 111, accR encN 115 2 v_nds nds, prR nds N, bkR b5 [.bool false, .slice none 0 0] 115] := hS9.newBk hm5 hb5 hk2
          have f5 := hS11.bk (i := 3) rfl
          refine OL.act rfl rfl (AW.store ti115 rfl rfl rfl rfl rfl f5 (Nat.le_of_ble_eq_true rfl) ?_)
          intro w7 hm6 hz3 hk3
          have hS12 : St (fun _ => False) (fun _ => False) w0 w7 [bkR b2 [(.slice ad1 b.length cp1), .int .i64 na2, .bool nq2] 111, accR encN 115 2 v_nds nds, prR nds N, bkR b5 [.bool b4, .slice none 0 0] 115] := hS11.bkK (i := 3) rfl hm6 hk3
          refine OL.nil ?_
          refine r_seq ?_
          refine r_seq ?_
          refine r_region ?_
          refine OL.q (Q1.move rfl) rfl rfl ?_
          have f6 := hS12.out h_b (fun _ _ h => h)
          obtain ⟨Fy3, hAy3, hFy3, hky3⟩ := hS12.act (i := 0) rfl
          refine OL.act rfl rfl (AW.callF cl71 rfl (r9num_c (w0 := w7) (G := Iv 0 w0.heap.size) na2 nq2 2 hAy3 (fun b hb => (hFy3 b hb).2) f6 (fun b hb hx => by have := (hFy3 b hx).1.1; rcases this with h | h; exact h; unfold Iv at hb; omega) (fun b hb => Nat.lt_of_lt_of_le hb.2 hS12.mod.size) (by omega) (by omega) (by omega)) ?_)
          rintro _ w8 ⟨rfl, hm7, F3, hB3, hF3⟩
          obtain ⟨⟨nv3, na3, nq3⟩, hnx3⟩ : ∃ x, x = numR b 2 (na2, nq2) := ⟨_, rfl⟩
          rw [← hnx3] at hB3
          rw [← hnx3]
          dsimp only at hB3 ⊢
          have hnr3 := numR_rng (by omega) (by omega) hnx3.symm
          have hnr3b := numR_byte hnx3.symm (by omega)
          have hS13 : St (fun _ => False) (fun _ => False) w0 w8 [bkR b2 [(.slice ad1 b.length cp1), .int .i64 na3, .bool nq3] 111, accR encN 115 2 v_nds nds, prR nds N, bkR b5 [.bool b4, .slice none 0 0] 115] := hky3 _ _ _ hm7 hB3 hF3
          clear hAy3 hFy3 hky3 hB3
          refine OL.q (Q1.assign rfl) rfl rfl ?_
          have hS14 : St (fun _ => False) (fun _ => False) w0 w8 [bkR b2 [(.slice ad1 b.length cp1), .int .i64 na3, .bool nq3] 111, accR encN 115 2 v_nds nds, prR nds N, bkR b5 [.bool b4, .slice none 0 0] 115, accR encI2 116 2 (.slice none 0 0) []] := hS13.newAcc (Mod.refl _ _) Acc.nil (.inl rfl)
          have hS15 : St (fun _ => False) (fun _ => False) w0 w8 [bkR b2 [(.slice ad1 b.length cp1), .int .i64 na3, .bool nq3] 111, accR encN 115 2 v_nds nds, prR nds N, boxR [bkR b5 [.bool b4, .slice none 0 0] 115, accR encI2 116 2 (.slice none 0 0) []]] := St.close (L1 := [bkR b2 [(.slice ad1 b.length cp1), .int .i64 na3, .bool nq3] 111, accR encN 115 2 v_nds nds, prR nds N]) hS14
          have hS16 : St (fun _ => False) (fun _ => False) w0 w8 [bkR b2 [(.slice ad1 b.length cp1), .int .i64 na3, .bool nq3] 111, accR encN 115 2 v_nds nds, prR nds N, pbR 115 116 b5 b4 []] := hS15.exi (.slice none 0 0) (i := 3) rfl
          refine OL.nil ?_
          refine r_block ?_
          have hS18 : St (fun _ => False) (fun _ => False) w0 w8 [bkR b2 [(.slice ad1 b.length cp1), .int .i64 na3, .bool nq3] 111, accR encN 115 2 v_nds nds, pbR 115 116 b5 b4 [], prR nds N] := hS16.sel [0, 1, 3, 2] (by rfl) (by decide)
          refine r_loop (I := fun m E W => ∃ (ck : Int) (pk : Bool) (z : Int) (es : List (Int × Int)), E = [(0, (.slice ad1 b.length cp1)), (4, ptr b2 0), (5, .int .i64 nv1), (6, v_nds), (7, .int .i64 (((i : Nat) : Int))), (8, ptr b5 0), (9, .int .i64 z)] ∧ m = z.toNat ∧ St (fun _ => False) (fun _ => False) w0 W [bkR b2 [(.slice ad1 b.length cp1), .int .i64 ck, .bool pk] 111, accR encN 115 2 v_nds nds, pbR 115 116 b5 b4 es, prR nds N] ∧ (EdsQ b nv3.toNat (na3, nq3) z.toNat es (ck, pk)) ∧ (0 ≤ ck ∧ ck ≤ b.length) ∧ (0 ≤ z ∧ z ≤ nv3 ∧ (es.length : Int) + z ≤ nv3) ∧ (es.length ≤ 65536 ∧ ∀ e ∈ es, 0 ≤ e.1 ∧ e.1 ≤ 4294967295 ∧ 0 ≤ e.2 ∧ e.2 ≤ 65535)) ?_ ?_
          · refine ⟨_, _, ⟨(na3 : Int), (nq3 : Bool), (nv3 : Int), ([] : List (Int × Int)), rfl, rfl, hS18, (by exact EdsQ.start _ _ _), (by omega), (by (simp only [List.length_nil]; omega)), (by (refine ⟨Nat.zero_le _, ?_⟩; simp))⟩, ⟨rfl, rfl, rfl, rfl, rfl, rfl, rfl, trivial⟩⟩
          · rintro _ _ w9 ⟨ck, pk, z, es, rfl, rfl, hS17, hE2, hck, hz, heso⟩ ih2
            refine r_seq ?_
            refine r_seq ?_
            refine r_region ?_
            refine OL.q (Q1.move rfl) rfl rfl ?_
            refine OL.qb (Q1.gt rfl rfl) rfl rfl ?_
            intro b6 hb6
            refine OL.q (Q1.move rfl) rfl rfl ?_
            cases b6 with
            | true =>
              replace hb6 := of_decide_eq_true hb6.symm
              refine OL.q (Q1.move rfl) rfl rfl ?_
              refine OL.q (Q1.nilCheckP rfl) rfl rfl ?_
              refine OL.q (Q1.fieldAddr fl111_2 rfl) rfl rfl ?_
              have f7 := hS17.bk (i := 0) rfl
              refine OL.q (Q1.load1 ti4 rfl (fun _ e => e ▸ (f7.cell 2 _ rfl))) rfl rfl ?_
              cases pk with
              | true =>
                refine OL.q (Q1.not rfl) rfl rfl ?_
                refine OL.q (Q1.pick_t rfl rfl) rfl rfl ?_
                refine OL.nil ?_
                refine r_cond_f rfl ?_
                refine r_exit rfl ?_
                refine r_region ?_
                obtain ⟨vb1, hS19⟩ := hS17.exo (i := 2) rfl
                change St (fun _ => False) (fun _ => False) w0 w9 [bkR b2 [(.slice ad1 b.length cp1), .int .i64 ck, .bool true] 111, accR encN 115 2 v_nds nds, boxR [bkR b5 [.bool b4, vb1] 115, accR encI2 116 2 vb1 es], prR nds N] at hS19
                have hS20 : St (fun _ => False) (fun _ => False) w0 w9 [bkR b2 [(.slice ad1 b.length cp1), .int .i64 ck, .bool true] 111, accR encN 115 2 v_nds nds, prR nds N, boxR [bkR b5 [.bool b4, vb1] 115, accR encI2 116 2 vb1 es]] := hS19.sel [0, 1, 3, 2] (by rfl) (by decide)
                have hS21 : St (fun _ => False) (fun _ => False) w0 w9 [bkR b2 [(.slice ad1 b.length cp1), .int .i64 ck, .bool true] 111, accR encN 115 2 v_nds nds, prR nds N, boxR [bkR b5 [.bool b4, vb1] 115, accR encI2 116 2 vb1 es]] := hS20
                have hS22 : St (fun _ => False) (fun _ => False) w0 w9 [bkR b2 [(.slice ad1 b.length cp1), .int .i64 ck, .bool true] 111, accR encN 115 2 v_nds nds, prR nds N, bkR b5 [.bool b4, vb1] 115, accR encI2 116 2 vb1 es] := St.open (L1 := [bkR b2 [(.slice ad1 b.length cp1), .int .i64 ck, .bool true] 111, accR encN 115 2 v_nds nds, prR nds N]) hS21
                obtain ⟨g1, f8, hl1, k1⟩ := hS22.accK (i := 4) rfl
                obtain ⟨ad2, cp2, hv2⟩ := f8.shape
                subst hv2
                have hed : edgesP b nv3.toNat (na3, nq3) = (es, (ck, true)) := by first | exact hE2.bad | exact (show EdsQ b _ _ 0 _ _ from (show z.toNat = 0 from by omega) ▸ hE2).fin
                have hnd := nodeP_eq hnx2 hnx3 hed (f := b4) (by first | assumption | (symm; assumption) | rfl | (rw [hb4]; rfl))
                have hS23 : St (fun _ => False) (fun _ => False) w0 w9 [bkR b2 [(.slice ad1 b.length cp1), .int .i64 ck, .bool true] 111, accR encN 115 2 v_nds nds, bkR b5 [.bool b4, (.slice ad2 es.length cp2)] 115, prR nds N, accR encI2 116 2 ((.slice ad2 es.length cp2)) es] := hS22.sel [0, 1, 3, 2, 4] (by rfl) (by decide)
                have hS24 : St (fun _ => False) (fun _ => False) w0 w9 [bkR b2 [(.slice ad1 b.length cp1), .int .i64 ck, .bool true] 111, accR encN 115 2 v_nds nds, bkR b5 [.bool b4, (.slice ad2 es.length cp2)] 115, boxR [prR nds N, accR encI2 116 2 ((.slice ad2 es.length cp2)) es]] := St.close (L1 := [bkR b2 [(.slice ad1 b.length cp1), .int .i64 ck, .bool true] 111, accR encN 115 2 v_nds nds, bkR b5 [.bool b4, (.slice ad2 es.length cp2)] 115]) hS23
                have hS25 : St (fun _ => False) (fun _ => False) w0 w9 [bkR b2 [(.slice ad1 b.length cp1), .int .i64 ck, .bool true] 111, accR encN 115 2 v_nds nds, bkR b5 [.bool b4, (.slice ad2 es.length cp2)] 115, prR (nds ++ [RNode.mk b4 ((SH.mk ad2 es.length cp2))]) (N ++ [(b4, es)])] := hS24.imp (i := 3) rfl (fun F_ h_ => pr_push rfl rfl rfl h_)
                refine OL.q (Q1.move rfl) rfl rfl ?_
                have f9 := hS25.bk (i := 2) rfl
                refine OL.q (Q1.loadN ti115 rfl (fun _ e => e ▸ f9.row) rfl) rfl rfl ?_
                refine OL.act rfl rfl (AW.buildSlice [(.agg #[.bool b4, (.slice ad2 es.length cp2)] : Value)] Try.underlying112 ti115 rfl rfl rfl (by decide) ?_)
                intro w10 b7 hm8 hb7 hz4 hk4
                have hS26 := hS25.ext hm8
                have hl2 := Sl.of_blk (enc := encN) hk4 ([(RNode.mk b4 (SH.mk ad2 es.length cp2))] : List RNode) 1 rfl rfl (by unfold maxLen; omega)
                have hS27 : St (fun _ => False) (fun _ => False) w0 w10 [bkR b2 [(.slice ad1 b.length cp1), .int .i64 ck, .bool true] 111, accR encN 115 2 v_nds nds, bkR b5 [.bool b4, (.slice ad2 es.length cp2)] 115, prR (nds ++ [RNode.mk b4 ((SH.mk ad2 es.length cp2))]) (N ++ [(b4, es)]), slR encN [((.slice (some ⟨b7, 0, none⟩) 1 1), [(RNode.mk b4 (SH.mk ad2 es.length cp2))])]] := hS25.newSlB hm8 hb7 hz4 hl2
                obtain ⟨g3, f10, hl3, k2⟩ := hS27.accK (i := 1) rfl
                have f11 := hS27.sl (i := 4) (k := 0) rfl rfl
                refine OL.act rfl rfl (AW.append f10 Try.underlying112 ti115 rfl encN_len encN_one rfl rfl (f11) (by first | omega | (simp only [List.length_append, List.length_cons, List.length_nil]; omega) | (simp; omega)) (by unfold maxLen; first | omega | (simp only [List.length_append, List.length_cons, List.length_nil]; omega) | (simp; omega)) ?_)
                intro v1 g2 w11 ha1 hm9 hg1 hz5
                have hS28 : St (fun _ => False) (fun _ => False) w0 w11 [bkR b2 [(.slice ad1 b.length cp1), .int .i64 ck, .bool true] 111, accR encN 115 2 v1 ((nds ++ [(RNode.mk b4 (SH.mk ad2 es.length cp2))])), bkR b5 [.bool b4, (.slice ad2 es.length cp2)] 115, prR (nds ++ [RNode.mk b4 ((SH.mk ad2 es.length cp2))]) (N ++ [(b4, es)]), slR encN [((.slice (some ⟨b7, 0, none⟩) 1 1), [(RNode.mk b4 (SH.mk ad2 es.length cp2))])]] := k2 _ _ _ _ hm9 ha1 hg1
                clear hg1
                refine OL.q (Q1.assign rfl) rfl rfl ?_
                refine OL.nil ?_
                refine r_inBlock ?_
                refine r_region ?_
                refine OL.q (Q1.move rfl) rfl rfl ?_
                refine OL.q (Q1.addI (((i + 1 : Nat) : Int)) rfl rfl (by omega)) rfl rfl ?_
                refine OL.q (Q1.assign rfl) rfl rfl ?_
                refine OL.nil ?_
                have hS29 : St (fun _ => False) (fun _ => False) w0 w11 [bkR b2 [(.slice ad1 b.length cp1), .int .i64 ck, .bool true] 111, accR encN 115 2 v1 ((nds ++ [(RNode.mk b4 (SH.mk ad2 es.length cp2))])), prR (nds ++ [RNode.mk b4 ((SH.mk ad2 es.length cp2))]) (N ++ [(b4, es)])] := hS28.sel [0, 1, 3] (by rfl) (by decide)
                exact (ih1 _ _ _ ⟨(ck : Int), (true : Bool), (v1 : Value), ((nds ++ [(RNode.mk b4 (SH.mk ad2 es.length cp2))]) : List RNode), (i + 1 : Nat), ((N ++ [(b4, es)]) : List RP), rfl, rfl, hS29, (by first | exact hE.step (by omega) hnd | (exfalso; omega)), (by first | omega | (exfalso; omega)), (by first | omega | (exfalso; omega)), (by first | exact rpOk_push hok (by omega) heso | (exfalso; omega)), (by first | (simp only [List.length_append, List.length_cons, List.length_nil]; omega) | (exfalso; omega)), (by first | (simp only [List.length_append, List.length_cons, List.length_nil]; omega) | (exfalso; omega))⟩ (by omega)).sub ⟨rfl, rfl, rfl, rfl, rfl, trivial⟩
              | false =>
                refine OL.q (Q1.not rfl) rfl rfl ?_
                refine OL.q (Q1.pick_t rfl rfl) rfl rfl ?_
                refine OL.nil ?_
                refine r_cond_t rfl ?_
                refine r_skip ?_
                refine r_seq ?_
                refine r_block ?_
                refine r_seq ?_
                refine r_region ?_
                refine OL.q (Q1.move rfl) rfl rfl ?_
                have f8 := hS17.out h_b (fun _ _ h => h)
                obtain ⟨Fy4, hAy4, hFy4, hky4⟩ := hS17.act (i := 0) rfl
                refine OL.act rfl rfl (AW.callF cl71 rfl (r9num_c (w0 := w9) (G := Iv 0 w0.heap.size) ck false 4 hAy4 (fun b hb => (hFy4 b hb).2) f8 (fun b hb hx => by have := (hFy4 b hx).1.1; rcases this with h | h; exact h; unfold Iv at hb; omega) (fun b hb => Nat.lt_of_lt_of_le hb.2 hS17.mod.size) (by omega) (by omega) (by omega)) ?_)
                rintro _ w10 ⟨rfl, hm8, F4, hB4, hF4⟩
                obtain ⟨⟨nv4, na4, nq4⟩, hnx4⟩ : ∃ x, x = numR b 4 (ck, false) := ⟨_, rfl⟩
                rw [← hnx4] at hB4
                rw [← hnx4]
                dsimp only at hB4 ⊢
                have hnr4 := numR_rng (by omega) (by omega) hnx4.symm
                have hS19 : St (fun _ => False) (fun _ => False) w0 w10 [bkR b2 [(.slice ad1 b.length cp1), .int .i64 na4, .bool nq4] 111, accR encN 115 2 v_nds nds, pbR 115 116 b5 b4 es, prR nds N] := hky4 _ _ _ hm8 hB4 hF4
                clear hAy4 hFy4 hky4 hB4
                refine OL.q (Q1.assign rfl) rfl rfl ?_
                refine OL.nil ?_
                obtain ⟨vb1, hS20⟩ := hS19.exo (i := 2) rfl
                change St (fun _ => False) (fun _ => False) w0 w10 [bkR b2 [(.slice ad1 b.length cp1), .int .i64 na4, .bool nq4] 111, accR encN 115 2 v_nds nds, boxR [bkR b5 [.bool b4, vb1] 115, accR encI2 116 2 vb1 es], prR nds N] at hS20
                have hS21 : St (fun _ => False) (fun _ => False) w0 w10 [bkR b2 [(.slice ad1 b.length cp1), .int .i64 na4, .bool nq4] 111, accR encN 115 2 v_nds nds, prR nds N, boxR [bkR b5 [.bool b4, vb1] 115, accR encI2 116 2 vb1 es]] := hS20.sel [0, 1, 3, 2] (by rfl) (by decide)
                have hS22 : St (fun _ => False) (fun _ => False) w0 w10 [bkR b2 [(.slice ad1 b.length cp1), .int .i64 na4, .bool nq4] 111, accR encN 115 2 v_nds nds, prR nds N, boxR [bkR b5 [.bool b4, vb1] 115, accR encI2 116 2 vb1 es]] := hS21
                have hS23 : St (fun _ => False) (fun _ => False) w0 w10 [bkR b2 [(.slice ad1 b.length cp1), .int .i64 na4, .bool nq4] 111, accR encN 115 2 v_nds nds, prR nds N, bkR b5 [.bool b4, vb1] 115, accR encI2 116 2 vb1 es] := St.open (L1 := [bkR b2 [(.slice ad1 b.length cp1), .int .i64 na4, .bool nq4] 111, accR encN 115 2 v_nds nds, prR nds N]) hS22
                obtain ⟨g1, f9, hl1, k1⟩ := hS23.accK (i := 4) rfl
                obtain ⟨ad2, cp2, hv2⟩ := f9.shape
                subst hv2
                refine r_draw1 (fun i => Nat.beq i 4 || Nat.beq i 6 || Nat.beq i 7 || Nat.beq i 9) 9 (fun w' => Row w' b5 1 [(.slice ad2 es.length cp2)]) mixed (by kernel_rfl) ?_
                intro w11 hm9
                have hS24 := hS23.ext hm9
                have f10 := hS24.bk (i := 3) rfl
                refine ⟨(f10.cell 1 _ rfl), ?_⟩
                rw [show List.range' 0 (Array.size _) = [0, 1, 2, 3, 4, 5, 6, 7, 8, 9] from rfl]
                refine OD.q rfl rfl (Q1.fieldAddr fl115_1 rfl) rfl rfl ?_
                have f11 := hS23.bk (i := 3) rfl
                refine OD.q rfl rfl (Q1.load1 ti113 rfl (fun _ hc => hc)) rfl rfl ?_
                refine OD.q rfl rfl (Q1.move rfl) rfl rfl ?_
                refine OD.q rfl rfl (Q1.move rfl) rfl rfl ?_
                have f12 := hS24.out h_b (fun _ _ h => h)
                obtain ⟨Fy5, hAy5, hFy5, hky5⟩ := hS24.act (i := 0) rfl
                refine OD.act rfl rfl rfl rfl (AW.callF cl71 rfl (r9num_c (w0 := w11) (G := Iv 0 w0.heap.size) na4 nq4 2 hAy5 (fun b hb => (hFy5 b hb).2) f12 (fun b hb hx => by have := (hFy5 b hx).1.1; rcases this with h | h; exact h; unfold Iv at hb; omega) (fun b hb => Nat.lt_of_lt_of_le hb.2 hS24.mod.size) (by omega) (by omega) (by omega)) ?_)
                rintro _ w12 ⟨rfl, hm10, F5, hB5, hF5⟩
                obtain ⟨⟨nv5, na5, nq5⟩, hnx5⟩ : ∃ x, x = numR b 2 (na4, nq4) := ⟨_, rfl⟩
                rw [← hnx5] at hB5
                rw [← hnx5]
                dsimp only at hB5 ⊢
                have hnr5 := numR_rng (by omega) (by omega) hnx5.symm
                have hnr5b := numR_byte hnx5.symm (by omega)
                have hS25 : St (fun _ => False) (fun _ => False) w0 w12 [bkR b2 [(.slice ad1 b.length cp1), .int .i64 na5, .bool nq5] 111, accR encN 115 2 v_nds nds, prR nds N, bkR b5 [.bool b4, (.slice ad2 es.length cp2)] 115, accR encI2 116 2 ((.slice ad2 es.length cp2)) es] := hky5 _ _ _ hm10 hB5 hF5
                clear hAy5 hFy5 hky5 hB5
                have f13 := hS25.bk (i := 3) rfl
                refine ⟨.inr (f13.cell 1 _ rfl), ?_⟩
                refine OD.q rfl rfl (Q1.build (vs := #[(0, (.int .i64 nv4 : Value)), (1, (.int .i64 nv5 : Value))]) (v := .agg #[.int .i64 nv4, .int .i64 nv5]) rfl (fun _ => by kernel_rfl)) rfl rfl ?_
                refine OD.act rfl rfl rfl rfl (AW.buildSlice [(.agg #[.int .i64 nv4, .int .i64 nv5] : Value)] Try.underlying113 ti116 rfl rfl rfl (by decide) ?_)
                intro w13 b7 hm11 hb7 hz4 hk4
                have hS26 := hS25.ext hm11
                have hl2 := Sl.of_blk (enc := encI2) hk4 ([(Prod.mk nv4 nv5)] : List ((Int × Int))) 1 rfl rfl (by unfold maxLen; omega)
                have hS27 : St (fun _ => False) (fun _ => False) w0 w13 [bkR b2 [(.slice ad1 b.length cp1), .int .i64 na5, .bool nq5] 111, accR encN 115 2 v_nds nds, prR nds N, bkR b5 [.bool b4, (.slice ad2 es.length cp2)] 115, accR encI2 116 2 ((.slice ad2 es.length cp2)) es, slR encI2 [((.slice (some ⟨b7, 0, none⟩) 1 1), [(Prod.mk nv4 nv5)])]] := hS25.newSlB hm11 hb7 hz4 hl2
                have f14 := hS27.bk (i := 3) rfl
                refine ⟨.inr (f14.cell 1 _ rfl), ?_⟩
                obtain ⟨g3, f15, hl3, k2⟩ := hS27.accK (i := 4) rfl
                have f16 := hS27.sl (i := 5) (k := 0) rfl rfl
                refine OD.act rfl rfl rfl rfl (AW.append f15 Try.underlying113 ti116 rfl encI2_len encI2_one rfl rfl (f16) (by first | omega | (simp only [List.length_append, List.length_cons, List.length_nil]; omega) | (simp; omega)) (by unfold maxLen; first | omega | (simp only [List.length_append, List.length_cons, List.length_nil]; omega) | (simp; omega)) ?_)
                intro v1 g2 w14 ha1 hm12 hg1 hz5
                have hS28 : St (fun _ => False) (fun _ => False) w0 w14 [bkR b2 [(.slice ad1 b.length cp1), .int .i64 na5, .bool nq5] 111, accR encN 115 2 v_nds nds, prR nds N, bkR b5 [.bool b4, (.slice ad2 es.length cp2)] 115, accR encI2 116 2 v1 ((es ++ [(Prod.mk nv4 nv5)])), slR encI2 [((.slice (some ⟨b7, 0, none⟩) 1 1), [(Prod.mk nv4 nv5)])]] := k2 _ _ _ _ hm12 ha1 hg1
                have f17 := hS28.bk (i := 3) rfl
                refine ⟨.inr (f17.cell 1 _ rfl), ?_⟩
                clear hg1
                refine OD.q rfl rfl (Q1.fieldAddr fl115_1 rfl) rfl rfl ?_
                obtain ⟨g4, f18, hl4, k3⟩ := hS28.accK (i := 4) rfl
                obtain ⟨ad3, cp3, hv3⟩ := f18.shape
                subst hv3
                refine OD.act rfl rfl rfl rfl (AW.store ti113 rfl rfl rfl rfl rfl f17 (Nat.le_of_ble_eq_true rfl) ?_)
                intro w15 hm13 hz6 hk5
                have hS29 : St (fun _ => False) (fun _ => False) w0 w15 [bkR b2 [(.slice ad1 b.length cp1), .int .i64 na5, .bool nq5] 111, accR encN 115 2 v_nds nds, prR nds N, bkR b5 [.bool b4, (.slice ad3 ((es ++ [(Prod.mk nv4 nv5)])).length cp3)] 115, accR encI2 116 2 ((.slice ad3 ((es ++ [(Prod.mk nv4 nv5)])).length cp3)) ((es ++ [(Prod.mk nv4 nv5)])), slR encI2 [((.slice (some ⟨b7, 0, none⟩) 1 1), [(Prod.mk nv4 nv5)])]] := hS28.bkK (i := 3) rfl hm13 hk5
                refine ⟨.inl rfl, ?_⟩
                refine OD.nil ?_
                refine r_inBlock ?_
                refine r_region ?_
                have hS30 : St (fun _ => False) (fun _ => False) w0 w15 [bkR b2 [(.slice ad1 b.length cp1), .int .i64 na5, .bool nq5] 111, accR encN 115 2 v_nds nds, prR nds N, slR encI2 [((.slice (some ⟨b7, 0, none⟩) 1 1), [(Prod.mk nv4 nv5)])], bkR b5 [.bool b4, (.slice ad3 ((es ++ [(Prod.mk nv4 nv5)])).length cp3)] 115, accR encI2 116 2 ((.slice ad3 ((es ++ [(Prod.mk nv4 nv5)])).length cp3)) ((es ++ [(Prod.mk nv4 nv5)]))] := hS29.sel [0, 1, 2, 5, 3, 4] (by rfl) (by decide)
                have hS31 : St (fun _ => False) (fun _ => False) w0 w15 [bkR b2 [(.slice ad1 b.length cp1), .int .i64 na5, .bool nq5] 111, accR encN 115 2 v_nds nds, prR nds N, slR encI2 [((.slice (some ⟨b7, 0, none⟩) 1 1), [(Prod.mk nv4 nv5)])], boxR [bkR b5 [.bool b4, (.slice ad3 ((es ++ [(Prod.mk nv4 nv5)])).length cp3)] 115, accR encI2 116 2 ((.slice ad3 ((es ++ [(Prod.mk nv4 nv5)])).length cp3)) ((es ++ [(Prod.mk nv4 nv5)]))]] := St.close (L1 := [bkR b2 [(.slice ad1 b.length cp1), .int .i64 na5, .bool nq5] 111, accR encN 115 2 v_nds nds, prR nds N, slR encI2 [((.slice (some ⟨b7, 0, none⟩) 1 1), [(Prod.mk nv4 nv5)])]]) hS30
                have hS32 : St (fun _ => False) (fun _ => False) w0 w15 [bkR b2 [(.slice ad1 b.length cp1), .int .i64 na5, .bool nq5] 111, accR encN 115 2 v_nds nds, prR nds N, slR encI2 [((.slice (some ⟨b7, 0, none⟩) 1 1), [(Prod.mk nv4 nv5)])], pbR 115 116 b5 b4 ((es ++ [(Prod.mk nv4 nv5)]))] := hS31.exi (.slice ad3 ((es ++ [(Prod.mk nv4 nv5)])).length cp3) (i := 4) rfl
                refine OL.q (Q1.move rfl) rfl rfl ?_
                refine OL.q (Q1.subI ((z - 1)) rfl rfl (by omega)) rfl rfl ?_
                refine OL.q (Q1.assign rfl) rfl rfl ?_
                refine OL.nil ?_
                have hS33 : St (fun _ => False) (fun _ => False) w0 w15 [bkR b2 [(.slice ad1 b.length cp1), .int .i64 na5, .bool nq5] 111, accR encN 115 2 v_nds nds, pbR 115 116 b5 b4 ((es ++ [(Prod.mk nv4 nv5)])), prR nds N] := hS32.sel [0, 1, 4, 2] (by rfl) (by decide)
                exact (ih2 _ _ _ ⟨(na5 : Int), (nq5 : Bool), ((z - 1) : Int), ((es ++ [(Prod.mk nv4 nv5)]) : List (Int × Int)), rfl, rfl, hS33, (by first | exact EdsQ.step (show EdsQ b _ _ ((z - 1).toNat + 1) _ _ from (show (z - 1).toNat + 1 = z.toNat from by omega) ▸ hE2) (edgeP_eq hnx4 hnx5) | (exfalso; omega)), (by first | omega | (exfalso; omega)), (by first | (simp only [List.length_append, List.length_cons, List.length_nil]; omega) | (exfalso; omega)), (by first | (refine ⟨(by simp only [List.length_append, List.length_cons, List.length_nil]; omega), fun e he => ?_⟩; rcases List.mem_append.1 he with h | h; exact heso.2 e h; simp only [List.mem_singleton] at h; subst h; exact ⟨by dsimp only; omega, by dsimp only; omega, by dsimp only; omega, by dsimp only; omega⟩) | (exfalso; omega))⟩ (by omega)).sub ⟨rfl, rfl, rfl, rfl, rfl, rfl, rfl, trivial⟩
            | false =>
              replace hb6 := of_decide_eq_false hb6.symm
              refine OL.sk rfl rfl ?_
              refine OL.sk rfl rfl ?_
              refine OL.sk rfl rfl ?_
              refine OL.sk rfl rfl ?_
              refine OL.sk rfl rfl ?_
              refine OL.q (Q1.pick_f rfl rfl) rfl rfl ?_
              refine OL.nil ?_
              refine r_cond_f rfl ?_
              refine r_exit rfl ?_
              refine r_region ?_
              obtain ⟨vb1, hS19⟩ := hS17.exo (i := 2) rfl
              change St (fun _ => False) (fun _ => False) w0 w9 [bkR b2 [(.slice ad1 b.length cp1), .int .i64 ck, .bool pk] 111, accR encN 115 2 v_nds nds, boxR [bkR b5 [.bool b4, vb1] 115, accR encI2 116 2 vb1 es], prR nds N] at hS19
              have hS20 : St (fun _ => False) (fun _ => False) w0 w9 [bkR b2 [(.slice ad1 b.length cp1), .int .i64 ck, .bool pk] 111, accR encN 115 2 v_nds nds, prR nds N, boxR [bkR b5 [.bool b4, vb1] 115, accR encI2 116 2 vb1 es]] := hS19.sel [0, 1, 3, 2] (by rfl) (by decide)
              have hS21 : St (fun _ => False) (fun _ => False) w0 w9 [bkR b2 [(.slice ad1 b.length cp1), .int .i64 ck, .bool pk] 111, accR encN 115 2 v_nds nds, prR nds N, boxR [bkR b5 [.bool b4, vb1] 115, accR encI2 116 2 vb1 es]] := hS20
              have hS22 : St (fun _ => False) (fun _ => False) w0 w9 [bkR b2 [(.slice ad1 b.length cp1), .int .i64 ck, .bool pk] 111, accR encN 115 2 v_nds nds, prR nds N, bkR b5 [.bool b4, vb1] 115, accR encI2 116 2 vb1 es] := St.open (L1 := [bkR b2 [(.slice ad1 b.length cp1), .int .i64 ck, .bool pk] 111, accR encN 115 2 v_nds nds, prR nds N]) hS21
              obtain ⟨g1, f7, hl1, k1⟩ := hS22.accK (i := 4) rfl
              obtain ⟨ad2, cp2, hv2⟩ := f7.shape
              subst hv2
              have hed : edgesP b nv3.toNat (na3, nq3) = (es, (ck, pk)) := by first | exact hE2.bad | exact (show EdsQ b _ _ 0 _ _ from (show z.toNat = 0 from by omega) ▸ hE2).fin
              have hnd := nodeP_eq hnx2 hnx3 hed (f := b4) (by first | assumption | (symm; assumption) | rfl | (rw [hb4]; rfl))
              have hS23 : St (fun _ => False) (fun _ => False) w0 w9 [bkR b2 [(.slice ad1 b.length cp1), .int .i64 ck, .bool pk] 111, accR encN 115 2 v_nds nds, bkR b5 [.bool b4, (.slice ad2 es.length cp2)] 115, prR nds N, accR encI2 116 2 ((.slice ad2 es.length cp2)) es] := hS22.sel [0, 1, 3, 2, 4] (by rfl) (by decide)
              have hS24 : St (fun _ => False) (fun _ => False) w0 w9 [bkR b2 [(.slice ad1 b.length cp1), .int .i64 ck, .bool pk] 111, accR encN 115 2 v_nds nds, bkR b5 [.bool b4, (.slice ad2 es.length cp2)] 115, boxR [prR nds N, accR encI2 116 2 ((.slice ad2 es.length cp2)) es]] := St.close (L1 := [bkR b2 [(.slice ad1 b.length cp1), .int .i64 ck, .bool pk] 111, accR encN 115 2 v_nds nds, bkR b5 [.bool b4, (.slice ad2 es.length cp2)] 115]) hS23
              have hS25 : St (fun _ => False) (fun _ => False) w0 w9 [bkR b2 [(.slice ad1 b.length cp1), .int .i64 ck, .bool pk] 111, accR encN 115 2 v_nds nds, bkR b5 [.bool b4, (.slice ad2 es.length cp2)] 115, prR (nds ++ [RNode.mk b4 ((SH.mk ad2 es.length cp2))]) (N ++ [(b4, es)])] := hS24.imp (i := 3) rfl (fun F_ h_ => pr_push rfl rfl rfl h_)
              refine OL.q (Q1.move rfl) rfl rfl ?_
              have f8 := hS25.bk (i := 2) rfl
              refine OL.q (Q1.loadN ti115 rfl (fun _ e => e ▸ f8.row) rfl) rfl rfl ?_
              refine OL.act rfl rfl (AW.buildSlice [(.agg #[.bool b4, (.slice ad2 es.length cp2)] : Value)] Try.underlying112 ti115 rfl rfl rfl (by decide) ?_)
              intro w10 b7 hm8 hb7 hz4 hk4
              have hS26 := hS25.ext hm8
              have hl2 := Sl.of_blk (enc := encN) hk4 ([(RNode.mk b4 (SH.mk ad2 es.length cp2))] : List RNode) 1 rfl rfl (by unfold maxLen; omega)
              have hS27 : St (fun _ => False) (fun _ => False) w0 w10 [bkR b2 [(.slice ad1 b.length cp1), .int .i64 ck, .bool pk] 111, accR encN 115 2 v_nds nds, bkR b5 [.bool b4, (.slice ad2 es.length cp2)] 115, prR (nds ++ [RNode.mk b4 ((SH.mk ad2 es.length cp2))]) (N ++ [(b4, es)]), slR encN [((.slice (some ⟨b7, 0, none⟩) 1 1), [(RNode.mk b4 (SH.mk ad2 es.length cp2))])]] := hS25.newSlB hm8 hb7 hz4 hl2
              obtain ⟨g3, f9, hl3, k2⟩ := hS27.accK (i := 1) rfl
              have f10 := hS27.sl (i := 4) (k := 0) rfl rfl
              refine OL.act rfl rfl (AW.append f9 Try.underlying112 ti115 rfl encN_len encN_one rfl rfl (f10) (by first | omega | (simp only [List.length_append, List.length_cons, List.length_nil]; omega) | (simp; omega)) (by unfold maxLen; first | omega | (simp only [List.length_append, List.length_cons, List.length_nil]; omega) | (simp; omega)) ?_)
              intro v1 g2 w11 ha1 hm9 hg1 hz5
              have hS28 : St (fun _ => False) (fun _ => False) w0 w11 [bkR b2 [(.slice ad1 b.length cp1), .int .i64 ck, .bool pk] 111, accR encN 115 2 v1 ((nds ++ [(RNode.mk b4 (SH.mk ad2 es.length cp2))])), bkR b5 [.bool b4, (.slice ad2 es.length cp2)] 115, prR (nds ++ [RNode.mk b4 ((SH.mk ad2 es.length cp2))]) (N ++ [(b4, es)]), slR encN [((.slice (some ⟨b7, 0, none⟩) 1 1), [(RNode.mk b4 (SH.mk ad2 es.length cp2))])]] := k2 _ _ _ _ hm9 ha1 hg1
              clear hg1
              refine OL.q (Q1.assign rfl) rfl rfl ?_
              refine OL.nil ?_
              refine r_inBlock ?_
              refine r_region ?_
              refine OL.q (Q1.move rfl) rfl rfl ?_
              refine OL.q (Q1.addI (((i + 1 : Nat) : Int)) rfl rfl (by omega)) rfl rfl ?_
              refine OL.q (Q1.assign rfl) rfl rfl ?_
              refine OL.nil ?_
              have hS29 : St (fun _ => False) (fun _ => False) w0 w11 [bkR b2 [(.slice ad1 b.length cp1), .int .i64 ck, .bool pk] 111, accR encN 115 2 v1 ((nds ++ [(RNode.mk b4 (SH.mk ad2 es.length cp2))])), prR (nds ++ [RNode.mk b4 ((SH.mk ad2 es.length cp2))]) (N ++ [(b4, es)])] := hS28.sel [0, 1, 3] (by rfl) (by decide)
              exact (ih1 _ _ _ ⟨(ck : Int), (pk : Bool), (v1 : Value), ((nds ++ [(RNode.mk b4 (SH.mk ad2 es.length cp2))]) : List RNode), (i + 1 : Nat), ((N ++ [(b4, es)]) : List RP), rfl, rfl, hS29, (by first | exact hE.step (by omega) hnd | (exfalso; omega)), (by first | omega | (exfalso; omega)), (by first | omega | (exfalso; omega)), (by first | exact rpOk_push hok (by omega) heso | (exfalso; omega)), (by first | (simp only [List.length_append, List.length_cons, List.length_nil]; omega) | (exfalso; omega)), (by first | (simp only [List.length_append, List.length_cons, List.length_nil]; omega) | (exfalso; omega))⟩ (by omega)).sub ⟨rfl, rfl, rfl, rfl, rfl, trivial⟩
      | false =>
        replace hb3 := of_decide_eq_false hb3.symm
        refine OL.sk rfl rfl ?_
        refine OL.sk rfl rfl ?_
        refine OL.sk rfl rfl ?_
        refine OL.sk rfl rfl ?_
        refine OL.sk rfl rfl ?_
        refine OL.q (Q1.pick_f rfl rfl) rfl rfl ?_
        refine OL.nil ?_
        refine r_cond_f rfl ?_
        refine r_exit rfl ?_
        refine r_seq ?_
        refine r_seq ?_
        refine r_region ?_
        refine OL.q (Q1.move rfl) rfl rfl ?_
        refine OL.q (Q1.nilCheckP rfl) rfl rfl ?_
        refine OL.q (Q1.fieldAddr fl111_2 rfl) rfl rfl ?_
        have f3 := hS6.bk (i := 0) rfl
        refine OL.q (Q1.load1 ti4 rfl (fun _ e => e ▸ (f3.cell 2 _ rfl))) rfl rfl ?_
        refine OL.nil ?_
        cases qk with
        | true =>
          refine r_cond_t rfl ?_
          refine r_seq ?_
          refine r_region ?_
          refine OL.q (Q1.assign rfl) rfl rfl ?_
          refine OL.q (Q1.assign rfl) rfl rfl ?_
          refine OL.nil ?_
          refine r_ret2 Try.func25 rfl rfl rfl ?_
          have hnds : nodesP b nv1.toNat (na1, nq1) = (N, (ak, true)) := by first | exact hE.bad | exact hE.fin (by omega)
          have hw : decP b = ([], 8) := decP_bad (by first | assumption | (symm; assumption)) hnx1 hnds rfl
          exact Ret.mk ⟨_, _, rfl, ⟨0, Acc.cast Acc.nil (by rw [hw]), .inl rfl⟩, by rw [hw], hS6.mod⟩
        | false =>
          refine r_cond_f rfl ?_
          refine r_skip ?_
          refine r_seq ?_
          refine r_region ?_
          refine OL.q (Q1.move rfl) rfl rfl ?_
          have hrl1 := hS6.prGet (i := 2) rfl
          obtain ⟨gq1, haq1, hlq1, _⟩ := hS6.accK (i := 1) rfl
          refine OL.act rfl rfl (AW.callF cl72 rfl (r9words_c 13 (w0 := w4) (F := fun _ => False) (G := Iv 0 w4.heap.size) (N := N) 0 0 [] ⟨0, Acc.nil, fun b hb => by omega⟩ (fun _ h => h.elim) (haq1.sl.mono fun b h => ⟨Nat.zero_le _, Nat.lt_of_lt_of_le h.2 hlq1⟩) hrl1 (fun _ _ h => h) (fun _ h => h.2) hok (by unfold I64; decide) (by decide) (by decide) (by decide)) ?_)
          rintro _ w5 ⟨v1, rfl, hm4, F2, ⟨ga_, hac_, hgb_⟩, hF2⟩
          have hwsh := wordsP_short N 14 0 0 [] [] (by decide) (by simp)
          have hwln := wordsP_len N 14 0 0 [] [] (by decide)
          obtain ⟨⟨wl, ok⟩, hwq⟩ : ∃ x, wordsP N 14 0 0 [] [] = x := ⟨_, rfl⟩
          rw [show (13 : Nat) + 1 = 14 from rfl, hwq] at hac_ ⊢
          rw [hwq] at hwsh hwln
          dsimp only at hac_ hwsh hwln ⊢
          have hga_ : ga_ = 0 ∨ w4.heap.size < ga_ := by rcases Nat.eq_zero_or_pos ga_ with h | h; exact .inl h; have := (hF2 (ga_ - 1) (hgb_ _ (by omega))).2; rcases this with h2 | h2; exact h2.elim; exact .inr (by omega)
          have hS9 := hS6.ext hm4
          have hS10 : St (fun _ => False) (fun _ => False) w0 w5 [bkR b2 [(.slice ad1 b.length cp1), .int .i64 ak, .bool false] 111, accR encN 115 2 v_nds nds, prR nds N, accR encS 9 1 v1 wl] := hS6.newAcc hm4 hac_ hga_
          have := hac_.le
          refine OL.q (Q1.move rfl) rfl rfl ?_
          refine OL.q (Q1.extract rfl rfl) rfl rfl ?_
          refine OL.q (Q1.extract rfl rfl) rfl rfl ?_
          refine OL.q (Q1.assign rfl) rfl rfl ?_
          refine OL.q (Q1.assign rfl) rfl rfl ?_
          refine OL.nil ?_
          refine r_seq ?_
          refine r_seq ?_
          refine r_region ?_
          refine OL.q (Q1.move rfl) rfl rfl ?_
          cases ok with
          | true =>
            refine OL.q (Q1.not rfl) rfl rfl ?_
            refine OL.nil ?_
            refine r_cond_f rfl ?_
            refine r_skip ?_
            refine r_seq ?_
            refine r_region ?_
            refine OL.q (Q1.move rfl) rfl rfl ?_
            have hsok : SOk wl := fun w hw => by have := hwsh w hw; omega
            obtain ⟨g1, f4, hl1, k1⟩ := hS10.accK (i := 3) rfl
            refine OL.act rfl rfl (AW.callF cl16 rfl (r9of_c (w0 := w5) (words := wl)  (f4.sl.iv (Nat.zero_le _) f4.lt) (by first | assumption) (by first | assumption | omega)) ?_)
            rintro _ w6 ⟨v2, _, rfl, ⟨gr1, h1, hg1⟩, rfl, hm5⟩
            have hS11 := hS10.ext hm5
            have hS12 : St (fun _ => False) (fun _ => False) w0 w6 [bkR b2 [(.slice ad1 b.length cp1), .int .i64 ak, .bool false] 111, accR encN 115 2 v_nds nds, prR nds N, accR encS 9 1 v1 wl, accR encB 5 1 v2 ((imgM wl))] := hS10.newAcc hm5 h1 hg1
            clear hg1
            have hle_1 := h1.le
            have := imgM_len wl
            have := goodL_range wl
            refine OL.q (Q1.move rfl) rfl rfl ?_
            refine OL.q (Q1.extract rfl rfl) rfl rfl ?_
            refine OL.q (Q1.extract rfl rfl) rfl rfl ?_
            refine OL.q (Q1.assign rfl) rfl rfl ?_
            refine OL.q (Q1.assign rfl) rfl rfl ?_
            refine OL.nil ?_
            refine r_seq ?_
            refine r_seq ?_
            refine r_region ?_
            refine OL.q (Q1.move rfl) rfl rfl ?_
            refine OL.qb (Q1.ne rfl rfl) rfl rfl ?_
            intro b4 hb4
            refine OL.q (Q1.move rfl) rfl rfl ?_
            cases b4 with
            | true =>
              replace hb4 := bne_iff_ne.1 hb4.symm
              refine OL.sk rfl rfl ?_
              refine OL.sk rfl rfl ?_
              refine OL.sk rfl rfl ?_
              refine OL.sk rfl rfl ?_
              refine OL.sk rfl rfl ?_
              refine OL.q (Q1.pick_t rfl rfl) rfl rfl ?_
              refine OL.nil ?_
              refine r_cond_t rfl ?_
              refine r_seq ?_
              refine r_region ?_
              refine OL.q (Q1.assign rfl) rfl rfl ?_
              refine OL.q (Q1.assign rfl) rfl rfl ?_
              refine OL.nil ?_
              refine r_ret2 Try.func25 rfl rfl rfl ?_
              have hnds : nodesP b nv1.toNat (na1, nq1) = (N, (ak, false)) := by first | exact hE.bad | exact hE.fin (by omega)
              have hw : decP b = ([], 8) := decP_other (by first | assumption | (symm; assumption)) hnx1 hnds rfl hwq rfl (by first | exact .inl (by assumption) | exact .inr (by assumption) | (left; omega))
              exact Ret.mk ⟨_, _, rfl, ⟨0, Acc.cast Acc.nil (by rw [hw]), .inl rfl⟩, by rw [hw], hS12.mod⟩
            | false =>
              replace hb4 := bne_eq_false_iff_eq.1 hb4.symm
              refine OL.q (Q1.move rfl) rfl rfl ?_
              obtain ⟨g2, f5, hl2, k2⟩ := hS12.accK (i := 4) rfl
              refine OL.act rfl rfl (AW.bytesStr Try.underlying25 Try.underlying5 Try.underlying9 rfl (f5.sl) ?_)
              refine OL.q (Q1.move rfl) rfl rfl ?_
              have f6 := hS12.out h_b (fun _ _ h => h)
              refine OL.act rfl rfl (AW.bytesStr Try.underlying25 Try.underlying5 Try.underlying9 rfl (f6) ?_)
              refine OL.qb (Q1.neS rfl rfl) rfl rfl ?_
              intro b5 hb5
              refine OL.q (Q1.pick_f rfl rfl) rfl rfl ?_
              refine OL.nil ?_
              cases b5 with
              | true =>
                replace hb5 := nbeq_t hb5
                refine r_cond_t rfl ?_
                refine r_seq ?_
                refine r_region ?_
                refine OL.q (Q1.assign rfl) rfl rfl ?_
                refine OL.q (Q1.assign rfl) rfl rfl ?_
                refine OL.nil ?_
                refine r_ret2 Try.func25 rfl rfl rfl ?_
                have hnds : nodesP b nv1.toNat (na1, nq1) = (N, (ak, false)) := by first | exact hE.bad | exact hE.fin (by omega)
                have hw : decP b = ([], 8) := decP_other (by first | assumption | (symm; assumption)) hnx1 hnds rfl hwq rfl (by first | exact .inl (by assumption) | exact .inr (by assumption) | (left; omega))
                exact Ret.mk ⟨_, _, rfl, ⟨0, Acc.cast Acc.nil (by rw [hw]), .inl rfl⟩, by rw [hw], hS12.mod⟩
              | false =>
                replace hb5 := nbeq_f hb5
                refine r_cond_f rfl ?_
                refine r_skip ?_
                refine r_seq ?_
                refine r_region ?_
                refine OL.q (Q1.move rfl) rfl rfl ?_
                refine OL.q (Q1.assign rfl) rfl rfl ?_
                refine OL.q (Q1.assign rfl) rfl rfl ?_
                refine OL.nil ?_
                refine r_ret2 Try.func25 rfl rfl rfl ?_
                have hnds : nodesP b nv1.toNat (na1, nq1) = (N, (ak, false)) := by first | exact hE.bad | exact hE.fin (by omega)
                have hw : decP b = (wl, 0) := decP_yes (by first | assumption | (symm; assumption)) hnx1 hnds rfl hwq rfl (by rintro (h | h); exact h (by first | assumption | omega); exact h (by first | assumption | (symm; assumption)))
                obtain ⟨ga, haq, hgq⟩ := hS12.accOut (i := 3) rfl
                exact Ret.mk ⟨_, _, rfl, ⟨ga, Acc.cast haq (by rw [hw]), hgq⟩, by rw [hw], hS12.mod⟩
          | false =>
            refine OL.q (Q1.not rfl) rfl rfl ?_
            refine OL.nil ?_
            refine r_cond_t rfl ?_
            refine r_seq ?_
            refine r_region ?_
            refine OL.q (Q1.assign rfl) rfl rfl ?_
            refine OL.q (Q1.assign rfl) rfl rfl ?_
            refine OL.nil ?_
            refine r_ret2 Try.func25 rfl rfl rfl ?_
            have hnds : nodesP b nv1.toNat (na1, nq1) = (N, (ak, false)) := by first | exact hE.bad | exact hE.fin (by omega)
            have hw : decP b = ([], 8) := decP_no (by first | assumption | (symm; assumption)) hnx1 hnds rfl hwq rfl
            exact Ret.mk ⟨_, _, rfl, ⟨0, Acc.cast Acc.nil (by rw [hw]), .inl rfl⟩, by rw [hw], hS10.mod⟩
  | false =>
    replace hb1 := hb1.symm
    refine OL.q (Q1.not rfl) rfl rfl ?_
    refine OL.nil ?_
    refine r_cond_t rfl ?_
    refine r_seq ?_
    refine r_region ?_
    refine OL.q (Q1.assign rfl) rfl rfl ?_
    refine OL.q (Q1.assign rfl) rfl rfl ?_
    refine OL.nil ?_
    refine r_ret2 Try.func25 rfl rfl rfl ?_
    have hw : decP b = ([], 9) := decP_shut (by first | assumption | (symm; assumption))
    exact Ret.mk ⟨_, _, rfl, ⟨0, Acc.cast Acc.nil (by rw [hw]), .inl rfl⟩, by rw [hw], hS1.mod⟩
end Go.Proofs
namespace Go.Proofs
open Go.Ik Go.Ml
set_option maxRecDepth 20000 in
set_option maxHeartbeats 4000000 in
theorem lendBytes_c {w0 : World}  {v_l : Value} {l : List UInt8} (h_l : Sl encB w0 (Iv 0 w0.heap.size) v_l l) (hln : l.length ≤ 1000000) :
    Calls Try.prog 24 #[v_l] w0 (Ret fun rv w1 => (∃ bl, rv = .slice (some ⟨bl, 0, none⟩) l.length (l.length + 3) ∧ Lent encB 5 w1 bl l (List.replicate 3 (119 : UInt8)) ∧ w0.heap.size ≤ bl) ∧ Ext w0 w1) := by
  have hE0 : Ext w0 w0 := Mod.refl _ _
  have hle1 := h_l.le
  refine calls_enter Try.func24 rfl Try.ntmps24 rfl ?_
  refine r_seq ?_
  refine r_region ?_
  refine OL.q (Q1.assign rfl) rfl rfl ?_
  refine OL.nil ?_
  refine r_seq ?_
  refine r_region ?_
  refine OL.q (Q1.move rfl) rfl rfl ?_
  refine OL.q (Q1.lenSl Try.underlying25 (h_l) rfl) rfl rfl ?_
  refine OL.q (Q1.addI (((l.length + 3 : Nat) : Int)) rfl rfl (by omega)) rfl rfl ?_
  refine OL.act rfl rfl (AW.makeRoom (enc := encB) (l.length + 3) (0 : UInt8) Try.underlying25 ti5 (by decide) rfl encB_len rfl rfl rfl (by omega) (by omega) (by unfold maxLen; omega) ?_)
  intro w1 b1 hm1 hb1 hz1 hk1
  have f1 := h_l.ext hm1
  have hE1 := hE0.ext hm1
  have hs1 := hm1.size
  refine OL.q (Q1.assign rfl) rfl rfl ?_
  refine OL.nil ?_
  refine r_seq ?_
  refine r_region ?_
  refine OL.q (Q1.move rfl) rfl rfl ?_
  refine OL.q (Q1.move rfl) rfl rfl ?_
  refine OL.act rfl rfl (AW.appendRoom hk1 (by simp) Try.underlying25 ti5 rfl encB_len encB_one (by simp) rfl rfl (f1) (by simp) ?_)
  intro w3 hm3 hz3 hk2
  replace hk2 : Lent encB 5 w3 b1 l ((List.replicate 3 (0 : UInt8))) := by simpa [List.drop_replicate] using hk2
  simp only [List.length_nil, Nat.zero_add]
  have f2 := f1.keepG hm3 (by omega)
  have hE2 := Ext.thenG hE1 hm3 (by omega)
  have hs2 := hm3.size
  refine OL.q (Q1.assign rfl) rfl rfl ?_
  refine OL.nil ?_
  refine r_seq ?_
  refine r_region ?_
  refine OL.q (Q1.move rfl) rfl rfl ?_
  refine OL.q (Q1.move rfl) rfl rfl ?_
  refine OL.q (Q1.lenSl Try.underlying25 (f2) rfl) rfl rfl ?_
  refine OL.q (Q1.move rfl) rfl rfl ?_
  refine OL.q (Q1.lenSl Try.underlying25 (f2) rfl) rfl rfl ?_
  refine OL.q (Q1.addI (((l.length + 3 : Nat) : Int)) rfl rfl (by omega)) rfl rfl ?_
  refine OL.q (Q1.room (n := 3) Try.underlying25 ti5 rfl rfl rfl (by omega) (by omega) (by omega) (by decide)) rfl rfl ?_
  refine OL.q (Q1.assign rfl) rfl rfl ?_
  refine OL.nil ?_
  refine r_seq ?_
  refine r_seq ?_
  refine r_region ?_
  refine OL.q (Q1.assign rfl) rfl rfl ?_
  refine OL.nil ?_
  refine r_block ?_
  refine r_loop (I := fun m E W => ∃ (k1 : Nat) (r : List UInt8), E = [(3, (.slice (some ⟨b1, 0, none⟩) l.length (l.length + 3))), (4, (.slice (some ⟨b1, l.length * 1, none⟩) 3 3)), (5, .int .i64 (((k1 : Nat) : Int)))] ∧ m = 3 - k1 ∧ Ext w0 W ∧ w3.heap.size ≤ W.heap.size ∧ Lent encB 5 W b1 l r ∧ (r = roomK (0 : UInt8) (119 : UInt8) k1)) ?_ ?_
  · refine ⟨_, _, ⟨(0 : Nat), ((List.replicate 3 (0 : UInt8)) : List UInt8), rfl, rfl, hE2, Nat.le_refl _, hk2, (by exact room_start _ _)⟩, ⟨rfl, rfl, rfl, trivial⟩⟩
  · rintro _ _ w4 ⟨k1, r, rfl, rfl, hE3, hs3, f3, hr⟩ ih1
    have hr3 := room_len hr
    refine r_seq ?_
    refine r_seq ?_
    refine r_region ?_
    refine OL.q (Q1.move rfl) rfl rfl ?_
    refine OL.qb (Q1.lt rfl rfl) rfl rfl ?_
    intro b2 hb2
    refine OL.nil ?_
    cases b2 with
    | true =>
      replace hb2 := of_decide_eq_true hb2.symm
      refine r_cond_t rfl ?_
      refine r_skip ?_
      refine r_seq ?_
      refine r_block ?_
      refine r_region ?_
      refine OL.q (Q1.move rfl) rfl rfl ?_
      refine OL.q (Q1.move rfl) rfl rfl ?_
      obtain ⟨x1, hx1⟩ : ∃ u, r[k1]? = some u := ⟨_, List.getElem?_eq_getElem (by first | (simp; omega) | omega)⟩
      refine OL.q (Q1.indexAddr rfl rfl (Lent.at .i64 l.length 3 Try.underlying25 ti5 (k1) (by omega) (by omega))) rfl rfl ?_
      refine OL.act rfl rfl (AW.storeRoom f3 encB_len (i := k1) (List.getElem?_eq_some_iff.1 hx1).1 ((119 : UInt8)) ti5 rfl rfl rfl rfl rfl ?_)
      intro w5 hm4 hz4 hk3
      have hE4 := Ext.thenG hE3 hm4 (by omega)
      have hs4 := hm4.size
      refine OL.nil ?_
      refine r_inBlock ?_
      refine r_region ?_
      refine OL.q (Q1.move rfl) rfl rfl ?_
      refine OL.q (Q1.addI (((k1 + 1 : Nat) : Int)) rfl rfl (by omega)) rfl rfl ?_
      refine OL.q (Q1.assign rfl) rfl rfl ?_
      refine OL.nil ?_
      exact (ih1 _ _ _ ⟨(k1 + 1 : Nat), ((r.set k1 ((119 : UInt8))) : List UInt8), rfl, rfl, hE4, (by omega), hk3, (by first | exact room_step hr (by omega) | (exfalso; omega))⟩ (by omega)).sub ⟨rfl, rfl, rfl, trivial⟩
    | false =>
      replace hb2 := of_decide_eq_false hb2.symm
      refine r_cond_f rfl ?_
      refine r_exit rfl ?_
      refine r_seq ?_
      refine r_region ?_
      refine OL.q (Q1.move rfl) rfl rfl ?_
      refine OL.q (Q1.assign rfl) rfl rfl ?_
      refine OL.nil ?_
      refine r_ret1 Try.func24 rfl rfl ?_
      exact Ret.mk ⟨⟨_, rfl, (by first | exact Lent.cast f3 (room_end hr (by omega)) | (exfalso; omega)), by omega⟩, hE3⟩
set_option maxRecDepth 20000 in
set_option maxHeartbeats 4000000 in
theorem keptBytes_c {w0 : World}  {b_lent : Nat} {lent : List UInt8} {v_l : Value} {l : List UInt8} (h_lent : Lent encB 5 w0 b_lent lent (List.replicate 3 (119 : UInt8))) (h_l : Sl encB w0 (Iv 0 w0.heap.size) v_l l) (hln : lent.length ≤ 1000000) :
    Calls Try.prog 26 #[(.slice (some ⟨b_lent, 0, none⟩) lent.length (lent.length + 3)), v_l] w0 (Ret fun rv w1 => (∃ rb : Bool, rb = (decide (lent = l)) ∧ rv = .bool rb) ∧ Ext w0 w1) := by
  have hE0 : Ext w0 w0 := Mod.refl _ _
  have hlt1 := h_lent.lt
  have hle2 := h_l.le
  refine calls_enter Try.func26 rfl Try.ntmps26 rfl ?_
  refine r_seq ?_
  refine r_region ?_
  refine OL.q (Q1.assign rfl) rfl rfl ?_
  refine OL.nil ?_
  refine r_seq ?_
  refine r_region ?_
  refine OL.q (Q1.move rfl) rfl rfl ?_
  refine OL.q (Q1.move rfl) rfl rfl ?_
  refine OL.q (Q1.lenSl Try.underlying25 ((h_lent.sl 3 (by simp) (by unfold maxLen; omega))) rfl) rfl rfl ?_
  refine OL.q (Q1.move rfl) rfl rfl ?_
  refine OL.q (Q1.lenSl Try.underlying25 ((h_lent.sl 3 (by simp) (by unfold maxLen; omega))) rfl) rfl rfl ?_
  refine OL.q (Q1.addI (((lent.length + 3 : Nat) : Int)) rfl rfl (by omega)) rfl rfl ?_
  refine OL.q (Q1.room (n := 3) Try.underlying25 ti5 rfl rfl rfl (by omega) (by omega) (by omega) (by decide)) rfl rfl ?_
  refine OL.q (Q1.assign rfl) rfl rfl ?_
  refine OL.nil ?_
  refine r_seq ?_
  refine r_seq ?_
  refine r_region ?_
  refine OL.q (Q1.assign rfl) rfl rfl ?_
  refine OL.nil ?_
  refine r_block ?_
  refine r_loop (I := fun m E W => ∃ (k1 : Nat), E = [(0, (.slice (some ⟨b_lent, 0, none⟩) lent.length (lent.length + 3))), (1, v_l), (5, (.slice (some ⟨b_lent, lent.length * 1, none⟩) 3 3)), (6, .int .i64 (((k1 : Nat) : Int)))] ∧ m = 3 - k1 ∧ Ext w0 W ∧ w0.heap.size ≤ W.heap.size ∧ Lent encB 5 W b_lent lent ((List.replicate 3 (119 : UInt8))) ∧ Sl encB W (Iv 0 w0.heap.size) v_l l) ?_ ?_
  · refine ⟨_, _, ⟨(0 : Nat), rfl, rfl, hE0, Nat.le_refl _, h_lent, h_l⟩, ⟨rfl, rfl, rfl, rfl, trivial⟩⟩
  · rintro _ _ w1 ⟨k1, rfl, rfl, hE1, hs1, f1, f2⟩ ih1
    refine r_seq ?_
    refine r_seq ?_
    refine r_region ?_
    refine OL.q (Q1.move rfl) rfl rfl ?_
    refine OL.qb (Q1.lt rfl rfl) rfl rfl ?_
    intro b1 hb1
    refine OL.nil ?_
    cases b1 with
    | true =>
      replace hb1 := of_decide_eq_true hb1.symm
      refine r_cond_t rfl ?_
      refine r_skip ?_
      refine r_seq ?_
      refine r_block ?_
      refine r_seq ?_
      refine r_region ?_
      refine OL.q (Q1.move rfl) rfl rfl ?_
      refine OL.q (Q1.move rfl) rfl rfl ?_
      obtain ⟨x1, hx1⟩ : ∃ u, ((List.replicate 3 (119 : UInt8)))[k1]? = some u := ⟨_, List.getElem?_eq_getElem (by first | (simp; omega) | omega)⟩
      refine OL.q (Q1.indexAddr rfl rfl (Lent.at .i64 lent.length 3 Try.underlying25 ti5 (k1) (by omega) (by omega))) rfl rfl ?_
      have hr1 := f1.row encB_len hx1
      refine OL.q (Q1.load1 ti5 rfl (fun _ e => e ▸ hr1)) rfl rfl ?_
      refine OL.qb (Q1.ne rfl rfl) rfl rfl ?_
      intro b2 hb2
      obtain rfl : b2 = false := hb2.trans (by rw [rep_at hx1]; rfl)
      refine OL.nil ?_
      refine r_cond_f rfl ?_
      refine r_skip ?_
      refine r_inBlock ?_
      refine r_region ?_
      refine OL.q (Q1.move rfl) rfl rfl ?_
      refine OL.q (Q1.addI (((k1 + 1 : Nat) : Int)) rfl rfl (by omega)) rfl rfl ?_
      refine OL.q (Q1.assign rfl) rfl rfl ?_
      refine OL.nil ?_
      exact (ih1 _ _ _ ⟨(k1 + 1 : Nat), rfl, rfl, hE1, (by omega), f1, f2⟩ (by omega)).sub ⟨rfl, rfl, rfl, rfl, trivial⟩
    | false =>
      replace hb1 := of_decide_eq_false hb1.symm
      refine r_cond_f rfl ?_
      refine r_exit rfl ?_
      refine r_seq ?_
      refine r_region ?_
      refine OL.q (Q1.move rfl) rfl rfl ?_
      refine OL.q (Q1.move rfl) rfl rfl ?_
      refine OL.act rfl rfl (AW.callF cl17 rfl (sameB_c (w0 := w1) (a := lent) (b := l)  (((f1.sl 3 (by simp) (by unfold maxLen; omega))).iv (Nat.zero_le _) (by omega)) ((f2).iv (Nat.zero_le _) (by omega))) ?_)
      rintro _ w2 ⟨⟨b2, hb2, rfl⟩, hm1⟩
      have f3 := f1.ext hm1
      have f4 := f2.ext hm1
      have hE2 := hE1.ext hm1
      have hs2 := hm1.size
      refine OL.q (Q1.assign rfl) rfl rfl ?_
      refine OL.nil ?_
      refine r_ret1 Try.func26 rfl rfl ?_
      exact Ret.mk ⟨⟨_, (by first | assumption | (exfalso; omega)), rfl⟩, hE2⟩
end Go.Proofs
