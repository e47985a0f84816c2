/-
  Walks through the references of chapters 4 and 8.
-/
import Derived.Test.YtajedfbogchkcaaWRef1
set_option linter.unusedVariables false
set_option linter.unusedSimpArgs false
namespace Go.Proofs
open Go.Ik Go.Ml
set_option maxRecDepth 20000 in
set_option maxHeartbeats 4000000 in
theorem r4good_c {w0 : World}  {v_l : Value} {l : List Str} (h_l : Sl encS w0 (Iv 0 w0.heap.size) v_l l) (hsk_l : Ml.SOk l) :
    Calls Try.prog 85 #[v_l] w0 (Ret fun rv w1 => rv = .int .i64 (Ml.goodL l) ∧ Ext w0 w1) := by
  have hE0 : Ext w0 w0 := Mod.refl _ _
  have hle1 := h_l.le
  refine calls_enter Try.func85 rfl Try.ntmps85 rfl ?_
  refine r_seq ?_
  refine r_region ?_
  refine OL.q (Q1.assign rfl) rfl rfl ?_
  refine OL.nil ?_
  refine r_seq ?_
  refine r_seq ?_
  refine r_region ?_
  refine OL.q (Q1.move rfl) rfl rfl ?_
  refine OL.q (Q1.lenSl Try.underlying22 (h_l) rfl) rfl rfl ?_
  refine OL.qb (Q1.gt rfl rfl) rfl rfl ?_
  intro b1 hb1
  refine OL.nil ?_
  cases b1 with
  | true =>
    replace hb1 := of_decide_eq_true hb1.symm
    refine r_cond_t rfl ?_
    refine r_seq ?_
    refine r_region ?_
    refine OL.q (Q1.assign rfl) rfl rfl ?_
    refine OL.nil ?_
    refine r_ret1 Try.func85 rfl rfl ?_
    exact Ret.mk ⟨(congrArg (Value.int .i64) (by first | exact Ml.goodL_full (by omega) | exact Ml.goodL_word (by omega) hx1 (by assumption) | exact Ml.goodL_sort' (by omega) ha hj hx1 hx2 (by omega) | exact Ml.goodL_ok (by omega) ha hr (by omega) | (exfalso; omega))), hE0⟩
  | false =>
    replace hb1 := of_decide_eq_false hb1.symm
    refine r_cond_f rfl ?_
    refine r_skip ?_
    refine r_seq ?_
    refine r_seq ?_
    refine r_region ?_
    refine OL.q (Q1.assign rfl) rfl rfl ?_
    refine OL.nil ?_
    refine r_block ?_
    refine r_loop (I := fun m E W => ∃ (k : Nat), E = [(0, v_l), (3, .int .i64 (((k : Nat) : Int)))] ∧ m = l.length - k ∧ Ext w0 W ∧ w0.heap.size ≤ W.heap.size ∧ Sl encS W (Iv 0 w0.heap.size) v_l l ∧ ((l.take k).all Ml.word = true)) ?_ ?_
    · refine ⟨_, _, ⟨(0 : Nat), rfl, rfl, hE0, Nat.le_refl _, h_l, (by rfl)⟩, ⟨rfl, rfl, trivial⟩⟩
    · rintro _ _ w1 ⟨k, rfl, rfl, hE1, hs1, f1, hi⟩ ih1
      refine r_seq ?_
      refine r_seq ?_
      refine r_region ?_
      refine OL.q (Q1.move rfl) rfl rfl ?_
      refine OL.q (Q1.move rfl) rfl rfl ?_
      refine OL.q (Q1.lenSl Try.underlying22 (f1) rfl) rfl rfl ?_
      refine OL.qb (Q1.lt rfl rfl) rfl rfl ?_
      intro b2 hb2
      refine OL.nil ?_
      cases b2 with
      | true =>
        replace hb2 := of_decide_eq_true hb2.symm
        refine r_cond_t rfl ?_
        refine r_skip ?_
        refine r_seq ?_
        refine r_block ?_
        refine r_seq ?_
        refine r_region ?_
        refine OL.q (Q1.move rfl) rfl rfl ?_
        refine OL.q (Q1.move rfl) rfl rfl ?_
        obtain ⟨x1, b3, o1, hx1, hr1, hl1, hu1, hw1⟩ := Sl.at' (P := Try.prog) f1 Try.underlying22 ti9 encS_len (k := .i64) (n := ((k : Nat) : Int)) (k) (by omega) (by first | assumption | omega)
        refine OL.q (Q1.indexAddr rfl rfl hr1) rfl rfl ?_
        refine OL.q (Q1.load1 ti9 rfl (fun _ e => e ▸ hw1)) rfl rfl ?_
        refine OL.act rfl rfl (AW.callF cl112 rfl (rword_c (w0 := w1)  x1 (by exact hsk_l.at (by assumption))) ?_)
        rintro _ w2 ⟨⟨b4, hb3, rfl⟩, hm1⟩
        have f2 := f1.ext hm1
        have hE2 := hE1.ext hm1
        have hs2 := hm1.size
        cases b4 with
        | true =>
          replace hb3 := hb3.symm
          refine OL.q (Q1.not rfl) rfl rfl ?_
          refine OL.nil ?_
          refine r_cond_f rfl ?_
          refine r_skip ?_
          refine r_inBlock ?_
          refine r_region ?_
          refine OL.q (Q1.move rfl) rfl rfl ?_
          refine OL.q (Q1.addI (((k + 1 : Nat) : Int)) rfl rfl (by omega)) rfl rfl ?_
          refine OL.q (Q1.assign rfl) rfl rfl ?_
          refine OL.nil ?_
          exact (ih1 _ _ _ ⟨(k + 1 : Nat), rfl, rfl, hE2, (by omega), f2, (by first | exact Ml.all_take_succ hi (by assumption) (by assumption) | (exfalso; omega))⟩ (by omega)).sub ⟨rfl, rfl, trivial⟩
        | false =>
          replace hb3 := hb3.symm
          refine OL.q (Q1.not rfl) rfl rfl ?_
          refine OL.nil ?_
          refine r_cond_t rfl ?_
          refine r_seq ?_
          refine r_region ?_
          refine OL.q (Q1.assign rfl) rfl rfl ?_
          refine OL.nil ?_
          refine r_ret1 Try.func85 rfl rfl ?_
          exact Ret.mk ⟨(congrArg (Value.int .i64) (by first | exact Ml.goodL_full (by omega) | exact Ml.goodL_word (by omega) hx1 (by assumption) | exact Ml.goodL_sort' (by omega) ha hj hx1 hx2 (by omega) | exact Ml.goodL_ok (by omega) ha hr (by omega) | (exfalso; omega))), hE2⟩
      | false =>
        replace hb2 := of_decide_eq_false hb2.symm
        refine r_cond_f rfl ?_
        refine r_exit rfl ?_
        refine r_seq ?_
        refine r_seq ?_
        refine r_region ?_
        refine OL.q (Q1.assign rfl) rfl rfl ?_
        refine OL.nil ?_
        refine r_block ?_
        refine r_loop (I := fun m E W => ∃ (j : Nat), E = [(0, v_l), (4, .int .i64 (((j : Nat) : Int)))] ∧ m = l.length - j ∧ Ext w0 W ∧ w1.heap.size ≤ W.heap.size ∧ Sl encS W (Iv 0 w0.heap.size) v_l l ∧ (1 ≤ j) ∧ (Ml.rising (l.take j) = true)) ?_ ?_
        · refine ⟨_, _, ⟨(1 : Nat), rfl, rfl, hE1, Nat.le_refl _, f1, (by omega), (by exact Ml.rising_one _)⟩, ⟨rfl, rfl, trivial⟩⟩
        · rintro _ _ w2 ⟨j, rfl, rfl, hE2, hs2, f2, hj, hr⟩ ih2
          have ha := Ml.all_of_take hi (by omega)
          refine r_seq ?_
          refine r_seq ?_
          refine r_region ?_
          refine OL.q (Q1.move rfl) rfl rfl ?_
          refine OL.q (Q1.move rfl) rfl rfl ?_
          refine OL.q (Q1.lenSl Try.underlying22 (f2) rfl) rfl rfl ?_
          refine OL.qb (Q1.lt rfl rfl) rfl rfl ?_
          intro b3 hb3
          refine OL.nil ?_
          cases b3 with
          | true =>
            replace hb3 := of_decide_eq_true hb3.symm
            refine r_cond_t rfl ?_
            refine r_skip ?_
            refine r_seq ?_
            refine r_block ?_
            refine r_seq ?_
            refine r_draw1 (fun i => Nat.beq i 9) 11 (fun w' => Mod (Mg 0) w2 w') mixed (by kernel_rfl) ?_
            intro w3 hm1
            have f3 := f2.ext hm1
            have hE3 := hE2.ext hm1
            have hs3 := hm1.size
            have hCw3 : Mod (Mg 0) w2 w3 := Mod.ofExt hm1
            refine ⟨hCw3, ?_⟩
            rw [show List.range' 0 (Array.size _) = [0, 1, 2, 3, 4, 5, 6, 7, 8, 9, 10] from rfl]
            refine OD.q rfl rfl (Q1.move rfl) rfl rfl ?_
            refine OD.q rfl rfl (Q1.move rfl) rfl rfl ?_
            refine OD.q rfl rfl (Q1.subI ((((j : Nat) : Int) - 1)) rfl rfl (by omega)) rfl rfl ?_
            obtain ⟨x1, b4, o1, hx1, hr1, hl1, hu1, hw1⟩ := Sl.at' (P := Try.prog) f2 Try.underlying22 ti9 encS_len (k := .i64) (n := (((j : Nat) : Int) - 1)) ((j - 1)) (by omega) (by first | assumption | omega)
            refine OD.q rfl rfl (Q1.indexAddr rfl rfl hr1) rfl rfl ?_
            refine OD.q rfl rfl (Q1.load1 ti9 rfl (fun _ hc => hw1.keepG hc (by omega))) rfl rfl ?_
            refine OD.q rfl rfl (Q1.move rfl) rfl rfl ?_
            refine OD.q rfl rfl (Q1.move rfl) rfl rfl ?_
            obtain ⟨x2, b5, o2, hx2, hr2, hl2, hu2, hw2⟩ := Sl.at' (P := Try.prog) f2 Try.underlying22 ti9 encS_len (k := .i64) (n := ((j : Nat) : Int)) (j) (by omega) (by first | assumption | omega)
            refine OD.q rfl rfl (Q1.indexAddr rfl rfl hr2) rfl rfl ?_
            refine OD.q rfl rfl (Q1.load1 ti9 rfl (fun _ hc => hw2.keepG hc (by omega))) rfl rfl ?_
            refine OD.act rfl rfl rfl rfl (AW.callF cl113 rfl (rcmp_c (w0 := w3)  x1 x2 (by exact hsk_l.at hx1) (by exact hsk_l.at hx2)) ?_)
            rintro _ w4 ⟨rfl, hm2, hp1⟩
            have f4 := f3.ext hm2
            have hE4 := hE3.ext hm2
            have hs4 := hm2.size
            have hCw4 := hCw3.ext hm2
            refine ⟨.inr hCw4, ?_⟩
            refine OD.qb rfl rfl (Q1.ge rfl rfl) rfl rfl ?_
            intro b6 hb4
            refine OD.nil ?_
            cases b6 with
            | true =>
              replace hb4 := of_decide_eq_true hb4.symm
              refine r_cond_t rfl ?_
              refine r_seq ?_
              refine r_region ?_
              refine OL.q (Q1.assign rfl) rfl rfl ?_
              refine OL.nil ?_
              refine r_ret1 Try.func85 rfl rfl ?_
              exact Ret.mk ⟨(congrArg (Value.int .i64) (by first | exact Ml.goodL_full (by omega) | exact Ml.goodL_word (by omega) hx1 (by assumption) | exact Ml.goodL_sort' (by omega) ha hj hx1 hx2 (by omega) | exact Ml.goodL_ok (by omega) ha hr (by omega) | (exfalso; omega))), hE4⟩
            | false =>
              replace hb4 := of_decide_eq_false hb4.symm
              refine r_cond_f rfl ?_
              refine r_skip ?_
              refine r_inBlock ?_
              refine r_region ?_
              refine OL.q (Q1.move rfl) rfl rfl ?_
              refine OL.q (Q1.addI (((j + 1 : Nat) : Int)) rfl rfl (by omega)) rfl rfl ?_
              refine OL.q (Q1.assign rfl) rfl rfl ?_
              refine OL.nil ?_
              exact (ih2 _ _ _ ⟨(j + 1 : Nat), rfl, rfl, hE4, (by omega), f4, (by first | omega | (exfalso; omega)), (by first | exact Ml.rising_step hr hj (by assumption) (by assumption) (by omega) | (exfalso; omega))⟩ (by omega)).sub ⟨rfl, rfl, trivial⟩
          | false =>
            replace hb3 := of_decide_eq_false hb3.symm
            refine r_cond_f rfl ?_
            refine r_exit rfl ?_
            refine r_seq ?_
            refine r_region ?_
            refine OL.q (Q1.assign rfl) rfl rfl ?_
            refine OL.nil ?_
            refine r_ret1 Try.func85 rfl rfl ?_
            exact Ret.mk ⟨(congrArg (Value.int .i64) (by first | exact Ml.goodL_full (by omega) | exact Ml.goodL_word (by omega) hx1 (by assumption) | exact Ml.goodL_sort' (by omega) ha hj hx1 hx2 (by omega) | exact Ml.goodL_ok (by omega) ha hr (by omega) | (exfalso; omega))), hE2⟩
set_option maxRecDepth 20000 in
set_option maxHeartbeats 4000000 in
theorem r8same_c {w0 : World}  {v_a : Value} {a : List Str} {v_b : Value} {b : List Str} (h_a : Sl encS w0 (Iv 0 w0.heap.size) v_a a) (h_b : Sl encS w0 (Iv 0 w0.heap.size) v_b b) :
    Calls Try.prog 117 #[v_a, v_b] w0 (Ret fun rv w1 => (∃ rb : Bool, rb = (decide (a = b)) ∧ rv = .bool rb) ∧ Ext w0 w1) := by
  have hE0 : Ext w0 w0 := Mod.refl _ _
  have hle1 := h_a.le
  have hle2 := h_b.le
  refine calls_enter Try.func117 rfl Try.ntmps117 rfl ?_
  refine r_seq ?_
  refine r_region ?_
  refine OL.q (Q1.assign rfl) rfl rfl ?_
  refine OL.nil ?_
  refine r_seq ?_
  refine r_seq ?_
  refine r_region ?_
  refine OL.q (Q1.move rfl) rfl rfl ?_
  refine OL.q (Q1.lenSl Try.underlying22 (h_a) rfl) rfl rfl ?_
  refine OL.q (Q1.move rfl) rfl rfl ?_
  refine OL.q (Q1.lenSl Try.underlying22 (h_b) rfl) rfl rfl ?_
  refine OL.qb (Q1.ne rfl rfl) rfl rfl ?_
  intro b1 hb1
  refine OL.nil ?_
  cases b1 with
  | true =>
    replace hb1 := bne_iff_ne.1 hb1.symm
    refine r_cond_t rfl ?_
    refine r_seq ?_
    refine r_region ?_
    refine OL.q (Q1.assign rfl) rfl rfl ?_
    refine OL.nil ?_
    refine r_ret1 Try.func117 rfl rfl ?_
    exact Ret.mk ⟨⟨_, (by first | (have e := Ml.same_not hx1 hx2 (by assumption); simp [e]) | (have e := Ml.same_all hi (by omega) (by omega); simp [e]) | (have e : a ≠ b := (fun e => absurd (congrArg List.length e) (by omega)); simp [e]) | (exfalso; omega)), rfl⟩, hE0⟩
  | false =>
    replace hb1 := bne_eq_false_iff_eq.1 hb1.symm
    refine r_cond_f rfl ?_
    refine r_skip ?_
    refine r_seq ?_
    refine r_seq ?_
    refine r_region ?_
    refine OL.q (Q1.assign rfl) rfl rfl ?_
    refine OL.nil ?_
    refine r_block ?_
    refine r_loop (I := fun m E W => ∃ (k : Nat), E = [(0, v_a), (1, v_b), (5, .int .i64 (((k : Nat) : Int)))] ∧ m = a.length - k ∧ Ext w0 W ∧ w0.heap.size ≤ W.heap.size ∧ Sl encS W (Iv 0 w0.heap.size) v_a a ∧ Sl encS W (Iv 0 w0.heap.size) v_b b ∧ (a.take k = b.take k)) ?_ ?_
    · refine ⟨_, _, ⟨(0 : Nat), rfl, rfl, hE0, Nat.le_refl _, h_a, h_b, (by rfl)⟩, ⟨rfl, rfl, rfl, trivial⟩⟩
    · rintro _ _ w1 ⟨k, rfl, rfl, hE1, hs1, f1, f2, hi⟩ ih1
      refine r_seq ?_
      refine r_seq ?_
      refine r_region ?_
      refine OL.q (Q1.move rfl) rfl rfl ?_
      refine OL.q (Q1.move rfl) rfl rfl ?_
      refine OL.q (Q1.lenSl Try.underlying22 (f1) rfl) rfl rfl ?_
      refine OL.qb (Q1.lt rfl rfl) rfl rfl ?_
      intro b2 hb2
      refine OL.nil ?_
      cases b2 with
      | true =>
        replace hb2 := of_decide_eq_true hb2.symm
        refine r_cond_t rfl ?_
        refine r_skip ?_
        refine r_seq ?_
        refine r_block ?_
        refine r_seq ?_
        refine r_draw1 (fun i => false) 9 (fun w' => Mod (Mg 0) w1 w') mixed (by kernel_rfl) ?_
        intro w2 hm1
        have f3 := f1.ext hm1
        have f4 := f2.ext hm1
        have hE2 := hE1.ext hm1
        have hs2 := hm1.size
        have hCw2 : Mod (Mg 0) w1 w2 := Mod.ofExt hm1
        refine ⟨hCw2, ?_⟩
        rw [show List.range' 0 (Array.size _) = [0, 1, 2, 3, 4, 5, 6, 7, 8] from rfl]
        refine OD.q rfl rfl (Q1.move rfl) rfl rfl ?_
        refine OD.q rfl rfl (Q1.move rfl) rfl rfl ?_
        obtain ⟨x1, b3, o1, hx1, hr1, hl1, hu1, hw1⟩ := Sl.at' (P := Try.prog) f1 Try.underlying22 ti9 encS_len (k := .i64) (n := ((k : Nat) : Int)) (k) (by omega) (by first | assumption | omega)
        refine OD.q rfl rfl (Q1.indexAddr rfl rfl hr1) rfl rfl ?_
        refine OD.q rfl rfl (Q1.load1 ti9 rfl (fun _ hc => hw1.keepG hc (by omega))) rfl rfl ?_
        refine OD.q rfl rfl (Q1.move rfl) rfl rfl ?_
        refine OD.q rfl rfl (Q1.move rfl) rfl rfl ?_
        obtain ⟨x2, b4, o2, hx2, hr2, hl2, hu2, hw2⟩ := Sl.at' (P := Try.prog) f2 Try.underlying22 ti9 encS_len (k := .i64) (n := ((k : Nat) : Int)) (k) (by omega) (by first | assumption | omega)
        refine OD.q rfl rfl (Q1.indexAddr rfl rfl hr2) rfl rfl ?_
        refine OD.q rfl rfl (Q1.load1 ti9 rfl (fun _ hc => hw2.keepG hc (by omega))) rfl rfl ?_
        refine OD.qb rfl rfl (Q1.neS rfl rfl) rfl rfl ?_
        intro b5 hb3
        refine OD.nil ?_
        cases b5 with
        | true =>
          replace hb3 := nbeq_t hb3
          refine r_cond_t rfl ?_
          refine r_seq ?_
          refine r_region ?_
          refine OL.q (Q1.assign rfl) rfl rfl ?_
          refine OL.nil ?_
          refine r_ret1 Try.func117 rfl rfl ?_
          exact Ret.mk ⟨⟨_, (by first | (have e := Ml.same_not hx1 hx2 (by assumption); simp [e]) | (have e := Ml.same_all hi (by omega) (by omega); simp [e]) | (have e : a ≠ b := (fun e => absurd (congrArg List.length e) (by omega)); simp [e]) | (exfalso; omega)), rfl⟩, hE2⟩
        | false =>
          replace hb3 := nbeq_f hb3
          refine r_cond_f rfl ?_
          refine r_skip ?_
          refine r_inBlock ?_
          refine r_region ?_
          refine OL.q (Q1.move rfl) rfl rfl ?_
          refine OL.q (Q1.addI (((k + 1 : Nat) : Int)) rfl rfl (by omega)) rfl rfl ?_
          refine OL.q (Q1.assign rfl) rfl rfl ?_
          refine OL.nil ?_
          exact (ih1 _ _ _ ⟨(k + 1 : Nat), rfl, rfl, hE2, (by omega), f3, f4, (by first | exact Ml.same_take hi hx1 hx2 (by assumption) | (exfalso; omega))⟩ (by omega)).sub ⟨rfl, rfl, rfl, trivial⟩
      | false =>
        replace hb2 := of_decide_eq_false hb2.symm
        refine r_cond_f rfl ?_
        refine r_exit rfl ?_
        refine r_seq ?_
        refine r_region ?_
        refine OL.q (Q1.assign rfl) rfl rfl ?_
        refine OL.nil ?_
        refine r_ret1 Try.func117 rfl rfl ?_
        exact Ret.mk ⟨⟨_, (by first | (have e := Ml.same_not hx1 hx2 (by assumption); simp [e]) | (have e := Ml.same_all hi (by omega) (by omega); simp [e]) | (have e : a ≠ b := (fun e => absurd (congrArg List.length e) (by omega)); simp [e]) | (exfalso; omega)), rfl⟩, hE1⟩
set_option maxRecDepth 20000 in
set_option maxHeartbeats 8000000 in
theorem r8add_c : ∀ (f : Nat) {R : Nat → Prop} {w0 : World} {F : Nat → Prop} {bG : Nat} {v_r : Value} {rests : List Str} {hs : List Value} {s : GS} (hA : (boxR (R := R) [rgR 142 144 bG s hs, slR encS [(v_r, rests)]]).p F w0) (hF : ∀ b, F b → b < w0.heap.size ∧ ¬ R b) (hR : ∀ b, R b → b < w0.heap.size) (hlen : hs.length = s.length) (hd : Deep f rests) (hg : GoodR rests) (hnd : (names s).Nodup) (hsz : s.length + 1 + sumLen rests ≤ 1000000) (hrl : rests.length ≤ 1000) (hok : ∀ x ∈ s, x.1.length ≤ 1000),
    Calls Try.prog 92 #[ptr bG 0, v_r] w0 (Ret fun rv w1 => rv = .int .i64 ((addM (f + 1) s rests).2 : Int) ∧ Mod F w0 w1 ∧ ∃ t, ∃ F2, (rgR 142 144 (R := R) bG (addM (f + 1) s rests).1 (hs ++ t)).p F2 w1 ∧ ∀ b, F2 b → b < w1.heap.size ∧ (F b ∨ w0.heap.size ≤ b)) := by
  intro f
  induction f using Nat.strongRecOn with
  | _ f ih0 =>
  intro R w0 F bG v_r rests hs s hA hF hR hlen hd hg hnd hsz hrl hok
  have hS00 := St.start1 hA hF hR
  have hS1 : St R F w0 w0 [rgR 142 144 bG s hs, slR encS [(v_r, rests)]] := St.open (L1 := []) hS00
  have hpos := sumLen_dropE rests
  have hdl := dropE_len rests
  obtain ⟨⟨vN1, nds1⟩, hS2⟩ := hS1.exo (i := 0) rfl
  obtain ⟨hmap1, hS3⟩ := hS2.and (i := 0) rfl
  change St R F w0 w0 [boxR [bkR bG [vN1] 142, accR encRd 144 2 vN1 nds1, rrR nds1 s], slR encS [(v_r, rests)]] at hS3
  change nds1.map (fun n : RNd => n.r.val) = hs at hmap1
  have hS4 : St R F w0 w0 [slR encS [(v_r, rests)], boxR [bkR bG [vN1] 142, accR encRd 144 2 vN1 nds1, rrR nds1 s]] := hS3.sel [1, 0] (by rfl) (by decide)
  have hS5 : St R F w0 w0 [slR encS [(v_r, rests)], boxR [bkR bG [vN1] 142, accR encRd 144 2 vN1 nds1, rrR nds1 s]] := hS4
  have hS6 : St R F w0 w0 [slR encS [(v_r, rests)], bkR bG [vN1] 142, accR encRd 144 2 vN1 nds1, rrR nds1 s] := St.open (L1 := [slR encS [(v_r, rests)]]) hS5
  have hrl1 : nds1.length = s.length := hS6.rrLen (i := 3) rfl
  have f1 := hS6.sl (i := 0) (k := 0) rfl rfl
  have hle1 := f1.le
  refine calls_enter Try.func92 rfl Try.ntmps92 rfl ?_
  refine r_seq ?_
  refine r_region ?_
  refine OL.q (Q1.assign rfl) rfl rfl ?_
  refine OL.nil ?_
  refine r_seq ?_
  refine r_seq ?_
  refine r_region ?_
  refine OL.q (Q1.assign rfl) rfl rfl ?_
  refine OL.nil ?_
  refine r_block ?_
  have hS8 : St R F w0 w0 [accR encRd 144 2 vN1 nds1, bkR bG [vN1] 142, rrR nds1 s, slR encS [(v_r, rests)]] := hS6.sel [2, 1, 3, 0] (by rfl) (by decide)
  refine r_loop (I := fun m E W => ∃ (i0 : Nat), E = [(0, ptr bG 0), (1, v_r), (5, .int .i64 (((i0 : Nat) : Int)))] ∧ m = nds1.length - i0 ∧ St R F w0 W [accR encRd 144 2 vN1 nds1, bkR bG [vN1] 142, rrR nds1 s, slR encS [(v_r, rests)]] ∧ (∀ y ∈ s.take i0, y.1 ≠ rests)) ?_ ?_
  · refine ⟨_, _, ⟨(0 : Nat), rfl, rfl, hS8, (by simp)⟩, ⟨rfl, rfl, rfl, trivial⟩⟩
  · rintro _ _ w1 ⟨i0, rfl, rfl, hS7, hno⟩ ih1
    refine r_seq ?_
    refine r_seq ?_
    refine r_region ?_
    refine OL.q (Q1.move rfl) rfl rfl ?_
    refine OL.q (Q1.move rfl) rfl rfl ?_
    refine OL.q (Q1.nilCheckP rfl) rfl rfl ?_
    refine OL.q (Q1.fieldAddr fl142_0 rfl) rfl rfl ?_
    have f2 := hS7.bk (i := 1) rfl
    refine OL.q (Q1.load1 ti140 rfl (fun _ e => e ▸ (f2.cell 0 _ rfl))) rfl rfl ?_
    obtain ⟨g1, f3, hl1, k1⟩ := hS7.accK (i := 0) rfl
    refine OL.q (Q1.lenSl Try.underlying140 (f3.sl) rfl) rfl rfl ?_
    refine OL.qb (Q1.lt rfl rfl) rfl rfl ?_
    intro b1 hb1
    refine OL.nil ?_
    cases b1 with
    | true =>
      replace hb1 := of_decide_eq_true hb1.symm
      refine r_cond_t rfl ?_
      refine r_skip ?_
      refine r_seq ?_
      refine r_block ?_
      refine r_seq ?_
      refine r_region ?_
      refine OL.q (Q1.move rfl) rfl rfl ?_
      refine OL.q (Q1.nilCheckP rfl) rfl rfl ?_
      refine OL.q (Q1.fieldAddr fl142_0 rfl) rfl rfl ?_
      refine OL.q (Q1.load1 ti140 rfl (fun _ e => e ▸ (f2.cell 0 _ rfl))) rfl rfl ?_
      refine OL.q (Q1.move rfl) rfl rfl ?_
      obtain ⟨x1, b2, o1, hx1, hr1, hl2, hw1⟩ := Sl.atF (P := Try.prog) f3.sl Try.underlying140 ti144 encRd_len (k := .i64) (n := ((i0 : Nat) : Int)) (i0) (by omega) (by first | assumption | omega)
      refine OL.q (Q1.indexAddr rfl rfl hr1) rfl rfl ?_
      refine OL.q (Q1.fieldAddr fl144_0 rfl) rfl rfl ?_
      have hr2 := hw1.sub 0 1 (Nat.le_of_ble_eq_true rfl)
      refine OL.q (Q1.load1 ti22 rfl (fun _ e => e ▸ hr2)) rfl rfl ?_
      obtain ⟨gx1, hgx1, hn1, hn2⟩ := hS7.rrAt (i := 2) rfl hx1
      refine OL.q (Q1.move rfl) rfl rfl ?_
      have f5 := hS7.sl (i := 3) (k := 0) rfl rfl
      refine OL.act rfl rfl (AW.callF cl117 rfl (r8same_c (w0 := w1) (a := gx1.1) (b := rests)  hn1 f5) ?_)
      rintro _ w2 ⟨⟨b3, hb2, rfl⟩, hm1⟩
      have hS9 := hS7.ext hm1
      refine OL.nil ?_
      cases b3 with
      | true =>
        replace hb2 := hb2.symm
        refine r_cond_t rfl ?_
        refine r_seq ?_
        refine r_region ?_
        refine OL.q (Q1.move rfl) rfl rfl ?_
        refine OL.q (Q1.assign rfl) rfl rfl ?_
        refine OL.nil ?_
        refine r_ret1 Try.func92 rfl rfl ?_
        have hfi := find_at hno hgx1 (of_decide_eq_true (by assumption))
        have hS10 : St R F w0 w2 [slR encS [(v_r, rests)], bkR bG [vN1] 142, accR encRd 144 2 vN1 nds1, rrR nds1 s] := hS9.sel [3, 1, 0, 2] (by rfl) (by decide)
        have hS11 : St R F w0 w2 [slR encS [(v_r, rests)], boxR [bkR bG [vN1] 142, accR encRd 144 2 vN1 nds1, rrR nds1 s]] := St.close (L1 := [slR encS [(v_r, rests)]]) hS10
        have hS12 : St R F w0 w2 [slR encS [(v_r, rests)], andR (nds1.map (fun n : RNd => n.r.val) = hs) (boxR [bkR bG [vN1] 142, accR encRd 144 2 vN1 nds1, rrR nds1 s])] := hS11.imp (i := 1) rfl (fun F_ h_ => ⟨hmap1, h_⟩)
        have hS13 : St R F w0 w2 [slR encS [(v_r, rests)], rgR 142 144 bG s hs] := hS12.exi (vN1, nds1) (i := 1) rfl
        have hS14 : St R F w0 w2 [rgR 142 144 bG s hs] := hS13.sel [1] (by rfl) (by decide)
        obtain ⟨hmF, F2, hA2, hF2⟩ := hS14.fin
        exact Ret.mk ⟨by rw [addM_hit hfi], hmF, [], F2, by rw [addM_hit hfi, List.append_nil]; exact hA2, hF2⟩
      | false =>
        replace hb2 := hb2.symm
        refine r_cond_f rfl ?_
        refine r_skip ?_
        refine r_inBlock ?_
        refine r_region ?_
        refine OL.q (Q1.move rfl) rfl rfl ?_
        refine OL.q (Q1.addI (((i0 + 1 : Nat) : Int)) rfl rfl (by omega)) rfl rfl ?_
        refine OL.q (Q1.assign rfl) rfl rfl ?_
        refine OL.nil ?_
        exact (ih1 _ _ _ ⟨(i0 + 1 : Nat), rfl, rfl, hS9, (by first | exact find_step hno hgx1 (of_decide_eq_false (by assumption)) | (exfalso; omega))⟩ (by omega)).sub ⟨rfl, rfl, rfl, trivial⟩
    | false =>
      replace hb1 := of_decide_eq_false hb1.symm
      refine r_cond_f rfl ?_
      refine r_exit rfl ?_
      refine r_seq ?_
      refine r_region ?_
      refine OL.q (Q1.move rfl) rfl rfl ?_
      refine OL.q (Q1.nilCheckP rfl) rfl rfl ?_
      refine OL.q (Q1.fieldAddr fl142_0 rfl) rfl rfl ?_
      refine OL.q (Q1.load1 ti140 rfl (fun _ e => e ▸ (f2.cell 0 _ rfl))) rfl rfl ?_
      refine OL.q (Q1.lenSl Try.underlying140 (f3.sl) rfl) rfl rfl ?_
      refine OL.q (Q1.assign rfl) rfl rfl ?_
      have hfi := find_no hno (by omega)
      refine OL.nil ?_
      refine r_seq ?_
      refine r_region ?_
      refine OL.q (Q1.move rfl) rfl rfl ?_
      refine OL.q (Q1.move rfl) rfl rfl ?_
      refine OL.q (Q1.nilCheckP rfl) rfl rfl ?_
      refine OL.q (Q1.fieldAddr fl142_0 rfl) rfl rfl ?_
      refine OL.q (Q1.load1 ti140 rfl (fun _ e => e ▸ (f2.cell 0 _ rfl))) rfl rfl ?_
      refine OL.q (Q1.move rfl) rfl rfl ?_
      have f4 := hS7.sl (i := 3) (k := 0) rfl rfl
      obtain ⟨ad1, cp1, hv1⟩ := f4.shape
      subst hv1
      refine OL.q (Q1.build (vs := #[(0, (.slice ad1 rests.length cp1))]) (v := .agg #[(.slice ad1 rests.length cp1), .slice none 0 0]) rfl (fun _ => by kernel_rfl)) rfl rfl ?_
      refine OL.act rfl rfl (AW.buildSlice [(.agg #[(.slice ad1 rests.length cp1), .slice none 0 0] : Value)] Try.underlying140 ti144 rfl rfl rfl (by decide) ?_)
      intro w2 b2 hm1 hb2 hz1 hk1
      have hS9 := hS7.ext hm1
      have hl2 := Sl.of_blk (enc := encRd) hk1 ([(RNd.mk (SH.mk ad1 rests.length cp1) (SH.mk none 0 0))] : List RNd) 1 rfl rfl (by unfold maxLen; omega)
      have hS10 : St R F w0 w2 [accR encRd 144 2 vN1 nds1, bkR bG [vN1] 142, rrR nds1 s, slR encS [((.slice ad1 rests.length cp1), rests)], slR encRd [((.slice (some ⟨b2, 0, none⟩) 1 1), [(RNd.mk (SH.mk ad1 rests.length cp1) (SH.mk none 0 0))])]] := hS7.newSlB hm1 hb2 hz1 hl2
      obtain ⟨g3, f5, hl3, k2⟩ := hS10.accK (i := 0) rfl
      have f6 := hS10.sl (i := 4) (k := 0) rfl rfl
      refine OL.act rfl rfl (AW.append f5 Try.underlying140 ti144 rfl encRd_len encRd_one rfl rfl (f6) (by first | omega | (simp only [List.length_append, List.length_cons, List.length_nil]; omega) | (simp; omega)) (by unfold maxLen; first | omega | (simp only [List.length_append, List.length_cons, List.length_nil]; omega) | (simp; omega)) ?_)
      intro v1 g2 w3 ha1 hm2 hg1 hz2
      have hS11 : St R F w0 w3 [accR encRd 144 2 v1 ((nds1 ++ [(RNd.mk (SH.mk ad1 rests.length cp1) (SH.mk none 0 0))])), bkR bG [vN1] 142, rrR nds1 s, slR encS [((.slice ad1 rests.length cp1), rests)], slR encRd [((.slice (some ⟨b2, 0, none⟩) 1 1), [(RNd.mk (SH.mk ad1 rests.length cp1) (SH.mk none 0 0))])]] := k2 _ _ _ _ hm2 ha1 hg1
      clear hg1
      refine OL.q (Q1.nilCheckP rfl) rfl rfl ?_
      refine OL.q (Q1.fieldAddr fl142_0 rfl) rfl rfl ?_
      obtain ⟨g4, f7, hl4, k3⟩ := hS11.accK (i := 0) rfl
      obtain ⟨ad2, cp2, hv2⟩ := f7.shape
      subst hv2
      have f8 := hS11.bk (i := 1) rfl
      refine OL.act rfl rfl (AW.store ti140 rfl rfl rfl rfl rfl f8 (Nat.le_of_ble_eq_true rfl) ?_)
      intro w4 hm3 hz3 hk2
      have hS12 : St R F w0 w4 [accR encRd 144 2 ((.slice ad2 ((nds1 ++ [(RNd.mk (SH.mk ad1 rests.length cp1) (SH.mk none 0 0))])).length cp2)) ((nds1 ++ [(RNd.mk (SH.mk ad1 rests.length cp1) (SH.mk none 0 0))])), bkR bG [(.slice ad2 ((nds1 ++ [(RNd.mk (SH.mk ad1 rests.length cp1) (SH.mk none 0 0))])).length cp2)] 142, rrR nds1 s, slR encS [((.slice ad1 rests.length cp1), rests)], slR encRd [((.slice (some ⟨b2, 0, none⟩) 1 1), [(RNd.mk (SH.mk ad1 rests.length cp1) (SH.mk none 0 0))])]] := hS11.bkK (i := 1) rfl hm3 hk2
      have hS13 : St R F w0 w4 [accR encRd 144 2 ((.slice ad2 ((nds1 ++ [(RNd.mk (SH.mk ad1 rests.length cp1) (SH.mk none 0 0))])).length cp2)) ((nds1 ++ [(RNd.mk (SH.mk ad1 rests.length cp1) (SH.mk none 0 0))])), bkR bG [(.slice ad2 ((nds1 ++ [(RNd.mk (SH.mk ad1 rests.length cp1) (SH.mk none 0 0))])).length cp2)] 142, slR encRd [((.slice (some ⟨b2, 0, none⟩) 1 1), [(RNd.mk (SH.mk ad1 rests.length cp1) (SH.mk none 0 0))])], rrR nds1 s, slR encS [((.slice ad1 rests.length cp1), rests)]] := hS12.sel [0, 1, 4, 2, 3] (by rfl) (by decide)
      have hS14 : St R F w0 w4 [accR encRd 144 2 ((.slice ad2 ((nds1 ++ [(RNd.mk (SH.mk ad1 rests.length cp1) (SH.mk none 0 0))])).length cp2)) ((nds1 ++ [(RNd.mk (SH.mk ad1 rests.length cp1) (SH.mk none 0 0))])), bkR bG [(.slice ad2 ((nds1 ++ [(RNd.mk (SH.mk ad1 rests.length cp1) (SH.mk none 0 0))])).length cp2)] 142, slR encRd [((.slice (some ⟨b2, 0, none⟩) 1 1), [(RNd.mk (SH.mk ad1 rests.length cp1) (SH.mk none 0 0))])], boxR [rrR nds1 s, slR encS [((.slice ad1 rests.length cp1), rests)]]] := St.close (L1 := [accR encRd 144 2 ((.slice ad2 ((nds1 ++ [(RNd.mk (SH.mk ad1 rests.length cp1) (SH.mk none 0 0))])).length cp2)) ((nds1 ++ [(RNd.mk (SH.mk ad1 rests.length cp1) (SH.mk none 0 0))])), bkR bG [(.slice ad2 ((nds1 ++ [(RNd.mk (SH.mk ad1 rests.length cp1) (SH.mk none 0 0))])).length cp2)] 142, slR encRd [((.slice (some ⟨b2, 0, none⟩) 1 1), [(RNd.mk (SH.mk ad1 rests.length cp1) (SH.mk none 0 0))])]]) hS13
      have hS15 : St R F w0 w4 [accR encRd 144 2 ((.slice ad2 ((nds1 ++ [(RNd.mk (SH.mk ad1 rests.length cp1) (SH.mk none 0 0))])).length cp2)) ((nds1 ++ [(RNd.mk (SH.mk ad1 rests.length cp1) (SH.mk none 0 0))])), bkR bG [(.slice ad2 ((nds1 ++ [(RNd.mk (SH.mk ad1 rests.length cp1) (SH.mk none 0 0))])).length cp2)] 142, slR encRd [((.slice (some ⟨b2, 0, none⟩) 1 1), [(RNd.mk (SH.mk ad1 rests.length cp1) (SH.mk none 0 0))])], rrR (nds1 ++ [(RNd.mk (SH.mk ad1 rests.length cp1) (SH.mk none 0 0))]) (s ++ [(rests, [])])] := hS14.imp (i := 3) rfl (fun F_ h_ => rr_push rfl rfl h_)
      have hmap2 : (nds1 ++ [(RNd.mk (SH.mk ad1 rests.length cp1) (SH.mk none 0 0))]).map (fun n : RNd => n.r.val) = hs ++ [(.slice ad1 rests.length cp1)] := by rw [List.map_append, hmap1]; rfl
      have hS16 : St R F w0 w4 [slR encRd [((.slice (some ⟨b2, 0, none⟩) 1 1), [(RNd.mk (SH.mk ad1 rests.length cp1) (SH.mk none 0 0))])], bkR bG [(.slice ad2 ((nds1 ++ [(RNd.mk (SH.mk ad1 rests.length cp1) (SH.mk none 0 0))])).length cp2)] 142, accR encRd 144 2 ((.slice ad2 ((nds1 ++ [(RNd.mk (SH.mk ad1 rests.length cp1) (SH.mk none 0 0))])).length cp2)) ((nds1 ++ [(RNd.mk (SH.mk ad1 rests.length cp1) (SH.mk none 0 0))])), rrR (nds1 ++ [(RNd.mk (SH.mk ad1 rests.length cp1) (SH.mk none 0 0))]) (s ++ [(rests, [])])] := hS15.sel [2, 1, 0, 3] (by rfl) (by decide)
      have hS17 : St R F w0 w4 [slR encRd [((.slice (some ⟨b2, 0, none⟩) 1 1), [(RNd.mk (SH.mk ad1 rests.length cp1) (SH.mk none 0 0))])], boxR [bkR bG [(.slice ad2 ((nds1 ++ [(RNd.mk (SH.mk ad1 rests.length cp1) (SH.mk none 0 0))])).length cp2)] 142, accR encRd 144 2 ((.slice ad2 ((nds1 ++ [(RNd.mk (SH.mk ad1 rests.length cp1) (SH.mk none 0 0))])).length cp2)) ((nds1 ++ [(RNd.mk (SH.mk ad1 rests.length cp1) (SH.mk none 0 0))])), rrR (nds1 ++ [(RNd.mk (SH.mk ad1 rests.length cp1) (SH.mk none 0 0))]) (s ++ [(rests, [])])]] := St.close (L1 := [slR encRd [((.slice (some ⟨b2, 0, none⟩) 1 1), [(RNd.mk (SH.mk ad1 rests.length cp1) (SH.mk none 0 0))])]]) hS16
      have hS18 : St R F w0 w4 [slR encRd [((.slice (some ⟨b2, 0, none⟩) 1 1), [(RNd.mk (SH.mk ad1 rests.length cp1) (SH.mk none 0 0))])], andR (((nds1 ++ [(RNd.mk (SH.mk ad1 rests.length cp1) (SH.mk none 0 0))])).map (fun n : RNd => n.r.val) = (hs ++ (.slice ad1 rests.length cp1) :: [])) (boxR [bkR bG [(.slice ad2 ((nds1 ++ [(RNd.mk (SH.mk ad1 rests.length cp1) (SH.mk none 0 0))])).length cp2)] 142, accR encRd 144 2 ((.slice ad2 ((nds1 ++ [(RNd.mk (SH.mk ad1 rests.length cp1) (SH.mk none 0 0))])).length cp2)) ((nds1 ++ [(RNd.mk (SH.mk ad1 rests.length cp1) (SH.mk none 0 0))])), rrR (nds1 ++ [(RNd.mk (SH.mk ad1 rests.length cp1) (SH.mk none 0 0))]) (s ++ [(rests, [])])])] := hS17.imp (i := 1) rfl (fun F_ h_ => ⟨hmap2, h_⟩)
      have hS19 : St R F w0 w4 [slR encRd [((.slice (some ⟨b2, 0, none⟩) 1 1), [(RNd.mk (SH.mk ad1 rests.length cp1) (SH.mk none 0 0))])], rgR 142 144 bG ((s ++ (rests, []) :: [])) ((hs ++ (.slice ad1 rests.length cp1) :: []))] := hS18.exi ((.slice ad2 ((nds1 ++ [(RNd.mk (SH.mk ad1 rests.length cp1) (SH.mk none 0 0))])).length cp2), (nds1 ++ [(RNd.mk (SH.mk ad1 rests.length cp1) (SH.mk none 0 0))])) (i := 1) rfl
      refine OL.nil ?_
      refine r_seq ?_
      refine r_region ?_
      refine OL.q (Q1.assign rfl) rfl rfl ?_
      refine OL.nil ?_
      refine r_seq ?_
      refine r_seq ?_
      refine r_region ?_
      refine OL.q (Q1.assign rfl) rfl rfl ?_
      refine OL.nil ?_
      refine r_block ?_
      have hS21 : St R F w0 w4 [slR encRd [((.slice (some ⟨b2, 0, none⟩) 1 1), [(RNd.mk (SH.mk ad1 rests.length cp1) (SH.mk none 0 0))])], rgR 142 144 bG ((s ++ (rests, []) :: [])) ((hs ++ (.slice ad1 rests.length cp1) :: [])), accR encE 94 2 (.slice none 0 0) []] := hS19.newAcc (Mod.refl _ _) Acc.nil (.inl rfl)
      have hS22 : St R F w0 w4 [rgR 142 144 bG ((s ++ (rests, []) :: [])) ((hs ++ (.slice ad1 rests.length cp1) :: [])), accR encE 94 2 (.slice none 0 0) []] := hS21.sel [1, 2] (by rfl) (by decide)
      refine r_loop (I := fun m E W => ∃ (v_ES : Value) (ES : List Ed) (k : Nat) (xs : GS) (ths : List Value), E = [(0, ptr bG 0), (1, (.slice ad1 rests.length cp1)), (6, .int .i64 (((nds1.length : Nat) : Int))), (7, v_ES), (8, .int .i64 (((k : Nat) : Int)))] ∧ m = rests.length - k ∧ St R F w0 W [rgR 142 144 bG (s ++ (rests, []) :: xs) (hs ++ (.slice ad1 rests.length cp1) :: ths), accR encE 94 2 v_ES ES] ∧ (EInv f (s ++ [(rests, [])]) (groups (dropE rests)) (s ++ (rests, []) :: xs) ES (remR rests k)) ∧ ((names (s ++ (rests, []) :: xs)).Nodup) ∧ (s.length + 1 + xs.length + sumLen (remR rests k) ≤ 1000000) ∧ (ths.length = xs.length) ∧ (ES.length ≤ k) ∧ (k ≤ rests.length) ∧ (∀ x ∈ (s ++ (rests, []) :: xs), x.1.length ≤ 1000)) ?_ ?_
      · refine ⟨_, _, ⟨(.slice none 0 0 : Value), ([] : List Ed), (0 : Nat), ([] : GS), ([] : List Value), rfl, rfl, hS22, (by exact EInv.start f _ _), (by exact names_put' hfi hnd), (by (rw [rem_zero]; simp only [List.length_nil]; omega)), (by rfl), (by exact Nat.zero_le _), (by exact Nat.zero_le _), (by (intro x hx; rcases List.mem_append.1 hx with h | h; exact hok x h; simp only [List.mem_cons, List.not_mem_nil, or_false] at h; subst h; exact hrl))⟩, ⟨rfl, rfl, rfl, rfl, rfl, trivial⟩⟩
      · rintro _ _ w5 ⟨v_ES, ES, k, xs, ths, rfl, rfl, hS20, hEI, hnd1, hs1, hth, hel, hkl, hok1⟩ ih2
        refine r_seq ?_
        refine r_seq ?_
        refine r_region ?_
        refine OL.q (Q1.move rfl) rfl rfl ?_
        refine OL.q (Q1.move rfl) rfl rfl ?_
        have f9 := (show Sl encS w5 (Iv 0 w5.heap.size) (.slice ad1 rests.length cp1) rests from hS20.rgAt (i := 0) rfl (at_mid hlen.symm) (at_mid rfl))
        refine OL.q (Q1.lenSl Try.underlying22 (f9) rfl) rfl rfl ?_
        refine OL.qb (Q1.lt rfl rfl) rfl rfl ?_
        intro b3 hb3
        refine OL.nil ?_
        cases b3 with
        | true =>
          replace hb3 := of_decide_eq_true hb3.symm
          refine r_cond_t rfl ?_
          refine r_skip ?_
          refine r_block ?_
          refine r_seq ?_
          refine r_seq ?_
          refine r_region ?_
          refine OL.q (Q1.move rfl) rfl rfl ?_
          refine OL.q (Q1.move rfl) rfl rfl ?_
          obtain ⟨x1, b4, o1, hx1, hr1, hl5, hw1⟩ := Sl.atF (P := Try.prog) f9 Try.underlying22 ti9 encS_len (k := .i64) (n := ((k : Nat) : Int)) (k) (by omega) (by first | assumption | omega)
          refine OL.q (Q1.indexAddr rfl rfl hr1) rfl rfl ?_
          refine OL.q (Q1.load1 ti9 rfl (fun _ e => e ▸ hw1)) rfl rfl ?_
          refine OL.qb (Q1.eqS rfl rfl) rfl rfl ?_
          intro b5 hb4
          refine OL.nil ?_
          cases b5 with
          | true =>
            replace hb4 := eq_of_beq hb4.symm
            refine r_cond_t rfl ?_
            refine r_seq ?_
            refine r_region ?_
            refine OL.q (Q1.move rfl) rfl rfl ?_
            have hsk := rem_skip hg hx1 (by assumption)
            refine OL.q (Q1.addI (((k + 1 : Nat) : Int)) rfl rfl (by omega)) rfl rfl ?_
            refine OL.q (Q1.assign rfl) rfl rfl ?_
            refine OL.nil ?_
            refine r_exit rfl ?_
            exact (ih2 _ _ _ ⟨(v_ES : Value), (ES : List Ed), (k + 1 : Nat), (xs : GS), (ths : List Value), rfl, rfl, hS20, (by first | exact EInv.cast hEInx (by simp) (by rw [rem_pos (by omega), ← hst2, List.drop_drop]; congr 1; omega) | exact EInv.cast hEI rfl hsk.1 | (exfalso; omega)), (by first | exact hnd1 | (rw [show s ++ (rests, []) :: (xs ++ xs2) = (s ++ (rests, []) :: xs) ++ xs2 by simp]; exact hnm) | (exfalso; omega)), (by first | (rw [← hsk.1]; exact hs1) | (rw [rem_pos (by omega), show rests.drop k1 = moreP (pfx x1) (rests.drop k) from by rw [← hst2, List.drop_drop]; congr 1; omega]; simp only [List.length_append]; omega) | (exfalso; omega)), (by first | exact hth | (simp only [List.length_append]; omega) | (exfalso; omega)), (by first | omega | (simp only [List.length_append, List.length_cons, List.length_nil]; omega) | (exfalso; omega)), (by first | omega | (exfalso; omega)), (by first | exact hok1 | (rw [show s ++ (rests, []) :: (xs ++ xs2) = (s ++ (rests, []) :: xs) ++ xs2 by simp]; exact hak) | (exfalso; omega))⟩ (by omega)).sub ⟨rfl, rfl, rfl, rfl, rfl, trivial⟩
          | false =>
            replace hb4 := ne_of_beq_false hb4.symm
            refine r_cond_f rfl ?_
            refine r_skip ?_
            refine r_seq ?_
            refine r_region ?_
            refine OL.q (Q1.move rfl) rfl rfl ?_
            have hxm := List.mem_of_getElem? hx1
            have hxf := hg.fine x1 hxm
            have hxn : x1 ≠ [] := by assumption
            have hfh := fine_head hxf hxn
            obtain ⟨f2, rfl⟩ := deep_succ hd hxm hxn
            have hwd := wdN_le x1 hxn
            have hxl := sum_mem hxm
            have hdn := hdN_le x1
            have hwl := pfx_len hxn
            refine OL.q (Q1.move rfl) rfl rfl ?_
            obtain ⟨x2, b6, o2, hx2, hr2, hl6, hw2⟩ := Sl.atF (P := Try.prog) f9 Try.underlying22 ti9 encS_len (k := .i64) (n := ((k : Nat) : Int)) (k) (by omega) (by first | assumption | omega)
            obtain rfl : x1 = x2 := Option.some.inj (hx1.symm.trans hx2)
            refine OL.q (Q1.indexAddr rfl rfl hr2) rfl rfl ?_
            refine OL.q (Q1.load1 ti9 rfl (fun _ e => e ▸ hw2)) rfl rfl ?_
            refine OL.act rfl rfl (AW.callF cl118 rfl (rrunes_c (w0 := w5)  x1 (by first | assumption | omega)) ?_)
            rintro _ w6 ⟨v2, _, rfl, h1, ⟨b7, hb5, rfl⟩, hm4⟩
            have hS23 := hS20.ext hm4
            have hS24 : St R F w0 w6 [rgR 142 144 bG (s ++ (rests, []) :: xs) (hs ++ (.slice ad1 rests.length cp1) :: ths), accR encE 94 2 v_ES ES, slR encRn [(v2, (Ml.runesM x1))]] := hS20.newSl hm4 h1
            have hle_1 := h1.le
            refine OL.q (Q1.move rfl) rfl rfl ?_
            refine OL.q (Q1.extract rfl rfl) rfl rfl ?_
            refine OL.q (Q1.extract rfl rfl) rfl rfl ?_
            refine OL.q (Q1.assign rfl) rfl rfl ?_
            refine OL.q (Q1.assign rfl) rfl rfl ?_
            refine OL.nil ?_
            refine r_seq ?_
            refine r_region ?_
            refine OL.q (Q1.move rfl) rfl rfl ?_
            refine OL.q (Q1.move rfl) rfl rfl ?_
            have f10 := (show Sl encS w6 (Iv 0 w6.heap.size) (.slice ad1 rests.length cp1) rests from hS24.rgAt (i := 0) rfl (at_mid hlen.symm) (at_mid rfl))
            obtain ⟨x3, b8, o3, hx3, hr3, hl7, hw3⟩ := Sl.atF (P := Try.prog) f10 Try.underlying22 ti9 encS_len (k := .i64) (n := ((k : Nat) : Int)) (k) (by omega) (by first | assumption | omega)
            obtain rfl : x1 = x3 := Option.some.inj (hx1.symm.trans hx3)
            refine OL.q (Q1.indexAddr rfl rfl hr3) rfl rfl ?_
            refine OL.q (Q1.load1 ti9 rfl (fun _ e => e ▸ hw3)) rfl rfl ?_
            refine OL.act rfl rfl (AW.callF cl119 rfl (rpfx_c (w0 := w6)  x1 (1) (by first | omega | assumption) (by first | assumption | omega) (by first | rfl | omega) (by first | exact hxf | exact hg.fine _ (List.mem_of_getElem? (by assumption))) (by first | exact hxn | exact pos_ne hg.sorted (by assumption) (by omega) | exact hxk)) ?_)
            rintro _ w7 ⟨rfl, hm5⟩
            have hS25 := hS24.ext hm5
            refine OL.q (Q1.assign rfl) rfl rfl ?_
            refine OL.nil ?_
            refine r_seq ?_
            refine r_region ?_
            refine OL.q (Q1.assign rfl) rfl rfl ?_
            refine OL.nil ?_
            refine r_seq ?_
            refine r_block ?_
            have hS27 : St R F w0 w7 [rgR 142 144 bG (s ++ (rests, []) :: xs) (hs ++ (.slice ad1 rests.length cp1) :: ths), accR encE 94 2 v_ES ES, slR encRn [(v2, (Ml.runesM x1))], accR encS 9 1 (.slice none 0 0) []] := hS25.newAcc (Mod.refl _ _) Acc.nil (.inl rfl)
            refine r_loop (I := fun m E W => ∃ (k1 : Nat) (v_b2 : Value) (b2 : List Str), E = [(0, ptr bG 0), (1, (.slice ad1 rests.length cp1)), (6, .int .i64 (((nds1.length : Nat) : Int))), (7, v_ES), (8, .int .i64 (((k1 : Nat) : Int))), (9, v2), (11, strV ((Ml.pfx x1))), (12, v_b2)] ∧ m = rests.length - k1 ∧ St R F w0 W [rgR 142 144 bG (s ++ (rests, []) :: xs) (hs ++ (.slice ad1 rests.length cp1) :: ths), accR encE 94 2 v_ES ES, slR encRn [(v2, (Ml.runesM x1))], accR encS 9 1 v_b2 b2] ∧ (SpanInv (pfx x1) (rests.drop k) (k1 - k) b2) ∧ (k ≤ k1 ∧ k1 ≤ rests.length) ∧ (b2.length = k1 - k)) ?_ ?_
            · refine ⟨_, _, ⟨(k : Nat), (.slice none 0 0 : Value), ([] : List Str), rfl, rfl, hS27, (by (rw [Nat.sub_self]; exact SpanInv.start _ _)), (by omega), (by simp)⟩, ⟨rfl, rfl, rfl, rfl, rfl, rfl, rfl, rfl, trivial⟩⟩
            · rintro _ _ w8 ⟨k1, v_b2, b2, rfl, rfl, hS26, hsp, hkk, hbl⟩ ih3
              refine r_seq ?_
              refine r_seq ?_
              refine r_region ?_
              refine OL.q (Q1.move rfl) rfl rfl ?_
              refine OL.q (Q1.move rfl) rfl rfl ?_
              have f11 := (show Sl encS w8 (Iv 0 w8.heap.size) (.slice ad1 rests.length cp1) rests from hS26.rgAt (i := 0) rfl (at_mid hlen.symm) (at_mid rfl))
              refine OL.q (Q1.lenSl Try.underlying22 (f11) rfl) rfl rfl ?_
              refine OL.qb (Q1.lt rfl rfl) rfl rfl ?_
              intro b9 hb6
              refine OL.q (Q1.move rfl) rfl rfl ?_
              cases b9 with
              | true =>
                replace hb6 := of_decide_eq_true hb6.symm
                refine OL.q (Q1.move rfl) rfl rfl ?_
                refine OL.q (Q1.move rfl) rfl rfl ?_
                obtain ⟨x4, b10, o4, hx4, hr4, hl8, hw4⟩ := Sl.atF (P := Try.prog) f11 Try.underlying22 ti9 encS_len (k := .i64) (n := ((k1 : Nat) : Int)) (k1) (by omega) (by first | assumption | omega)
                refine OL.q (Q1.indexAddr rfl rfl hr4) rfl rfl ?_
                refine OL.q (Q1.load1 ti9 rfl (fun _ e => e ▸ hw4)) rfl rfl ?_
                have hxk : x4 ≠ [] := ne_at hg.sorted hx1 hxn (by omega) hx4
                have hx2l := sum_mem (List.mem_of_getElem? hx4)
                refine OL.act rfl rfl (AW.callF cl119 rfl (rpfx_c (w0 := w8)  x4 (1) (by first | omega | assumption) (by first | assumption | omega) (by first | rfl | omega) (by first | exact hxf | exact hg.fine _ (List.mem_of_getElem? (by assumption))) (by first | exact hxn | exact pos_ne hg.sorted (by assumption) (by omega) | exact hxk)) ?_)
                rintro _ w9 ⟨rfl, hm6⟩
                have hS28 := hS26.ext hm6
                refine OL.q (Q1.move rfl) rfl rfl ?_
                refine OL.qb (Q1.eqS rfl rfl) rfl rfl ?_
                intro b11 hb7
                refine OL.q (Q1.pick_t rfl rfl) rfl rfl ?_
                refine OL.nil ?_
                cases b11 with
                | true =>
                  replace hb7 := eq_of_beq hb7.symm
                  refine r_cond_t rfl ?_
                  refine r_skip ?_
                  refine r_block ?_
                  refine r_seq ?_
                  refine r_region ?_
                  refine OL.q (Q1.move rfl) rfl rfl ?_
                  have hpf : (pfx x1).isPrefixOf x4 = true := (by rw [← pfx_eq hxf hxn (hg.fine _ (List.mem_of_getElem? hx4)) hxk]; exact beq_iff_eq.2 (by assumption))
                  have hpl := hp_le hpf rfl
                  refine OL.q (Q1.move rfl) rfl rfl ?_
                  refine OL.q (Q1.move rfl) rfl rfl ?_
                  have f12 := (show Sl encS w9 (Iv 0 w9.heap.size) (.slice ad1 rests.length cp1) rests from hS28.rgAt (i := 0) rfl (at_mid hlen.symm) (at_mid rfl))
                  obtain ⟨x5, b12, o5, hx5, hr5, hl9, hw5⟩ := Sl.atF (P := Try.prog) f12 Try.underlying22 ti9 encS_len (k := .i64) (n := ((k1 : Nat) : Int)) (k1) (by omega) (by first | assumption | omega)
                  obtain rfl : x4 = x5 := Option.some.inj (hx4.symm.trans hx5)
                  refine OL.q (Q1.indexAddr rfl rfl hr5) rfl rfl ?_
                  refine OL.q (Q1.load1 ti9 rfl (fun _ e => e ▸ hw5)) rfl rfl ?_
                  refine OL.q (Q1.move rfl) rfl rfl ?_
                  refine OL.q (Q1.lenS Try.underlying9 rfl) rfl rfl ?_
                  refine OL.q (Q1.sliceS_lo (((Ml.pfx x1)).length) Try.underlying9 rfl rfl (by omega) (by first | assumption | omega)) rfl rfl ?_
                  refine OL.act rfl rfl (AW.buildSlice [strV ((x4.drop (((Ml.pfx x1)).length)))] Try.underlying22 ti9 rfl rfl rfl (by decide) ?_)
                  intro w10 b13 hm7 hb8 hz4 hk3
                  have hS29 := hS28.ext hm7
                  have hl10 := Sl.of_blk (enc := encS) hk3 ([(x4.drop (((Ml.pfx x1)).length))] : List Str) 1 rfl rfl (by unfold maxLen; omega)
                  have hS30 : St R F w0 w10 [rgR 142 144 bG (s ++ (rests, []) :: xs) (hs ++ (.slice ad1 rests.length cp1) :: ths), accR encE 94 2 v_ES ES, slR encRn [(v2, (Ml.runesM x1))], accR encS 9 1 v_b2 b2, slR encS [((.slice (some ⟨b13, 0, none⟩) 1 1), [(x4.drop (((Ml.pfx x1)).length))])]] := hS28.newSlB hm7 hb8 hz4 hl10
                  obtain ⟨g6, f13, hl11, k4⟩ := hS30.accK (i := 3) rfl
                  have f14 := hS30.sl (i := 4) (k := 0) rfl rfl
                  refine OL.act rfl rfl (AW.append f13 Try.underlying22 ti9 rfl encS_len encS_one rfl rfl (f14) (by first | omega | (simp only [List.length_append, List.length_cons, List.length_nil]; omega) | (simp; omega)) (by unfold maxLen; first | omega | (simp only [List.length_append, List.length_cons, List.length_nil]; omega) | (simp; omega)) ?_)
                  intro v3 g5 w11 ha2 hm8 hg2 hz5
                  have hS31 : St R F w0 w11 [rgR 142 144 bG (s ++ (rests, []) :: xs) (hs ++ (.slice ad1 rests.length cp1) :: ths), accR encE 94 2 v_ES ES, slR encRn [(v2, (Ml.runesM x1))], accR encS 9 1 v3 ((b2 ++ [(x4.drop (((Ml.pfx x1)).length))])), slR encS [((.slice (some ⟨b13, 0, none⟩) 1 1), [(x4.drop (((Ml.pfx x1)).length))])]] := k4 _ _ _ _ hm8 ha2 hg2
                  clear hg2
                  refine OL.q (Q1.assign rfl) rfl rfl ?_
                  refine OL.nil ?_
                  refine r_region ?_
                  refine OL.q (Q1.move rfl) rfl rfl ?_
                  refine OL.q (Q1.addI (((k1 + 1 : Nat) : Int)) rfl rfl (by omega)) rfl rfl ?_
                  refine OL.q (Q1.assign rfl) rfl rfl ?_
                  refine OL.nil ?_
                  refine r_inBlock ?_
                  have hS32 : St R F w0 w11 [rgR 142 144 bG (s ++ (rests, []) :: xs) (hs ++ (.slice ad1 rests.length cp1) :: ths), accR encE 94 2 v_ES ES, slR encRn [(v2, (Ml.runesM x1))], accR encS 9 1 v3 ((b2 ++ [(x4.drop (((Ml.pfx x1)).length))]))] := hS31.sel [0, 1, 2, 3] (by rfl) (by decide)
                  exact (ih3 _ _ _ ⟨(k1 + 1 : Nat), (v3 : Value), ((b2 ++ [(x4.drop (((Ml.pfx x1)).length))]) : List Str), rfl, rfl, hS32, (by first | (rw [show k1 + 1 - k = (k1 - k) + 1 from by omega]; exact hsp.nxt rfl (by rw [List.getElem?_drop, show k + (k1 - k) = k1 from by omega]; exact hx4) hpf) | (exfalso; omega)), (by first | omega | (exfalso; omega)), (by first | (simp only [List.length_append, List.length_cons, List.length_nil]; omega) | (exfalso; omega))⟩ (by omega)).sub ⟨rfl, rfl, rfl, rfl, rfl, rfl, rfl, rfl, trivial⟩
                | false =>
                  replace hb7 := ne_of_beq_false hb7.symm
                  refine r_cond_f rfl ?_
                  refine r_exit rfl ?_
                  have f12 := hS28.sl (i := 2) (k := 0) rfl rfl
                  obtain ⟨xl, bl, ol, hxl, hrun1, _, hwl1⟩ := Sl.atF (P := Try.prog) f12 Try.underlying159 ti21 encRn_len (k := .i64) (n := 0) 0 rfl (by omega)
                  obtain rfl : xl = ((hdN x1 : Nat) : Int) := Option.some.inj (hxl.symm.trans hfh.2.2.1)
                  refine r_draw1 (fun i => Nat.beq i 6 || Nat.beq i 8 || Nat.beq i 9) 11 (fun w' => Row w' bl ol (encRn ((hdN x1 : Nat) : Int))) mixed (by kernel_rfl) ?_
                  intro w10 hm7
                  have hS29 := hS28.ext hm7
                  have f13 := hS29.sl (i := 2) (k := 0) rfl rfl
                  refine ⟨(Sl.rowAt f13 Try.underlying159 ti21 encRn_len 0 rfl hxl hrun1), ?_⟩
                  rw [show List.range' 0 (Array.size _) = [0, 1, 2, 3, 4, 5, 6, 7, 8, 9, 10] from rfl]
                  have hspe : (rests.drop k).length ≤ k1 - k ∨ ∃ t, (rests.drop k)[k1 - k]? = some t ∧ (pfx x1).isPrefixOf t = false := by first | exact .inl (by rw [List.length_drop]; omega) | exact .inr ⟨x4, by rw [List.getElem?_drop, show k + (k1 - k) = k1 from by omega]; exact hx4, (by rw [← pfx_eq hxf hxn (hg.fine _ (List.mem_of_getElem? hx4)) hxk]; exact beq_eq_false_iff_ne.2 (by assumption))⟩
                  refine OD.q rfl rfl (Q1.move rfl) rfl rfl ?_
                  refine OD.q rfl rfl (Q1.move rfl) rfl rfl ?_
                  refine OD.q rfl rfl (Q1.indexAddr rfl rfl hrun1) rfl rfl ?_
                  refine OD.q rfl rfl (Q1.load1 ti21 rfl (fun _ hc => hc)) rfl rfl ?_
                  refine OD.q rfl rfl (Q1.move rfl) rfl rfl ?_
                  refine OD.q rfl rfl (Q1.move rfl) rfl rfl ?_
                  obtain ⟨hst, hst2⟩ := hsp.fin hspe
                  have hrem := rem_good hg hd k
                  rw [rem_grp hx1 hxn] at hrem
                  have hx0 : (rests.drop k)[0]? = some x1 := by rw [List.getElem?_drop]; exact hx1
                  have hsf := strip_facts hx0 hrem
                  subst hst
                  rw [rem_grp hx1 hxn] at hEI
                  have hEInx := hEI.next2 hx0
                  have hsm := rem_sum rests k
                  rw [rem_grp hx1 hxn] at hsm hs1
                  have hdk : (rests.drop k).length ≤ rests.length := by rw [List.length_drop]; omega
                  have hS30 : St R F w0 w10 [rgR 142 144 bG (s ++ (rests, []) :: xs) (hs ++ (.slice ad1 rests.length cp1) :: ths), accR encE 94 2 v_ES ES, slR encRn [(v2, (Ml.runesM x1))], slR encS [(v_b2, (stripP (pfx x1) (rests.drop k)))]] := hS29.freeze (i := 3) rfl
                  have hnm := addM_nodup hsf.2.2.1 hsf.1 hsf.2.1 hnd1
                  have hS31 : St R F w0 w10 [accR encE 94 2 v_ES ES, slR encRn [(v2, (Ml.runesM x1))], rgR 142 144 bG (s ++ (rests, []) :: xs) (hs ++ (.slice ad1 rests.length cp1) :: ths), slR encS [(v_b2, (stripP (pfx x1) (rests.drop k)))]] := hS30.sel [1, 2, 0, 3] (by rfl) (by decide)
                  have hS32 : St R F w0 w10 [accR encE 94 2 v_ES ES, slR encRn [(v2, (Ml.runesM x1))], boxR [rgR 142 144 bG (s ++ (rests, []) :: xs) (hs ++ (.slice ad1 rests.length cp1) :: ths), slR encS [(v_b2, (stripP (pfx x1) (rests.drop k)))]]] := St.close (L1 := [accR encE 94 2 v_ES ES, slR encRn [(v2, (Ml.runesM x1))]]) hS31
                  obtain ⟨Fb, hAb, hFb, hkb⟩ := hS32.act (i := 2) rfl
                  refine OD.act rfl rfl rfl rfl (AW.callF cl92 rfl (ih0 f2 (by omega) hAb (fun b hb => ⟨(hFb b hb).2, (hFb b hb).1.2⟩) hS32.rlt (by simp only [List.length_append, List.length_cons]; omega) hsf.2.2.1 hsf.1 hnd1 (by simp only [List.length_append, List.length_cons]; omega) (by omega) hok1) ?_)
                  rintro _ w11 ⟨rfl, hm8, t2, F2b, hB2, hF2b⟩
                  obtain ⟨xs2, hqe, _⟩ := (addM_ok f2 (s ++ (rests, []) :: xs) (stripP (pfx x1) (rests.drop k)) hsf.2.2.1 hsf.1 hsf.2.1 hnd1).tail
                  rw [hqe] at hB2 hEInx hnm
                  have ht2 := rg_len hB2
                  simp only [List.length_append, List.length_cons] at ht2
                  have hS33 : St R F w0 w11 [accR encE 94 2 v_ES ES, slR encRn [(v2, (Ml.runesM x1))], rgR 142 144 bG ((s ++ (rests, []) :: xs) ++ xs2) ((hs ++ (.slice ad1 rests.length cp1) :: ths) ++ t2)] := hkb _ _ _ hm8 hB2 hF2b
                  clear hAb hFb hkb hB2 hF2b
                  have hS34 : St R F w0 w11 [accR encE 94 2 v_ES ES, slR encRn [(v2, (Ml.runesM x1))], rgR 142 144 bG (s ++ (rests, []) :: (xs ++ xs2)) (hs ++ (.slice ad1 rests.length cp1) :: (ths ++ t2))] := hS33.imp (i := 2) rfl (fun F_ h_ => by simpa only [List.append_assoc, List.cons_append] using h_)
                  have hal := addM_len (f2 + 1) (s ++ (rests, []) :: xs) (stripP (pfx x1) (rests.drop k)) hsf.1
                  have hak := addM_short (L := 1000) (f2 + 1) (s ++ (rests, []) :: xs) (stripP (pfx x1) (rests.drop k)) hok1 (by omega)
                  rw [hqe] at hal hak
                  simp only [List.length_append, List.length_cons] at hal
                  have hidx : (addM (f2 + 1) (s ++ (rests, []) :: xs) (stripP (pfx x1) (rests.drop k))).2 < ((s ++ (rests, []) :: xs) ++ xs2).length := by rw [← hqe]; exact addM_lt hsf.2.2.1 hsf.1 hsf.2.1 hnd1
                  simp only [List.length_append, List.length_cons] at hidx
                  have f14 := hS34.sl (i := 1) (k := 0) rfl rfl
                  refine ⟨.inr (Sl.rowAt f14 Try.underlying159 ti21 encRn_len 0 rfl hxl hrun1), ?_⟩
                  refine OD.q rfl rfl (Q1.build (vs := #[(0, (.int .i32 (((hdN x1 : Nat) : Int)) : Value)), (1, (.int .i64 ((((addM (f2 + 1) (s ++ (rests, []) :: xs) (stripP (pfx x1) (rests.drop k))).2 : Nat) : Int)) : Value))]) (v := .agg #[.int .i32 (((hdN x1 : Nat) : Int)), .int .i64 ((((addM (f2 + 1) (s ++ (rests, []) :: xs) (stripP (pfx x1) (rests.drop k))).2 : Nat) : Int))]) rfl (fun _ => by kernel_rfl)) rfl rfl ?_
                  refine OD.act rfl rfl rfl rfl (AW.buildSlice [(.agg #[.int .i32 (((hdN x1 : Nat) : Int)), .int .i64 ((((addM (f2 + 1) (s ++ (rests, []) :: xs) (stripP (pfx x1) (rests.drop k))).2 : Nat) : Int))] : Value)] Try.underlying49 ti94 rfl rfl rfl (by decide) ?_)
                  intro w12 b12 hm9 hb8 hz4 hk3
                  have hS35 := hS34.ext hm9
                  have hl9 := Sl.of_blk (enc := encE) hk3 ([(Ed.mk (((hdN x1 : Nat) : Int)) ((((addM (f2 + 1) (s ++ (rests, []) :: xs) (stripP (pfx x1) (rests.drop k))).2 : Nat) : Int)))] : List Ed) 1 rfl rfl (by unfold maxLen; omega)
                  have hS36 : St R F w0 w12 [accR encE 94 2 v_ES ES, slR encRn [(v2, (Ml.runesM x1))], rgR 142 144 bG (s ++ (rests, []) :: (xs ++ xs2)) (hs ++ (.slice ad1 rests.length cp1) :: (ths ++ t2)), slR encE [((.slice (some ⟨b12, 0, none⟩) 1 1), [(Ed.mk (((hdN x1 : Nat) : Int)) ((((addM (f2 + 1) (s ++ (rests, []) :: xs) (stripP (pfx x1) (rests.drop k))).2 : Nat) : Int)))])]] := hS34.newSlB hm9 hb8 hz4 hl9
                  have f15 := hS36.sl (i := 1) (k := 0) rfl rfl
                  refine ⟨.inr (Sl.rowAt f15 Try.underlying159 ti21 encRn_len 0 rfl hxl hrun1), ?_⟩
                  obtain ⟨g6, f16, hl10, k4⟩ := hS36.accK (i := 0) rfl
                  have f17 := hS36.sl (i := 3) (k := 0) rfl rfl
                  refine OD.act rfl rfl rfl rfl (AW.append f16 Try.underlying49 ti94 rfl encE_len encE_one rfl rfl (f17) (by first | omega | (simp only [List.length_append, List.length_cons, List.length_nil]; omega) | (simp; omega)) (by unfold maxLen; first | omega | (simp only [List.length_append, List.length_cons, List.length_nil]; omega) | (simp; omega)) ?_)
                  intro v3 g5 w13 ha2 hm10 hg2 hz5
                  have hS37 : St R F w0 w13 [accR encE 94 2 v3 ((ES ++ [(Ed.mk (((hdN x1 : Nat) : Int)) ((((addM (f2 + 1) (s ++ (rests, []) :: xs) (stripP (pfx x1) (rests.drop k))).2 : Nat) : Int)))])), slR encRn [(v2, (Ml.runesM x1))], rgR 142 144 bG (s ++ (rests, []) :: (xs ++ xs2)) (hs ++ (.slice ad1 rests.length cp1) :: (ths ++ t2)), slR encE [((.slice (some ⟨b12, 0, none⟩) 1 1), [(Ed.mk (((hdN x1 : Nat) : Int)) ((((addM (f2 + 1) (s ++ (rests, []) :: xs) (stripP (pfx x1) (rests.drop k))).2 : Nat) : Int)))])]] := k4 _ _ _ _ hm10 ha2 hg2
                  have f18 := hS37.sl (i := 1) (k := 0) rfl rfl
                  refine ⟨.inr (Sl.rowAt f18 Try.underlying159 ti21 encRn_len 0 rfl hxl hrun1), ?_⟩
                  clear hg2
                  refine OD.q rfl rfl (Q1.assign rfl) rfl rfl ?_
                  refine OD.nil ?_
                  refine r_inBlock ?_
                  have hS38 : St R F w0 w13 [rgR 142 144 bG (s ++ (rests, []) :: (xs ++ xs2)) (hs ++ (.slice ad1 rests.length cp1) :: (ths ++ t2)), accR encE 94 2 v3 ((ES ++ [(Ed.mk (((hdN x1 : Nat) : Int)) ((((addM (f2 + 1) (s ++ (rests, []) :: xs) (stripP (pfx x1) (rests.drop k))).2 : Nat) : Int)))]))] := hS37.sel [2, 0] (by rfl) (by decide)
                  exact (ih2 _ _ _ ⟨(v3 : Value), ((ES ++ [(Ed.mk (((hdN x1 : Nat) : Int)) ((((addM (f2 + 1) (s ++ (rests, []) :: xs) (stripP (pfx x1) (rests.drop k))).2 : Nat) : Int)))]) : List Ed), (k1 : Nat), ((xs ++ xs2) : GS), ((ths ++ t2) : List Value), rfl, rfl, hS38, (by first | exact EInv.cast hEInx (by simp) (by rw [rem_pos (by omega), ← hst2, List.drop_drop]; congr 1; omega) | exact EInv.cast hEI rfl hsk.1 | (exfalso; omega)), (by first | exact hnd1 | (rw [show s ++ (rests, []) :: (xs ++ xs2) = (s ++ (rests, []) :: xs) ++ xs2 by simp]; exact hnm) | (exfalso; omega)), (by first | (rw [← hsk.1]; exact hs1) | (rw [rem_pos (by omega), show rests.drop k1 = moreP (pfx x1) (rests.drop k) from by rw [← hst2, List.drop_drop]; congr 1; omega]; simp only [List.length_append]; omega) | (exfalso; omega)), (by first | exact hth | (simp only [List.length_append]; omega) | (exfalso; omega)), (by first | omega | (simp only [List.length_append, List.length_cons, List.length_nil]; omega) | (exfalso; omega)), (by first | omega | (exfalso; omega)), (by first | exact hok1 | (rw [show s ++ (rests, []) :: (xs ++ xs2) = (s ++ (rests, []) :: xs) ++ xs2 by simp]; exact hak) | (exfalso; omega))⟩ (by omega)).sub ⟨rfl, rfl, rfl, rfl, rfl, trivial⟩
              | false =>
                replace hb6 := of_decide_eq_false hb6.symm
                refine OL.sk rfl rfl ?_
                refine OL.sk rfl rfl ?_
                refine OL.sk rfl rfl ?_
                refine OL.sk rfl rfl ?_
                refine OL.sk rfl rfl ?_
                refine OL.sk rfl rfl ?_
                refine OL.sk rfl rfl ?_
                refine OL.q (Q1.pick_f rfl rfl) rfl rfl ?_
                refine OL.nil ?_
                refine r_cond_f rfl ?_
                refine r_exit rfl ?_
                have f12 := hS26.sl (i := 2) (k := 0) rfl rfl
                obtain ⟨xl, bl, ol, hxl, hrun1, _, hwl1⟩ := Sl.atF (P := Try.prog) f12 Try.underlying159 ti21 encRn_len (k := .i64) (n := 0) 0 rfl (by omega)
                obtain rfl : xl = ((hdN x1 : Nat) : Int) := Option.some.inj (hxl.symm.trans hfh.2.2.1)
                refine r_draw1 (fun i => Nat.beq i 6 || Nat.beq i 8 || Nat.beq i 9) 11 (fun w' => Row w' bl ol (encRn ((hdN x1 : Nat) : Int))) mixed (by kernel_rfl) ?_
                intro w9 hm6
                have hS28 := hS26.ext hm6
                have f13 := hS28.sl (i := 2) (k := 0) rfl rfl
                refine ⟨(Sl.rowAt f13 Try.underlying159 ti21 encRn_len 0 rfl hxl hrun1), ?_⟩
                rw [show List.range' 0 (Array.size _) = [0, 1, 2, 3, 4, 5, 6, 7, 8, 9, 10] from rfl]
                have hspe : (rests.drop k).length ≤ k1 - k ∨ ∃ t, (rests.drop k)[k1 - k]? = some t ∧ (pfx x1).isPrefixOf t = false := by first | exact .inl (by rw [List.length_drop]; omega) | exact .inr ⟨x4, by rw [List.getElem?_drop, show k + (k1 - k) = k1 from by omega]; exact hx4, (by rw [← pfx_eq hxf hxn (hg.fine _ (List.mem_of_getElem? hx4)) hxk]; exact beq_eq_false_iff_ne.2 (by assumption))⟩
                refine OD.q rfl rfl (Q1.move rfl) rfl rfl ?_
                refine OD.q rfl rfl (Q1.move rfl) rfl rfl ?_
                refine OD.q rfl rfl (Q1.indexAddr rfl rfl hrun1) rfl rfl ?_
                refine OD.q rfl rfl (Q1.load1 ti21 rfl (fun _ hc => hc)) rfl rfl ?_
                refine OD.q rfl rfl (Q1.move rfl) rfl rfl ?_
                refine OD.q rfl rfl (Q1.move rfl) rfl rfl ?_
                obtain ⟨hst, hst2⟩ := hsp.fin hspe
                have hrem := rem_good hg hd k
                rw [rem_grp hx1 hxn] at hrem
                have hx0 : (rests.drop k)[0]? = some x1 := by rw [List.getElem?_drop]; exact hx1
                have hsf := strip_facts hx0 hrem
                subst hst
                rw [rem_grp hx1 hxn] at hEI
                have hEInx := hEI.next2 hx0
                have hsm := rem_sum rests k
                rw [rem_grp hx1 hxn] at hsm hs1
                have hdk : (rests.drop k).length ≤ rests.length := by rw [List.length_drop]; omega
                have hS29 : St R F w0 w9 [rgR 142 144 bG (s ++ (rests, []) :: xs) (hs ++ (.slice ad1 rests.length cp1) :: ths), accR encE 94 2 v_ES ES, slR encRn [(v2, (Ml.runesM x1))], slR encS [(v_b2, (stripP (pfx x1) (rests.drop k)))]] := hS28.freeze (i := 3) rfl
                have hnm := addM_nodup hsf.2.2.1 hsf.1 hsf.2.1 hnd1
                have hS30 : St R F w0 w9 [accR encE 94 2 v_ES ES, slR encRn [(v2, (Ml.runesM x1))], rgR 142 144 bG (s ++ (rests, []) :: xs) (hs ++ (.slice ad1 rests.length cp1) :: ths), slR encS [(v_b2, (stripP (pfx x1) (rests.drop k)))]] := hS29.sel [1, 2, 0, 3] (by rfl) (by decide)
                have hS31 : St R F w0 w9 [accR encE 94 2 v_ES ES, slR encRn [(v2, (Ml.runesM x1))], boxR [rgR 142 144 bG (s ++ (rests, []) :: xs) (hs ++ (.slice ad1 rests.length cp1) :: ths), slR encS [(v_b2, (stripP (pfx x1) (rests.drop k)))]]] := St.close (L1 := [accR encE 94 2 v_ES ES, slR encRn [(v2, (Ml.runesM x1))]]) hS30
                obtain ⟨Fb, hAb, hFb, hkb⟩ := hS31.act (i := 2) rfl
                refine OD.act rfl rfl rfl rfl (AW.callF cl92 rfl (ih0 f2 (by omega) hAb (fun b hb => ⟨(hFb b hb).2, (hFb b hb).1.2⟩) hS31.rlt (by simp only [List.length_append, List.length_cons]; omega) hsf.2.2.1 hsf.1 hnd1 (by simp only [List.length_append, List.length_cons]; omega) (by omega) hok1) ?_)
                rintro _ w10 ⟨rfl, hm7, t2, F2b, hB2, hF2b⟩
                obtain ⟨xs2, hqe, _⟩ := (addM_ok f2 (s ++ (rests, []) :: xs) (stripP (pfx x1) (rests.drop k)) hsf.2.2.1 hsf.1 hsf.2.1 hnd1).tail
                rw [hqe] at hB2 hEInx hnm
                have ht2 := rg_len hB2
                simp only [List.length_append, List.length_cons] at ht2
                have hS32 : St R F w0 w10 [accR encE 94 2 v_ES ES, slR encRn [(v2, (Ml.runesM x1))], rgR 142 144 bG ((s ++ (rests, []) :: xs) ++ xs2) ((hs ++ (.slice ad1 rests.length cp1) :: ths) ++ t2)] := hkb _ _ _ hm7 hB2 hF2b
                clear hAb hFb hkb hB2 hF2b
                have hS33 : St R F w0 w10 [accR encE 94 2 v_ES ES, slR encRn [(v2, (Ml.runesM x1))], rgR 142 144 bG (s ++ (rests, []) :: (xs ++ xs2)) (hs ++ (.slice ad1 rests.length cp1) :: (ths ++ t2))] := hS32.imp (i := 2) rfl (fun F_ h_ => by simpa only [List.append_assoc, List.cons_append] using h_)
                have hal := addM_len (f2 + 1) (s ++ (rests, []) :: xs) (stripP (pfx x1) (rests.drop k)) hsf.1
                have hak := addM_short (L := 1000) (f2 + 1) (s ++ (rests, []) :: xs) (stripP (pfx x1) (rests.drop k)) hok1 (by omega)
                rw [hqe] at hal hak
                simp only [List.length_append, List.length_cons] at hal
                have hidx : (addM (f2 + 1) (s ++ (rests, []) :: xs) (stripP (pfx x1) (rests.drop k))).2 < ((s ++ (rests, []) :: xs) ++ xs2).length := by rw [← hqe]; exact addM_lt hsf.2.2.1 hsf.1 hsf.2.1 hnd1
                simp only [List.length_append, List.length_cons] at hidx
                have f14 := hS33.sl (i := 1) (k := 0) rfl rfl
                refine ⟨.inr (Sl.rowAt f14 Try.underlying159 ti21 encRn_len 0 rfl hxl hrun1), ?_⟩
                refine OD.q rfl rfl (Q1.build (vs := #[(0, (.int .i32 (((hdN x1 : Nat) : Int)) : Value)), (1, (.int .i64 ((((addM (f2 + 1) (s ++ (rests, []) :: xs) (stripP (pfx x1) (rests.drop k))).2 : Nat) : Int)) : Value))]) (v := .agg #[.int .i32 (((hdN x1 : Nat) : Int)), .int .i64 ((((addM (f2 + 1) (s ++ (rests, []) :: xs) (stripP (pfx x1) (rests.drop k))).2 : Nat) : Int))]) rfl (fun _ => by kernel_rfl)) rfl rfl ?_
                refine OD.act rfl rfl rfl rfl (AW.buildSlice [(.agg #[.int .i32 (((hdN x1 : Nat) : Int)), .int .i64 ((((addM (f2 + 1) (s ++ (rests, []) :: xs) (stripP (pfx x1) (rests.drop k))).2 : Nat) : Int))] : Value)] Try.underlying49 ti94 rfl rfl rfl (by decide) ?_)
                intro w11 b10 hm8 hb7 hz4 hk3
                have hS34 := hS33.ext hm8
                have hl8 := Sl.of_blk (enc := encE) hk3 ([(Ed.mk (((hdN x1 : Nat) : Int)) ((((addM (f2 + 1) (s ++ (rests, []) :: xs) (stripP (pfx x1) (rests.drop k))).2 : Nat) : Int)))] : List Ed) 1 rfl rfl (by unfold maxLen; omega)
                have hS35 : St R F w0 w11 [accR encE 94 2 v_ES ES, slR encRn [(v2, (Ml.runesM x1))], rgR 142 144 bG (s ++ (rests, []) :: (xs ++ xs2)) (hs ++ (.slice ad1 rests.length cp1) :: (ths ++ t2)), slR encE [((.slice (some ⟨b10, 0, none⟩) 1 1), [(Ed.mk (((hdN x1 : Nat) : Int)) ((((addM (f2 + 1) (s ++ (rests, []) :: xs) (stripP (pfx x1) (rests.drop k))).2 : Nat) : Int)))])]] := hS33.newSlB hm8 hb7 hz4 hl8
                have f15 := hS35.sl (i := 1) (k := 0) rfl rfl
                refine ⟨.inr (Sl.rowAt f15 Try.underlying159 ti21 encRn_len 0 rfl hxl hrun1), ?_⟩
                obtain ⟨g6, f16, hl9, k4⟩ := hS35.accK (i := 0) rfl
                have f17 := hS35.sl (i := 3) (k := 0) rfl rfl
                refine OD.act rfl rfl rfl rfl (AW.append f16 Try.underlying49 ti94 rfl encE_len encE_one rfl rfl (f17) (by first | omega | (simp only [List.length_append, List.length_cons, List.length_nil]; omega) | (simp; omega)) (by unfold maxLen; first | omega | (simp only [List.length_append, List.length_cons, List.length_nil]; omega) | (simp; omega)) ?_)
                intro v3 g5 w12 ha2 hm9 hg2 hz5
                have hS36 : St R F w0 w12 [accR encE 94 2 v3 ((ES ++ [(Ed.mk (((hdN x1 : Nat) : Int)) ((((addM (f2 + 1) (s ++ (rests, []) :: xs) (stripP (pfx x1) (rests.drop k))).2 : Nat) : Int)))])), slR encRn [(v2, (Ml.runesM x1))], rgR 142 144 bG (s ++ (rests, []) :: (xs ++ xs2)) (hs ++ (.slice ad1 rests.length cp1) :: (ths ++ t2)), slR encE [((.slice (some ⟨b10, 0, none⟩) 1 1), [(Ed.mk (((hdN x1 : Nat) : Int)) ((((addM (f2 + 1) (s ++ (rests, []) :: xs) (stripP (pfx x1) (rests.drop k))).2 : Nat) : Int)))])]] := k4 _ _ _ _ hm9 ha2 hg2
                have f18 := hS36.sl (i := 1) (k := 0) rfl rfl
                refine ⟨.inr (Sl.rowAt f18 Try.underlying159 ti21 encRn_len 0 rfl hxl hrun1), ?_⟩
                clear hg2
                refine OD.q rfl rfl (Q1.assign rfl) rfl rfl ?_
                refine OD.nil ?_
                refine r_inBlock ?_
                have hS37 : St R F w0 w12 [rgR 142 144 bG (s ++ (rests, []) :: (xs ++ xs2)) (hs ++ (.slice ad1 rests.length cp1) :: (ths ++ t2)), accR encE 94 2 v3 ((ES ++ [(Ed.mk (((hdN x1 : Nat) : Int)) ((((addM (f2 + 1) (s ++ (rests, []) :: xs) (stripP (pfx x1) (rests.drop k))).2 : Nat) : Int)))]))] := hS36.sel [2, 0] (by rfl) (by decide)
                exact (ih2 _ _ _ ⟨(v3 : Value), ((ES ++ [(Ed.mk (((hdN x1 : Nat) : Int)) ((((addM (f2 + 1) (s ++ (rests, []) :: xs) (stripP (pfx x1) (rests.drop k))).2 : Nat) : Int)))]) : List Ed), (k1 : Nat), ((xs ++ xs2) : GS), ((ths ++ t2) : List Value), rfl, rfl, hS37, (by first | exact EInv.cast hEInx (by simp) (by rw [rem_pos (by omega), ← hst2, List.drop_drop]; congr 1; omega) | exact EInv.cast hEI rfl hsk.1 | (exfalso; omega)), (by first | exact hnd1 | (rw [show s ++ (rests, []) :: (xs ++ xs2) = (s ++ (rests, []) :: xs) ++ xs2 by simp]; exact hnm) | (exfalso; omega)), (by first | (rw [← hsk.1]; exact hs1) | (rw [rem_pos (by omega), show rests.drop k1 = moreP (pfx x1) (rests.drop k) from by rw [← hst2, List.drop_drop]; congr 1; omega]; simp only [List.length_append]; omega) | (exfalso; omega)), (by first | exact hth | (simp only [List.length_append]; omega) | (exfalso; omega)), (by first | omega | (simp only [List.length_append, List.length_cons, List.length_nil]; omega) | (exfalso; omega)), (by first | omega | (exfalso; omega)), (by first | exact hok1 | (rw [show s ++ (rests, []) :: (xs ++ xs2) = (s ++ (rests, []) :: xs) ++ xs2 by simp]; exact hak) | (exfalso; omega))⟩ (by omega)).sub ⟨rfl, rfl, rfl, rfl, rfl, trivial⟩
        | false =>
          replace hb3 := of_decide_eq_false hb3.symm
          refine r_cond_f rfl ?_
          refine r_exit rfl ?_
          refine r_seq ?_
          refine r_region ?_
          obtain ⟨⟨vN2, nds2⟩, hS23⟩ := hS20.exo (i := 0) rfl
          obtain ⟨hmap2, hS24⟩ := hS23.and (i := 0) rfl
          change St R F w0 w5 [boxR [bkR bG [vN2] 142, accR encRd 144 2 vN2 nds2, rrR nds2 ((s ++ (rests, []) :: xs))], accR encE 94 2 v_ES ES] at hS24
          change nds2.map (fun n : RNd => n.r.val) = (hs ++ (.slice ad1 rests.length cp1) :: ths) at hmap2
          have hS25 : St R F w0 w5 [accR encE 94 2 v_ES ES, boxR [bkR bG [vN2] 142, accR encRd 144 2 vN2 nds2, rrR nds2 ((s ++ (rests, []) :: xs))]] := hS24.sel [1, 0] (by rfl) (by decide)
          have hS26 : St R F w0 w5 [accR encE 94 2 v_ES ES, boxR [bkR bG [vN2] 142, accR encRd 144 2 vN2 nds2, rrR nds2 ((s ++ (rests, []) :: xs))]] := hS25
          have hS27 : St R F w0 w5 [accR encE 94 2 v_ES ES, bkR bG [vN2] 142, accR encRd 144 2 vN2 nds2, rrR nds2 ((s ++ (rests, []) :: xs))] := St.open (L1 := [accR encE 94 2 v_ES ES]) hS26
          have hrl2 : nds2.length = ((s ++ (rests, []) :: xs)).length := hS27.rrLen (i := 3) rfl
          have hn2 : nds1.length < nds2.length := by rw [hrl2]; simp only [List.length_append, List.length_cons]; omega
          refine OL.q (Q1.move rfl) rfl rfl ?_
          refine OL.q (Q1.nilCheckP rfl) rfl rfl ?_
          refine OL.q (Q1.fieldAddr fl142_0 rfl) rfl rfl ?_
          have f10 := hS27.bk (i := 1) rfl
          refine OL.q (Q1.load1 ti140 rfl (fun _ e => e ▸ (f10.cell 0 _ rfl))) rfl rfl ?_
          refine OL.q (Q1.move rfl) rfl rfl ?_
          refine OL.q (Q1.move rfl) rfl rfl ?_
          obtain ⟨g5, f11, hl5, k4⟩ := hS27.accK (i := 2) rfl
          obtain ⟨hr1, x1, hx1⟩ := Acc.at (P := Try.prog) f11 Try.underlying140 ti144 (k := .i64) (n := ((nds1.length : Nat) : Int)) (nds1.length) (by omega) (by first | assumption | omega | (simp; done))
          refine OL.q (Q1.indexAddr rfl rfl hr1) rfl rfl ?_
          refine OL.q (Q1.fieldAddr fl144_1 rfl) rfl rfl ?_
          obtain ⟨g6, f12, hl7, k5⟩ := hS27.accK (i := 0) rfl
          obtain ⟨ad3, cp3, hv3⟩ := f12.shape
          subst hv3
          refine OL.act rfl rfl (AW.storeA f11 encRd_len (i := nds1.length) (o := 1) hx1 ((RNd.mk x1.r (SH.mk ad3 ES.length cp3))) ti49 rfl (by omega) rfl rfl rfl rfl (by decide) (by first | rfl | simp [encRd]) ?_)
          intro w6 hm4 hz4 ha2
          have hl6 : (nds2.set nds1.length ((RNd.mk x1.r (SH.mk ad3 ES.length cp3)))).length = nds2.length := List.length_set
          have hS28 : St R F w0 w6 [accR encE 94 2 ((.slice ad3 ES.length cp3)) ES, bkR bG [vN2] 142, accR encRd 144 2 vN2 ((nds2.set nds1.length ((RNd.mk x1.r (SH.mk ad3 ES.length cp3))))), rrR nds2 ((s ++ (rests, []) :: xs))] := k4 _ _ _ _ hm4 ha2 (.inl rfl)
          refine OL.nil ?_
          refine r_seq ?_
          refine r_region ?_
          refine OL.q (Q1.move rfl) rfl rfl ?_
          refine OL.q (Q1.assign rfl) rfl rfl ?_
          refine OL.nil ?_
          refine r_ret1 Try.func92 rfl rfl ?_
          have hr0 : remR rests k = [] := rem_end (by omega)
          rw [hr0] at hEI
          have hAD := addM_miss hfi hEI.fin
          have hS29 : St R F w0 w6 [bkR bG [vN2] 142, accR encRd 144 2 vN2 ((nds2.set nds1.length ((RNd.mk x1.r (SH.mk ad3 ES.length cp3))))), rrR nds2 ((s ++ (rests, []) :: xs)), accR encE 94 2 ((.slice ad3 ES.length cp3)) ES] := hS28.sel [1, 2, 3, 0] (by rfl) (by decide)
          have hS30 : St R F w0 w6 [bkR bG [vN2] 142, accR encRd 144 2 vN2 ((nds2.set nds1.length ((RNd.mk x1.r (SH.mk ad3 ES.length cp3))))), boxR [rrR nds2 ((s ++ (rests, []) :: xs)), accR encE 94 2 ((.slice ad3 ES.length cp3)) ES]] := St.close (L1 := [bkR bG [vN2] 142, accR encRd 144 2 vN2 ((nds2.set nds1.length ((RNd.mk x1.r (SH.mk ad3 ES.length cp3)))))]) hS29
          have hns : nds1.length = s.length := by omega
          have hS31 : St R F w0 w6 [bkR bG [vN2] 142, accR encRd 144 2 vN2 ((nds2.set nds1.length ((RNd.mk x1.r (SH.mk ad3 ES.length cp3))))), rrR (nds2.set nds1.length ((RNd.mk x1.r (SH.mk ad3 ES.length cp3)))) (s ++ (rests, ES) :: xs)] := hS30.imp (i := 2) rfl (fun F_ h_ => by have e_ := rr_set (hd := (SH.mk ad3 ES.length cp3)) hx1 (at_mid (b := xs) hns) rfl h_; rw [set_mid hns] at e_; exact e_)
          have hS32 : St R F w0 w6 [boxR [bkR bG [vN2] 142, accR encRd 144 2 vN2 ((nds2.set nds1.length ((RNd.mk x1.r (SH.mk ad3 ES.length cp3))))), rrR (nds2.set nds1.length ((RNd.mk x1.r (SH.mk ad3 ES.length cp3)))) (s ++ (rests, ES) :: xs)]] := St.close (L1 := []) hS31
          have hS33 : St R F w0 w6 [andR (((nds2.set nds1.length ((RNd.mk x1.r (SH.mk ad3 ES.length cp3))))).map (fun n : RNd => n.r.val) = (hs ++ (.slice ad1 rests.length cp1) :: ths)) (boxR [bkR bG [vN2] 142, accR encRd 144 2 vN2 ((nds2.set nds1.length ((RNd.mk x1.r (SH.mk ad3 ES.length cp3))))), rrR (nds2.set nds1.length ((RNd.mk x1.r (SH.mk ad3 ES.length cp3)))) (s ++ (rests, ES) :: xs)])] := hS32.imp (i := 0) rfl (fun F_ h_ => ⟨by rw [map_set_r hx1]; exact hmap2, h_⟩)
          have hS34 : St R F w0 w6 [rgR 142 144 bG ((s ++ (rests, ES) :: xs)) ((hs ++ (.slice ad1 rests.length cp1) :: ths))] := hS33.exi (vN2, (nds2.set nds1.length ((RNd.mk x1.r (SH.mk ad3 ES.length cp3))))) (i := 0) rfl
          obtain ⟨hmF, F2, hA2, hF2⟩ := hS34.fin
          exact Ret.mk ⟨by rw [hAD]; simp [hrl1], hmF, (.slice ad1 rests.length cp1) :: ths, F2, by rw [hAD]; exact hA2, hF2⟩
set_option maxRecDepth 20000 in
set_option maxHeartbeats 8000000 in
theorem r8build_c {R : Nat → Prop} {w0 : World} {v_words : Value} {words : List Str} (h_words : Sl encS w0 R v_words words) (hR : ∀ b, R b → b < w0.heap.size) (hok : SOk words) (hsz : words.length ≤ 1000000) :
    Calls Try.prog 59 #[v_words] w0 (Ret fun rv w1 => ∃ u0, rv = .tuple #[u0, .int .i64 (goodL words)] ∧ Ext w0 w1 ∧ ((goodL words ≠ 0 ∧ u0 = .pointer none) ∨ (goodL words = 0 ∧ ∃ bG hs F2, u0 = ptr bG 0 ∧ (rgR 142 144 (R := R) bG (graphB words) hs).p F2 w1 ∧ ∀ b, F2 b → b < w1.heap.size ∧ w0.heap.size ≤ b))) := by
  have hS0 := St.start w0 hR
  have hle1 := h_words.le
  have h_iv := h_words.mono (F' := Iv 0 w0.heap.size) (fun b hb => ⟨Nat.zero_le _, hR b hb⟩)
  refine calls_enter Try.func59 rfl Try.ntmps59 rfl ?_
  refine r_seq ?_
  refine r_region ?_
  refine OL.q (Q1.assign rfl) rfl rfl ?_
  refine OL.q (Q1.assign rfl) rfl rfl ?_
  refine OL.nil ?_
  refine r_seq ?_
  refine r_region ?_
  refine OL.q (Q1.move rfl) rfl rfl ?_
  refine OL.act rfl rfl (AW.callF cl85 rfl (r4good_c (w0 := w0) (l := words) h_iv hok) ?_)
  rintro _ w1 ⟨rfl, hm1⟩
  have hS1 := hS0.ext hm1
  have := goodL_range words
  refine OL.q (Q1.assign rfl) rfl rfl ?_
  refine OL.nil ?_
  refine r_seq ?_
  refine r_seq ?_
  refine r_region ?_
  refine OL.q (Q1.move rfl) rfl rfl ?_
  refine OL.qb (Q1.ne rfl rfl) rfl rfl ?_
  intro b1 hb1
  refine OL.nil ?_
  cases b1 with
  | true =>
    replace hb1 := bne_iff_ne.1 hb1.symm
    refine r_cond_t rfl ?_
    refine r_seq ?_
    refine r_region ?_
    refine OL.q (Q1.move rfl) rfl rfl ?_
    refine OL.q (Q1.assign rfl) rfl rfl ?_
    refine OL.q (Q1.assign rfl) rfl rfl ?_
    refine OL.nil ?_
    refine r_ret2 Try.func59 rfl rfl rfl ?_
    exact Ret.mk ⟨_, rfl, hS1.mod, .inl ⟨by assumption, rfl⟩⟩
  | false =>
    replace hb1 := bne_eq_false_iff_eq.1 hb1.symm
    refine r_cond_f rfl ?_
    refine r_skip ?_
    refine r_seq ?_
    refine r_region ?_
    refine OL.q (Q1.build (vs := #[]) (v := .agg #[.slice none 0 0]) rfl (fun _ => by kernel_rfl)) rfl rfl ?_
    have hg0 : goodL words = 0 := by assumption
    have hgd := good_deep hg0
    have hgs := good_sum hg0
    refine OL.act rfl rfl (AW.box [.slice none 0 0] rfl rfl ?_)
    intro w2 b2 hm2 hb2 hz1 hk1
    have hS2 := hS1.ext hm2
    have hS3 : St R (fun _ => False) w0 w2 [bkR b2 [.slice none 0 0] 142] := hS1.newBk hm2 hb2 hk1
    refine OL.q (Q1.assign rfl) rfl rfl ?_
    refine OL.nil ?_
    refine r_seq ?_
    refine r_region ?_
    refine OL.q (Q1.move rfl) rfl rfl ?_
    refine OL.q (Q1.move rfl) rfl rfl ?_
    have hS4 : St R (fun _ => False) w0 w2 [bkR b2 [.slice none 0 0] 142, accR encRd 144 2 (.slice none 0 0) []] := hS3.newAcc (Mod.refl _ _) Acc.nil (.inl rfl)
    have hS5 : St R (fun _ => False) w0 w2 [bkR b2 [.slice none 0 0] 142, accR encRd 144 2 (.slice none 0 0) [], rrR [] []] := hS4.new (Mod.refl _ _) (F := fun _ => False) (All2.nil : RR _ _ [] []) (fun _ h => h.elim)
    have hS6 : St R (fun _ => False) w0 w2 [boxR [bkR b2 [.slice none 0 0] 142, accR encRd 144 2 (.slice none 0 0) [], rrR [] []]] := St.close (L1 := []) hS5
    have hS7 : St R (fun _ => False) w0 w2 [andR ([].map (fun n : RNd => n.r.val) = []) (boxR [bkR b2 [.slice none 0 0] 142, accR encRd 144 2 (.slice none 0 0) [], rrR [] []])] := hS6.imp (i := 0) rfl (fun F_ h_ => ⟨rfl, h_⟩)
    have hS8 : St R (fun _ => False) w0 w2 [rgR 142 144 b2 [] []] := hS7.exi (.slice none 0 0, []) (i := 0) rfl
    have hS9 : St R (fun _ => False) w0 w2 [rgR 142 144 b2 [] [], slR encS [(v_words, words)]] := hS8.newFar h_words (fun _ hb => hb)
    have hS10 : St R (fun _ => False) w0 w2 [boxR [rgR 142 144 b2 [] [], slR encS [(v_words, words)]]] := St.close (L1 := []) hS9
    obtain ⟨Fb, hAb, hFb, hkb⟩ := hS10.act (i := 0) rfl
    refine OL.act rfl rfl (AW.callF cl92 rfl (r8add_c 12 hAb (fun b hb => ⟨(hFb b hb).2, (hFb b hb).1.2⟩) hS10.rlt rfl hgd.2 hgd.1 (by simp [names]) (by simp only [List.length_nil]; omega) (by omega) (by simp)) ?_)
    rintro _ w3 ⟨rfl, hm3, t2, F2b, hB2, hF2b⟩
    rw [graphB_add] at hB2
    have hS11 : St R (fun _ => False) w0 w3 [rgR 142 144 b2 (graphB words) ([] ++ t2)] := hkb _ _ _ hm3 hB2 hF2b
    refine OL.nil ?_
    refine r_seq ?_
    refine r_region ?_
    refine OL.q (Q1.move rfl) rfl rfl ?_
    refine OL.q (Q1.assign rfl) rfl rfl ?_
    refine OL.q (Q1.assign rfl) rfl rfl ?_
    refine OL.nil ?_
    refine r_ret2 Try.func59 rfl rfl rfl ?_
    obtain ⟨hmF, F2, hA2, hF2⟩ := hS11.fin
    exact Ret.mk ⟨_, by rw [hg0], hmF, .inr ⟨hg0, _, _, F2, rfl, hA2, fun b hb => ⟨(hF2 b hb).1, (hF2 b hb).2.resolve_left id⟩⟩⟩
set_option maxRecDepth 20000 in
set_option maxHeartbeats 4000000 in
theorem r8final_c {w0 : World}  {vN_g : Value} {lo_g hi_g b_g : Nat} {nds_g : List RNd} {g : GS} (n : Int) (hrw_g : Rw w0 lo_g hi_g b_g [vN_g]) (hsl_g : Sl encRd w0 (Iv lo_g hi_g) vN_g nds_g) (hrr_g : RR w0 (Iv 0 hi_g) nds_g g) (hgn_g : nds_g.length ≤ 1000000 ∧ hi_g ≤ w0.heap.size) (h_n : I64 n) :
    Calls Try.prog 94 #[ptr b_g 0, .int .i64 n] w0 (Ret fun rv w1 => (∃ rb : Bool, rb = ((nodeAt (gnOf g) n).1) ∧ rv = .bool rb) ∧ Ext w0 w1) := by
  have hE0 : Ext w0 w0 := Mod.refl _ _
  have hle1 := hsl_g.le
  have hgl := (All2.get hrr_g).1
  obtain ⟨hgn1, hgn2⟩ := hgn_g
  refine calls_enter Try.func94 rfl Try.ntmps94 rfl ?_
  refine r_seq ?_
  refine r_region ?_
  refine OL.q (Q1.assign rfl) rfl rfl ?_
  refine OL.nil ?_
  refine r_seq ?_
  refine r_region ?_
  refine OL.q (Q1.move rfl) rfl rfl ?_
  refine OL.qb (Q1.ge rfl rfl) rfl rfl ?_
  intro b1 hb1
  refine OL.q (Q1.move rfl) rfl rfl ?_
  cases b1 with
  | true =>
    replace hb1 := of_decide_eq_true hb1.symm
    refine OL.q (Q1.move rfl) rfl rfl ?_
    refine OL.q (Q1.move rfl) rfl rfl ?_
    refine OL.q (Q1.nilCheckP rfl) rfl rfl ?_
    refine OL.q (Q1.fieldAddr fl142_0 rfl) rfl rfl ?_
    refine OL.q (Q1.load1 ti140 rfl (fun _ e => e ▸ (hrw_g.cell 0 _ rfl))) rfl rfl ?_
    refine OL.q (Q1.lenSl Try.underlying140 (hsl_g) rfl) rfl rfl ?_
    refine OL.qb (Q1.lt rfl rfl) rfl rfl ?_
    intro b2 hb2
    refine OL.q (Q1.pick_t rfl rfl) rfl rfl ?_
    refine OL.q (Q1.move rfl) rfl rfl ?_
    cases b2 with
    | true =>
      replace hb2 := of_decide_eq_true hb2.symm
      refine OL.q (Q1.move rfl) rfl rfl ?_
      refine OL.q (Q1.nilCheckP rfl) rfl rfl ?_
      refine OL.q (Q1.fieldAddr fl142_0 rfl) rfl rfl ?_
      refine OL.q (Q1.load1 ti140 rfl (fun _ e => e ▸ (hrw_g.cell 0 _ rfl))) rfl rfl ?_
      refine OL.q (Q1.move rfl) rfl rfl ?_
      obtain ⟨x1, b3, o1, hx1, hr1, hl1, hu1, hw1⟩ := Sl.at' (P := Try.prog) hsl_g Try.underlying140 ti144 encRd_len (k := .i64) (n := n) ((n).toNat) (by omega) (by first | assumption | omega)
      refine OL.q (Q1.indexAddr rfl rfl hr1) rfl rfl ?_
      refine OL.q (Q1.fieldAddr fl144_0 rfl) rfl rfl ?_
      have hr2 := hw1.sub 0 1 (Nat.le_of_ble_eq_true rfl)
      obtain ⟨gx1, hgx1, hn1, hn2⟩ := RR.at hrr_g hx1
      replace hn1 : Sl encS w0 (Iv 0 hi_g) x1.r.val gx1.1 := hn1
      have hle_1 := hn1.le
      refine OL.q (Q1.load1 ti22 rfl (fun _ e => e ▸ hr2)) rfl rfl ?_
      refine OL.q (Q1.lenSl Try.underlying22 (hn1) rfl) rfl rfl ?_
      refine OL.qb (Q1.gt rfl rfl) rfl rfl ?_
      intro b4 hb3
      refine OL.q (Q1.pick_t rfl rfl) rfl rfl ?_
      refine OL.q (Q1.move rfl) rfl rfl ?_
      cases b4 with
      | true =>
        replace hb3 := of_decide_eq_true hb3.symm
        refine OL.q (Q1.move rfl) rfl rfl ?_
        refine OL.q (Q1.nilCheckP rfl) rfl rfl ?_
        refine OL.q (Q1.fieldAddr fl142_0 rfl) rfl rfl ?_
        refine OL.q (Q1.load1 ti140 rfl (fun _ e => e ▸ (hrw_g.cell 0 _ rfl))) rfl rfl ?_
        refine OL.q (Q1.move rfl) rfl rfl ?_
        obtain ⟨x2, b5, o2, hx2, hr3, hl2, hu2, hw2⟩ := Sl.at' (P := Try.prog) hsl_g Try.underlying140 ti144 encRd_len (k := .i64) (n := n) ((n).toNat) (by omega) (by first | assumption | omega)
        obtain rfl : x1 = x2 := Option.some.inj (hx1.symm.trans hx2)
        refine OL.q (Q1.indexAddr rfl rfl hr3) rfl rfl ?_
        refine OL.q (Q1.fieldAddr fl144_0 rfl) rfl rfl ?_
        have hr4 := hw2.sub 0 1 (Nat.le_of_ble_eq_true rfl)
        obtain ⟨gx2, hgx2, hn3, hn4⟩ := RR.at hrr_g hx2
        obtain rfl : gx1 = gx2 := Option.some.inj (hgx1.symm.trans hgx2)
        replace hn3 : Sl encS w0 (Iv 0 hi_g) x1.r.val gx1.1 := hn3
        have hle_2 := hn3.le
        refine OL.q (Q1.load1 ti22 rfl (fun _ e => e ▸ hr4)) rfl rfl ?_
        obtain ⟨x3, b6, o3, hx3, hr5, hl3, hu3, hw3⟩ := Sl.at' (P := Try.prog) hn3 Try.underlying22 ti9 encS_len (k := .i64) (n := 0) (0) (by omega) (by first | assumption | omega)
        refine OL.q (Q1.indexAddr rfl rfl hr5) rfl rfl ?_
        refine OL.q (Q1.load1 ti9 rfl (fun _ e => e ▸ hw3)) rfl rfl ?_
        refine OL.qb (Q1.eqS rfl rfl) rfl rfl ?_
        intro b7 hb4
        refine OL.q (Q1.pick_t rfl rfl) rfl rfl ?_
        refine OL.q (Q1.assign rfl) rfl rfl ?_
        refine OL.nil ?_
        refine r_ret1 Try.func94 rfl rfl ?_
        exact Ret.mk ⟨⟨_, (by first | (rw [node_no (by omega)]; done) | (rw [node_yes (by omega) hgx1]; exact fin_head0 (by assumption) (by assumption)) | (rw [node_yes (by omega) hgx1]; exact fin_nil (by omega)) | (exfalso; omega)), rfl⟩, hE0⟩
      | false =>
        replace hb3 := of_decide_eq_false hb3.symm
        refine OL.sk rfl rfl ?_
        refine OL.sk rfl rfl ?_
        refine OL.sk rfl rfl ?_
        refine OL.sk rfl rfl ?_
        refine OL.sk rfl rfl ?_
        refine OL.sk rfl rfl ?_
        refine OL.sk rfl rfl ?_
        refine OL.sk rfl rfl ?_
        refine OL.sk rfl rfl ?_
        refine OL.sk rfl rfl ?_
        refine OL.sk rfl rfl ?_
        refine OL.q (Q1.pick_f rfl rfl) rfl rfl ?_
        refine OL.q (Q1.assign rfl) rfl rfl ?_
        refine OL.nil ?_
        refine r_ret1 Try.func94 rfl rfl ?_
        exact Ret.mk ⟨⟨_, (by first | (rw [node_no (by omega)]; done) | (rw [node_yes (by omega) hgx1]; exact fin_head0 (by assumption) (by assumption)) | (rw [node_yes (by omega) hgx1]; exact fin_nil (by omega)) | (exfalso; omega)), rfl⟩, hE0⟩
    | false =>
      replace hb2 := of_decide_eq_false hb2.symm
      refine OL.sk rfl rfl ?_
      refine OL.sk rfl rfl ?_
      refine OL.sk rfl rfl ?_
      refine OL.sk rfl rfl ?_
      refine OL.sk rfl rfl ?_
      refine OL.sk rfl rfl ?_
      refine OL.sk rfl rfl ?_
      refine OL.sk rfl rfl ?_
      refine OL.sk rfl rfl ?_
      refine OL.sk rfl rfl ?_
      refine OL.q (Q1.pick_f rfl rfl) rfl rfl ?_
      refine OL.q (Q1.move rfl) rfl rfl ?_
      refine OL.sk rfl rfl ?_
      refine OL.sk rfl rfl ?_
      refine OL.sk rfl rfl ?_
      refine OL.sk rfl rfl ?_
      refine OL.sk rfl rfl ?_
      refine OL.sk rfl rfl ?_
      refine OL.sk rfl rfl ?_
      refine OL.sk rfl rfl ?_
      refine OL.sk rfl rfl ?_
      refine OL.sk rfl rfl ?_
      refine OL.sk rfl rfl ?_
      refine OL.q (Q1.pick_f rfl rfl) rfl rfl ?_
      refine OL.q (Q1.assign rfl) rfl rfl ?_
      refine OL.nil ?_
      refine r_ret1 Try.func94 rfl rfl ?_
      exact Ret.mk ⟨⟨_, (by first | (rw [node_no (by omega)]; done) | (rw [node_yes (by omega) hgx1]; exact fin_head0 (by assumption) (by assumption)) | (rw [node_yes (by omega) hgx1]; exact fin_nil (by omega)) | (exfalso; omega)), rfl⟩, hE0⟩
  | false =>
    replace hb1 := of_decide_eq_false hb1.symm
    refine OL.sk rfl rfl ?_
    refine OL.sk rfl rfl ?_
    refine OL.sk rfl rfl ?_
    refine OL.sk rfl rfl ?_
    refine OL.sk rfl rfl ?_
    refine OL.sk rfl rfl ?_
    refine OL.sk rfl rfl ?_
    refine OL.q (Q1.pick_f rfl rfl) rfl rfl ?_
    refine OL.q (Q1.move rfl) rfl rfl ?_
    refine OL.sk rfl rfl ?_
    refine OL.sk rfl rfl ?_
    refine OL.sk rfl rfl ?_
    refine OL.sk rfl rfl ?_
    refine OL.sk rfl rfl ?_
    refine OL.sk rfl rfl ?_
    refine OL.sk rfl rfl ?_
    refine OL.sk rfl rfl ?_
    refine OL.sk rfl rfl ?_
    refine OL.sk rfl rfl ?_
    refine OL.q (Q1.pick_f rfl rfl) rfl rfl ?_
    refine OL.q (Q1.move rfl) rfl rfl ?_
    refine OL.sk rfl rfl ?_
    refine OL.sk rfl rfl ?_
    refine OL.sk rfl rfl ?_
    refine OL.sk rfl rfl ?_
    refine OL.sk rfl rfl ?_
    refine OL.sk rfl rfl ?_
    refine OL.sk rfl rfl ?_
    refine OL.sk rfl rfl ?_
    refine OL.sk rfl rfl ?_
    refine OL.sk rfl rfl ?_
    refine OL.sk rfl rfl ?_
    refine OL.q (Q1.pick_f rfl rfl) rfl rfl ?_
    refine OL.q (Q1.assign rfl) rfl rfl ?_
    refine OL.nil ?_
    refine r_ret1 Try.func94 rfl rfl ?_
    exact Ret.mk ⟨⟨_, (by first | (rw [node_no (by omega)]; done) | (rw [node_yes (by omega) hgx1]; exact fin_head0 (by assumption) (by assumption)) | (rw [node_yes (by omega) hgx1]; exact fin_nil (by omega)) | (exfalso; omega)), rfl⟩, hE0⟩
end Go.Proofs
