/-
  What the law DiskScript needs, part 6 of 7: theory, and walks through the code.
-/
import Derived.Test.YtajedfbogchkcaaGreatSDiskScriptE
set_option linter.unusedVariables false
set_option linter.unusedSimpArgs false
namespace Go.Proofs
open Go.Ik Go.Ml
set_option maxRecDepth 20000 in
set_option maxHeartbeats 4000000 in
theorem r4good_c {w0 : World}  {v_l : Value} {l : List Str} (h_l : Sl encS w0 (Iv 0 w0.heap.size) v_l l) (hsk_l : Ml.SOk l) :
    Calls Tryz.prog 42 #[v_l] w0 (Ret fun rv w1 => rv = .int .i64 (Ml.goodL l) ∧ Ext w0 w1) := by
  have hE0 : Ext w0 w0 := Mod.refl _ _
  have hle1 := h_l.le
  refine calls_enter Tryz.func42 rfl Tryz.ntmps42 rfl ?_
  refine r_seq ?_
  refine r_region ?_
  refine OL.q (Q1.assign rfl) rfl rfl ?_
  refine OL.nil ?_
  refine r_seq ?_
  refine r_seq ?_
  refine r_region ?_
  refine OL.q (Q1.move rfl) rfl rfl ?_
  refine OL.q (Q1.lenSl Tryz.underlying22 (h_l) rfl) rfl rfl ?_
  refine OL.qb (Q1.gt rfl rfl) rfl rfl ?_
  intro b1 hb1
  refine OL.nil ?_
  cases b1 with
  | true =>
    replace hb1 := of_decide_eq_true hb1.symm
    refine r_cond_t rfl ?_
    refine r_seq ?_
    refine r_region ?_
    refine OL.q (Q1.assign rfl) rfl rfl ?_
    refine OL.nil ?_
    refine r_ret1 Tryz.func42 rfl rfl ?_
    exact Ret.mk ⟨(congrArg (Value.int .i64) (by first | exact Ml.goodL_full (by omega) | exact Ml.goodL_word (by omega) hx1 (by assumption) | exact Ml.goodL_sort' (by omega) ha hj hx1 hx2 (by omega) | exact Ml.goodL_ok (by omega) ha hr (by omega) | (exfalso; omega))), hE0⟩
  | false =>
    replace hb1 := of_decide_eq_false hb1.symm
    refine r_cond_f rfl ?_
    refine r_skip ?_
    refine r_seq ?_
    refine r_seq ?_
    refine r_region ?_
    refine OL.q (Q1.assign rfl) rfl rfl ?_
    refine OL.nil ?_
    refine r_block ?_
    refine r_loop (I := fun m E W => ∃ (k : Nat), E = [(0, v_l), (3, .int .i64 (((k : Nat) : Int)))] ∧ m = l.length - k ∧ Ext w0 W ∧ w0.heap.size ≤ W.heap.size ∧ Sl encS W (Iv 0 w0.heap.size) v_l l ∧ ((l.take k).all Ml.word = true)) ?_ ?_
    · refine ⟨_, _, ⟨(0 : Nat), rfl, rfl, hE0, Nat.le_refl _, h_l, (by rfl)⟩, ⟨rfl, rfl, trivial⟩⟩
    · rintro _ _ w1 ⟨k, rfl, rfl, hE1, hs1, f1, hi⟩ ih1
      refine r_seq ?_
      refine r_seq ?_
      refine r_region ?_
      refine OL.q (Q1.move rfl) rfl rfl ?_
      refine OL.q (Q1.move rfl) rfl rfl ?_
      refine OL.q (Q1.lenSl Tryz.underlying22 (f1) rfl) rfl rfl ?_
      refine OL.qb (Q1.lt rfl rfl) rfl rfl ?_
      intro b2 hb2
      refine OL.nil ?_
      cases b2 with
      | true =>
        replace hb2 := of_decide_eq_true hb2.symm
        refine r_cond_t rfl ?_
        refine r_skip ?_
        refine r_seq ?_
        refine r_block ?_
        refine r_seq ?_
        refine r_region ?_
        refine OL.q (Q1.move rfl) rfl rfl ?_
        refine OL.q (Q1.move rfl) rfl rfl ?_
        obtain ⟨x1, b3, o1, hx1, hr1, hl1, hu1, hw1⟩ := Sl.at' (P := Tryz.prog) f1 Tryz.underlying22 ti9 encS_len (k := .i64) (n := ((k : Nat) : Int)) (k) (by omega) (by first | assumption | omega)
        refine OL.q (Q1.indexAddr rfl rfl hr1) rfl rfl ?_
        refine OL.q (Q1.load1 ti9 rfl (fun _ e => e ▸ hw1)) rfl rfl ?_
        refine OL.act rfl rfl (AW.callF cl57 rfl (rword_c (w0 := w1)  x1 (by exact hsk_l.at (by assumption))) ?_)
        rintro _ w2 ⟨⟨b4, hb3, rfl⟩, hm1⟩
        have f2 := f1.ext hm1
        have hE2 := hE1.ext hm1
        have hs2 := hm1.size
        cases b4 with
        | true =>
          replace hb3 := hb3.symm
          refine OL.q (Q1.not rfl) rfl rfl ?_
          refine OL.nil ?_
          refine r_cond_f rfl ?_
          refine r_skip ?_
          refine r_inBlock ?_
          refine r_region ?_
          refine OL.q (Q1.move rfl) rfl rfl ?_
          refine OL.q (Q1.addI (((k + 1 : Nat) : Int)) rfl rfl (by omega)) rfl rfl ?_
          refine OL.q (Q1.assign rfl) rfl rfl ?_
          refine OL.nil ?_
          exact (ih1 _ _ _ ⟨(k + 1 : Nat), rfl, rfl, hE2, (by omega), f2, (by first | exact Ml.all_take_succ hi (by assumption) (by assumption) | (exfalso; omega))⟩ (by omega)).sub ⟨rfl, rfl, trivial⟩
        | false =>
          replace hb3 := hb3.symm
          refine OL.q (Q1.not rfl) rfl rfl ?_
          refine OL.nil ?_
          refine r_cond_t rfl ?_
          refine r_seq ?_
          refine r_region ?_
          refine OL.q (Q1.assign rfl) rfl rfl ?_
          refine OL.nil ?_
          refine r_ret1 Tryz.func42 rfl rfl ?_
          exact Ret.mk ⟨(congrArg (Value.int .i64) (by first | exact Ml.goodL_full (by omega) | exact Ml.goodL_word (by omega) hx1 (by assumption) | exact Ml.goodL_sort' (by omega) ha hj hx1 hx2 (by omega) | exact Ml.goodL_ok (by omega) ha hr (by omega) | (exfalso; omega))), hE2⟩
      | false =>
        replace hb2 := of_decide_eq_false hb2.symm
        refine r_cond_f rfl ?_
        refine r_exit rfl ?_
        refine r_seq ?_
        refine r_seq ?_
        refine r_region ?_
        refine OL.q (Q1.assign rfl) rfl rfl ?_
        refine OL.nil ?_
        refine r_block ?_
        refine r_loop (I := fun m E W => ∃ (j : Nat), E = [(0, v_l), (4, .int .i64 (((j : Nat) : Int)))] ∧ m = l.length - j ∧ Ext w0 W ∧ w1.heap.size ≤ W.heap.size ∧ Sl encS W (Iv 0 w0.heap.size) v_l l ∧ (1 ≤ j) ∧ (Ml.rising (l.take j) = true)) ?_ ?_
        · refine ⟨_, _, ⟨(1 : Nat), rfl, rfl, hE1, Nat.le_refl _, f1, (by omega), (by exact Ml.rising_one _)⟩, ⟨rfl, rfl, trivial⟩⟩
        · rintro _ _ w2 ⟨j, rfl, rfl, hE2, hs2, f2, hj, hr⟩ ih2
          have ha := Ml.all_of_take hi (by omega)
          refine r_seq ?_
          refine r_seq ?_
          refine r_region ?_
          refine OL.q (Q1.move rfl) rfl rfl ?_
          refine OL.q (Q1.move rfl) rfl rfl ?_
          refine OL.q (Q1.lenSl Tryz.underlying22 (f2) rfl) rfl rfl ?_
          refine OL.qb (Q1.lt rfl rfl) rfl rfl ?_
          intro b3 hb3
          refine OL.nil ?_
          cases b3 with
          | true =>
            replace hb3 := of_decide_eq_true hb3.symm
            refine r_cond_t rfl ?_
            refine r_skip ?_
            refine r_seq ?_
            refine r_block ?_
            refine r_seq ?_
            refine r_draw1 (fun i => Nat.beq i 9) 11 (fun w' => Mod (Mg 0) w2 w') mixed (by kernel_rfl) ?_
            intro w3 hm1
            have f3 := f2.ext hm1
            have hE3 := hE2.ext hm1
            have hs3 := hm1.size
            have hCw3 : Mod (Mg 0) w2 w3 := Mod.ofExt hm1
            refine ⟨hCw3, ?_⟩
            rw [show List.range' 0 (Array.size _) = [0, 1, 2, 3, 4, 5, 6, 7, 8, 9, 10] from rfl]
            refine OD.q rfl rfl (Q1.move rfl) rfl rfl ?_
            refine OD.q rfl rfl (Q1.move rfl) rfl rfl ?_
            refine OD.q rfl rfl (Q1.subI ((((j : Nat) : Int) - 1)) rfl rfl (by omega)) rfl rfl ?_
            obtain ⟨x1, b4, o1, hx1, hr1, hl1, hu1, hw1⟩ := Sl.at' (P := Tryz.prog) f2 Tryz.underlying22 ti9 encS_len (k := .i64) (n := (((j : Nat) : Int) - 1)) ((j - 1)) (by omega) (by first | assumption | omega)
            refine OD.q rfl rfl (Q1.indexAddr rfl rfl hr1) rfl rfl ?_
            refine OD.q rfl rfl (Q1.load1 ti9 rfl (fun _ hc => hw1.keepG hc (by omega))) rfl rfl ?_
            refine OD.q rfl rfl (Q1.move rfl) rfl rfl ?_
            refine OD.q rfl rfl (Q1.move rfl) rfl rfl ?_
            obtain ⟨x2, b5, o2, hx2, hr2, hl2, hu2, hw2⟩ := Sl.at' (P := Tryz.prog) f2 Tryz.underlying22 ti9 encS_len (k := .i64) (n := ((j : Nat) : Int)) (j) (by omega) (by first | assumption | omega)
            refine OD.q rfl rfl (Q1.indexAddr rfl rfl hr2) rfl rfl ?_
            refine OD.q rfl rfl (Q1.load1 ti9 rfl (fun _ hc => hw2.keepG hc (by omega))) rfl rfl ?_
            refine OD.act rfl rfl rfl rfl (AW.callF cl58 rfl (rcmp_c (w0 := w3)  x1 x2 (by exact hsk_l.at hx1) (by exact hsk_l.at hx2)) ?_)
            rintro _ w4 ⟨rfl, hm2, hp1⟩
            have f4 := f3.ext hm2
            have hE4 := hE3.ext hm2
            have hs4 := hm2.size
            have hCw4 := hCw3.ext hm2
            refine ⟨.inr hCw4, ?_⟩
            refine OD.qb rfl rfl (Q1.ge rfl rfl) rfl rfl ?_
            intro b6 hb4
            refine OD.nil ?_
            cases b6 with
            | true =>
              replace hb4 := of_decide_eq_true hb4.symm
              refine r_cond_t rfl ?_
              refine r_seq ?_
              refine r_region ?_
              refine OL.q (Q1.assign rfl) rfl rfl ?_
              refine OL.nil ?_
              refine r_ret1 Tryz.func42 rfl rfl ?_
              exact Ret.mk ⟨(congrArg (Value.int .i64) (by first | exact Ml.goodL_full (by omega) | exact Ml.goodL_word (by omega) hx1 (by assumption) | exact Ml.goodL_sort' (by omega) ha hj hx1 hx2 (by omega) | exact Ml.goodL_ok (by omega) ha hr (by omega) | (exfalso; omega))), hE4⟩
            | false =>
              replace hb4 := of_decide_eq_false hb4.symm
              refine r_cond_f rfl ?_
              refine r_skip ?_
              refine r_inBlock ?_
              refine r_region ?_
              refine OL.q (Q1.move rfl) rfl rfl ?_
              refine OL.q (Q1.addI (((j + 1 : Nat) : Int)) rfl rfl (by omega)) rfl rfl ?_
              refine OL.q (Q1.assign rfl) rfl rfl ?_
              refine OL.nil ?_
              exact (ih2 _ _ _ ⟨(j + 1 : Nat), rfl, rfl, hE4, (by omega), f4, (by first | omega | (exfalso; omega)), (by first | exact Ml.rising_step hr hj (by assumption) (by assumption) (by omega) | (exfalso; omega))⟩ (by omega)).sub ⟨rfl, rfl, trivial⟩
          | false =>
            replace hb3 := of_decide_eq_false hb3.symm
            refine r_cond_f rfl ?_
            refine r_exit rfl ?_
            refine r_seq ?_
            refine r_region ?_
            refine OL.q (Q1.assign rfl) rfl rfl ?_
            refine OL.nil ?_
            refine r_ret1 Tryz.func42 rfl rfl ?_
            exact Ret.mk ⟨(congrArg (Value.int .i64) (by first | exact Ml.goodL_full (by omega) | exact Ml.goodL_word (by omega) hx1 (by assumption) | exact Ml.goodL_sort' (by omega) ha hj hx1 hx2 (by omega) | exact Ml.goodL_ok (by omega) ha hr (by omega) | (exfalso; omega))), hE2⟩
set_option maxRecDepth 20000 in
set_option maxHeartbeats 4000000 in
theorem r8same_c {w0 : World}  {v_a : Value} {a : List Str} {v_b : Value} {b : List Str} (h_a : Sl encS w0 (Iv 0 w0.heap.size) v_a a) (h_b : Sl encS w0 (Iv 0 w0.heap.size) v_b b) :
    Calls Tryz.prog 91 #[v_a, v_b] w0 (Ret fun rv w1 => (∃ rb : Bool, rb = (decide (a = b)) ∧ rv = .bool rb) ∧ Ext w0 w1) := by
  have hE0 : Ext w0 w0 := Mod.refl _ _
  have hle1 := h_a.le
  have hle2 := h_b.le
  refine calls_enter Tryz.func91 rfl Tryz.ntmps91 rfl ?_
  refine r_seq ?_
  refine r_region ?_
  refine OL.q (Q1.assign rfl) rfl rfl ?_
  refine OL.nil ?_
  refine r_seq ?_
  refine r_seq ?_
  refine r_region ?_
  refine OL.q (Q1.move rfl) rfl rfl ?_
  refine OL.q (Q1.lenSl Tryz.underlying22 (h_a) rfl) rfl rfl ?_
  refine OL.q (Q1.move rfl) rfl rfl ?_
  refine OL.q (Q1.lenSl Tryz.underlying22 (h_b) rfl) rfl rfl ?_
  refine OL.qb (Q1.ne rfl rfl) rfl rfl ?_
  intro b1 hb1
  refine OL.nil ?_
  cases b1 with
  | true =>
    replace hb1 := bne_iff_ne.1 hb1.symm
    refine r_cond_t rfl ?_
    refine r_seq ?_
    refine r_region ?_
    refine OL.q (Q1.assign rfl) rfl rfl ?_
    refine OL.nil ?_
    refine r_ret1 Tryz.func91 rfl rfl ?_
    exact Ret.mk ⟨⟨_, (by first | (have e := Ml.same_not hx1 hx2 (by assumption); simp [e]) | (have e := Ml.same_all hi (by omega) (by omega); simp [e]) | (have e : a ≠ b := (fun e => absurd (congrArg List.length e) (by omega)); simp [e]) | (exfalso; omega)), rfl⟩, hE0⟩
  | false =>
    replace hb1 := bne_eq_false_iff_eq.1 hb1.symm
    refine r_cond_f rfl ?_
    refine r_skip ?_
    refine r_seq ?_
    refine r_seq ?_
    refine r_region ?_
    refine OL.q (Q1.assign rfl) rfl rfl ?_
    refine OL.nil ?_
    refine r_block ?_
    refine r_loop (I := fun m E W => ∃ (k : Nat), E = [(0, v_a), (1, v_b), (5, .int .i64 (((k : Nat) : Int)))] ∧ m = a.length - k ∧ Ext w0 W ∧ w0.heap.size ≤ W.heap.size ∧ Sl encS W (Iv 0 w0.heap.size) v_a a ∧ Sl encS W (Iv 0 w0.heap.size) v_b b ∧ (a.take k = b.take k)) ?_ ?_
    · refine ⟨_, _, ⟨(0 : Nat), rfl, rfl, hE0, Nat.le_refl _, h_a, h_b, (by rfl)⟩, ⟨rfl, rfl, rfl, trivial⟩⟩
    · rintro _ _ w1 ⟨k, rfl, rfl, hE1, hs1, f1, f2, hi⟩ ih1
      refine r_seq ?_
      refine r_seq ?_
      refine r_region ?_
      refine OL.q (Q1.move rfl) rfl rfl ?_
      refine OL.q (Q1.move rfl) rfl rfl ?_
      refine OL.q (Q1.lenSl Tryz.underlying22 (f1) rfl) rfl rfl ?_
      refine OL.qb (Q1.lt rfl rfl) rfl rfl ?_
      intro b2 hb2
      refine OL.nil ?_
      cases b2 with
      | true =>
        replace hb2 := of_decide_eq_true hb2.symm
        refine r_cond_t rfl ?_
        refine r_skip ?_
        refine r_seq ?_
        refine r_block ?_
        refine r_seq ?_
        refine r_draw1 (fun i => false) 9 (fun w' => Mod (Mg 0) w1 w') mixed (by kernel_rfl) ?_
        intro w2 hm1
        have f3 := f1.ext hm1
        have f4 := f2.ext hm1
        have hE2 := hE1.ext hm1
        have hs2 := hm1.size
        have hCw2 : Mod (Mg 0) w1 w2 := Mod.ofExt hm1
        refine ⟨hCw2, ?_⟩
        rw [show List.range' 0 (Array.size _) = [0, 1, 2, 3, 4, 5, 6, 7, 8] from rfl]
        refine OD.q rfl rfl (Q1.move rfl) rfl rfl ?_
        refine OD.q rfl rfl (Q1.move rfl) rfl rfl ?_
        obtain ⟨x1, b3, o1, hx1, hr1, hl1, hu1, hw1⟩ := Sl.at' (P := Tryz.prog) f1 Tryz.underlying22 ti9 encS_len (k := .i64) (n := ((k : Nat) : Int)) (k) (by omega) (by first | assumption | omega)
        refine OD.q rfl rfl (Q1.indexAddr rfl rfl hr1) rfl rfl ?_
        refine OD.q rfl rfl (Q1.load1 ti9 rfl (fun _ hc => hw1.keepG hc (by omega))) rfl rfl ?_
        refine OD.q rfl rfl (Q1.move rfl) rfl rfl ?_
        refine OD.q rfl rfl (Q1.move rfl) rfl rfl ?_
        obtain ⟨x2, b4, o2, hx2, hr2, hl2, hu2, hw2⟩ := Sl.at' (P := Tryz.prog) f2 Tryz.underlying22 ti9 encS_len (k := .i64) (n := ((k : Nat) : Int)) (k) (by omega) (by first | assumption | omega)
        refine OD.q rfl rfl (Q1.indexAddr rfl rfl hr2) rfl rfl ?_
        refine OD.q rfl rfl (Q1.load1 ti9 rfl (fun _ hc => hw2.keepG hc (by omega))) rfl rfl ?_
        refine OD.qb rfl rfl (Q1.neS rfl rfl) rfl rfl ?_
        intro b5 hb3
        refine OD.nil ?_
        cases b5 with
        | true =>
          replace hb3 := nbeq_t hb3
          refine r_cond_t rfl ?_
          refine r_seq ?_
          refine r_region ?_
          refine OL.q (Q1.assign rfl) rfl rfl ?_
          refine OL.nil ?_
          refine r_ret1 Tryz.func91 rfl rfl ?_
          exact Ret.mk ⟨⟨_, (by first | (have e := Ml.same_not hx1 hx2 (by assumption); simp [e]) | (have e := Ml.same_all hi (by omega) (by omega); simp [e]) | (have e : a ≠ b := (fun e => absurd (congrArg List.length e) (by omega)); simp [e]) | (exfalso; omega)), rfl⟩, hE2⟩
        | false =>
          replace hb3 := nbeq_f hb3
          refine r_cond_f rfl ?_
          refine r_skip ?_
          refine r_inBlock ?_
          refine r_region ?_
          refine OL.q (Q1.move rfl) rfl rfl ?_
          refine OL.q (Q1.addI (((k + 1 : Nat) : Int)) rfl rfl (by omega)) rfl rfl ?_
          refine OL.q (Q1.assign rfl) rfl rfl ?_
          refine OL.nil ?_
          exact (ih1 _ _ _ ⟨(k + 1 : Nat), rfl, rfl, hE2, (by omega), f3, f4, (by first | exact Ml.same_take hi hx1 hx2 (by assumption) | (exfalso; omega))⟩ (by omega)).sub ⟨rfl, rfl, rfl, trivial⟩
      | false =>
        replace hb2 := of_decide_eq_false hb2.symm
        refine r_cond_f rfl ?_
        refine r_exit rfl ?_
        refine r_seq ?_
        refine r_region ?_
        refine OL.q (Q1.assign rfl) rfl rfl ?_
        refine OL.nil ?_
        refine r_ret1 Tryz.func91 rfl rfl ?_
        exact Ret.mk ⟨⟨_, (by first | (have e := Ml.same_not hx1 hx2 (by assumption); simp [e]) | (have e := Ml.same_all hi (by omega) (by omega); simp [e]) | (have e : a ≠ b := (fun e => absurd (congrArg List.length e) (by omega)); simp [e]) | (exfalso; omega)), rfl⟩, hE1⟩
set_option maxRecDepth 20000 in
set_option maxHeartbeats 8000000 in
theorem r8add_c : ∀ (f : Nat) {R : Nat → Prop} {w0 : World} {F : Nat → Prop} {bG : Nat} {v_r : Value} {rests : List Str} {hs : List Value} {s : GS} (hA : (boxR (R := R) [rgR 123 125 bG s hs, slR encS [(v_r, rests)]]).p F w0) (hF : ∀ b, F b → b < w0.heap.size ∧ ¬ R b) (hR : ∀ b, R b → b < w0.heap.size) (hlen : hs.length = s.length) (hd : Deep f rests) (hg : GoodR rests) (hnd : (names s).Nodup) (hsz : s.length + 1 + sumLen rests ≤ 1000000) (hrl : rests.length ≤ 1000) (hok : ∀ x ∈ s, x.1.length ≤ 1000),
    Calls Tryz.prog 74 #[ptr bG 0, v_r] w0 (Ret fun rv w1 => rv = .int .i64 ((addM (f + 1) s rests).2 : Int) ∧ Mod F w0 w1 ∧ ∃ t, ∃ F2, (rgR 123 125 (R := R) bG (addM (f + 1) s rests).1 (hs ++ t)).p F2 w1 ∧ ∀ b, F2 b → b < w1.heap.size ∧ (F b ∨ w0.heap.size ≤ b)) := by
  intro f
  induction f using Nat.strongRecOn with
  | _ f ih0 =>
  intro R w0 F bG v_r rests hs s hA hF hR hlen hd hg hnd hsz hrl hok
  have hS00 := St.start1 hA hF hR
  have hS1 : St R F w0 w0 [rgR 123 125 bG s hs, slR encS [(v_r, rests)]] := St.open (L1 := []) hS00
  have hpos := sumLen_dropE rests
  have hdl := dropE_len rests
  obtain ⟨⟨vN1, nds1⟩, hS2⟩ := hS1.exo (i := 0) rfl
  obtain ⟨hmap1, hS3⟩ := hS2.and (i := 0) rfl
  change St R F w0 w0 [boxR [bkR bG [vN1] 123, accR encRd 125 2 vN1 nds1, rrR nds1 s], slR encS [(v_r, rests)]] at hS3
  change nds1.map (fun n : RNd => n.r.val) = hs at hmap1
  have hS4 : St R F w0 w0 [slR encS [(v_r, rests)], boxR [bkR bG [vN1] 123, accR encRd 125 2 vN1 nds1, rrR nds1 s]] := hS3.sel [1, 0] (by rfl) (by decide)
  have hS5 : St R F w0 w0 [slR encS [(v_r, rests)], boxR [bkR bG [vN1] 123, accR encRd 125 2 vN1 nds1, rrR nds1 s]] := hS4
  have hS6 : St R F w0 w0 [slR encS [(v_r, rests)], bkR bG [vN1] 123, accR encRd 125 2 vN1 nds1, rrR nds1 s] := St.open (L1 := [slR encS [(v_r, rests)]]) hS5
  have hrl1 : nds1.length = s.length := hS6.rrLen (i := 3) rfl
  have f1 := hS6.sl (i := 0) (k := 0) rfl rfl
  have hle1 := f1.le
  refine calls_enter Tryz.func74 rfl Tryz.ntmps74 rfl ?_
  refine r_seq ?_
  refine r_region ?_
  refine OL.q (Q1.assign rfl) rfl rfl ?_
  refine OL.nil ?_
  refine r_seq ?_
  refine r_seq ?_
  refine r_region ?_
  refine OL.q (Q1.assign rfl) rfl rfl ?_
  refine OL.nil ?_
  refine r_block ?_
  have hS8 : St R F w0 w0 [accR encRd 125 2 vN1 nds1, bkR bG [vN1] 123, rrR nds1 s, slR encS [(v_r, rests)]] := hS6.sel [2, 1, 3, 0] (by rfl) (by decide)
  refine r_loop (I := fun m E W => ∃ (i0 : Nat), E = [(0, ptr bG 0), (1, v_r), (5, .int .i64 (((i0 : Nat) : Int)))] ∧ m = nds1.length - i0 ∧ St R F w0 W [accR encRd 125 2 vN1 nds1, bkR bG [vN1] 123, rrR nds1 s, slR encS [(v_r, rests)]] ∧ (∀ y ∈ s.take i0, y.1 ≠ rests)) ?_ ?_
  · refine ⟨_, _, ⟨(0 : Nat), rfl, rfl, hS8, (by simp)⟩, ⟨rfl, rfl, rfl, trivial⟩⟩
  · rintro _ _ w1 ⟨i0, rfl, rfl, hS7, hno⟩ ih1
    refine r_seq ?_
    refine r_seq ?_
    refine r_region ?_
    refine OL.q (Q1.move rfl) rfl rfl ?_
    refine OL.q (Q1.move rfl) rfl rfl ?_
    refine OL.q (Q1.nilCheckP rfl) rfl rfl ?_
    refine OL.q (Q1.fieldAddr fl123_0 rfl) rfl rfl ?_
    have f2 := hS7.bk (i := 1) rfl
    refine OL.q (Q1.load1 ti121 rfl (fun _ e => e ▸ (f2.cell 0 _ rfl))) rfl rfl ?_
    obtain ⟨g1, f3, hl1, k1⟩ := hS7.accK (i := 0) rfl
    refine OL.q (Q1.lenSl Tryz.underlying121 (f3.sl) rfl) rfl rfl ?_
    refine OL.qb (Q1.lt rfl rfl) rfl rfl ?_
    intro b1 hb1
    refine OL.nil ?_
    cases b1 with
    | true =>
      replace hb1 := of_decide_eq_true hb1.symm
      refine r_cond_t rfl ?_
      refine r_skip ?_
      refine r_seq ?_
      refine r_block ?_
      refine r_seq ?_
      refine r_region ?_
      refine OL.q (Q1.move rfl) rfl rfl ?_
      refine OL.q (Q1.nilCheckP rfl) rfl rfl ?_
      refine OL.q (Q1.fieldAddr fl123_0 rfl) rfl rfl ?_
      refine OL.q (Q1.load1 ti121 rfl (fun _ e => e ▸ (f2.cell 0 _ rfl))) rfl rfl ?_
      refine OL.q (Q1.move rfl) rfl rfl ?_
      obtain ⟨x1, b2, o1, hx1, hr1, hl2, hw1⟩ := Sl.atF (P := Tryz.prog) f3.sl Tryz.underlying121 ti125 encRd_len (k := .i64) (n := ((i0 : Nat) : Int)) (i0) (by omega) (by first | assumption | omega)
      refine OL.q (Q1.indexAddr rfl rfl hr1) rfl rfl ?_
      refine OL.q (Q1.fieldAddr fl125_0 rfl) rfl rfl ?_
      have hr2 := hw1.sub 0 1 (Nat.le_of_ble_eq_true rfl)
      refine OL.q (Q1.load1 ti22 rfl (fun _ e => e ▸ hr2)) rfl rfl ?_
      obtain ⟨gx1, hgx1, hn1, hn2⟩ := hS7.rrAt (i := 2) rfl hx1
      refine OL.q (Q1.move rfl) rfl rfl ?_
      have f5 := hS7.sl (i := 3) (k := 0) rfl rfl
      refine OL.act rfl rfl (AW.callF cl91 rfl (r8same_c (w0 := w1) (a := gx1.1) (b := rests)  hn1 f5) ?_)
      rintro _ w2 ⟨⟨b3, hb2, rfl⟩, hm1⟩
      have hS9 := hS7.ext hm1
      refine OL.nil ?_
      cases b3 with
      | true =>
        replace hb2 := hb2.symm
        refine r_cond_t rfl ?_
        refine r_seq ?_
        refine r_region ?_
        refine OL.q (Q1.move rfl) rfl rfl ?_
        refine OL.q (Q1.assign rfl) rfl rfl ?_
        refine OL.nil ?_
        refine r_ret1 Tryz.func74 rfl rfl ?_
        have hfi := find_at hno hgx1 (of_decide_eq_true (by assumption))
        have hS10 : St R F w0 w2 [slR encS [(v_r, rests)], bkR bG [vN1] 123, accR encRd 125 2 vN1 nds1, rrR nds1 s] := hS9.sel [3, 1, 0, 2] (by rfl) (by decide)
        have hS11 : St R F w0 w2 [slR encS [(v_r, rests)], boxR [bkR bG [vN1] 123, accR encRd 125 2 vN1 nds1, rrR nds1 s]] := St.close (L1 := [slR encS [(v_r, rests)]]) hS10
        have hS12 : St R F w0 w2 [slR encS [(v_r, rests)], andR (nds1.map (fun n : RNd => n.r.val) = hs) (boxR [bkR bG [vN1] 123, accR encRd 125 2 vN1 nds1, rrR nds1 s])] := hS11.imp (i := 1) rfl (fun F_ h_ => ⟨hmap1, h_⟩)
        have hS13 : St R F w0 w2 [slR encS [(v_r, rests)], rgR 123 125 bG s hs] := hS12.exi (vN1, nds1) (i := 1) rfl
        have hS14 : St R F w0 w2 [rgR 123 125 bG s hs] := hS13.sel [1] (by rfl) (by decide)
        obtain ⟨hmF, F2, hA2, hF2⟩ := hS14.fin
        exact Ret.mk ⟨by rw [addM_hit hfi], hmF, [], F2, by rw [addM_hit hfi, List.append_nil]; exact hA2, hF2⟩
      | false =>
        replace hb2 := hb2.symm
        refine r_cond_f rfl ?_
        refine r_skip ?_
        refine r_inBlock ?_
        refine r_region ?_
        refine OL.q (Q1.move rfl) rfl rfl ?_
        refine OL.q (Q1.addI (((i0 + 1 : Nat) : Int)) rfl rfl (by omega)) rfl rfl ?_
        refine OL.q (Q1.assign rfl) rfl rfl ?_
        refine OL.nil ?_
        exact (ih1 _ _ _ ⟨(i0 + 1 : Nat), rfl, rfl, hS9, (by first | exact find_step hno hgx1 (of_decide_eq_false (by assumption)) | (exfalso; omega))⟩ (by omega)).sub ⟨rfl, rfl, rfl, trivial⟩
    | false =>
      replace hb1 := of_decide_eq_false hb1.symm
      refine r_cond_f rfl ?_
      refine r_exit rfl ?_
      refine r_seq ?_
      refine r_region ?_
      refine OL.q (Q1.move rfl) rfl rfl ?_
      refine OL.q (Q1.nilCheckP rfl) rfl rfl ?_
      refine OL.q (Q1.fieldAddr fl123_0 rfl) rfl rfl ?_
      refine OL.q (Q1.load1 ti121 rfl (fun _ e => e ▸ (f2.cell 0 _ rfl))) rfl rfl ?_
      refine OL.q (Q1.lenSl Tryz.underlying121 (f3.sl) rfl) rfl rfl ?_
      refine OL.q (Q1.assign rfl) rfl rfl ?_
      have hfi := find_no hno (by omega)
      refine OL.nil ?_
      refine r_seq ?_
      refine r_region ?_
      refine OL.q (Q1.move rfl) rfl rfl ?_
      refine OL.q (Q1.move rfl) rfl rfl ?_
      refine OL.q (Q1.nilCheckP rfl) rfl rfl ?_
      refine OL.q (Q1.fieldAddr fl123_0 rfl) rfl rfl ?_
      refine OL.q (Q1.load1 ti121 rfl (fun _ e => e ▸ (f2.cell 0 _ rfl))) rfl rfl ?_
      refine OL.q (Q1.move rfl) rfl rfl ?_
      have f4 := hS7.sl (i := 3) (k := 0) rfl rfl
      obtain ⟨ad1, cp1, hv1⟩ := f4.shape
      subst hv1
      refine OL.q (Q1.build (vs := #[(0, (.slice ad1 rests.length cp1))]) (v := .agg #[(.slice ad1 rests.length cp1), .slice none 0 0]) rfl (fun _ => by kernel_rfl)) rfl rfl ?_
      refine OL.act rfl rfl (AW.buildSlice [(.agg #[(.slice ad1 rests.length cp1), .slice none 0 0] : Value)] Tryz.underlying121 ti125 rfl rfl rfl (by decide) ?_)
      intro w2 b2 hm1 hb2 hz1 hk1
      have hS9 := hS7.ext hm1
      have hl2 := Sl.of_blk (enc := encRd) hk1 ([(RNd.mk (SH.mk ad1 rests.length cp1) (SH.mk none 0 0))] : List RNd) 1 rfl rfl (by unfold maxLen; omega)
      have hS10 : St R F w0 w2 [accR encRd 125 2 vN1 nds1, bkR bG [vN1] 123, rrR nds1 s, slR encS [((.slice ad1 rests.length cp1), rests)], slR encRd [((.slice (some ⟨b2, 0, none⟩) 1 1), [(RNd.mk (SH.mk ad1 rests.length cp1) (SH.mk none 0 0))])]] := hS7.newSlB hm1 hb2 hz1 hl2
      obtain ⟨g3, f5, hl3, k2⟩ := hS10.accK (i := 0) rfl
      have f6 := hS10.sl (i := 4) (k := 0) rfl rfl
      refine OL.act rfl rfl (AW.append f5 Tryz.underlying121 ti125 rfl encRd_len encRd_one rfl rfl (f6) (by first | omega | (simp only [List.length_append, List.length_cons, List.length_nil]; omega) | (simp; omega)) (by unfold maxLen; first | omega | (simp only [List.length_append, List.length_cons, List.length_nil]; omega) | (simp; omega)) ?_)
      intro v1 g2 w3 ha1 hm2 hg1 hz2
      have hS11 : St R F w0 w3 [accR encRd 125 2 v1 ((nds1 ++ [(RNd.mk (SH.mk ad1 rests.length cp1) (SH.mk none 0 0))])), bkR bG [vN1] 123, rrR nds1 s, slR encS [((.slice ad1 rests.length cp1), rests)], slR encRd [((.slice (some ⟨b2, 0, none⟩) 1 1), [(RNd.mk (SH.mk ad1 rests.length cp1) (SH.mk none 0 0))])]] := k2 _ _ _ _ hm2 ha1 hg1
      clear hg1
      refine OL.q (Q1.nilCheckP rfl) rfl rfl ?_
      refine OL.q (Q1.fieldAddr fl123_0 rfl) rfl rfl ?_
      obtain ⟨g4, f7, hl4, k3⟩ := hS11.accK (i := 0) rfl
      obtain ⟨ad2, cp2, hv2⟩ := f7.shape
      subst hv2
      have f8 := hS11.bk (i := 1) rfl
      refine OL.act rfl rfl (AW.store ti121 rfl rfl rfl rfl rfl f8 (Nat.le_of_ble_eq_true rfl) ?_)
      intro w4 hm3 hz3 hk2
      have hS12 : St R F w0 w4 [accR encRd 125 2 ((.slice ad2 ((nds1 ++ [(RNd.mk (SH.mk ad1 rests.length cp1) (SH.mk none 0 0))])).length cp2)) ((nds1 ++ [(RNd.mk (SH.mk ad1 rests.length cp1) (SH.mk none 0 0))])), bkR bG [(.slice ad2 ((nds1 ++ [(RNd.mk (SH.mk ad1 rests.length cp1) (SH.mk none 0 0))])).length cp2)] 123, rrR nds1 s, slR encS [((.slice ad1 rests.length cp1), rests)], slR encRd [((.slice (some ⟨b2, 0, none⟩) 1 1), [(RNd.mk (SH.mk ad1 rests.length cp1) (SH.mk none 0 0))])]] := hS11.bkK (i := 1) rfl hm3 hk2
      have hS13 : St R F w0 w4 [accR encRd 125 2 ((.slice ad2 ((nds1 ++ [(RNd.mk (SH.mk ad1 rests.length cp1) (SH.mk none 0 0))])).length cp2)) ((nds1 ++ [(RNd.mk (SH.mk ad1 rests.length cp1) (SH.mk none 0 0))])), bkR bG [(.slice ad2 ((nds1 ++ [(RNd.mk (SH.mk ad1 rests.length cp1) (SH.mk none 0 0))])).length cp2)] 123, slR encRd [((.slice (some ⟨b2, 0, none⟩) 1 1), [(RNd.mk (SH.mk ad1 rests.length cp1) (SH.mk none 0 0))])], rrR nds1 s, slR encS [((.slice ad1 rests.length cp1), rests)]] := hS12.sel [0, 1, 4, 2, 3] (by rfl) (by decide)
      have hS14 : St R F w0 w4 [accR encRd 125 2 ((.slice ad2 ((nds1 ++ [(RNd.mk (SH.mk ad1 rests.length cp1) (SH.mk none 0 0))])).length cp2)) ((nds1 ++ [(RNd.mk (SH.mk ad1 rests.length cp1) (SH.mk none 0 0))])), bkR bG [(.slice ad2 ((nds1 ++ [(RNd.mk (SH.mk ad1 rests.length cp1) (SH.mk none 0 0))])).length cp2)] 123, slR encRd [((.slice (some ⟨b2, 0, none⟩) 1 1), [(RNd.mk (SH.mk ad1 rests.length cp1) (SH.mk none 0 0))])], boxR [rrR nds1 s, slR encS [((.slice ad1 rests.length cp1), rests)]]] := St.close (L1 := [accR encRd 125 2 ((.slice ad2 ((nds1 ++ [(RNd.mk (SH.mk ad1 rests.length cp1) (SH.mk none 0 0))])).length cp2)) ((nds1 ++ [(RNd.mk (SH.mk ad1 rests.length cp1) (SH.mk none 0 0))])), bkR bG [(.slice ad2 ((nds1 ++ [(RNd.mk (SH.mk ad1 rests.length cp1) (SH.mk none 0 0))])).length cp2)] 123, slR encRd [((.slice (some ⟨b2, 0, none⟩) 1 1), [(RNd.mk (SH.mk ad1 rests.length cp1) (SH.mk none 0 0))])]]) hS13
      have hS15 : St R F w0 w4 [accR encRd 125 2 ((.slice ad2 ((nds1 ++ [(RNd.mk (SH.mk ad1 rests.length cp1) (SH.mk none 0 0))])).length cp2)) ((nds1 ++ [(RNd.mk (SH.mk ad1 rests.length cp1) (SH.mk none 0 0))])), bkR bG [(.slice ad2 ((nds1 ++ [(RNd.mk (SH.mk ad1 rests.length cp1) (SH.mk none 0 0))])).length cp2)] 123, slR encRd [((.slice (some ⟨b2, 0, none⟩) 1 1), [(RNd.mk (SH.mk ad1 rests.length cp1) (SH.mk none 0 0))])], rrR (nds1 ++ [(RNd.mk (SH.mk ad1 rests.length cp1) (SH.mk none 0 0))]) (s ++ [(rests, [])])] := hS14.imp (i := 3) rfl (fun F_ h_ => rr_push rfl rfl h_)
      have hmap2 : (nds1 ++ [(RNd.mk (SH.mk ad1 rests.length cp1) (SH.mk none 0 0))]).map (fun n : RNd => n.r.val) = hs ++ [(.slice ad1 rests.length cp1)] := by rw [List.map_append, hmap1]; rfl
      have hS16 : St R F w0 w4 [slR encRd [((.slice (some ⟨b2, 0, none⟩) 1 1), [(RNd.mk (SH.mk ad1 rests.length cp1) (SH.mk none 0 0))])], bkR bG [(.slice ad2 ((nds1 ++ [(RNd.mk (SH.mk ad1 rests.length cp1) (SH.mk none 0 0))])).length cp2)] 123, accR encRd 125 2 ((.slice ad2 ((nds1 ++ [(RNd.mk (SH.mk ad1 rests.length cp1) (SH.mk none 0 0))])).length cp2)) ((nds1 ++ [(RNd.mk (SH.mk ad1 rests.length cp1) (SH.mk none 0 0))])), rrR (nds1 ++ [(RNd.mk (SH.mk ad1 rests.length cp1) (SH.mk none 0 0))]) (s ++ [(rests, [])])] := hS15.sel [2, 1, 0, 3] (by rfl) (by decide)
      have hS17 : St R F w0 w4 [slR encRd [((.slice (some ⟨b2, 0, none⟩) 1 1), [(RNd.mk (SH.mk ad1 rests.length cp1) (SH.mk none 0 0))])], boxR [bkR bG [(.slice ad2 ((nds1 ++ [(RNd.mk (SH.mk ad1 rests.length cp1) (SH.mk none 0 0))])).length cp2)] 123, accR encRd 125 2 ((.slice ad2 ((nds1 ++ [(RNd.mk (SH.mk ad1 rests.length cp1) (SH.mk none 0 0))])).length cp2)) ((nds1 ++ [(RNd.mk (SH.mk ad1 rests.length cp1) (SH.mk none 0 0))])), rrR (nds1 ++ [(RNd.mk (SH.mk ad1 rests.length cp1) (SH.mk none 0 0))]) (s ++ [(rests, [])])]] := St.close (L1 := [slR encRd [((.slice (some ⟨b2, 0, none⟩) 1 1), [(RNd.mk (SH.mk ad1 rests.length cp1) (SH.mk none 0 0))])]]) hS16
      have hS18 : St R F w0 w4 [slR encRd [((.slice (some ⟨b2, 0, none⟩) 1 1), [(RNd.mk (SH.mk ad1 rests.length cp1) (SH.mk none 0 0))])], andR (((nds1 ++ [(RNd.mk (SH.mk ad1 rests.length cp1) (SH.mk none 0 0))])).map (fun n : RNd => n.r.val) = (hs ++ (.slice ad1 rests.length cp1) :: [])) (boxR [bkR bG [(.slice ad2 ((nds1 ++ [(RNd.mk (SH.mk ad1 rests.length cp1) (SH.mk none 0 0))])).length cp2)] 123, accR encRd 125 2 ((.slice ad2 ((nds1 ++ [(RNd.mk (SH.mk ad1 rests.length cp1) (SH.mk none 0 0))])).length cp2)) ((nds1 ++ [(RNd.mk (SH.mk ad1 rests.length cp1) (SH.mk none 0 0))])), rrR (nds1 ++ [(RNd.mk (SH.mk ad1 rests.length cp1) (SH.mk none 0 0))]) (s ++ [(rests, [])])])] := hS17.imp (i := 1) rfl (fun F_ h_ => ⟨hmap2, h_⟩)
      have hS19 : St R F w0 w4 [slR encRd [((.slice (some ⟨b2, 0, none⟩) 1 1), [(RNd.mk (SH.mk ad1 rests.length cp1) (SH.mk none 0 0))])], rgR 123 125 bG ((s ++ (rests, []) :: [])) ((hs ++ (.slice ad1 rests.length cp1) :: []))] := hS18.exi ((.slice ad2 ((nds1 ++ [(RNd.mk (SH.mk ad1 rests.length cp1) (SH.mk none 0 0))])).length cp2), (nds1 ++ [(RNd.mk (SH.mk ad1 rests.length cp1) (SH.mk none 0 0))])) (i := 1) rfl
      refine OL.nil ?_
      refine r_seq ?_
      refine r_region ?_
      refine OL.q (Q1.assign rfl) rfl rfl ?_
      refine OL.nil ?_
      refine r_seq ?_
      refine r_seq ?_
      refine r_region ?_
      refine OL.q (Q1.assign rfl) rfl rfl ?_
      refine OL.nil ?_
      refine r_block ?_
      have hS21 : St R F w0 w4 [slR encRd [((.slice (some ⟨b2, 0, none⟩) 1 1), [(RNd.mk (SH.mk ad1 rests.length cp1) (SH.mk none 0 0))])], rgR 123 125 bG ((s ++ (rests, []) :: [])) ((hs ++ (.slice ad1 rests.length cp1) :: [])), accR encE 114 2 (.slice none 0 0) []] := hS19.newAcc (Mod.refl _ _) Acc.nil (.inl rfl)
      have hS22 : St R F w0 w4 [rgR 123 125 bG ((s ++ (rests, []) :: [])) ((hs ++ (.slice ad1 rests.length cp1) :: [])), accR encE 114 2 (.slice none 0 0) []] := hS21.sel [1, 2] (by rfl) (by decide)
      refine r_loop (I := fun m E W => ∃ (v_ES : Value) (ES : List Ed) (k : Nat) (xs : GS) (ths : List Value), E = [(0, ptr bG 0), (1, (.slice ad1 rests.length cp1)), (6, .int .i64 (((nds1.length : Nat) : Int))), (7, v_ES), (8, .int .i64 (((k : Nat) : Int)))] ∧ m = rests.length - k ∧ St R F w0 W [rgR 123 125 bG (s ++ (rests, []) :: xs) (hs ++ (.slice ad1 rests.length cp1) :: ths), accR encE 114 2 v_ES ES] ∧ (EInv f (s ++ [(rests, [])]) (groups (dropE rests)) (s ++ (rests, []) :: xs) ES (remR rests k)) ∧ ((names (s ++ (rests, []) :: xs)).Nodup) ∧ (s.length + 1 + xs.length + sumLen (remR rests k) ≤ 1000000) ∧ (ths.length = xs.length) ∧ (ES.length ≤ k) ∧ (k ≤ rests.length) ∧ (∀ x ∈ (s ++ (rests, []) :: xs), x.1.length ≤ 1000)) ?_ ?_
      · refine ⟨_, _, ⟨(.slice none 0 0 : Value), ([] : List Ed), (0 : Nat), ([] : GS), ([] : List Value), rfl, rfl, hS22, (by exact EInv.start f _ _), (by exact names_put' hfi hnd), (by (rw [rem_zero]; simp only [List.length_nil]; omega)), (by rfl), (by exact Nat.zero_le _), (by exact Nat.zero_le _), (by (intro x hx; rcases List.mem_append.1 hx with h | h; exact hok x h; simp only [List.mem_cons, List.not_mem_nil, or_false] at h; subst h; exact hrl))⟩, ⟨rfl, rfl, rfl, rfl, rfl, trivial⟩⟩
      · rintro _ _ w5 ⟨v_ES, ES, k, xs, ths, rfl, rfl, hS20, hEI, hnd1, hs1, hth, hel, hkl, hok1⟩ ih2
        refine r_seq ?_
        refine r_seq ?_
        refine r_region ?_
        refine OL.q (Q1.move rfl) rfl rfl ?_
        refine OL.q (Q1.move rfl) rfl rfl ?_
        have f9 := (show Sl encS w5 (Iv 0 w5.heap.size) (.slice ad1 rests.length cp1) rests from hS20.rgAt (i := 0) rfl (at_mid hlen.symm) (at_mid rfl))
        refine OL.q (Q1.lenSl Tryz.underlying22 (f9) rfl) rfl rfl ?_
        refine OL.qb (Q1.lt rfl rfl) rfl rfl ?_
        intro b3 hb3
        refine OL.nil ?_
        cases b3 with
        | true =>
          replace hb3 := of_decide_eq_true hb3.symm
          refine r_cond_t rfl ?_
          refine r_skip ?_
          refine r_block ?_
          refine r_seq ?_
          refine r_seq ?_
          refine r_region ?_
          refine OL.q (Q1.move rfl) rfl rfl ?_
          refine OL.q (Q1.move rfl) rfl rfl ?_
          obtain ⟨x1, b4, o1, hx1, hr1, hl5, hw1⟩ := Sl.atF (P := Tryz.prog) f9 Tryz.underlying22 ti9 encS_len (k := .i64) (n := ((k : Nat) : Int)) (k) (by omega) (by first | assumption | omega)
          refine OL.q (Q1.indexAddr rfl rfl hr1) rfl rfl ?_
          refine OL.q (Q1.load1 ti9 rfl (fun _ e => e ▸ hw1)) rfl rfl ?_
          refine OL.qb (Q1.eqS rfl rfl) rfl rfl ?_
          intro b5 hb4
          refine OL.nil ?_
          cases b5 with
          | true =>
            replace hb4 := eq_of_beq hb4.symm
            refine r_cond_t rfl ?_
            refine r_seq ?_
            refine r_region ?_
            refine OL.q (Q1.move rfl) rfl rfl ?_
            have hsk := rem_skip hg hx1 (by assumption)
            refine OL.q (Q1.addI (((k + 1 : Nat) : Int)) rfl rfl (by omega)) rfl rfl ?_
            refine OL.q (Q1.assign rfl) rfl rfl ?_
            refine OL.nil ?_
            refine r_exit rfl ?_
            exact (ih2 _ _ _ ⟨(v_ES : Value), (ES : List Ed), (k + 1 : Nat), (xs : GS), (ths : List Value), rfl, rfl, hS20, (by first | exact EInv.cast hEInx (by simp) (by rw [rem_pos (by omega), ← hst2, List.drop_drop]; congr 1; omega) | exact EInv.cast hEI rfl hsk.1 | (exfalso; omega)), (by first | exact hnd1 | (rw [show s ++ (rests, []) :: (xs ++ xs2) = (s ++ (rests, []) :: xs) ++ xs2 by simp]; exact hnm) | (exfalso; omega)), (by first | (rw [← hsk.1]; exact hs1) | (rw [rem_pos (by omega), show rests.drop k1 = moreP (pfx x1) (rests.drop k) from by rw [← hst2, List.drop_drop]; congr 1; omega]; simp only [List.length_append]; omega) | (exfalso; omega)), (by first | exact hth | (simp only [List.length_append]; omega) | (exfalso; omega)), (by first | omega | (simp only [List.length_append, List.length_cons, List.length_nil]; omega) | (exfalso; omega)), (by first | omega | (exfalso; omega)), (by first | exact hok1 | (rw [show s ++ (rests, []) :: (xs ++ xs2) = (s ++ (rests, []) :: xs) ++ xs2 by simp]; exact hak) | (exfalso; omega))⟩ (by omega)).sub ⟨rfl, rfl, rfl, rfl, rfl, trivial⟩
          | false =>
            replace hb4 := ne_of_beq_false hb4.symm
            refine r_cond_f rfl ?_
            refine r_skip ?_
            refine r_seq ?_
            refine r_region ?_
            refine OL.q (Q1.move rfl) rfl rfl ?_
            have hxm := List.mem_of_getElem? hx1
            have hxf := hg.fine x1 hxm
            have hxn : x1 ≠ [] := by assumption
            have hfh := fine_head hxf hxn
            obtain ⟨f2, rfl⟩ := deep_succ hd hxm hxn
            have hwd := wdN_le x1 hxn
            have hxl := sum_mem hxm
            have hdn := hdN_le x1
            have hwl := pfx_len hxn
            refine OL.q (Q1.move rfl) rfl rfl ?_
            obtain ⟨x2, b6, o2, hx2, hr2, hl6, hw2⟩ := Sl.atF (P := Tryz.prog) f9 Tryz.underlying22 ti9 encS_len (k := .i64) (n := ((k : Nat) : Int)) (k) (by omega) (by first | assumption | omega)
            obtain rfl : x1 = x2 := Option.some.inj (hx1.symm.trans hx2)
            refine OL.q (Q1.indexAddr rfl rfl hr2) rfl rfl ?_
            refine OL.q (Q1.load1 ti9 rfl (fun _ e => e ▸ hw2)) rfl rfl ?_
            refine OL.act rfl rfl (AW.callF cl73 rfl (rrunes_c (w0 := w5)  x1 (by first | assumption | omega)) ?_)
            rintro _ w6 ⟨v2, _, rfl, h1, ⟨b7, hb5, rfl⟩, hm4⟩
            have hS23 := hS20.ext hm4
            have hS24 : St R F w0 w6 [rgR 123 125 bG (s ++ (rests, []) :: xs) (hs ++ (.slice ad1 rests.length cp1) :: ths), accR encE 114 2 v_ES ES, slR encRn [(v2, (Ml.runesM x1))]] := hS20.newSl hm4 h1
            have hle_1 := h1.le
            refine OL.q (Q1.move rfl) rfl rfl ?_
            refine OL.q (Q1.extract rfl rfl) rfl rfl ?_
            refine OL.q (Q1.extract rfl rfl) rfl rfl ?_
            refine OL.q (Q1.assign rfl) rfl rfl ?_
            refine OL.q (Q1.assign rfl) rfl rfl ?_
            refine OL.nil ?_
            refine r_seq ?_
            refine r_region ?_
            refine OL.q (Q1.move rfl) rfl rfl ?_
            refine OL.q (Q1.move rfl) rfl rfl ?_
            have f10 := (show Sl encS w6 (Iv 0 w6.heap.size) (.slice ad1 rests.length cp1) rests from hS24.rgAt (i := 0) rfl (at_mid hlen.symm) (at_mid rfl))
            obtain ⟨x3, b8, o3, hx3, hr3, hl7, hw3⟩ := Sl.atF (P := Tryz.prog) f10 Tryz.underlying22 ti9 encS_len (k := .i64) (n := ((k : Nat) : Int)) (k) (by omega) (by first | assumption | omega)
            obtain rfl : x1 = x3 := Option.some.inj (hx1.symm.trans hx3)
            refine OL.q (Q1.indexAddr rfl rfl hr3) rfl rfl ?_
            refine OL.q (Q1.load1 ti9 rfl (fun _ e => e ▸ hw3)) rfl rfl ?_
            refine OL.act rfl rfl (AW.callF cl92 rfl (rpfx_c (w0 := w6)  x1 (1) (by first | omega | assumption) (by first | assumption | omega) (by first | rfl | omega) (by first | exact hxf | exact hg.fine _ (List.mem_of_getElem? (by assumption))) (by first | exact hxn | exact pos_ne hg.sorted (by assumption) (by omega) | exact hxk)) ?_)
            rintro _ w7 ⟨rfl, hm5⟩
            have hS25 := hS24.ext hm5
            refine OL.q (Q1.assign rfl) rfl rfl ?_
            refine OL.nil ?_
            refine r_seq ?_
            refine r_region ?_
            refine OL.q (Q1.assign rfl) rfl rfl ?_
            refine OL.nil ?_
            refine r_seq ?_
            refine r_block ?_
            have hS27 : St R F w0 w7 [rgR 123 125 bG (s ++ (rests, []) :: xs) (hs ++ (.slice ad1 rests.length cp1) :: ths), accR encE 114 2 v_ES ES, slR encRn [(v2, (Ml.runesM x1))], accR encS 9 1 (.slice none 0 0) []] := hS25.newAcc (Mod.refl _ _) Acc.nil (.inl rfl)
            refine r_loop (I := fun m E W => ∃ (k1 : Nat) (v_b2 : Value) (b2 : List Str), E = [(0, ptr bG 0), (1, (.slice ad1 rests.length cp1)), (6, .int .i64 (((nds1.length : Nat) : Int))), (7, v_ES), (8, .int .i64 (((k1 : Nat) : Int))), (9, v2), (11, strV ((Ml.pfx x1))), (12, v_b2)] ∧ m = rests.length - k1 ∧ St R F w0 W [rgR 123 125 bG (s ++ (rests, []) :: xs) (hs ++ (.slice ad1 rests.length cp1) :: ths), accR encE 114 2 v_ES ES, slR encRn [(v2, (Ml.runesM x1))], accR encS 9 1 v_b2 b2] ∧ (SpanInv (pfx x1) (rests.drop k) (k1 - k) b2) ∧ (k ≤ k1 ∧ k1 ≤ rests.length) ∧ (b2.length = k1 - k)) ?_ ?_
            · refine ⟨_, _, ⟨(k : Nat), (.slice none 0 0 : Value), ([] : List Str), rfl, rfl, hS27, (by (rw [Nat.sub_self]; exact SpanInv.start _ _)), (by omega), (by simp)⟩, ⟨rfl, rfl, rfl, rfl, rfl, rfl, rfl, rfl, trivial⟩⟩
            · rintro _ _ w8 ⟨k1, v_b2, b2, rfl, rfl, hS26, hsp, hkk, hbl⟩ ih3
              refine r_seq ?_
              refine r_seq ?_
              refine r_region ?_
              refine OL.q (Q1.move rfl) rfl rfl ?_
              refine OL.q (Q1.move rfl) rfl rfl ?_
              have f11 := (show Sl encS w8 (Iv 0 w8.heap.size) (.slice ad1 rests.length cp1) rests from hS26.rgAt (i := 0) rfl (at_mid hlen.symm) (at_mid rfl))
              refine OL.q (Q1.lenSl Tryz.underlying22 (f11) rfl) rfl rfl ?_
              refine OL.qb (Q1.lt rfl rfl) rfl rfl ?_
              intro b9 hb6
              refine OL.q (Q1.move rfl) rfl rfl ?_
              cases b9 with
              | true =>
                replace hb6 := of_decide_eq_true hb6.symm
                refine OL.q (Q1.move rfl) rfl rfl ?_
                refine OL.q (Q1.move rfl) rfl rfl ?_
                obtain ⟨x4, b10, o4, hx4, hr4, hl8, hw4⟩ := Sl.atF (P := Tryz.prog) f11 Tryz.underlying22 ti9 encS_len (k := .i64) (n := ((k1 : Nat) : Int)) (k1) (by omega) (by first | assumption | omega)
                refine OL.q (Q1.indexAddr rfl rfl hr4) rfl rfl ?_
                refine OL.q (Q1.load1 ti9 rfl (fun _ e => e ▸ hw4)) rfl rfl ?_
                have hxk : x4 ≠ [] := ne_at hg.sorted hx1 hxn (by omega) hx4
                have hx2l := sum_mem (List.mem_of_getElem? hx4)
                refine OL.act rfl rfl (AW.callF cl92 rfl (rpfx_c (w0 := w8)  x4 (1) (by first | omega | assumption) (by first | assumption | omega) (by first | rfl | omega) (by first | exact hxf | exact hg.fine _ (List.mem_of_getElem? (by assumption))) (by first | exact hxn | exact pos_ne hg.sorted (by assumption) (by omega) | exact hxk)) ?_)
                rintro _ w9 ⟨rfl, hm6⟩
                have hS28 := hS26.ext hm6
                refine OL.q (Q1.move rfl) rfl rfl ?_
                refine OL.qb (Q1.eqS rfl rfl) rfl rfl ?_
                intro b11 hb7
                refine OL.q (Q1.pick_t rfl rfl) rfl rfl ?_
                refine OL.nil ?_
                cases b11 with
                | true =>
                  replace hb7 := eq_of_beq hb7.symm
                  refine r_cond_t rfl ?_
                  refine r_skip ?_
                  refine r_block ?_
                  refine r_seq ?_
                  refine r_region ?_
                  refine OL.q (Q1.move rfl) rfl rfl ?_
                  have hpf : (pfx x1).isPrefixOf x4 = true := (by rw [← pfx_eq hxf hxn (hg.fine _ (List.mem_of_getElem? hx4)) hxk]; exact beq_iff_eq.2 (by assumption))
                  have hpl := hp_le hpf rfl
                  refine OL.q (Q1.move rfl) rfl rfl ?_
                  refine OL.q (Q1.move rfl) rfl rfl ?_
                  have f12 := (show Sl encS w9 (Iv 0 w9.heap.size) (.slice ad1 rests.length cp1) rests from hS28.rgAt (i := 0) rfl (at_mid hlen.symm) (at_mid rfl))
                  obtain ⟨x5, b12, o5, hx5, hr5, hl9, hw5⟩ := Sl.atF (P := Tryz.prog) f12 Tryz.underlying22 ti9 encS_len (k := .i64) (n := ((k1 : Nat) : Int)) (k1) (by omega) (by first | assumption | omega)
                  obtain rfl : x4 = x5 := Option.some.inj (hx4.symm.trans hx5)
                  refine OL.q (Q1.indexAddr rfl rfl hr5) rfl rfl ?_
                  refine OL.q (Q1.load1 ti9 rfl (fun _ e => e ▸ hw5)) rfl rfl ?_
                  refine OL.q (Q1.move rfl) rfl rfl ?_
                  refine OL.q (Q1.lenS Tryz.underlying9 rfl) rfl rfl ?_
                  refine OL.q (Q1.sliceS_lo (((Ml.pfx x1)).length) Tryz.underlying9 rfl rfl (by omega) (by first | assumption | omega)) rfl rfl ?_
                  refine OL.act rfl rfl (AW.buildSlice [strV ((x4.drop (((Ml.pfx x1)).length)))] Tryz.underlying22 ti9 rfl rfl rfl (by decide) ?_)
                  intro w10 b13 hm7 hb8 hz4 hk3
                  have hS29 := hS28.ext hm7
                  have hl10 := Sl.of_blk (enc := encS) hk3 ([(x4.drop (((Ml.pfx x1)).length))] : List Str) 1 rfl rfl (by unfold maxLen; omega)
                  have hS30 : St R F w0 w10 [rgR 123 125 bG (s ++ (rests, []) :: xs) (hs ++ (.slice ad1 rests.length cp1) :: ths), accR encE 114 2 v_ES ES, slR encRn [(v2, (Ml.runesM x1))], accR encS 9 1 v_b2 b2, slR encS [((.slice (some ⟨b13, 0, none⟩) 1 1), [(x4.drop (((Ml.pfx x1)).length))])]] := hS28.newSlB hm7 hb8 hz4 hl10
                  obtain ⟨g6, f13, hl11, k4⟩ := hS30.accK (i := 3) rfl
                  have f14 := hS30.sl (i := 4) (k := 0) rfl rfl
                  refine OL.act rfl rfl (AW.append f13 Tryz.underlying22 ti9 rfl encS_len encS_one rfl rfl (f14) (by first | omega | (simp only [List.length_append, List.length_cons, List.length_nil]; omega) | (simp; omega)) (by unfold maxLen; first | omega | (simp only [List.length_append, List.length_cons, List.length_nil]; omega) | (simp; omega)) ?_)
                  intro v3 g5 w11 ha2 hm8 hg2 hz5
                  have hS31 : St R F w0 w11 [rgR 123 125 bG (s ++ (rests, []) :: xs) (hs ++ (.slice ad1 rests.length cp1) :: ths), accR encE 114 2 v_ES ES, slR encRn [(v2, (Ml.runesM x1))], accR encS 9 1 v3 ((b2 ++ [(x4.drop (((Ml.pfx x1)).length))])), slR encS [((.slice (some ⟨b13, 0, none⟩) 1 1), [(x4.drop (((Ml.pfx x1)).length))])]] := k4 _ _ _ _ hm8 ha2 hg2
                  clear hg2
                  refine OL.q (Q1.assign rfl) rfl rfl ?_
                  refine OL.nil ?_
                  refine r_region ?_
                  refine OL.q (Q1.move rfl) rfl rfl ?_
                  refine OL.q (Q1.addI (((k1 + 1 : Nat) : Int)) rfl rfl (by omega)) rfl rfl ?_
                  refine OL.q (Q1.assign rfl) rfl rfl ?_
                  refine OL.nil ?_
                  refine r_inBlock ?_
                  have hS32 : St R F w0 w11 [rgR 123 125 bG (s ++ (rests, []) :: xs) (hs ++ (.slice ad1 rests.length cp1) :: ths), accR encE 114 2 v_ES ES, slR encRn [(v2, (Ml.runesM x1))], accR encS 9 1 v3 ((b2 ++ [(x4.drop (((Ml.pfx x1)).length))]))] := hS31.sel [0, 1, 2, 3] (by rfl) (by decide)
                  exact (ih3 _ _ _ ⟨(k1 + 1 : Nat), (v3 : Value), ((b2 ++ [(x4.drop (((Ml.pfx x1)).length))]) : List Str), rfl, rfl, hS32, (by first | (rw [show k1 + 1 - k = (k1 - k) + 1 from by omega]; exact hsp.nxt rfl (by rw [List.getElem?_drop, show k + (k1 - k) = k1 from by omega]; exact hx4) hpf) | (exfalso; omega)), (by first | omega | (exfalso; omega)), (by first | (simp only [List.length_append, List.length_cons, List.length_nil]; omega) | (exfalso; omega))⟩ (by omega)).sub ⟨rfl, rfl, rfl, rfl, rfl, rfl, rfl, rfl, trivial⟩
                | false =>
                  replace hb7 := ne_of_beq_false hb7.symm
                  refine r_cond_f rfl ?_
                  refine r_exit rfl ?_
                  have f12 := hS28.sl (i := 2) (k := 0) rfl rfl
                  obtain ⟨xl, bl, ol, hxl, hrun1, _, hwl1⟩ := Sl.atF (P := Tryz.prog) f12 Tryz.underlying118 ti21 encRn_len (k := .i64) (n := 0) 0 rfl (by omega)
                  obtain rfl : xl = ((hdN x1 : Nat) : Int) := Option.some.inj (hxl.symm.trans hfh.2.2.1)
                  refine r_draw1 (fun i => Nat.beq i 6 || Nat.beq i 8 || Nat.beq i 9) 11 (fun w' => Row w' bl ol (encRn ((hdN x1 : Nat) : Int))) mixed (by kernel_rfl) ?_
                  intro w10 hm7
                  have hS29 := hS28.ext hm7
                  have f13 := hS29.sl (i := 2) (k := 0) rfl rfl
                  refine ⟨(Sl.rowAt f13 Tryz.underlying118 ti21 encRn_len 0 rfl hxl hrun1), ?_⟩
                  rw [show List.range' 0 (Array.size _) = [0, 1, 2, 3, 4, 5, 6, 7, 8, 9, 10] from rfl]
                  have hspe : (rests.drop k).length ≤ k1 - k ∨ ∃ t, (rests.drop k)[k1 - k]? = some t ∧ (pfx x1).isPrefixOf t = false := by first | exact .inl (by rw [List.length_drop]; omega) | exact .inr ⟨x4, by rw [List.getElem?_drop, show k + (k1 - k) = k1 from by omega]; exact hx4, (by rw [← pfx_eq hxf hxn (hg.fine _ (List.mem_of_getElem? hx4)) hxk]; exact beq_eq_false_iff_ne.2 (by assumption))⟩
                  refine OD.q rfl rfl (Q1.move rfl) rfl rfl ?_
                  refine OD.q rfl rfl (Q1.move rfl) rfl rfl ?_
                  refine OD.q rfl rfl (Q1.indexAddr rfl rfl hrun1) rfl rfl ?_
                  refine OD.q rfl rfl (Q1.load1 ti21 rfl (fun _ hc => hc)) rfl rfl ?_
                  refine OD.q rfl rfl (Q1.move rfl) rfl rfl ?_
                  refine OD.q rfl rfl (Q1.move rfl) rfl rfl ?_
                  obtain ⟨hst, hst2⟩ := hsp.fin hspe
                  have hrem := rem_good hg hd k
                  rw [rem_grp hx1 hxn] at hrem
                  have hx0 : (rests.drop k)[0]? = some x1 := by rw [List.getElem?_drop]; exact hx1
                  have hsf := strip_facts hx0 hrem
                  subst hst
                  rw [rem_grp hx1 hxn] at hEI
                  have hEInx := hEI.next2 hx0
                  have hsm := rem_sum rests k
                  rw [rem_grp hx1 hxn] at hsm hs1
                  have hdk : (rests.drop k).length ≤ rests.length := by rw [List.length_drop]; omega
                  have hS30 : St R F w0 w10 [rgR 123 125 bG (s ++ (rests, []) :: xs) (hs ++ (.slice ad1 rests.length cp1) :: ths), accR encE 114 2 v_ES ES, slR encRn [(v2, (Ml.runesM x1))], slR encS [(v_b2, (stripP (pfx x1) (rests.drop k)))]] := hS29.freeze (i := 3) rfl
                  have hnm := addM_nodup hsf.2.2.1 hsf.1 hsf.2.1 hnd1
                  have hS31 : St R F w0 w10 [accR encE 114 2 v_ES ES, slR encRn [(v2, (Ml.runesM x1))], rgR 123 125 bG (s ++ (rests, []) :: xs) (hs ++ (.slice ad1 rests.length cp1) :: ths), slR encS [(v_b2, (stripP (pfx x1) (rests.drop k)))]] := hS30.sel [1, 2, 0, 3] (by rfl) (by decide)
                  have hS32 : St R F w0 w10 [accR encE 114 2 v_ES ES, slR encRn [(v2, (Ml.runesM x1))], boxR [rgR 123 125 bG (s ++ (rests, []) :: xs) (hs ++ (.slice ad1 rests.length cp1) :: ths), slR encS [(v_b2, (stripP (pfx x1) (rests.drop k)))]]] := St.close (L1 := [accR encE 114 2 v_ES ES, slR encRn [(v2, (Ml.runesM x1))]]) hS31
                  obtain ⟨Fb, hAb, hFb, hkb⟩ := hS32.act (i := 2) rfl
                  refine OD.act rfl rfl rfl rfl (AW.callF cl74 rfl (ih0 f2 (by omega) hAb (fun b hb => ⟨(hFb b hb).2, (hFb b hb).1.2⟩) hS32.rlt (by simp only [List.length_append, List.length_cons]; omega) hsf.2.2.1 hsf.1 hnd1 (by simp only [List.length_append, List.length_cons]; omega) (by omega) hok1) ?_)
                  rintro _ w11 ⟨rfl, hm8, t2, F2b, hB2, hF2b⟩
                  obtain ⟨xs2, hqe, _⟩ := (addM_ok f2 (s ++ (rests, []) :: xs) (stripP (pfx x1) (rests.drop k)) hsf.2.2.1 hsf.1 hsf.2.1 hnd1).tail
                  rw [hqe] at hB2 hEInx hnm
                  have ht2 := rg_len hB2
                  simp only [List.length_append, List.length_cons] at ht2
                  have hS33 : St R F w0 w11 [accR encE 114 2 v_ES ES, slR encRn [(v2, (Ml.runesM x1))], rgR 123 125 bG ((s ++ (rests, []) :: xs) ++ xs2) ((hs ++ (.slice ad1 rests.length cp1) :: ths) ++ t2)] := hkb _ _ _ hm8 hB2 hF2b
                  clear hAb hFb hkb hB2 hF2b
                  have hS34 : St R F w0 w11 [accR encE 114 2 v_ES ES, slR encRn [(v2, (Ml.runesM x1))], rgR 123 125 bG (s ++ (rests, []) :: (xs ++ xs2)) (hs ++ (.slice ad1 rests.length cp1) :: (ths ++ t2))] := hS33.imp (i := 2) rfl (fun F_ h_ => by simpa only [List.append_assoc, List.cons_append] using h_)
                  have hal := addM_len (f2 + 1) (s ++ (rests, []) :: xs) (stripP (pfx x1) (rests.drop k)) hsf.1
                  have hak := addM_short (L := 1000) (f2 + 1) (s ++ (rests, []) :: xs) (stripP (pfx x1) (rests.drop k)) hok1 (by omega)
                  rw [hqe] at hal hak
                  simp only [List.length_append, List.length_cons] at hal
                  have hidx : (addM (f2 + 1) (s ++ (rests, []) :: xs) (stripP (pfx x1) (rests.drop k))).2 < ((s ++ (rests, []) :: xs) ++ xs2).length := by rw [← hqe]; exact addM_lt hsf.2.2.1 hsf.1 hsf.2.1 hnd1
                  simp only [List.length_append, List.length_cons] at hidx
                  have f14 := hS34.sl (i := 1) (k := 0) rfl rfl
                  refine ⟨.inr (Sl.rowAt f14 Tryz.underlying118 ti21 encRn_len 0 rfl hxl hrun1), ?_⟩
                  refine OD.q rfl rfl (Q1.build (vs := #[(0, (.int .i32 (((hdN x1 : Nat) : Int)) : Value)), (1, (.int .i64 ((((addM (f2 + 1) (s ++ (rests, []) :: xs) (stripP (pfx x1) (rests.drop k))).2 : Nat) : Int)) : Value))]) (v := .agg #[.int .i32 (((hdN x1 : Nat) : Int)), .int .i64 ((((addM (f2 + 1) (s ++ (rests, []) :: xs) (stripP (pfx x1) (rests.drop k))).2 : Nat) : Int))]) rfl (fun _ => by kernel_rfl)) rfl rfl ?_
                  refine OD.act rfl rfl rfl rfl (AW.buildSlice [(.agg #[.int .i32 (((hdN x1 : Nat) : Int)), .int .i64 ((((addM (f2 + 1) (s ++ (rests, []) :: xs) (stripP (pfx x1) (rests.drop k))).2 : Nat) : Int))] : Value)] Tryz.underlying109 ti114 rfl rfl rfl (by decide) ?_)
                  intro w12 b12 hm9 hb8 hz4 hk3
                  have hS35 := hS34.ext hm9
                  have hl9 := Sl.of_blk (enc := encE) hk3 ([(Ed.mk (((hdN x1 : Nat) : Int)) ((((addM (f2 + 1) (s ++ (rests, []) :: xs) (stripP (pfx x1) (rests.drop k))).2 : Nat) : Int)))] : List Ed) 1 rfl rfl (by unfold maxLen; omega)
                  have hS36 : St R F w0 w12 [accR encE 114 2 v_ES ES, slR encRn [(v2, (Ml.runesM x1))], rgR 123 125 bG (s ++ (rests, []) :: (xs ++ xs2)) (hs ++ (.slice ad1 rests.length cp1) :: (ths ++ t2)), slR encE [((.slice (some ⟨b12, 0, none⟩) 1 1), [(Ed.mk (((hdN x1 : Nat) : Int)) ((((addM (f2 + 1) (s ++ (rests, []) :: xs) (stripP (pfx x1) (rests.drop k))).2 : Nat) : Int)))])]] := hS34.newSlB hm9 hb8 hz4 hl9
                  have f15 := hS36.sl (i := 1) (k := 0) rfl rfl
                  refine ⟨.inr (Sl.rowAt f15 Tryz.underlying118 ti21 encRn_len 0 rfl hxl hrun1), ?_⟩
                  obtain ⟨g6, f16, hl10, k4⟩ := hS36.accK (i := 0) rfl
                  have f17 := hS36.sl (i := 3) (k := 0) rfl rfl
                  refine OD.act rfl rfl rfl rfl (AW.append f16 Tryz.underlying109 ti114 rfl encE_len encE_one rfl rfl (f17) (by first | omega | (simp only [List.length_append, List.length_cons, List.length_nil]; omega) | (simp; omega)) (by unfold maxLen; first | omega | (simp only [List.length_append, List.length_cons, List.length_nil]; omega) | (simp; omega)) ?_)
                  intro v3 g5 w13 ha2 hm10 hg2 hz5
                  have hS37 : St R F w0 w13 [accR encE 114 2 v3 ((ES ++ [(Ed.mk (((hdN x1 : Nat) : Int)) ((((addM (f2 + 1) (s ++ (rests, []) :: xs) (stripP (pfx x1) (rests.drop k))).2 : Nat) : Int)))])), slR encRn [(v2, (Ml.runesM x1))], rgR 123 125 bG (s ++ (rests, []) :: (xs ++ xs2)) (hs ++ (.slice ad1 rests.length cp1) :: (ths ++ t2)), slR encE [((.slice (some ⟨b12, 0, none⟩) 1 1), [(Ed.mk (((hdN x1 : Nat) : Int)) ((((addM (f2 + 1) (s ++ (rests, []) :: xs) (stripP (pfx x1) (rests.drop k))).2 : Nat) : Int)))])]] := k4 _ _ _ _ hm10 ha2 hg2
                  have f18 := hS37.sl (i := 1) (k := 0) rfl rfl
                  refine ⟨.inr (Sl.rowAt f18 Tryz.underlying118 ti21 encRn_len 0 rfl hxl hrun1), ?_⟩
                  clear hg2
                  refine OD.q rfl rfl (Q1.assign rfl) rfl rfl ?_
                  refine OD.nil ?_
                  refine r_inBlock ?_
                  have hS38 : St R F w0 w13 [rgR 123 125 bG (s ++ (rests, []) :: (xs ++ xs2)) (hs ++ (.slice ad1 rests.length cp1) :: (ths ++ t2)), accR encE 114 2 v3 ((ES ++ [(Ed.mk (((hdN x1 : Nat) : Int)) ((((addM (f2 + 1) (s ++ (rests, []) :: xs) (stripP (pfx x1) (rests.drop k))).2 : Nat) : Int)))]))] := hS37.sel [2, 0] (by rfl) (by decide)
                  exact (ih2 _ _ _ ⟨(v3 : Value), ((ES ++ [(Ed.mk (((hdN x1 : Nat) : Int)) ((((addM (f2 + 1) (s ++ (rests, []) :: xs) (stripP (pfx x1) (rests.drop k))).2 : Nat) : Int)))]) : List Ed), (k1 : Nat), ((xs ++ xs2) : GS), ((ths ++ t2) : List Value), rfl, rfl, hS38, (by first | exact EInv.cast hEInx (by simp) (by rw [rem_pos (by omega), ← hst2, List.drop_drop]; congr 1; omega) | exact EInv.cast hEI rfl hsk.1 | (exfalso; omega)), (by first | exact hnd1 | (rw [show s ++ (rests, []) :: (xs ++ xs2) = (s ++ (rests, []) :: xs) ++ xs2 by simp]; exact hnm) | (exfalso; omega)), (by first | (rw [← hsk.1]; exact hs1) | (rw [rem_pos (by omega), show rests.drop k1 = moreP (pfx x1) (rests.drop k) from by rw [← hst2, List.drop_drop]; congr 1; omega]; simp only [List.length_append]; omega) | (exfalso; omega)), (by first | exact hth | (simp only [List.length_append]; omega) | (exfalso; omega)), (by first | omega | (simp only [List.length_append, List.length_cons, List.length_nil]; omega) | (exfalso; omega)), (by first | omega | (exfalso; omega)), (by first | exact hok1 | (rw [show s ++ (rests, []) :: (xs ++ xs2) = (s ++ (rests, []) :: xs) ++ xs2 by simp]; exact hak) | (exfalso; omega))⟩ (by omega)).sub ⟨rfl, rfl, rfl, rfl, rfl, trivial⟩
              | false =>
                replace hb6 := of_decide_eq_false hb6.symm
                refine OL.sk rfl rfl ?_
                refine OL.sk rfl rfl ?_
                refine OL.sk rfl rfl ?_
                refine OL.sk rfl rfl ?_
                refine OL.sk rfl rfl ?_
                refine OL.sk rfl rfl ?_
                refine OL.sk rfl rfl ?_
                refine OL.q (Q1.pick_f rfl rfl) rfl rfl ?_
                refine OL.nil ?_
                refine r_cond_f rfl ?_
                refine r_exit rfl ?_
                have f12 := hS26.sl (i := 2) (k := 0) rfl rfl
                obtain ⟨xl, bl, ol, hxl, hrun1, _, hwl1⟩ := Sl.atF (P := Tryz.prog) f12 Tryz.underlying118 ti21 encRn_len (k := .i64) (n := 0) 0 rfl (by omega)
                obtain rfl : xl = ((hdN x1 : Nat) : Int) := Option.some.inj (hxl.symm.trans hfh.2.2.1)
                refine r_draw1 (fun i => Nat.beq i 6 || Nat.beq i 8 || Nat.beq i 9) 11 (fun w' => Row w' bl ol (encRn ((hdN x1 : Nat) : Int))) mixed (by kernel_rfl) ?_
                intro w9 hm6
                have hS28 := hS26.ext hm6
                have f13 := hS28.sl (i := 2) (k := 0) rfl rfl
                refine ⟨(Sl.rowAt f13 Tryz.underlying118 ti21 encRn_len 0 rfl hxl hrun1), ?_⟩
                rw [show List.range' 0 (Array.size _) = [0, 1, 2, 3, 4, 5, 6, 7, 8, 9, 10] from rfl]
                have hspe : (rests.drop k).length ≤ k1 - k ∨ ∃ t, (rests.drop k)[k1 - k]? = some t ∧ (pfx x1).isPrefixOf t = false := by first | exact .inl (by rw [List.length_drop]; omega) | exact .inr ⟨x4, by rw [List.getElem?_drop, show k + (k1 - k) = k1 from by omega]; exact hx4, (by rw [← pfx_eq hxf hxn (hg.fine _ (List.mem_of_getElem? hx4)) hxk]; exact beq_eq_false_iff_ne.2 (by assumption))⟩
                refine OD.q rfl rfl (Q1.move rfl) rfl rfl ?_
                refine OD.q rfl rfl (Q1.move rfl) rfl rfl ?_
                refine OD.q rfl rfl (Q1.indexAddr rfl rfl hrun1) rfl rfl ?_
                refine OD.q rfl rfl (Q1.load1 ti21 rfl (fun _ hc => hc)) rfl rfl ?_
                refine OD.q rfl rfl (Q1.move rfl) rfl rfl ?_
                refine OD.q rfl rfl (Q1.move rfl) rfl rfl ?_
                obtain ⟨hst, hst2⟩ := hsp.fin hspe
                have hrem := rem_good hg hd k
                rw [rem_grp hx1 hxn] at hrem
                have hx0 : (rests.drop k)[0]? = some x1 := by rw [List.getElem?_drop]; exact hx1
                have hsf := strip_facts hx0 hrem
                subst hst
                rw [rem_grp hx1 hxn] at hEI
                have hEInx := hEI.next2 hx0
                have hsm := rem_sum rests k
                rw [rem_grp hx1 hxn] at hsm hs1
                have hdk : (rests.drop k).length ≤ rests.length := by rw [List.length_drop]; omega
                have hS29 : St R F w0 w9 [rgR 123 125 bG (s ++ (rests, []) :: xs) (hs ++ (.slice ad1 rests.length cp1) :: ths), accR encE 114 2 v_ES ES, slR encRn [(v2, (Ml.runesM x1))], slR encS [(v_b2, (stripP (pfx x1) (rests.drop k)))]] := hS28.freeze (i := 3) rfl
                have hnm := addM_nodup hsf.2.2.1 hsf.1 hsf.2.1 hnd1
                have hS30 : St R F w0 w9 [accR encE 114 2 v_ES ES, slR encRn [(v2, (Ml.runesM x1))], rgR 123 125 bG (s ++ (rests, []) :: xs) (hs ++ (.slice ad1 rests.length cp1) :: ths), slR encS [(v_b2, (stripP (pfx x1) (rests.drop k)))]] := hS29.sel [1, 2, 0, 3] (by rfl) (by decide)
                have hS31 : St R F w0 w9 [accR encE 114 2 v_ES ES, slR encRn [(v2, (Ml.runesM x1))], boxR [rgR 123 125 bG (s ++ (rests, []) :: xs) (hs ++ (.slice ad1 rests.length cp1) :: ths), slR encS [(v_b2, (stripP (pfx x1) (rests.drop k)))]]] := St.close (L1 := [accR encE 114 2 v_ES ES, slR encRn [(v2, (Ml.runesM x1))]]) hS30
                obtain ⟨Fb, hAb, hFb, hkb⟩ := hS31.act (i := 2) rfl
                refine OD.act rfl rfl rfl rfl (AW.callF cl74 rfl (ih0 f2 (by omega) hAb (fun b hb => ⟨(hFb b hb).2, (hFb b hb).1.2⟩) hS31.rlt (by simp only [List.length_append, List.length_cons]; omega) hsf.2.2.1 hsf.1 hnd1 (by simp only [List.length_append, List.length_cons]; omega) (by omega) hok1) ?_)
                rintro _ w10 ⟨rfl, hm7, t2, F2b, hB2, hF2b⟩
                obtain ⟨xs2, hqe, _⟩ := (addM_ok f2 (s ++ (rests, []) :: xs) (stripP (pfx x1) (rests.drop k)) hsf.2.2.1 hsf.1 hsf.2.1 hnd1).tail
                rw [hqe] at hB2 hEInx hnm
                have ht2 := rg_len hB2
                simp only [List.length_append, List.length_cons] at ht2
                have hS32 : St R F w0 w10 [accR encE 114 2 v_ES ES, slR encRn [(v2, (Ml.runesM x1))], rgR 123 125 bG ((s ++ (rests, []) :: xs) ++ xs2) ((hs ++ (.slice ad1 rests.length cp1) :: ths) ++ t2)] := hkb _ _ _ hm7 hB2 hF2b
                clear hAb hFb hkb hB2 hF2b
                have hS33 : St R F w0 w10 [accR encE 114 2 v_ES ES, slR encRn [(v2, (Ml.runesM x1))], rgR 123 125 bG (s ++ (rests, []) :: (xs ++ xs2)) (hs ++ (.slice ad1 rests.length cp1) :: (ths ++ t2))] := hS32.imp (i := 2) rfl (fun F_ h_ => by simpa only [List.append_assoc, List.cons_append] using h_)
                have hal := addM_len (f2 + 1) (s ++ (rests, []) :: xs) (stripP (pfx x1) (rests.drop k)) hsf.1
                have hak := addM_short (L := 1000) (f2 + 1) (s ++ (rests, []) :: xs) (stripP (pfx x1) (rests.drop k)) hok1 (by omega)
                rw [hqe] at hal hak
                simp only [List.length_append, List.length_cons] at hal
                have hidx : (addM (f2 + 1) (s ++ (rests, []) :: xs) (stripP (pfx x1) (rests.drop k))).2 < ((s ++ (rests, []) :: xs) ++ xs2).length := by rw [← hqe]; exact addM_lt hsf.2.2.1 hsf.1 hsf.2.1 hnd1
                simp only [List.length_append, List.length_cons] at hidx
                have f14 := hS33.sl (i := 1) (k := 0) rfl rfl
                refine ⟨.inr (Sl.rowAt f14 Tryz.underlying118 ti21 encRn_len 0 rfl hxl hrun1), ?_⟩
                refine OD.q rfl rfl (Q1.build (vs := #[(0, (.int .i32 (((hdN x1 : Nat) : Int)) : Value)), (1, (.int .i64 ((((addM (f2 + 1) (s ++ (rests, []) :: xs) (stripP (pfx x1) (rests.drop k))).2 : Nat) : Int)) : Value))]) (v := .agg #[.int .i32 (((hdN x1 : Nat) : Int)), .int .i64 ((((addM (f2 + 1) (s ++ (rests, []) :: xs) (stripP (pfx x1) (rests.drop k))).2 : Nat) : Int))]) rfl (fun _ => by kernel_rfl)) rfl rfl ?_
                refine OD.act rfl rfl rfl rfl (AW.buildSlice [(.agg #[.int .i32 (((hdN x1 : Nat) : Int)), .int .i64 ((((addM (f2 + 1) (s ++ (rests, []) :: xs) (stripP (pfx x1) (rests.drop k))).2 : Nat) : Int))] : Value)] Tryz.underlying109 ti114 rfl rfl rfl (by decide) ?_)
                intro w11 b10 hm8 hb7 hz4 hk3
                have hS34 := hS33.ext hm8
                have hl8 := Sl.of_blk (enc := encE) hk3 ([(Ed.mk (((hdN x1 : Nat) : Int)) ((((addM (f2 + 1) (s ++ (rests, []) :: xs) (stripP (pfx x1) (rests.drop k))).2 : Nat) : Int)))] : List Ed) 1 rfl rfl (by unfold maxLen; omega)
                have hS35 : St R F w0 w11 [accR encE 114 2 v_ES ES, slR encRn [(v2, (Ml.runesM x1))], rgR 123 125 bG (s ++ (rests, []) :: (xs ++ xs2)) (hs ++ (.slice ad1 rests.length cp1) :: (ths ++ t2)), slR encE [((.slice (some ⟨b10, 0, none⟩) 1 1), [(Ed.mk (((hdN x1 : Nat) : Int)) ((((addM (f2 + 1) (s ++ (rests, []) :: xs) (stripP (pfx x1) (rests.drop k))).2 : Nat) : Int)))])]] := hS33.newSlB hm8 hb7 hz4 hl8
                have f15 := hS35.sl (i := 1) (k := 0) rfl rfl
                refine ⟨.inr (Sl.rowAt f15 Tryz.underlying118 ti21 encRn_len 0 rfl hxl hrun1), ?_⟩
                obtain ⟨g6, f16, hl9, k4⟩ := hS35.accK (i := 0) rfl
                have f17 := hS35.sl (i := 3) (k := 0) rfl rfl
                refine OD.act rfl rfl rfl rfl (AW.append f16 Tryz.underlying109 ti114 rfl encE_len encE_one rfl rfl (f17) (by first | omega | (simp only [List.length_append, List.length_cons, List.length_nil]; omega) | (simp; omega)) (by unfold maxLen; first | omega | (simp only [List.length_append, List.length_cons, List.length_nil]; omega) | (simp; omega)) ?_)
                intro v3 g5 w12 ha2 hm9 hg2 hz5
                have hS36 : St R F w0 w12 [accR encE 114 2 v3 ((ES ++ [(Ed.mk (((hdN x1 : Nat) : Int)) ((((addM (f2 + 1) (s ++ (rests, []) :: xs) (stripP (pfx x1) (rests.drop k))).2 : Nat) : Int)))])), slR encRn [(v2, (Ml.runesM x1))], rgR 123 125 bG (s ++ (rests, []) :: (xs ++ xs2)) (hs ++ (.slice ad1 rests.length cp1) :: (ths ++ t2)), slR encE [((.slice (some ⟨b10, 0, none⟩) 1 1), [(Ed.mk (((hdN x1 : Nat) : Int)) ((((addM (f2 + 1) (s ++ (rests, []) :: xs) (stripP (pfx x1) (rests.drop k))).2 : Nat) : Int)))])]] := k4 _ _ _ _ hm9 ha2 hg2
                have f18 := hS36.sl (i := 1) (k := 0) rfl rfl
                refine ⟨.inr (Sl.rowAt f18 Tryz.underlying118 ti21 encRn_len 0 rfl hxl hrun1), ?_⟩
                clear hg2
                refine OD.q rfl rfl (Q1.assign rfl) rfl rfl ?_
                refine OD.nil ?_
                refine r_inBlock ?_
                have hS37 : St R F w0 w12 [rgR 123 125 bG (s ++ (rests, []) :: (xs ++ xs2)) (hs ++ (.slice ad1 rests.length cp1) :: (ths ++ t2)), accR encE 114 2 v3 ((ES ++ [(Ed.mk (((hdN x1 : Nat) : Int)) ((((addM (f2 + 1) (s ++ (rests, []) :: xs) (stripP (pfx x1) (rests.drop k))).2 : Nat) : Int)))]))] := hS36.sel [2, 0] (by rfl) (by decide)
                exact (ih2 _ _ _ ⟨(v3 : Value), ((ES ++ [(Ed.mk (((hdN x1 : Nat) : Int)) ((((addM (f2 + 1) (s ++ (rests, []) :: xs) (stripP (pfx x1) (rests.drop k))).2 : Nat) : Int)))]) : List Ed), (k1 : Nat), ((xs ++ xs2) : GS), ((ths ++ t2) : List Value), rfl, rfl, hS37, (by first | exact EInv.cast hEInx (by simp) (by rw [rem_pos (by omega), ← hst2, List.drop_drop]; congr 1; omega) | exact EInv.cast hEI rfl hsk.1 | (exfalso; omega)), (by first | exact hnd1 | (rw [show s ++ (rests, []) :: (xs ++ xs2) = (s ++ (rests, []) :: xs) ++ xs2 by simp]; exact hnm) | (exfalso; omega)), (by first | (rw [← hsk.1]; exact hs1) | (rw [rem_pos (by omega), show rests.drop k1 = moreP (pfx x1) (rests.drop k) from by rw [← hst2, List.drop_drop]; congr 1; omega]; simp only [List.length_append]; omega) | (exfalso; omega)), (by first | exact hth | (simp only [List.length_append]; omega) | (exfalso; omega)), (by first | omega | (simp only [List.length_append, List.length_cons, List.length_nil]; omega) | (exfalso; omega)), (by first | omega | (exfalso; omega)), (by first | exact hok1 | (rw [show s ++ (rests, []) :: (xs ++ xs2) = (s ++ (rests, []) :: xs) ++ xs2 by simp]; exact hak) | (exfalso; omega))⟩ (by omega)).sub ⟨rfl, rfl, rfl, rfl, rfl, trivial⟩
        | false =>
          replace hb3 := of_decide_eq_false hb3.symm
          refine r_cond_f rfl ?_
          refine r_exit rfl ?_
          refine r_seq ?_
          refine r_region ?_
          obtain ⟨⟨vN2, nds2⟩, hS23⟩ := hS20.exo (i := 0) rfl
          obtain ⟨hmap2, hS24⟩ := hS23.and (i := 0) rfl
          change St R F w0 w5 [boxR [bkR bG [vN2] 123, accR encRd 125 2 vN2 nds2, rrR nds2 ((s ++ (rests, []) :: xs))], accR encE 114 2 v_ES ES] at hS24
          change nds2.map (fun n : RNd => n.r.val) = (hs ++ (.slice ad1 rests.length cp1) :: ths) at hmap2
          have hS25 : St R F w0 w5 [accR encE 114 2 v_ES ES, boxR [bkR bG [vN2] 123, accR encRd 125 2 vN2 nds2, rrR nds2 ((s ++ (rests, []) :: xs))]] := hS24.sel [1, 0] (by rfl) (by decide)
          have hS26 : St R F w0 w5 [accR encE 114 2 v_ES ES, boxR [bkR bG [vN2] 123, accR encRd 125 2 vN2 nds2, rrR nds2 ((s ++ (rests, []) :: xs))]] := hS25
          have hS27 : St R F w0 w5 [accR encE 114 2 v_ES ES, bkR bG [vN2] 123, accR encRd 125 2 vN2 nds2, rrR nds2 ((s ++ (rests, []) :: xs))] := St.open (L1 := [accR encE 114 2 v_ES ES]) hS26
          have hrl2 : nds2.length = ((s ++ (rests, []) :: xs)).length := hS27.rrLen (i := 3) rfl
          have hn2 : nds1.length < nds2.length := by rw [hrl2]; simp only [List.length_append, List.length_cons]; omega
          refine OL.q (Q1.move rfl) rfl rfl ?_
          refine OL.q (Q1.nilCheckP rfl) rfl rfl ?_
          refine OL.q (Q1.fieldAddr fl123_0 rfl) rfl rfl ?_
          have f10 := hS27.bk (i := 1) rfl
          refine OL.q (Q1.load1 ti121 rfl (fun _ e => e ▸ (f10.cell 0 _ rfl))) rfl rfl ?_
          refine OL.q (Q1.move rfl) rfl rfl ?_
          refine OL.q (Q1.move rfl) rfl rfl ?_
          obtain ⟨g5, f11, hl5, k4⟩ := hS27.accK (i := 2) rfl
          obtain ⟨hr1, x1, hx1⟩ := Acc.at (P := Tryz.prog) f11 Tryz.underlying121 ti125 (k := .i64) (n := ((nds1.length : Nat) : Int)) (nds1.length) (by omega) (by first | assumption | omega | (simp; done))
          refine OL.q (Q1.indexAddr rfl rfl hr1) rfl rfl ?_
          refine OL.q (Q1.fieldAddr fl125_1 rfl) rfl rfl ?_
          obtain ⟨g6, f12, hl7, k5⟩ := hS27.accK (i := 0) rfl
          obtain ⟨ad3, cp3, hv3⟩ := f12.shape
          subst hv3
          refine OL.act rfl rfl (AW.storeA f11 encRd_len (i := nds1.length) (o := 1) hx1 ((RNd.mk x1.r (SH.mk ad3 ES.length cp3))) ti109 rfl (by first | omega | rfl) rfl rfl rfl rfl (by decide) (by first | rfl | simp [encRd]) ?_)
          intro w6 hm4 hz4 ha2
          have hl6 : (nds2.set nds1.length ((RNd.mk x1.r (SH.mk ad3 ES.length cp3)))).length = nds2.length := List.length_set
          have hS28 : St R F w0 w6 [accR encE 114 2 ((.slice ad3 ES.length cp3)) ES, bkR bG [vN2] 123, accR encRd 125 2 vN2 ((nds2.set nds1.length ((RNd.mk x1.r (SH.mk ad3 ES.length cp3))))), rrR nds2 ((s ++ (rests, []) :: xs))] := k4 _ _ _ _ hm4 ha2 (.inl rfl)
          refine OL.nil ?_
          refine r_seq ?_
          refine r_region ?_
          refine OL.q (Q1.move rfl) rfl rfl ?_
          refine OL.q (Q1.assign rfl) rfl rfl ?_
          refine OL.nil ?_
          refine r_ret1 Tryz.func74 rfl rfl ?_
          have hr0 : remR rests k = [] := rem_end (by omega)
          rw [hr0] at hEI
          have hAD := addM_miss hfi hEI.fin
          have hS29 : St R F w0 w6 [bkR bG [vN2] 123, accR encRd 125 2 vN2 ((nds2.set nds1.length ((RNd.mk x1.r (SH.mk ad3 ES.length cp3))))), rrR nds2 ((s ++ (rests, []) :: xs)), accR encE 114 2 ((.slice ad3 ES.length cp3)) ES] := hS28.sel [1, 2, 3, 0] (by rfl) (by decide)
          have hS30 : St R F w0 w6 [bkR bG [vN2] 123, accR encRd 125 2 vN2 ((nds2.set nds1.length ((RNd.mk x1.r (SH.mk ad3 ES.length cp3))))), boxR [rrR nds2 ((s ++ (rests, []) :: xs)), accR encE 114 2 ((.slice ad3 ES.length cp3)) ES]] := St.close (L1 := [bkR bG [vN2] 123, accR encRd 125 2 vN2 ((nds2.set nds1.length ((RNd.mk x1.r (SH.mk ad3 ES.length cp3)))))]) hS29
          have hns : nds1.length = s.length := by omega
          have hS31 : St R F w0 w6 [bkR bG [vN2] 123, accR encRd 125 2 vN2 ((nds2.set nds1.length ((RNd.mk x1.r (SH.mk ad3 ES.length cp3))))), rrR (nds2.set nds1.length ((RNd.mk x1.r (SH.mk ad3 ES.length cp3)))) (s ++ (rests, ES) :: xs)] := hS30.imp (i := 2) rfl (fun F_ h_ => by have e_ := rr_set (hd := (SH.mk ad3 ES.length cp3)) hx1 (at_mid (b := xs) hns) rfl h_; rw [set_mid hns] at e_; exact e_)
          have hS32 : St R F w0 w6 [boxR [bkR bG [vN2] 123, accR encRd 125 2 vN2 ((nds2.set nds1.length ((RNd.mk x1.r (SH.mk ad3 ES.length cp3))))), rrR (nds2.set nds1.length ((RNd.mk x1.r (SH.mk ad3 ES.length cp3)))) (s ++ (rests, ES) :: xs)]] := St.close (L1 := []) hS31
          have hS33 : St R F w0 w6 [andR (((nds2.set nds1.length ((RNd.mk x1.r (SH.mk ad3 ES.length cp3))))).map (fun n : RNd => n.r.val) = (hs ++ (.slice ad1 rests.length cp1) :: ths)) (boxR [bkR bG [vN2] 123, accR encRd 125 2 vN2 ((nds2.set nds1.length ((RNd.mk x1.r (SH.mk ad3 ES.length cp3))))), rrR (nds2.set nds1.length ((RNd.mk x1.r (SH.mk ad3 ES.length cp3)))) (s ++ (rests, ES) :: xs)])] := hS32.imp (i := 0) rfl (fun F_ h_ => ⟨by rw [map_set_r hx1]; exact hmap2, h_⟩)
          have hS34 : St R F w0 w6 [rgR 123 125 bG ((s ++ (rests, ES) :: xs)) ((hs ++ (.slice ad1 rests.length cp1) :: ths))] := hS33.exi (vN2, (nds2.set nds1.length ((RNd.mk x1.r (SH.mk ad3 ES.length cp3))))) (i := 0) rfl
          obtain ⟨hmF, F2, hA2, hF2⟩ := hS34.fin
          exact Ret.mk ⟨by rw [hAD]; simp [hrl1], hmF, (.slice ad1 rests.length cp1) :: ths, F2, by rw [hAD]; exact hA2, hF2⟩
set_option maxRecDepth 20000 in
set_option maxHeartbeats 8000000 in
theorem r8build_c {R : Nat → Prop} {w0 : World} {v_words : Value} {words : List Str} (h_words : Sl encS w0 R v_words words) (hR : ∀ b, R b → b < w0.heap.size) (hok : SOk words) (hsz : words.length ≤ 1000000) :
    Calls Tryz.prog 61 #[v_words] w0 (Ret fun rv w1 => ∃ u0, rv = .tuple #[u0, .int .i64 (goodL words)] ∧ Ext w0 w1 ∧ ((goodL words ≠ 0 ∧ u0 = .pointer none) ∨ (goodL words = 0 ∧ ∃ bG hs F2, u0 = ptr bG 0 ∧ (rgR 123 125 (R := R) bG (graphB words) hs).p F2 w1 ∧ ∀ b, F2 b → b < w1.heap.size ∧ w0.heap.size ≤ b))) := by
  have hS0 := St.start w0 hR
  have hle1 := h_words.le
  have h_iv := h_words.mono (F' := Iv 0 w0.heap.size) (fun b hb => ⟨Nat.zero_le _, hR b hb⟩)
  refine calls_enter Tryz.func61 rfl Tryz.ntmps61 rfl ?_
  refine r_seq ?_
  refine r_region ?_
  refine OL.q (Q1.assign rfl) rfl rfl ?_
  refine OL.q (Q1.assign rfl) rfl rfl ?_
  refine OL.nil ?_
  refine r_seq ?_
  refine r_region ?_
  refine OL.q (Q1.move rfl) rfl rfl ?_
  refine OL.act rfl rfl (AW.callF cl42 rfl (r4good_c (w0 := w0) (l := words) h_iv hok) ?_)
  rintro _ w1 ⟨rfl, hm1⟩
  have hS1 := hS0.ext hm1
  have := goodL_range words
  refine OL.q (Q1.assign rfl) rfl rfl ?_
  refine OL.nil ?_
  refine r_seq ?_
  refine r_seq ?_
  refine r_region ?_
  refine OL.q (Q1.move rfl) rfl rfl ?_
  refine OL.qb (Q1.ne rfl rfl) rfl rfl ?_
  intro b1 hb1
  refine OL.nil ?_
  cases b1 with
  | true =>
    replace hb1 := bne_iff_ne.1 hb1.symm
    refine r_cond_t rfl ?_
    refine r_seq ?_
    refine r_region ?_
    refine OL.q (Q1.move rfl) rfl rfl ?_
    refine OL.q (Q1.assign rfl) rfl rfl ?_
    refine OL.q (Q1.assign rfl) rfl rfl ?_
    refine OL.nil ?_
    refine r_ret2 Tryz.func61 rfl rfl rfl ?_
    exact Ret.mk ⟨_, rfl, hS1.mod, .inl ⟨by assumption, rfl⟩⟩
  | false =>
    replace hb1 := bne_eq_false_iff_eq.1 hb1.symm
    refine r_cond_f rfl ?_
    refine r_skip ?_
    refine r_seq ?_
    refine r_region ?_
    refine OL.q (Q1.build (vs := #[]) (v := .agg #[.slice none 0 0]) rfl (fun _ => by kernel_rfl)) rfl rfl ?_
    have hg0 : goodL words = 0 := by assumption
    have hgd := good_deep hg0
    have hgs := good_sum hg0
    refine OL.act rfl rfl (AW.box [.slice none 0 0] rfl rfl ?_)
    intro w2 b2 hm2 hb2 hz1 hk1
    have hS2 := hS1.ext hm2
    have hS3 : St R (fun _ => False) w0 w2 [bkR b2 [.slice none 0 0] 123] := hS1.newBk hm2 hb2 hk1
    refine OL.q (Q1.assign rfl) rfl rfl ?_
    refine OL.nil ?_
    refine r_seq ?_
    refine r_region ?_
    refine OL.q (Q1.move rfl) rfl rfl ?_
    refine OL.q (Q1.move rfl) rfl rfl ?_
    have hS4 : St R (fun _ => False) w0 w2 [bkR b2 [.slice none 0 0] 123, accR encRd 125 2 (.slice none 0 0) []] := hS3.newAcc (Mod.refl _ _) Acc.nil (.inl rfl)
    have hS5 : St R (fun _ => False) w0 w2 [bkR b2 [.slice none 0 0] 123, accR encRd 125 2 (.slice none 0 0) [], rrR [] []] := hS4.new (Mod.refl _ _) (F := fun _ => False) (All2.nil : RR _ _ [] []) (fun _ h => h.elim)
    have hS6 : St R (fun _ => False) w0 w2 [boxR [bkR b2 [.slice none 0 0] 123, accR encRd 125 2 (.slice none 0 0) [], rrR [] []]] := St.close (L1 := []) hS5
    have hS7 : St R (fun _ => False) w0 w2 [andR ([].map (fun n : RNd => n.r.val) = []) (boxR [bkR b2 [.slice none 0 0] 123, accR encRd 125 2 (.slice none 0 0) [], rrR [] []])] := hS6.imp (i := 0) rfl (fun F_ h_ => ⟨rfl, h_⟩)
    have hS8 : St R (fun _ => False) w0 w2 [rgR 123 125 b2 [] []] := hS7.exi (.slice none 0 0, []) (i := 0) rfl
    have hS9 : St R (fun _ => False) w0 w2 [rgR 123 125 b2 [] [], slR encS [(v_words, words)]] := hS8.newFar h_words (fun _ hb => hb)
    have hS10 : St R (fun _ => False) w0 w2 [boxR [rgR 123 125 b2 [] [], slR encS [(v_words, words)]]] := St.close (L1 := []) hS9
    obtain ⟨Fb, hAb, hFb, hkb⟩ := hS10.act (i := 0) rfl
    refine OL.act rfl rfl (AW.callF cl74 rfl (r8add_c 12 hAb (fun b hb => ⟨(hFb b hb).2, (hFb b hb).1.2⟩) hS10.rlt rfl hgd.2 hgd.1 (by simp [names]) (by simp only [List.length_nil]; omega) (by omega) (by simp)) ?_)
    rintro _ w3 ⟨rfl, hm3, t2, F2b, hB2, hF2b⟩
    rw [graphB_add] at hB2
    have hS11 : St R (fun _ => False) w0 w3 [rgR 123 125 b2 (graphB words) ([] ++ t2)] := hkb _ _ _ hm3 hB2 hF2b
    refine OL.nil ?_
    refine r_seq ?_
    refine r_region ?_
    refine OL.q (Q1.move rfl) rfl rfl ?_
    refine OL.q (Q1.assign rfl) rfl rfl ?_
    refine OL.q (Q1.assign rfl) rfl rfl ?_
    refine OL.nil ?_
    refine r_ret2 Tryz.func61 rfl rfl rfl ?_
    obtain ⟨hmF, F2, hA2, hF2⟩ := hS11.fin
    exact Ret.mk ⟨_, by rw [hg0], hmF, .inr ⟨hg0, _, _, F2, rfl, hA2, fun b hb => ⟨(hF2 b hb).1, (hF2 b hb).2.resolve_left id⟩⟩⟩
set_option maxRecDepth 20000 in
set_option maxHeartbeats 4000000 in
theorem r8final_c {w0 : World}  {vN_g : Value} {lo_g hi_g b_g : Nat} {nds_g : List RNd} {g : GS} (n : Int) (hrw_g : Rw w0 lo_g hi_g b_g [vN_g]) (hsl_g : Sl encRd w0 (Iv lo_g hi_g) vN_g nds_g) (hrr_g : RR w0 (Iv 0 hi_g) nds_g g) (hgn_g : nds_g.length ≤ 1000000 ∧ hi_g ≤ w0.heap.size) (h_n : I64 n) :
    Calls Tryz.prog 76 #[ptr b_g 0, .int .i64 n] w0 (Ret fun rv w1 => (∃ rb : Bool, rb = ((nodeAt (gnOf g) n).1) ∧ rv = .bool rb) ∧ Ext w0 w1) := by
  have hE0 : Ext w0 w0 := Mod.refl _ _
  have hle1 := hsl_g.le
  have hgl := (All2.get hrr_g).1
  obtain ⟨hgn1, hgn2⟩ := hgn_g
  refine calls_enter Tryz.func76 rfl Tryz.ntmps76 rfl ?_
  refine r_seq ?_
  refine r_region ?_
  refine OL.q (Q1.assign rfl) rfl rfl ?_
  refine OL.nil ?_
  refine r_seq ?_
  refine r_region ?_
  refine OL.q (Q1.move rfl) rfl rfl ?_
  refine OL.qb (Q1.ge rfl rfl) rfl rfl ?_
  intro b1 hb1
  refine OL.q (Q1.move rfl) rfl rfl ?_
  cases b1 with
  | true =>
    replace hb1 := of_decide_eq_true hb1.symm
    refine OL.q (Q1.move rfl) rfl rfl ?_
    refine OL.q (Q1.move rfl) rfl rfl ?_
    refine OL.q (Q1.nilCheckP rfl) rfl rfl ?_
    refine OL.q (Q1.fieldAddr fl123_0 rfl) rfl rfl ?_
    refine OL.q (Q1.load1 ti121 rfl (fun _ e => e ▸ (hrw_g.cell 0 _ rfl))) rfl rfl ?_
    refine OL.q (Q1.lenSl Tryz.underlying121 (hsl_g) rfl) rfl rfl ?_
    refine OL.qb (Q1.lt rfl rfl) rfl rfl ?_
    intro b2 hb2
    refine OL.q (Q1.pick_t rfl rfl) rfl rfl ?_
    refine OL.q (Q1.move rfl) rfl rfl ?_
    cases b2 with
    | true =>
      replace hb2 := of_decide_eq_true hb2.symm
      refine OL.q (Q1.move rfl) rfl rfl ?_
      refine OL.q (Q1.nilCheckP rfl) rfl rfl ?_
      refine OL.q (Q1.fieldAddr fl123_0 rfl) rfl rfl ?_
      refine OL.q (Q1.load1 ti121 rfl (fun _ e => e ▸ (hrw_g.cell 0 _ rfl))) rfl rfl ?_
      refine OL.q (Q1.move rfl) rfl rfl ?_
      obtain ⟨x1, b3, o1, hx1, hr1, hl1, hu1, hw1⟩ := Sl.at' (P := Tryz.prog) hsl_g Tryz.underlying121 ti125 encRd_len (k := .i64) (n := n) ((n).toNat) (by omega) (by first | assumption | omega)
      refine OL.q (Q1.indexAddr rfl rfl hr1) rfl rfl ?_
      refine OL.q (Q1.fieldAddr fl125_0 rfl) rfl rfl ?_
      have hr2 := hw1.sub 0 1 (Nat.le_of_ble_eq_true rfl)
      obtain ⟨gx1, hgx1, hn1, hn2⟩ := RR.at hrr_g hx1
      replace hn1 : Sl encS w0 (Iv 0 hi_g) x1.r.val gx1.1 := hn1
      have hle_1 := hn1.le
      refine OL.q (Q1.load1 ti22 rfl (fun _ e => e ▸ hr2)) rfl rfl ?_
      refine OL.q (Q1.lenSl Tryz.underlying22 (hn1) rfl) rfl rfl ?_
      refine OL.qb (Q1.gt rfl rfl) rfl rfl ?_
      intro b4 hb3
      refine OL.q (Q1.pick_t rfl rfl) rfl rfl ?_
      refine OL.q (Q1.move rfl) rfl rfl ?_
      cases b4 with
      | true =>
        replace hb3 := of_decide_eq_true hb3.symm
        refine OL.q (Q1.move rfl) rfl rfl ?_
        refine OL.q (Q1.nilCheckP rfl) rfl rfl ?_
        refine OL.q (Q1.fieldAddr fl123_0 rfl) rfl rfl ?_
        refine OL.q (Q1.load1 ti121 rfl (fun _ e => e ▸ (hrw_g.cell 0 _ rfl))) rfl rfl ?_
        refine OL.q (Q1.move rfl) rfl rfl ?_
        obtain ⟨x2, b5, o2, hx2, hr3, hl2, hu2, hw2⟩ := Sl.at' (P := Tryz.prog) hsl_g Tryz.underlying121 ti125 encRd_len (k := .i64) (n := n) ((n).toNat) (by omega) (by first | assumption | omega)
        obtain rfl : x1 = x2 := Option.some.inj (hx1.symm.trans hx2)
        refine OL.q (Q1.indexAddr rfl rfl hr3) rfl rfl ?_
        refine OL.q (Q1.fieldAddr fl125_0 rfl) rfl rfl ?_
        have hr4 := hw2.sub 0 1 (Nat.le_of_ble_eq_true rfl)
        obtain ⟨gx2, hgx2, hn3, hn4⟩ := RR.at hrr_g hx2
        obtain rfl : gx1 = gx2 := Option.some.inj (hgx1.symm.trans hgx2)
        replace hn3 : Sl encS w0 (Iv 0 hi_g) x1.r.val gx1.1 := hn3
        have hle_2 := hn3.le
        refine OL.q (Q1.load1 ti22 rfl (fun _ e => e ▸ hr4)) rfl rfl ?_
        obtain ⟨x3, b6, o3, hx3, hr5, hl3, hu3, hw3⟩ := Sl.at' (P := Tryz.prog) hn3 Tryz.underlying22 ti9 encS_len (k := .i64) (n := 0) (0) (by omega) (by first | assumption | omega)
        refine OL.q (Q1.indexAddr rfl rfl hr5) rfl rfl ?_
        refine OL.q (Q1.load1 ti9 rfl (fun _ e => e ▸ hw3)) rfl rfl ?_
        refine OL.qb (Q1.eqS rfl rfl) rfl rfl ?_
        intro b7 hb4
        refine OL.q (Q1.pick_t rfl rfl) rfl rfl ?_
        refine OL.q (Q1.assign rfl) rfl rfl ?_
        refine OL.nil ?_
        refine r_ret1 Tryz.func76 rfl rfl ?_
        exact Ret.mk ⟨⟨_, (by first | (rw [node_no (by omega)]; done) | (rw [node_yes (by omega) hgx1]; exact fin_head0 (by assumption) (by assumption)) | (rw [node_yes (by omega) hgx1]; exact fin_nil (by omega)) | (exfalso; omega)), rfl⟩, hE0⟩
      | false =>
        replace hb3 := of_decide_eq_false hb3.symm
        refine OL.sk rfl rfl ?_
        refine OL.sk rfl rfl ?_
        refine OL.sk rfl rfl ?_
        refine OL.sk rfl rfl ?_
        refine OL.sk rfl rfl ?_
        refine OL.sk rfl rfl ?_
        refine OL.sk rfl rfl ?_
        refine OL.sk rfl rfl ?_
        refine OL.sk rfl rfl ?_
        refine OL.sk rfl rfl ?_
        refine OL.sk rfl rfl ?_
        refine OL.q (Q1.pick_f rfl rfl) rfl rfl ?_
        refine OL.q (Q1.assign rfl) rfl rfl ?_
        refine OL.nil ?_
        refine r_ret1 Tryz.func76 rfl rfl ?_
        exact Ret.mk ⟨⟨_, (by first | (rw [node_no (by omega)]; done) | (rw [node_yes (by omega) hgx1]; exact fin_head0 (by assumption) (by assumption)) | (rw [node_yes (by omega) hgx1]; exact fin_nil (by omega)) | (exfalso; omega)), rfl⟩, hE0⟩
    | false =>
      replace hb2 := of_decide_eq_false hb2.symm
      refine OL.sk rfl rfl ?_
      refine OL.sk rfl rfl ?_
      refine OL.sk rfl rfl ?_
      refine OL.sk rfl rfl ?_
      refine OL.sk rfl rfl ?_
      refine OL.sk rfl rfl ?_
      refine OL.sk rfl rfl ?_
      refine OL.sk rfl rfl ?_
      refine OL.sk rfl rfl ?_
      refine OL.sk rfl rfl ?_
      refine OL.q (Q1.pick_f rfl rfl) rfl rfl ?_
      refine OL.q (Q1.move rfl) rfl rfl ?_
      refine OL.sk rfl rfl ?_
      refine OL.sk rfl rfl ?_
      refine OL.sk rfl rfl ?_
      refine OL.sk rfl rfl ?_
      refine OL.sk rfl rfl ?_
      refine OL.sk rfl rfl ?_
      refine OL.sk rfl rfl ?_
      refine OL.sk rfl rfl ?_
      refine OL.sk rfl rfl ?_
      refine OL.sk rfl rfl ?_
      refine OL.sk rfl rfl ?_
      refine OL.q (Q1.pick_f rfl rfl) rfl rfl ?_
      refine OL.q (Q1.assign rfl) rfl rfl ?_
      refine OL.nil ?_
      refine r_ret1 Tryz.func76 rfl rfl ?_
      exact Ret.mk ⟨⟨_, (by first | (rw [node_no (by omega)]; done) | (rw [node_yes (by omega) hgx1]; exact fin_head0 (by assumption) (by assumption)) | (rw [node_yes (by omega) hgx1]; exact fin_nil (by omega)) | (exfalso; omega)), rfl⟩, hE0⟩
  | false =>
    replace hb1 := of_decide_eq_false hb1.symm
    refine OL.sk rfl rfl ?_
    refine OL.sk rfl rfl ?_
    refine OL.sk rfl rfl ?_
    refine OL.sk rfl rfl ?_
    refine OL.sk rfl rfl ?_
    refine OL.sk rfl rfl ?_
    refine OL.sk rfl rfl ?_
    refine OL.q (Q1.pick_f rfl rfl) rfl rfl ?_
    refine OL.q (Q1.move rfl) rfl rfl ?_
    refine OL.sk rfl rfl ?_
    refine OL.sk rfl rfl ?_
    refine OL.sk rfl rfl ?_
    refine OL.sk rfl rfl ?_
    refine OL.sk rfl rfl ?_
    refine OL.sk rfl rfl ?_
    refine OL.sk rfl rfl ?_
    refine OL.sk rfl rfl ?_
    refine OL.sk rfl rfl ?_
    refine OL.sk rfl rfl ?_
    refine OL.q (Q1.pick_f rfl rfl) rfl rfl ?_
    refine OL.q (Q1.move rfl) rfl rfl ?_
    refine OL.sk rfl rfl ?_
    refine OL.sk rfl rfl ?_
    refine OL.sk rfl rfl ?_
    refine OL.sk rfl rfl ?_
    refine OL.sk rfl rfl ?_
    refine OL.sk rfl rfl ?_
    refine OL.sk rfl rfl ?_
    refine OL.sk rfl rfl ?_
    refine OL.sk rfl rfl ?_
    refine OL.sk rfl rfl ?_
    refine OL.sk rfl rfl ?_
    refine OL.q (Q1.pick_f rfl rfl) rfl rfl ?_
    refine OL.q (Q1.assign rfl) rfl rfl ?_
    refine OL.nil ?_
    refine r_ret1 Tryz.func76 rfl rfl ?_
    exact Ret.mk ⟨⟨_, (by first | (rw [node_no (by omega)]; done) | (rw [node_yes (by omega) hgx1]; exact fin_head0 (by assumption) (by assumption)) | (rw [node_yes (by omega) hgx1]; exact fin_nil (by omega)) | (exfalso; omega)), rfl⟩, hE0⟩
end Go.Proofs
namespace Go.Proofs
open Go.Ik Go.Ml
set_option maxRecDepth 20000 in
set_option maxHeartbeats 4000000 in
theorem r9seal_c {w0 : World}  {v_b : Value} {b : List UInt8} (h_b : Sl encB w0 (Iv 0 w0.heap.size) v_b b) (hbl : b.length ≤ 3000000) :
    Calls Tryz.prog 77 #[v_b] w0 (Ret fun rv w1 => (∃ gr, Acc encB 5 1 w1 gr rv (sealB b) ∧ (gr = 0 ∨ w0.heap.size < gr)) ∧ Ext w0 w1) := by
  have hE0 : Ext w0 w0 := Mod.refl _ _
  have hle1 := h_b.le
  refine calls_enter Tryz.func77 rfl Tryz.ntmps77 rfl ?_
  refine r_seq ?_
  refine r_region ?_
  refine OL.q (Q1.assign rfl) rfl rfl ?_
  refine OL.nil ?_
  refine r_seq ?_
  refine r_region ?_
  refine OL.q (Q1.move rfl) rfl rfl ?_
  refine OL.q (Q1.move rfl) rfl rfl ?_
  refine OL.act rfl rfl (AW.callF cl93 rfl (r2of_c (w0 := w0) (b := b)  ((h_b).iv (Nat.zero_le _) (by omega)) (by first | assumption | omega | (simp only [List.length_append, putN_len, List.length_cons, List.length_nil]; omega))) ?_)
  rintro _ w1 ⟨rfl, hm1⟩
  have f1 := h_b.ext hm1
  have hE1 := hE0.ext hm1
  have hs1 := hm1.size
  have := sumF_lt 0 b
  change sumN b < _ at this
  refine OL.q (Q1.convN (by kernel_rfl) Tryz.underlying3 rfl (IntWalk.i64_in _ (by omega))) rfl rfl ?_
  refine OL.act rfl rfl (AW.callF cl75 rfl (r3put_c (w0 := w1) (b := b) ((((sumN b : Nat) : Int))) (4) ((f1).iv (Nat.zero_le _) (by omega)) (by first | assumption | omega | (simp only [List.length_append, putN_len, List.length_cons, List.length_nil]; omega)) (by first | omega | decide)) ?_)
  rintro v1 w2 ⟨⟨gr1, h1, hg1⟩, hm2⟩
  have f2 := f1.ext hm2
  have hE2 := hE1.ext hm2
  have hs2 := hm2.size
  have hle_1 := h1.le
  have hlt_1 := h1.lt
  have := putN_len ((((sumN b : Nat) : Int))) 4
  refine OL.q (Q1.assign rfl) rfl rfl ?_
  refine OL.nil ?_
  refine r_ret1 Tryz.func77 rfl rfl ?_
  exact Ret.mk ⟨⟨_, Acc.cast h1 (by rfl), by omega⟩, hE2⟩
set_option maxRecDepth 20000 in
set_option maxHeartbeats 1000000 in
theorem r9encode_c {w0 : World}  {vN_g : Value} {lo_g hi_g b_g : Nat} {nds_g : List RNd} {g : GS} (hrw_g : Rw w0 lo_g hi_g b_g [vN_g]) (hsl_g : Sl encRd w0 (Iv lo_g hi_g) vN_g nds_g) (hrr_g : RR w0 (Iv 0 hi_g) nds_g g) (hgn_g : nds_g.length ≤ 1000000 ∧ hi_g ≤ w0.heap.size) (hel : ∀ x ∈ g, x.2.length ≤ 1000000) (hI : ∀ x ∈ gnOf g, ∀ e ∈ x.2, I64 e.to ∧ -2147483648 ≤ e.rune ∧ e.rune ≤ 2147483647) (hbd : (bodyB (gnOf g)).length ≤ 3000000) :
    Calls Tryz.prog 62 #[ptr b_g 0] w0 (Ret fun rv w1 => (∃ gr, Acc encB 5 1 w1 gr rv (encB_ (gnOf g)) ∧ (gr = 0 ∨ w0.heap.size < gr)) ∧ Ext w0 w1) := by
  have hE0 : Ext w0 w0 := Mod.refl _ _
  have hle1 := hsl_g.le
  have hgl := (All2.get hrr_g).1
  obtain ⟨hgn1, hgn2⟩ := hgn_g
  have hgo := gnOf_len g
  refine calls_enter Tryz.func62 rfl Tryz.ntmps62 rfl ?_
  refine r_seq ?_
  refine r_region ?_
  refine OL.q (Q1.assign rfl) rfl rfl ?_
  refine OL.nil ?_
  refine r_seq ?_
  refine r_region ?_
  refine OL.act rfl rfl (AW.buildSlice [(.int .u8 73 : Value), (.int .u8 78 : Value), (.int .u8 75 : Value), (.int .u8 49 : Value)] Tryz.underlying47 ti5 rfl rfl rfl (by decide) ?_)
  intro w1 b1 hm1 hb1 hz1 hk1
  have f1 := hsl_g.ext hm1
  have f2 := hrr_g.ext hm1
  have f3 := hrw_g.ext hm1
  have hE1 := hE0.ext hm1
  have hs1 := hm1.size
  have hl1 := Sl.of_blk (enc := encB) hk1 ([(73 : UInt8), (78 : UInt8), (75 : UInt8), (49 : UInt8)] : List UInt8) 4 rfl rfl (by unfold maxLen; omega)
  refine OL.q (Q1.move rfl) rfl rfl ?_
  refine OL.q (Q1.nilCheckP rfl) rfl rfl ?_
  refine OL.q (Q1.fieldAddr fl123_0 rfl) rfl rfl ?_
  refine OL.q (Q1.load1 ti121 rfl (fun _ e => e ▸ (f3.cell 0 _ rfl))) rfl rfl ?_
  refine OL.q (Q1.lenSl Tryz.underlying121 (f1) rfl) rfl rfl ?_
  refine OL.act rfl rfl (AW.callF cl75 rfl (r3put_c (w0 := w1) (b := [(73 : UInt8), (78 : UInt8), (75 : UInt8), (49 : UInt8)]) (((nds_g.length : Nat) : Int)) (2) ((hl1).iv (Nat.zero_le _) (by omega)) (by first | assumption | omega | (simp only [List.length_append, putN_len, List.length_cons, List.length_nil]; omega)) (by first | omega | decide)) ?_)
  rintro v1 w2 ⟨⟨gr1, h1, hg1⟩, hm2⟩
  have f4 := f1.ext hm2
  have f5 := f2.ext hm2
  have f6 := f3.ext hm2
  have f7 := hl1.ext hm2
  have hE2 := hE1.ext hm2
  have hs2 := hm2.size
  have hle_1 := h1.le
  have hlt_1 := h1.lt
  have := putN_len (((nds_g.length : Nat) : Int)) 2
  refine OL.q (Q1.assign rfl) rfl rfl ?_
  refine OL.nil ?_
  refine r_seq ?_
  refine r_seq ?_
  refine r_region ?_
  refine OL.q (Q1.assign rfl) rfl rfl ?_
  refine OL.nil ?_
  refine r_block ?_
  refine r_loop (I := fun m E W => ∃ (v_out : Value) (g_out : Nat) (out : List UInt8) (i : Nat), E = [(0, ptr b_g 0), (3, v_out), (4, .int .i64 (((i : Nat) : Int)))] ∧ m = g.length - i ∧ Ext w0 W ∧ w2.heap.size ≤ W.heap.size ∧ Acc encB 5 1 W g_out v_out out ∧ (g_out = 0 ∨ w0.heap.size < g_out) ∧ Rw W lo_g hi_g b_g [vN_g] ∧ Sl encRd W (Iv lo_g hi_g) vN_g nds_g ∧ RR W (Iv 0 hi_g) nds_g g ∧ (g_out ≤ lo_g ∨ hi_g < g_out) ∧ (out ++ ((gnOf g).drop i).flatMap nodeB = bodyB (gnOf g)) ∧ (i ≤ g.length)) ?_ ?_
  · refine ⟨_, _, ⟨(v1 : Value), (gr1 : Nat), ((([(73 : UInt8), (78 : UInt8), (75 : UInt8), (49 : UInt8)]) ++ putN (((nds_g.length : Nat) : Int)) 2) : List UInt8), (0 : Nat), rfl, rfl, hE2, Nat.le_refl _, h1, (by omega), f6, f4, f5, (by omega), (by (have := enc_start (gnOf g); rw [hgo] at this; rw [hgl]; exact this)), (by omega)⟩, ⟨rfl, rfl, rfl, trivial⟩⟩
  · rintro _ _ w3 ⟨v_out, g_out, out, i, rfl, rfl, hE3, hs3, ha1, hg2, f8, f9, f10, hn1, hO, hil⟩ ih1
    have hbl := enc_len hO
    refine r_seq ?_
    refine r_seq ?_
    refine r_region ?_
    refine OL.q (Q1.move rfl) rfl rfl ?_
    refine OL.q (Q1.move rfl) rfl rfl ?_
    refine OL.q (Q1.nilCheckP rfl) rfl rfl ?_
    refine OL.q (Q1.fieldAddr fl123_0 rfl) rfl rfl ?_
    refine OL.q (Q1.load1 ti121 rfl (fun _ e => e ▸ (f8.cell 0 _ rfl))) rfl rfl ?_
    refine OL.q (Q1.lenSl Tryz.underlying121 (f9) rfl) rfl rfl ?_
    refine OL.qb (Q1.lt rfl rfl) rfl rfl ?_
    intro b2 hb2
    refine OL.nil ?_
    cases b2 with
    | true =>
      replace hb2 := of_decide_eq_true hb2.symm
      refine r_cond_t rfl ?_
      refine r_skip ?_
      refine r_seq ?_
      refine r_block ?_
      refine r_seq ?_
      refine r_region ?_
      refine OL.q (Q1.assign rfl) rfl rfl ?_
      refine OL.nil ?_
      refine r_seq ?_
      refine r_seq ?_
      refine r_region ?_
      refine OL.q (Q1.move rfl) rfl rfl ?_
      refine OL.q (Q1.move rfl) rfl rfl ?_
      refine OL.act rfl rfl (AW.callF cl76 rfl (r8final_c (w0 := w3)  (((i : Nat) : Int)) f8 f9 f10 ⟨by omega, by omega⟩ (by first | omega | assumption)) ?_)
      rintro _ w4 ⟨⟨b3, hb3, rfl⟩, hm3⟩
      have hl2 := ha1.lt
      have f11 := ha1.ext hm3
      have f12 := f8.ext hm3
      have f13 := f9.ext hm3
      have f14 := f10.ext hm3
      have hE4 := hE3.ext hm3
      have hs4 := hm3.size
      refine OL.nil ?_
      cases b3 with
      | true =>
        replace hb3 := hb3.symm
        refine r_cond_t rfl ?_
        refine r_region ?_
        refine OL.q (Q1.assign rfl) rfl rfl ?_
        refine OL.nil ?_
        refine r_seq ?_
        refine r_draw1 (fun i => Nat.beq i 2 || Nat.beq i 12) 14 (fun w' => Mod (Mg 0) w4 w') mixed (by kernel_rfl) ?_
        intro w5 hm4
        have hl3 := f11.lt
        have f15 := f11.ext hm4
        have f16 := f12.ext hm4
        have f17 := f13.ext hm4
        have f18 := f14.ext hm4
        have hE5 := hE4.ext hm4
        have hs5 := hm4.size
        have hCw5 : Mod (Mg 0) w4 w5 := Mod.ofExt hm4
        refine ⟨hCw5, ?_⟩
        rw [show List.range' 0 (Array.size _) = [0, 1, 2, 3, 4, 5, 6, 7, 8, 9, 10, 11, 12, 13] from rfl]
        refine OD.q rfl rfl (Q1.move rfl) rfl rfl ?_
        refine OD.q rfl rfl (Q1.move rfl) rfl rfl ?_
        refine OD.act rfl rfl rfl rfl (AW.callF cl75 rfl (r3put_c (w0 := w5) (b := out) (1) (1) ((f15.sl).iv (Nat.zero_le _) (by omega)) (by first | assumption | omega | (simp only [List.length_append, putN_len, List.length_cons, List.length_nil]; omega)) (by first | omega | decide)) ?_)
        rintro v2 w6 ⟨⟨gr2, h2, hg3⟩, hm5⟩
        have hl4 := f15.lt
        have f19 := f15.ext hm5
        have f20 := f16.ext hm5
        have f21 := f17.ext hm5
        have f22 := f18.ext hm5
        have hE6 := hE5.ext hm5
        have hs6 := hm5.size
        have hCw6 := hCw5.ext hm5
        refine ⟨.inr hCw6, ?_⟩
        have hle_2 := h2.le
        have hlt_2 := h2.lt
        have := putN_len 1 1
        refine OD.q rfl rfl (Q1.move rfl) rfl rfl ?_
        refine OD.q rfl rfl (Q1.nilCheckP rfl) rfl rfl ?_
        refine OD.q rfl rfl (Q1.fieldAddr fl123_0 rfl) rfl rfl ?_
        refine OD.q rfl rfl (Q1.load1 ti121 rfl (fun _ hc => (f12.cell 0 _ rfl).keepG hc (by omega))) rfl rfl ?_
        refine OD.q rfl rfl (Q1.move rfl) rfl rfl ?_
        obtain ⟨x1, b4, o1, hx1, hr1, hl5, hu1, hw1⟩ := Sl.at' (P := Tryz.prog) f13 Tryz.underlying121 ti125 encRd_len (k := .i64) (n := ((i : Nat) : Int)) (i) (by omega) (by first | assumption | omega)
        refine OD.q rfl rfl (Q1.indexAddr rfl rfl hr1) rfl rfl ?_
        refine OD.q rfl rfl (Q1.fieldAddr fl125_1 rfl) rfl rfl ?_
        have hr2 := hw1.sub 1 1 (Nat.le_of_ble_eq_true rfl)
        obtain ⟨gx1, hgx1, hn2, hn3⟩ := RR.at f22 hx1
        replace hn3 : Sl encE w6 (Iv 0 hi_g) x1.e.val gx1.2 := hn3
        have hle_3 := hn3.le
        refine OD.q rfl rfl (Q1.load1 ti109 rfl (fun _ hc => hr2.keepG hc (by omega))) rfl rfl ?_
        have hgi := gnOf_get hgx1
        have hgl3 := enc_lenN hO hgi
        have hxe := hel _ (List.mem_of_getElem? hgx1)
        refine OD.q rfl rfl (Q1.lenSl Tryz.underlying109 (hn3) rfl) rfl rfl ?_
        refine OD.act rfl rfl rfl rfl (AW.callF cl75 rfl (r3put_c (w0 := w6) (b := (out ++ putN 1 1)) (((gx1.2.length : Nat) : Int)) (2) ((h2.sl).iv (Nat.zero_le _) (by omega)) (by first | assumption | omega | (simp only [List.length_append, putN_len, List.length_cons, List.length_nil]; omega)) (by first | omega | decide)) ?_)
        rintro v3 w7 ⟨⟨gr3, h3, hg4⟩, hm6⟩
        have hl6 := f19.lt
        have hl7 := h2.lt
        have f23 := f19.ext hm6
        have f24 := f20.ext hm6
        have f25 := f21.ext hm6
        have f26 := f22.ext hm6
        have f27 := h2.ext hm6
        have f28 := hn3.ext hm6
        have hE7 := hE6.ext hm6
        have hs7 := hm6.size
        have hCw7 := hCw6.ext hm6
        refine ⟨.inr hCw7, ?_⟩
        have hle_4 := h3.le
        have hlt_3 := h3.lt
        have := putN_len (((gx1.2.length : Nat) : Int)) 2
        refine OD.q rfl rfl (Q1.assign rfl) rfl rfl ?_
        refine OD.nil ?_
        refine r_seq ?_
        refine r_region ?_
        refine OL.q (Q1.assign rfl) rfl rfl ?_
        refine OL.nil ?_
        refine r_block ?_
        refine r_loop (I := fun m E W => ∃ (v_out2 : Value) (g_out2 : Nat) (out2 : List UInt8) (k : Nat), E = [(0, ptr b_g 0), (3, v_out2), (4, .int .i64 (((i : Nat) : Int))), (6, .int .i64 (((k : Nat) : Int)))] ∧ m = gx1.2.length - k ∧ Ext w0 W ∧ w7.heap.size ≤ W.heap.size ∧ Acc encB 5 1 W g_out2 v_out2 out2 ∧ (g_out2 = 0 ∨ w0.heap.size < g_out2) ∧ Rw W lo_g hi_g b_g [vN_g] ∧ Sl encRd W (Iv lo_g hi_g) vN_g nds_g ∧ RR W (Iv 0 hi_g) nds_g g ∧ (g_out2 ≤ lo_g ∨ hi_g < g_out2) ∧ (out2 ++ ((gx1.2.drop k).flatMap edgeB ++ ((gnOf g).drop (i + 1)).flatMap nodeB) = bodyB (gnOf g))) ?_ ?_
        · refine ⟨_, _, ⟨(v3 : Value), (gr3 : Nat), ((((out ++ putN 1 1)) ++ putN (((gx1.2.length : Nat) : Int)) 2) : List UInt8), (0 : Nat), rfl, rfl, hE7, Nat.le_refl _, h3, (by omega), f24, f25, f26, (by omega), (by first | exact enc_nodeT hO hgx1 (by assumption) | exact enc_nodeF hO hgx1 (by assumption))⟩, ⟨rfl, rfl, rfl, rfl, trivial⟩⟩
        · rintro _ _ w8 ⟨v_out2, g_out2, out2, k, rfl, rfl, hE8, hs8, ha2, hg5, f29, f30, f31, hn4, hO2⟩ ih2
          have hbl2 := enc_len hO2
          refine r_seq ?_
          refine r_seq ?_
          refine r_region ?_
          refine OL.q (Q1.move rfl) rfl rfl ?_
          refine OL.q (Q1.move rfl) rfl rfl ?_
          refine OL.q (Q1.nilCheckP rfl) rfl rfl ?_
          refine OL.q (Q1.fieldAddr fl123_0 rfl) rfl rfl ?_
          refine OL.q (Q1.load1 ti121 rfl (fun _ e => e ▸ (f29.cell 0 _ rfl))) rfl rfl ?_
          refine OL.q (Q1.move rfl) rfl rfl ?_
          obtain ⟨x2, b5, o2, hx2, hr3, hl8, hu2, hw2⟩ := Sl.at' (P := Tryz.prog) f30 Tryz.underlying121 ti125 encRd_len (k := .i64) (n := ((i : Nat) : Int)) (i) (by omega) (by first | assumption | omega)
          obtain rfl : x1 = x2 := Option.some.inj (hx1.symm.trans hx2)
          refine OL.q (Q1.indexAddr rfl rfl hr3) rfl rfl ?_
          refine OL.q (Q1.fieldAddr fl125_1 rfl) rfl rfl ?_
          have hr4 := hw2.sub 1 1 (Nat.le_of_ble_eq_true rfl)
          obtain ⟨gx2, hgx2, hn5, hn6⟩ := RR.at f31 hx2
          obtain rfl : gx1 = gx2 := Option.some.inj (hgx1.symm.trans hgx2)
          replace hn6 : Sl encE w8 (Iv 0 hi_g) x1.e.val gx1.2 := hn6
          have hle_5 := hn6.le
          refine OL.q (Q1.load1 ti109 rfl (fun _ e => e ▸ hr4)) rfl rfl ?_
          refine OL.q (Q1.lenSl Tryz.underlying109 (hn6) rfl) rfl rfl ?_
          refine OL.qb (Q1.lt rfl rfl) rfl rfl ?_
          intro b6 hb4
          refine OL.nil ?_
          cases b6 with
          | true =>
            replace hb4 := of_decide_eq_true hb4.symm
            refine r_cond_t rfl ?_
            refine r_skip ?_
            refine r_seq ?_
            refine r_block ?_
            refine r_seq ?_
            refine r_region ?_
            refine OL.q (Q1.move rfl) rfl rfl ?_
            refine OL.q (Q1.nilCheckP rfl) rfl rfl ?_
            refine OL.q (Q1.fieldAddr fl123_0 rfl) rfl rfl ?_
            refine OL.q (Q1.load1 ti121 rfl (fun _ e => e ▸ (f29.cell 0 _ rfl))) rfl rfl ?_
            refine OL.q (Q1.move rfl) rfl rfl ?_
            obtain ⟨x3, b7, o3, hx3, hr5, hl9, hu3, hw3⟩ := Sl.at' (P := Tryz.prog) f30 Tryz.underlying121 ti125 encRd_len (k := .i64) (n := ((i : Nat) : Int)) (i) (by omega) (by first | assumption | omega)
            obtain rfl : x1 = x3 := Option.some.inj (hx1.symm.trans hx3)
            refine OL.q (Q1.indexAddr rfl rfl hr5) rfl rfl ?_
            refine OL.q (Q1.fieldAddr fl125_1 rfl) rfl rfl ?_
            have hr6 := hw3.sub 1 1 (Nat.le_of_ble_eq_true rfl)
            obtain ⟨gx3, hgx3, hn7, hn8⟩ := RR.at f31 hx3
            obtain rfl : gx1 = gx3 := Option.some.inj (hgx1.symm.trans hgx3)
            replace hn8 : Sl encE w8 (Iv 0 hi_g) x1.e.val gx1.2 := hn8
            have hle_6 := hn8.le
            refine OL.q (Q1.load1 ti109 rfl (fun _ e => e ▸ hr6)) rfl rfl ?_
            refine OL.q (Q1.move rfl) rfl rfl ?_
            obtain ⟨x4, b8, o4, hx4, hr7, hl10, hu4, hw4⟩ := Sl.at' (P := Tryz.prog) hn8 Tryz.underlying109 ti114 encE_len (k := .i64) (n := ((k : Nat) : Int)) (k) (by omega) (by first | assumption | omega)
            refine OL.q (Q1.indexAddr rfl rfl hr7) rfl rfl ?_
            have hl6 := enc_len4 hO2 hx4
            have hie := hI _ (List.mem_of_getElem? hgi) _ (List.mem_of_getElem? hx4)
            refine OL.q (Q1.loadN ti114 rfl (fun _ e => e ▸ hw4) rfl) rfl rfl ?_
            refine OL.act rfl rfl (AW.alloc ti114 ?_)
            intro w9 b9 hm7 hb5 hz2 hk2
            have hl11 := ha2.lt
            have f32 := ha2.ext hm7
            have f33 := f29.ext hm7
            have f34 := f30.ext hm7
            have f35 := f31.ext hm7
            have f36 := hn6.ext hm7
            have f37 := hn8.ext hm7
            have hE9 := hE8.ext hm7
            have hs9 := hm7.size
            refine OL.act rfl rfl (AW.store ti114 rfl rfl rfl rfl rfl hk2 (Nat.le_of_ble_eq_true rfl) ?_)
            intro w10 hm8 hz3 hk3
            replace hk3 : Bk w10 b9 [.int .i32 x4.rune, .int .i64 x4.to] 114 := hk3
            have hl12 := f32.lt
            have f38 := f32.keepG hm8 (by omega)
            have f39 := f33.keepG hm8 (by omega)
            have f40 := f34.keepG hm8 (by omega)
            have f41 := f35.keepG hm8 (by omega)
            have f42 := f36.keepG hm8 (by omega)
            have f43 := f37.keepG hm8 (by omega)
            have hE10 := Ext.thenG hE9 hm8 (by omega)
            have hs10 := hm8.size
            refine OL.nil ?_
            refine r_draw1 (fun i => Nat.beq i 4 || Nat.beq i 7) 9 (fun w' => Mod (Mg 0) w10 w') mixed (by kernel_rfl) ?_
            intro w11 hm9
            have hl13 := f38.lt
            have f44 := f38.ext hm9
            have f45 := f39.ext hm9
            have f46 := f40.ext hm9
            have f47 := f41.ext hm9
            have f48 := f42.ext hm9
            have f49 := f43.ext hm9
            have f50 := hk3.ext hm9
            have hE11 := hE10.ext hm9
            have hs11 := hm9.size
            have hCw11 : Mod (Mg 0) w10 w11 := Mod.ofExt hm9
            refine ⟨hCw11, ?_⟩
            rw [show List.range' 0 (Array.size _) = [0, 1, 2, 3, 4, 5, 6, 7, 8] from rfl]
            refine OD.q rfl rfl (Q1.move rfl) rfl rfl ?_
            refine OD.q rfl rfl (Q1.fieldAddr fl114_0 rfl) rfl rfl ?_
            refine OD.q rfl rfl (Q1.load1 ti21 rfl (fun _ hc => (hk3.cell 0 _ rfl).keepG hc (by omega))) rfl rfl ?_
            refine OD.q rfl rfl (Q1.convN (by kernel_rfl) Tryz.underlying3 rfl (IntWalk.i64_in _ (by omega))) rfl rfl ?_
            refine OD.act rfl rfl rfl rfl (AW.callF cl75 rfl (r3put_c (w0 := w11) (b := out2) (x4.rune) (4) ((f44.sl).iv (Nat.zero_le _) (by omega)) (by first | assumption | omega | (simp only [List.length_append, putN_len, List.length_cons, List.length_nil]; omega)) (by first | omega | decide)) ?_)
            rintro v4 w12 ⟨⟨gr4, h4, hg6⟩, hm10⟩
            have hl14 := f44.lt
            have f51 := f44.ext hm10
            have f52 := f45.ext hm10
            have f53 := f46.ext hm10
            have f54 := f47.ext hm10
            have f55 := f48.ext hm10
            have f56 := f49.ext hm10
            have f57 := f50.ext hm10
            have hE12 := hE11.ext hm10
            have hs12 := hm10.size
            have hCw12 := hCw11.ext hm10
            refine ⟨.inr hCw12, ?_⟩
            have hle_7 := h4.le
            have hlt_4 := h4.lt
            have := putN_len x4.rune 4
            refine OD.q rfl rfl (Q1.fieldAddr fl114_1 rfl) rfl rfl ?_
            refine OD.q rfl rfl (Q1.load1 ti3 rfl (fun _ hc => (hk3.cell 1 _ rfl).keepG hc (by omega))) rfl rfl ?_
            refine OD.act rfl rfl rfl rfl (AW.callF cl75 rfl (r3put_c (w0 := w12) (b := (out2 ++ putN x4.rune 4)) (x4.to) (2) ((h4.sl).iv (Nat.zero_le _) (by omega)) (by first | assumption | omega | (simp only [List.length_append, putN_len, List.length_cons, List.length_nil]; omega)) (by first | omega | decide)) ?_)
            rintro v5 w13 ⟨⟨gr5, h5, hg7⟩, hm11⟩
            have hl15 := f51.lt
            have hl16 := h4.lt
            have f58 := f51.ext hm11
            have f59 := f52.ext hm11
            have f60 := f53.ext hm11
            have f61 := f54.ext hm11
            have f62 := f55.ext hm11
            have f63 := f56.ext hm11
            have f64 := f57.ext hm11
            have f65 := h4.ext hm11
            have hE13 := hE12.ext hm11
            have hs13 := hm11.size
            have hCw13 := hCw12.ext hm11
            refine ⟨.inr hCw13, ?_⟩
            have hle_8 := h5.le
            have hlt_5 := h5.lt
            have := putN_len x4.to 2
            refine OD.q rfl rfl (Q1.assign rfl) rfl rfl ?_
            refine OD.nil ?_
            refine r_inBlock ?_
            refine r_region ?_
            refine OL.q (Q1.move rfl) rfl rfl ?_
            refine OL.q (Q1.addI (((k + 1 : Nat) : Int)) rfl rfl (by omega)) rfl rfl ?_
            refine OL.q (Q1.assign rfl) rfl rfl ?_
            refine OL.nil ?_
            exact (ih2 _ _ _ ⟨(v5 : Value), (gr5 : Nat), ((((out2 ++ putN x4.rune 4)) ++ putN x4.to 2) : List UInt8), (k + 1 : Nat), rfl, rfl, hE13, (by omega), h5, (by omega), f59, f60, f61, (by omega), (by first | exact enc_edge hO2 hx4 | (exfalso; omega))⟩ (by omega)).sub ⟨rfl, rfl, rfl, rfl, trivial⟩
          | false =>
            replace hb4 := of_decide_eq_false hb4.symm
            refine r_cond_f rfl ?_
            refine r_exit rfl ?_
            refine r_inBlock ?_
            refine r_region ?_
            refine OL.q (Q1.move rfl) rfl rfl ?_
            refine OL.q (Q1.addI (((i + 1 : Nat) : Int)) rfl rfl (by omega)) rfl rfl ?_
            refine OL.q (Q1.assign rfl) rfl rfl ?_
            refine OL.nil ?_
            exact (ih1 _ _ _ ⟨(v_out2 : Value), (g_out2 : Nat), (out2 : List UInt8), (i + 1 : Nat), rfl, rfl, hE8, (by omega), ha2, (by omega), f29, f30, f31, (by omega), (by first | exact enc_next hO2 (by omega) | (exfalso; omega)), (by first | omega | (exfalso; omega))⟩ (by omega)).sub ⟨rfl, rfl, rfl, trivial⟩
      | false =>
        replace hb3 := hb3.symm
        refine r_cond_f rfl ?_
        refine r_skip ?_
        refine r_seq ?_
        refine r_draw1 (fun i => Nat.beq i 2 || Nat.beq i 12) 14 (fun w' => Mod (Mg 0) w4 w') mixed (by kernel_rfl) ?_
        intro w5 hm4
        have hl3 := f11.lt
        have f15 := f11.ext hm4
        have f16 := f12.ext hm4
        have f17 := f13.ext hm4
        have f18 := f14.ext hm4
        have hE5 := hE4.ext hm4
        have hs5 := hm4.size
        have hCw5 : Mod (Mg 0) w4 w5 := Mod.ofExt hm4
        refine ⟨hCw5, ?_⟩
        rw [show List.range' 0 (Array.size _) = [0, 1, 2, 3, 4, 5, 6, 7, 8, 9, 10, 11, 12, 13] from rfl]
        refine OD.q rfl rfl (Q1.move rfl) rfl rfl ?_
        refine OD.q rfl rfl (Q1.move rfl) rfl rfl ?_
        refine OD.act rfl rfl rfl rfl (AW.callF cl75 rfl (r3put_c (w0 := w5) (b := out) (0) (1) ((f15.sl).iv (Nat.zero_le _) (by omega)) (by first | assumption | omega | (simp only [List.length_append, putN_len, List.length_cons, List.length_nil]; omega)) (by first | omega | decide)) ?_)
        rintro v2 w6 ⟨⟨gr2, h2, hg3⟩, hm5⟩
        have hl4 := f15.lt
        have f19 := f15.ext hm5
        have f20 := f16.ext hm5
        have f21 := f17.ext hm5
        have f22 := f18.ext hm5
        have hE6 := hE5.ext hm5
        have hs6 := hm5.size
        have hCw6 := hCw5.ext hm5
        refine ⟨.inr hCw6, ?_⟩
        have hle_2 := h2.le
        have hlt_2 := h2.lt
        have := putN_len 0 1
        refine OD.q rfl rfl (Q1.move rfl) rfl rfl ?_
        refine OD.q rfl rfl (Q1.nilCheckP rfl) rfl rfl ?_
        refine OD.q rfl rfl (Q1.fieldAddr fl123_0 rfl) rfl rfl ?_
        refine OD.q rfl rfl (Q1.load1 ti121 rfl (fun _ hc => (f12.cell 0 _ rfl).keepG hc (by omega))) rfl rfl ?_
        refine OD.q rfl rfl (Q1.move rfl) rfl rfl ?_
        obtain ⟨x1, b4, o1, hx1, hr1, hl5, hu1, hw1⟩ := Sl.at' (P := Tryz.prog) f13 Tryz.underlying121 ti125 encRd_len (k := .i64) (n := ((i : Nat) : Int)) (i) (by omega) (by first | assumption | omega)
        refine OD.q rfl rfl (Q1.indexAddr rfl rfl hr1) rfl rfl ?_
        refine OD.q rfl rfl (Q1.fieldAddr fl125_1 rfl) rfl rfl ?_
        have hr2 := hw1.sub 1 1 (Nat.le_of_ble_eq_true rfl)
        obtain ⟨gx1, hgx1, hn2, hn3⟩ := RR.at f22 hx1
        replace hn3 : Sl encE w6 (Iv 0 hi_g) x1.e.val gx1.2 := hn3
        have hle_3 := hn3.le
        refine OD.q rfl rfl (Q1.load1 ti109 rfl (fun _ hc => hr2.keepG hc (by omega))) rfl rfl ?_
        have hgi := gnOf_get hgx1
        have hgl3 := enc_lenN hO hgi
        have hxe := hel _ (List.mem_of_getElem? hgx1)
        refine OD.q rfl rfl (Q1.lenSl Tryz.underlying109 (hn3) rfl) rfl rfl ?_
        refine OD.act rfl rfl rfl rfl (AW.callF cl75 rfl (r3put_c (w0 := w6) (b := (out ++ putN 0 1)) (((gx1.2.length : Nat) : Int)) (2) ((h2.sl).iv (Nat.zero_le _) (by omega)) (by first | assumption | omega | (simp only [List.length_append, putN_len, List.length_cons, List.length_nil]; omega)) (by first | omega | decide)) ?_)
        rintro v3 w7 ⟨⟨gr3, h3, hg4⟩, hm6⟩
        have hl6 := f19.lt
        have hl7 := h2.lt
        have f23 := f19.ext hm6
        have f24 := f20.ext hm6
        have f25 := f21.ext hm6
        have f26 := f22.ext hm6
        have f27 := h2.ext hm6
        have f28 := hn3.ext hm6
        have hE7 := hE6.ext hm6
        have hs7 := hm6.size
        have hCw7 := hCw6.ext hm6
        refine ⟨.inr hCw7, ?_⟩
        have hle_4 := h3.le
        have hlt_3 := h3.lt
        have := putN_len (((gx1.2.length : Nat) : Int)) 2
        refine OD.q rfl rfl (Q1.assign rfl) rfl rfl ?_
        refine OD.nil ?_
        refine r_seq ?_
        refine r_region ?_
        refine OL.q (Q1.assign rfl) rfl rfl ?_
        refine OL.nil ?_
        refine r_block ?_
        refine r_loop (I := fun m E W => ∃ (v_out2 : Value) (g_out2 : Nat) (out2 : List UInt8) (k : Nat), E = [(0, ptr b_g 0), (3, v_out2), (4, .int .i64 (((i : Nat) : Int))), (6, .int .i64 (((k : Nat) : Int)))] ∧ m = gx1.2.length - k ∧ Ext w0 W ∧ w7.heap.size ≤ W.heap.size ∧ Acc encB 5 1 W g_out2 v_out2 out2 ∧ (g_out2 = 0 ∨ w0.heap.size < g_out2) ∧ Rw W lo_g hi_g b_g [vN_g] ∧ Sl encRd W (Iv lo_g hi_g) vN_g nds_g ∧ RR W (Iv 0 hi_g) nds_g g ∧ (g_out2 ≤ lo_g ∨ hi_g < g_out2) ∧ (out2 ++ ((gx1.2.drop k).flatMap edgeB ++ ((gnOf g).drop (i + 1)).flatMap nodeB) = bodyB (gnOf g))) ?_ ?_
        · refine ⟨_, _, ⟨(v3 : Value), (gr3 : Nat), ((((out ++ putN 0 1)) ++ putN (((gx1.2.length : Nat) : Int)) 2) : List UInt8), (0 : Nat), rfl, rfl, hE7, Nat.le_refl _, h3, (by omega), f24, f25, f26, (by omega), (by first | exact enc_nodeT hO hgx1 (by assumption) | exact enc_nodeF hO hgx1 (by assumption))⟩, ⟨rfl, rfl, rfl, rfl, trivial⟩⟩
        · rintro _ _ w8 ⟨v_out2, g_out2, out2, k, rfl, rfl, hE8, hs8, ha2, hg5, f29, f30, f31, hn4, hO2⟩ ih2
          have hbl2 := enc_len hO2
          refine r_seq ?_
          refine r_seq ?_
          refine r_region ?_
          refine OL.q (Q1.move rfl) rfl rfl ?_
          refine OL.q (Q1.move rfl) rfl rfl ?_
          refine OL.q (Q1.nilCheckP rfl) rfl rfl ?_
          refine OL.q (Q1.fieldAddr fl123_0 rfl) rfl rfl ?_
          refine OL.q (Q1.load1 ti121 rfl (fun _ e => e ▸ (f29.cell 0 _ rfl))) rfl rfl ?_
          refine OL.q (Q1.move rfl) rfl rfl ?_
          obtain ⟨x2, b5, o2, hx2, hr3, hl8, hu2, hw2⟩ := Sl.at' (P := Tryz.prog) f30 Tryz.underlying121 ti125 encRd_len (k := .i64) (n := ((i : Nat) : Int)) (i) (by omega) (by first | assumption | omega)
          obtain rfl : x1 = x2 := Option.some.inj (hx1.symm.trans hx2)
          refine OL.q (Q1.indexAddr rfl rfl hr3) rfl rfl ?_
          refine OL.q (Q1.fieldAddr fl125_1 rfl) rfl rfl ?_
          have hr4 := hw2.sub 1 1 (Nat.le_of_ble_eq_true rfl)
          obtain ⟨gx2, hgx2, hn5, hn6⟩ := RR.at f31 hx2
          obtain rfl : gx1 = gx2 := Option.some.inj (hgx1.symm.trans hgx2)
          replace hn6 : Sl encE w8 (Iv 0 hi_g) x1.e.val gx1.2 := hn6
          have hle_5 := hn6.le
          refine OL.q (Q1.load1 ti109 rfl (fun _ e => e ▸ hr4)) rfl rfl ?_
          refine OL.q (Q1.lenSl Tryz.underlying109 (hn6) rfl) rfl rfl ?_
          refine OL.qb (Q1.lt rfl rfl) rfl rfl ?_
          intro b6 hb4
          refine OL.nil ?_
          cases b6 with
          | true =>
            replace hb4 := of_decide_eq_true hb4.symm
            refine r_cond_t rfl ?_
            refine r_skip ?_
            refine r_seq ?_
            refine r_block ?_
            refine r_seq ?_
            refine r_region ?_
            refine OL.q (Q1.move rfl) rfl rfl ?_
            refine OL.q (Q1.nilCheckP rfl) rfl rfl ?_
            refine OL.q (Q1.fieldAddr fl123_0 rfl) rfl rfl ?_
            refine OL.q (Q1.load1 ti121 rfl (fun _ e => e ▸ (f29.cell 0 _ rfl))) rfl rfl ?_
            refine OL.q (Q1.move rfl) rfl rfl ?_
            obtain ⟨x3, b7, o3, hx3, hr5, hl9, hu3, hw3⟩ := Sl.at' (P := Tryz.prog) f30 Tryz.underlying121 ti125 encRd_len (k := .i64) (n := ((i : Nat) : Int)) (i) (by omega) (by first | assumption | omega)
            obtain rfl : x1 = x3 := Option.some.inj (hx1.symm.trans hx3)
            refine OL.q (Q1.indexAddr rfl rfl hr5) rfl rfl ?_
            refine OL.q (Q1.fieldAddr fl125_1 rfl) rfl rfl ?_
            have hr6 := hw3.sub 1 1 (Nat.le_of_ble_eq_true rfl)
            obtain ⟨gx3, hgx3, hn7, hn8⟩ := RR.at f31 hx3
            obtain rfl : gx1 = gx3 := Option.some.inj (hgx1.symm.trans hgx3)
            replace hn8 : Sl encE w8 (Iv 0 hi_g) x1.e.val gx1.2 := hn8
            have hle_6 := hn8.le
            refine OL.q (Q1.load1 ti109 rfl (fun _ e => e ▸ hr6)) rfl rfl ?_
            refine OL.q (Q1.move rfl) rfl rfl ?_
            obtain ⟨x4, b8, o4, hx4, hr7, hl10, hu4, hw4⟩ := Sl.at' (P := Tryz.prog) hn8 Tryz.underlying109 ti114 encE_len (k := .i64) (n := ((k : Nat) : Int)) (k) (by omega) (by first | assumption | omega)
            refine OL.q (Q1.indexAddr rfl rfl hr7) rfl rfl ?_
            have hl6 := enc_len4 hO2 hx4
            have hie := hI _ (List.mem_of_getElem? hgi) _ (List.mem_of_getElem? hx4)
            refine OL.q (Q1.loadN ti114 rfl (fun _ e => e ▸ hw4) rfl) rfl rfl ?_
            refine OL.act rfl rfl (AW.alloc ti114 ?_)
            intro w9 b9 hm7 hb5 hz2 hk2
            have hl11 := ha2.lt
            have f32 := ha2.ext hm7
            have f33 := f29.ext hm7
            have f34 := f30.ext hm7
            have f35 := f31.ext hm7
            have f36 := hn6.ext hm7
            have f37 := hn8.ext hm7
            have hE9 := hE8.ext hm7
            have hs9 := hm7.size
            refine OL.act rfl rfl (AW.store ti114 rfl rfl rfl rfl rfl hk2 (Nat.le_of_ble_eq_true rfl) ?_)
            intro w10 hm8 hz3 hk3
            replace hk3 : Bk w10 b9 [.int .i32 x4.rune, .int .i64 x4.to] 114 := hk3
            have hl12 := f32.lt
            have f38 := f32.keepG hm8 (by omega)
            have f39 := f33.keepG hm8 (by omega)
            have f40 := f34.keepG hm8 (by omega)
            have f41 := f35.keepG hm8 (by omega)
            have f42 := f36.keepG hm8 (by omega)
            have f43 := f37.keepG hm8 (by omega)
            have hE10 := Ext.thenG hE9 hm8 (by omega)
            have hs10 := hm8.size
            refine OL.nil ?_
            refine r_draw1 (fun i => Nat.beq i 4 || Nat.beq i 7) 9 (fun w' => Mod (Mg 0) w10 w') mixed (by kernel_rfl) ?_
            intro w11 hm9
            have hl13 := f38.lt
            have f44 := f38.ext hm9
            have f45 := f39.ext hm9
            have f46 := f40.ext hm9
            have f47 := f41.ext hm9
            have f48 := f42.ext hm9
            have f49 := f43.ext hm9
            have f50 := hk3.ext hm9
            have hE11 := hE10.ext hm9
            have hs11 := hm9.size
            have hCw11 : Mod (Mg 0) w10 w11 := Mod.ofExt hm9
            refine ⟨hCw11, ?_⟩
            rw [show List.range' 0 (Array.size _) = [0, 1, 2, 3, 4, 5, 6, 7, 8] from rfl]
            refine OD.q rfl rfl (Q1.move rfl) rfl rfl ?_
            refine OD.q rfl rfl (Q1.fieldAddr fl114_0 rfl) rfl rfl ?_
            refine OD.q rfl rfl (Q1.load1 ti21 rfl (fun _ hc => (hk3.cell 0 _ rfl).keepG hc (by omega))) rfl rfl ?_
            refine OD.q rfl rfl (Q1.convN (by kernel_rfl) Tryz.underlying3 rfl (IntWalk.i64_in _ (by omega))) rfl rfl ?_
            refine OD.act rfl rfl rfl rfl (AW.callF cl75 rfl (r3put_c (w0 := w11) (b := out2) (x4.rune) (4) ((f44.sl).iv (Nat.zero_le _) (by omega)) (by first | assumption | omega | (simp only [List.length_append, putN_len, List.length_cons, List.length_nil]; omega)) (by first | omega | decide)) ?_)
            rintro v4 w12 ⟨⟨gr4, h4, hg6⟩, hm10⟩
            have hl14 := f44.lt
            have f51 := f44.ext hm10
            have f52 := f45.ext hm10
            have f53 := f46.ext hm10
            have f54 := f47.ext hm10
            have f55 := f48.ext hm10
            have f56 := f49.ext hm10
            have f57 := f50.ext hm10
            have hE12 := hE11.ext hm10
            have hs12 := hm10.size
            have hCw12 := hCw11.ext hm10
            refine ⟨.inr hCw12, ?_⟩
            have hle_7 := h4.le
            have hlt_4 := h4.lt
            have := putN_len x4.rune 4
            refine OD.q rfl rfl (Q1.fieldAddr fl114_1 rfl) rfl rfl ?_
            refine OD.q rfl rfl (Q1.load1 ti3 rfl (fun _ hc => (hk3.cell 1 _ rfl).keepG hc (by omega))) rfl rfl ?_
            refine OD.act rfl rfl rfl rfl (AW.callF cl75 rfl (r3put_c (w0 := w12) (b := (out2 ++ putN x4.rune 4)) (x4.to) (2) ((h4.sl).iv (Nat.zero_le _) (by omega)) (by first | assumption | omega | (simp only [List.length_append, putN_len, List.length_cons, List.length_nil]; omega)) (by first | omega | decide)) ?_)
            rintro v5 w13 ⟨⟨gr5, h5, hg7⟩, hm11⟩
            have hl15 := f51.lt
            have hl16 := h4.lt
            have f58 := f51.ext hm11
            have f59 := f52.ext hm11
            have f60 := f53.ext hm11
            have f61 := f54.ext hm11
            have f62 := f55.ext hm11
            have f63 := f56.ext hm11
            have f64 := f57.ext hm11
            have f65 := h4.ext hm11
            have hE13 := hE12.ext hm11
            have hs13 := hm11.size
            have hCw13 := hCw12.ext hm11
            refine ⟨.inr hCw13, ?_⟩
            have hle_8 := h5.le
            have hlt_5 := h5.lt
            have := putN_len x4.to 2
            refine OD.q rfl rfl (Q1.assign rfl) rfl rfl ?_
            refine OD.nil ?_
            refine r_inBlock ?_
            refine r_region ?_
            refine OL.q (Q1.move rfl) rfl rfl ?_
            refine OL.q (Q1.addI (((k + 1 : Nat) : Int)) rfl rfl (by omega)) rfl rfl ?_
            refine OL.q (Q1.assign rfl) rfl rfl ?_
            refine OL.nil ?_
            exact (ih2 _ _ _ ⟨(v5 : Value), (gr5 : Nat), ((((out2 ++ putN x4.rune 4)) ++ putN x4.to 2) : List UInt8), (k + 1 : Nat), rfl, rfl, hE13, (by omega), h5, (by omega), f59, f60, f61, (by omega), (by first | exact enc_edge hO2 hx4 | (exfalso; omega))⟩ (by omega)).sub ⟨rfl, rfl, rfl, rfl, trivial⟩
          | false =>
            replace hb4 := of_decide_eq_false hb4.symm
            refine r_cond_f rfl ?_
            refine r_exit rfl ?_
            refine r_inBlock ?_
            refine r_region ?_
            refine OL.q (Q1.move rfl) rfl rfl ?_
            refine OL.q (Q1.addI (((i + 1 : Nat) : Int)) rfl rfl (by omega)) rfl rfl ?_
            refine OL.q (Q1.assign rfl) rfl rfl ?_
            refine OL.nil ?_
            exact (ih1 _ _ _ ⟨(v_out2 : Value), (g_out2 : Nat), (out2 : List UInt8), (i + 1 : Nat), rfl, rfl, hE8, (by omega), ha2, (by omega), f29, f30, f31, (by omega), (by first | exact enc_next hO2 (by omega) | (exfalso; omega)), (by first | omega | (exfalso; omega))⟩ (by omega)).sub ⟨rfl, rfl, rfl, trivial⟩
    | false =>
      replace hb2 := of_decide_eq_false hb2.symm
      refine r_cond_f rfl ?_
      refine r_exit rfl ?_
      refine r_seq ?_
      refine r_region ?_
      refine OL.q (Q1.move rfl) rfl rfl ?_
      have hl2 := ha1.lt
      refine OL.act rfl rfl (AW.callF cl77 rfl (r9seal_c (w0 := w3) (b := out)  ((ha1.sl).iv (Nat.zero_le _) (by omega)) (by first | assumption | omega | (simp only [List.length_append, putN_len, List.length_cons, List.length_nil]; omega))) ?_)
      rintro v2 w4 ⟨⟨gr2, h2, hg3⟩, hm3⟩
      have hl3 := ha1.lt
      have f11 := ha1.ext hm3
      have f12 := f8.ext hm3
      have f13 := f9.ext hm3
      have f14 := f10.ext hm3
      have hE4 := hE3.ext hm3
      have hs4 := hm3.size
      have hle_2 := h2.le
      have hlt_2 := h2.lt
      refine OL.q (Q1.assign rfl) rfl rfl ?_
      refine OL.nil ?_
      refine r_ret1 Tryz.func62 rfl rfl ?_
      exact Ret.mk ⟨⟨_, Acc.cast h2 (by first | (rw [enc_fin hO (by omega)]; rfl) | (exfalso; omega)), by omega⟩, hE4⟩
set_option maxRecDepth 20000 in
set_option maxHeartbeats 4000000 in
theorem r9of_c {w0 : World}  {v_words : Value} {words : List Str} (h_words : Sl encS w0 (Iv 0 w0.heap.size) v_words words) (hso : SOk words) (hsz : words.length ≤ 1000000) :
    Calls Tryz.prog 47 #[v_words] w0 (Ret fun rv w1 => ∃ u0 u1, rv = .tuple #[u0, u1] ∧ (∃ gr, Acc encB 5 1 w1 gr u0 (imgM words) ∧ (gr = 0 ∨ w0.heap.size < gr)) ∧ u1 = .int .i64 (goodL words) ∧ Ext w0 w1) := by
  have hE0 : Ext w0 w0 := Mod.refl _ _
  have hle1 := h_words.le
  refine calls_enter Tryz.func47 rfl Tryz.ntmps47 rfl ?_
  refine r_seq ?_
  refine r_region ?_
  refine OL.q (Q1.assign rfl) rfl rfl ?_
  refine OL.q (Q1.assign rfl) rfl rfl ?_
  refine OL.nil ?_
  refine r_seq ?_
  refine r_region ?_
  refine OL.q (Q1.move rfl) rfl rfl ?_
  refine OL.act rfl rfl (AW.callF cl61 rfl (r8build_c (w0 := w0) (R := Iv 0 w0.heap.size) (words := words) (h_words.iv (Nat.zero_le _) (by omega)) (fun b hb => hb.2) (by first | assumption) (by first | assumption | omega)) ?_)
  rintro _ w1 ⟨u1, rfl, hm1, hrg8⟩
  have f1 := h_words.ext hm1
  have hE1 := hE0.ext hm1
  have hs1 := hm1.size
  have := goodL_range words
  rcases hrg8 with ⟨hrn, hru⟩ | ⟨hry, bG8, hs8, F8, hru, hA8, hF8⟩
  · subst hru
    refine OL.q (Q1.move rfl) rfl rfl ?_
    refine OL.q (Q1.extract rfl rfl) rfl rfl ?_
    refine OL.q (Q1.extract rfl rfl) rfl rfl ?_
    refine OL.q (Q1.assign rfl) rfl rfl ?_
    refine OL.q (Q1.assign rfl) rfl rfl ?_
    refine OL.nil ?_
    refine r_seq ?_
    refine r_seq ?_
    refine r_region ?_
    refine OL.q (Q1.move rfl) rfl rfl ?_
    refine OL.qb (Q1.ne rfl rfl) rfl rfl ?_
    intro b1 hb1
    obtain rfl : b1 = true := hb1.trans (by exact bne_iff_ne.2 hrn)
    refine OL.nil ?_
    refine r_cond_t rfl ?_
    refine r_seq ?_
    refine r_region ?_
    refine OL.q (Q1.move rfl) rfl rfl ?_
    refine OL.q (Q1.assign rfl) rfl rfl ?_
    refine OL.q (Q1.assign rfl) rfl rfl ?_
    refine OL.nil ?_
    refine r_ret2 Tryz.func47 rfl rfl rfl ?_
    exact Ret.mk ⟨_, _, rfl, ⟨0, Acc.cast Acc.nil (by first | exact imgM_no hrn | rfl | (rw [← gnodes_yes hry]; exact enc_img hry) | exact hry.symm | (exfalso; omega)), .inl rfl⟩, (congrArg (Value.int .i64) (by first | exact imgM_no hrn | rfl | (rw [← gnodes_yes hry]; exact enc_img hry) | exact hry.symm | (exfalso; omega))), hE1⟩
  · subst hru
    obtain ⟨vN8, nds8, hrw8, hsl8, hrr8⟩ := rg_facts hA8 hF8 (fun b hb => by have := hb.2; omega)
    have hnl8 := (All2.get hrr8).1
    have hgok8 := gok_of hry
    have hsz8 := hgok8.size
    refine OL.q (Q1.move rfl) rfl rfl ?_
    refine OL.q (Q1.extract rfl rfl) rfl rfl ?_
    refine OL.q (Q1.extract rfl rfl) rfl rfl ?_
    refine OL.q (Q1.assign rfl) rfl rfl ?_
    refine OL.q (Q1.assign rfl) rfl rfl ?_
    refine OL.nil ?_
    refine r_seq ?_
    refine r_seq ?_
    refine r_region ?_
    refine OL.q (Q1.move rfl) rfl rfl ?_
    refine OL.qb (Q1.ne rfl rfl) rfl rfl ?_
    intro b1 hb1
    obtain rfl : b1 = false := hb1.trans (by exact bne_eq_false_iff_eq.2 hry)
    refine OL.nil ?_
    refine r_cond_f rfl ?_
    refine r_skip ?_
    refine r_seq ?_
    refine r_region ?_
    refine OL.q (Q1.move rfl) rfl rfl ?_
    refine OL.act rfl rfl (AW.callF cl62 rfl (r9encode_c (w0 := w1)   hrw8 hsl8 hrr8 ⟨by omega, by omega⟩ (by exact hgok8.elen) (by (rw [← gnodes_yes hry]; exact hgok8.edges.1)) (by (rw [← gnodes_yes hry]; exact body_len hry))) ?_)
    rintro v1 w2 ⟨⟨gr1, h1, hg1⟩, hm2⟩
    have f2 := f1.ext hm2
    have f3 := hsl8.ext hm2
    have f4 := hrr8.ext hm2
    have f5 := hrw8.ext hm2
    have hE2 := hE1.ext hm2
    have hs2 := hm2.size
    have hle_1 := h1.le
    have hlt_1 := h1.lt
    refine OL.q (Q1.assign rfl) rfl rfl ?_
    refine OL.q (Q1.assign rfl) rfl rfl ?_
    refine OL.nil ?_
    refine r_ret2 Tryz.func47 rfl rfl rfl ?_
    exact Ret.mk ⟨_, _, rfl, ⟨_, Acc.cast h1 (by first | exact imgM_no hrn | rfl | (rw [← gnodes_yes hry]; exact enc_img hry) | exact hry.symm | (exfalso; omega)), by omega⟩, (congrArg (Value.int .i64) (by first | exact imgM_no hrn | rfl | (rw [← gnodes_yes hry]; exact enc_img hry) | exact hry.symm | (exfalso; omega))), hE2⟩
end Go.Proofs
namespace Go.Proofs
open Go.Ik Go.Ml
set_option maxRecDepth 20000 in
set_option maxHeartbeats 4000000 in
theorem r12less_c {w0 : World}  {a : Key} {b : Key} (haw : a.text.length ≤ 1000000000) (hbw : b.text.length ≤ 1000000000) :
    Calls Tryz.prog 60 #[.agg #[.int .i64 a.len, strV a.text], .agg #[.int .i64 b.len, strV b.text]] w0 (Ret fun rv w1 => (∃ rb : Bool, rb = (Ml.keyLess a b) ∧ rv = .bool rb) ∧ Ext w0 w1) := by
  have hE0 : Ext w0 w0 := Mod.refl _ _
  refine calls_enter Tryz.func60 rfl Tryz.ntmps60 rfl ?_
  refine r_seq ?_
  refine r_region ?_
  refine OL.act rfl rfl (AW.box [.int .i64 a.len, strV a.text] rfl rfl ?_)
  intro w1 b1 hm1 hb1 hz1 hk1
  have hE1 := hE0.ext hm1
  have hs1 := hm1.size
  refine OL.act rfl rfl (AW.box [.int .i64 b.len, strV b.text] rfl rfl ?_)
  intro w2 b2 hm2 hb2 hz2 hk2
  have f1 := hk1.ext hm2
  have hE2 := hE1.ext hm2
  have hs2 := hm2.size
  refine OL.q (Q1.assign rfl) rfl rfl ?_
  refine OL.nil ?_
  refine r_seq ?_
  refine r_region ?_
  refine OL.q (Q1.fieldAddr fl57_0 rfl) rfl rfl ?_
  refine OL.q (Q1.load1 ti3 rfl (fun _ e => e ▸ (f1.cell 0 _ rfl))) rfl rfl ?_
  refine OL.q (Q1.fieldAddr fl57_0 rfl) rfl rfl ?_
  refine OL.q (Q1.load1 ti3 rfl (fun _ e => e ▸ (hk2.cell 0 _ rfl))) rfl rfl ?_
  refine OL.qb (Q1.lt rfl rfl) rfl rfl ?_
  intro b3 hb3
  refine OL.q (Q1.move rfl) rfl rfl ?_
  cases b3 with
  | true =>
    replace hb3 := of_decide_eq_true hb3.symm
    refine OL.sk rfl rfl ?_
    refine OL.sk rfl rfl ?_
    refine OL.sk rfl rfl ?_
    refine OL.sk rfl rfl ?_
    refine OL.sk rfl rfl ?_
    refine OL.sk rfl rfl ?_
    refine OL.sk rfl rfl ?_
    refine OL.sk rfl rfl ?_
    refine OL.sk rfl rfl ?_
    refine OL.sk rfl rfl ?_
    refine OL.sk rfl rfl ?_
    refine OL.sk rfl rfl ?_
    refine OL.sk rfl rfl ?_
    refine OL.q (Q1.pick_t rfl rfl) rfl rfl ?_
    refine OL.q (Q1.assign rfl) rfl rfl ?_
    refine OL.nil ?_
    refine r_ret1 Tryz.func60 rfl rfl ?_
    exact Ret.mk ⟨⟨_, (by first | exact kl_yes (by assumption) | exact kl_no (by assumption) (by assumption) | exact kl_dec (by assumption) (by assumption) | (exfalso; omega)), rfl⟩, hE2⟩
  | false =>
    replace hb3 := of_decide_eq_false hb3.symm
    refine OL.q (Q1.fieldAddr fl57_0 rfl) rfl rfl ?_
    refine OL.q (Q1.load1 ti3 rfl (fun _ e => e ▸ (f1.cell 0 _ rfl))) rfl rfl ?_
    refine OL.q (Q1.fieldAddr fl57_0 rfl) rfl rfl ?_
    refine OL.q (Q1.load1 ti3 rfl (fun _ e => e ▸ (hk2.cell 0 _ rfl))) rfl rfl ?_
    refine OL.qb (Q1.eq rfl rfl) rfl rfl ?_
    intro b4 hb4
    refine OL.q (Q1.move rfl) rfl rfl ?_
    cases b4 with
    | true =>
      replace hb4 := eq_of_beq hb4.symm
      refine OL.q (Q1.fieldAddr fl57_1 rfl) rfl rfl ?_
      refine OL.q (Q1.load1 ti9 rfl (fun _ e => e ▸ (f1.cell 1 _ rfl))) rfl rfl ?_
      refine OL.q (Q1.fieldAddr fl57_1 rfl) rfl rfl ?_
      refine OL.q (Q1.load1 ti9 rfl (fun _ e => e ▸ (hk2.cell 1 _ rfl))) rfl rfl ?_
      refine OL.act rfl rfl (AW.callF cl58 rfl (rcmp_c (w0 := w2)  a.text b.text (by first | assumption | omega) (by first | assumption | omega)) ?_)
      rintro _ w3 ⟨rfl, hm3, hp1⟩
      have f2 := f1.ext hm3
      have f3 := hk2.ext hm3
      have hE3 := hE2.ext hm3
      have hs3 := hm3.size
      refine OL.qb (Q1.lt rfl rfl) rfl rfl ?_
      intro b5 hb5
      refine OL.q (Q1.pick_t rfl rfl) rfl rfl ?_
      refine OL.q (Q1.pick_f rfl rfl) rfl rfl ?_
      refine OL.q (Q1.assign rfl) rfl rfl ?_
      refine OL.nil ?_
      refine r_ret1 Tryz.func60 rfl rfl ?_
      exact Ret.mk ⟨⟨_, (by first | exact kl_yes (by assumption) | exact kl_no (by assumption) (by assumption) | exact kl_dec (by assumption) (by assumption) | (exfalso; omega)), rfl⟩, hE3⟩
    | false =>
      replace hb4 := ne_of_beq_false hb4.symm
      refine OL.sk rfl rfl ?_
      refine OL.sk rfl rfl ?_
      refine OL.sk rfl rfl ?_
      refine OL.sk rfl rfl ?_
      refine OL.sk rfl rfl ?_
      refine OL.sk rfl rfl ?_
      refine OL.q (Q1.pick_f rfl rfl) rfl rfl ?_
      refine OL.q (Q1.pick_f rfl rfl) rfl rfl ?_
      refine OL.q (Q1.assign rfl) rfl rfl ?_
      refine OL.nil ?_
      refine r_ret1 Tryz.func60 rfl rfl ?_
      exact Ret.mk ⟨⟨_, (by first | exact kl_yes (by assumption) | exact kl_no (by assumption) (by assumption) | exact kl_dec (by assumption) (by assumption) | (exfalso; omega)), rfl⟩, hE2⟩
set_option maxRecDepth 20000 in
set_option maxHeartbeats 4000000 in
theorem r12good_c {w0 : World}  {v_cuts : Value} {cuts : List Key} (h_cuts : Sl encKey w0 (Iv 0 w0.heap.size) v_cuts cuts) (hk : ∀ k ∈ cuts, k.text.length ≤ 1000) :
    Calls Tryz.prog 43 #[v_cuts] w0 (Ret fun rv w1 => rv = .int .i64 (Ml.goodC cuts) ∧ Ext w0 w1) := by
  have hE0 : Ext w0 w0 := Mod.refl _ _
  have hle1 := h_cuts.le
  refine calls_enter Tryz.func43 rfl Tryz.ntmps43 rfl ?_
  refine r_seq ?_
  refine r_region ?_
  refine OL.q (Q1.assign rfl) rfl rfl ?_
  refine OL.nil ?_
  refine r_seq ?_
  refine r_seq ?_
  refine r_region ?_
  refine OL.q (Q1.move rfl) rfl rfl ?_
  refine OL.q (Q1.lenSl Tryz.underlying23 (h_cuts) rfl) rfl rfl ?_
  refine OL.qb (Q1.gt rfl rfl) rfl rfl ?_
  intro b1 hb1
  refine OL.nil ?_
  cases b1 with
  | true =>
    replace hb1 := of_decide_eq_true hb1.symm
    refine r_cond_t rfl ?_
    refine r_seq ?_
    refine r_region ?_
    refine OL.q (Q1.assign rfl) rfl rfl ?_
    refine OL.nil ?_
    refine r_ret1 Tryz.func43 rfl rfl ?_
    exact Ret.mk ⟨(congrArg (Value.int .i64) (by first | exact Ml.goodC_full (by omega) | exact Ml.goodC_key (by omega) hx1 (by simp only [Ml.keyOk]; simp; omega) | exact Ml.goodC_sort (by omega) ha hj hx1 hx2 (by assumption) | exact Ml.goodC_ok (by omega) ha hr (by omega) | (exfalso; omega))), hE0⟩
  | false =>
    replace hb1 := of_decide_eq_false hb1.symm
    refine r_cond_f rfl ?_
    refine r_skip ?_
    refine r_seq ?_
    refine r_seq ?_
    refine r_region ?_
    refine OL.q (Q1.assign rfl) rfl rfl ?_
    refine OL.nil ?_
    refine r_block ?_
    refine r_loop (I := fun m E W => ∃ (k : Nat), E = [(0, v_cuts), (3, .int .i64 (((k : Nat) : Int)))] ∧ m = cuts.length - k ∧ Ext w0 W ∧ w0.heap.size ≤ W.heap.size ∧ Sl encKey W (Iv 0 w0.heap.size) v_cuts cuts ∧ ((cuts.take k).all Ml.keyOk = true)) ?_ ?_
    · refine ⟨_, _, ⟨(0 : Nat), rfl, rfl, hE0, Nat.le_refl _, h_cuts, (by rfl)⟩, ⟨rfl, rfl, trivial⟩⟩
    · rintro _ _ w1 ⟨k, rfl, rfl, hE1, hs1, f1, hi⟩ ih1
      refine r_seq ?_
      refine r_seq ?_
      refine r_region ?_
      refine OL.q (Q1.move rfl) rfl rfl ?_
      refine OL.q (Q1.move rfl) rfl rfl ?_
      refine OL.q (Q1.lenSl Tryz.underlying23 (f1) rfl) rfl rfl ?_
      refine OL.qb (Q1.lt rfl rfl) rfl rfl ?_
      intro b2 hb2
      refine OL.nil ?_
      cases b2 with
      | true =>
        replace hb2 := of_decide_eq_true hb2.symm
        refine r_cond_t rfl ?_
        refine r_skip ?_
        refine r_seq ?_
        refine r_block ?_
        refine r_seq ?_
        refine r_region ?_
        refine OL.q (Q1.move rfl) rfl rfl ?_
        refine OL.q (Q1.move rfl) rfl rfl ?_
        obtain ⟨x1, b3, o1, hx1, hr1, hl1, hu1, hw1⟩ := Sl.at' (P := Tryz.prog) f1 Tryz.underlying23 ti57 encKey_len (k := .i64) (n := ((k : Nat) : Int)) (k) (by omega) (by first | assumption | omega)
        refine OL.q (Q1.indexAddr rfl rfl hr1) rfl rfl ?_
        refine OL.q (Q1.fieldAddr fl57_1 rfl) rfl rfl ?_
        have hr2 := hw1.sub 1 1 (Nat.le_of_ble_eq_true rfl)
        refine OL.q (Q1.load1 ti9 rfl (fun _ e => e ▸ hr2)) rfl rfl ?_
        have hx1k := hk _ (List.mem_of_getElem? hx1)
        have hx1t := lenT_le x1.text
        refine OL.act rfl rfl (AW.callF cl59 rfl (rlen_c (w0 := w1)  x1.text (by first | assumption | omega)) ?_)
        rintro _ w2 ⟨rfl, hm1, hp1⟩
        have f2 := f1.ext hm1
        have hE2 := hE1.ext hm1
        have hs2 := hm1.size
        refine OL.q (Q1.assign rfl) rfl rfl ?_
        refine OL.nil ?_
        refine r_seq ?_
        refine r_region ?_
        refine OL.q (Q1.move rfl) rfl rfl ?_
        refine OL.q (Q1.move rfl) rfl rfl ?_
        obtain ⟨x2, b4, o2, hx2, hr3, hl2, hu2, hw2⟩ := Sl.at' (P := Tryz.prog) f2 Tryz.underlying23 ti57 encKey_len (k := .i64) (n := ((k : Nat) : Int)) (k) (by omega) (by first | assumption | omega)
        obtain rfl : x1 = x2 := Option.some.inj (hx1.symm.trans hx2)
        refine OL.q (Q1.indexAddr rfl rfl hr3) rfl rfl ?_
        refine OL.q (Q1.fieldAddr fl57_0 rfl) rfl rfl ?_
        have hr4 := hw2.sub 0 1 (Nat.le_of_ble_eq_true rfl)
        refine OL.q (Q1.load1 ti3 rfl (fun _ e => e ▸ hr4)) rfl rfl ?_
        refine OL.qb (Q1.lt rfl rfl) rfl rfl ?_
        intro b5 hb3
        refine OL.q (Q1.move rfl) rfl rfl ?_
        cases b5 with
        | true =>
          replace hb3 := of_decide_eq_true hb3.symm
          refine OL.sk rfl rfl ?_
          refine OL.sk rfl rfl ?_
          refine OL.sk rfl rfl ?_
          refine OL.sk rfl rfl ?_
          refine OL.sk rfl rfl ?_
          refine OL.sk rfl rfl ?_
          refine OL.q (Q1.pick_t rfl rfl) rfl rfl ?_
          refine OL.q (Q1.move rfl) rfl rfl ?_
          refine OL.sk rfl rfl ?_
          refine OL.sk rfl rfl ?_
          refine OL.q (Q1.pick_t rfl rfl) rfl rfl ?_
          refine OL.q (Q1.move rfl) rfl rfl ?_
          refine OL.sk rfl rfl ?_
          refine OL.sk rfl rfl ?_
          refine OL.q (Q1.pick_t rfl rfl) rfl rfl ?_
          refine OL.nil ?_
          refine r_cond_t rfl ?_
          refine r_seq ?_
          refine r_region ?_
          refine OL.q (Q1.assign rfl) rfl rfl ?_
          refine OL.nil ?_
          refine r_ret1 Tryz.func43 rfl rfl ?_
          exact Ret.mk ⟨(congrArg (Value.int .i64) (by first | exact Ml.goodC_full (by omega) | exact Ml.goodC_key (by omega) hx1 (by simp only [Ml.keyOk]; simp; omega) | exact Ml.goodC_sort (by omega) ha hj hx1 hx2 (by assumption) | exact Ml.goodC_ok (by omega) ha hr (by omega) | (exfalso; omega))), hE2⟩
        | false =>
          replace hb3 := of_decide_eq_false hb3.symm
          refine OL.q (Q1.move rfl) rfl rfl ?_
          refine OL.q (Q1.move rfl) rfl rfl ?_
          obtain ⟨x3, b6, o3, hx3, hr5, hl3, hu3, hw3⟩ := Sl.at' (P := Tryz.prog) f2 Tryz.underlying23 ti57 encKey_len (k := .i64) (n := ((k : Nat) : Int)) (k) (by omega) (by first | assumption | omega)
          obtain rfl : x1 = x3 := Option.some.inj (hx1.symm.trans hx3)
          refine OL.q (Q1.indexAddr rfl rfl hr5) rfl rfl ?_
          refine OL.q (Q1.fieldAddr fl57_0 rfl) rfl rfl ?_
          have hr6 := hw3.sub 0 1 (Nat.le_of_ble_eq_true rfl)
          refine OL.q (Q1.load1 ti3 rfl (fun _ e => e ▸ hr6)) rfl rfl ?_
          refine OL.qb (Q1.gt rfl rfl) rfl rfl ?_
          intro b7 hb4
          refine OL.q (Q1.pick_f rfl rfl) rfl rfl ?_
          refine OL.q (Q1.move rfl) rfl rfl ?_
          cases b7 with
          | true =>
            replace hb4 := of_decide_eq_true hb4.symm
            refine OL.sk rfl rfl ?_
            refine OL.sk rfl rfl ?_
            refine OL.q (Q1.pick_t rfl rfl) rfl rfl ?_
            refine OL.q (Q1.move rfl) rfl rfl ?_
            refine OL.sk rfl rfl ?_
            refine OL.sk rfl rfl ?_
            refine OL.q (Q1.pick_t rfl rfl) rfl rfl ?_
            refine OL.nil ?_
            refine r_cond_t rfl ?_
            refine r_seq ?_
            refine r_region ?_
            refine OL.q (Q1.assign rfl) rfl rfl ?_
            refine OL.nil ?_
            refine r_ret1 Tryz.func43 rfl rfl ?_
            exact Ret.mk ⟨(congrArg (Value.int .i64) (by first | exact Ml.goodC_full (by omega) | exact Ml.goodC_key (by omega) hx1 (by simp only [Ml.keyOk]; simp; omega) | exact Ml.goodC_sort (by omega) ha hj hx1 hx2 (by assumption) | exact Ml.goodC_ok (by omega) ha hr (by omega) | (exfalso; omega))), hE2⟩
          | false =>
            replace hb4 := of_decide_eq_false hb4.symm
            refine OL.q (Q1.move rfl) rfl rfl ?_
            refine OL.qb (Q1.lt rfl rfl) rfl rfl ?_
            intro b8 hb5
            refine OL.q (Q1.pick_f rfl rfl) rfl rfl ?_
            refine OL.q (Q1.move rfl) rfl rfl ?_
            cases b8 with
            | true =>
              replace hb5 := of_decide_eq_true hb5.symm
              refine OL.sk rfl rfl ?_
              refine OL.sk rfl rfl ?_
              refine OL.q (Q1.pick_t rfl rfl) rfl rfl ?_
              refine OL.nil ?_
              refine r_cond_t rfl ?_
              refine r_seq ?_
              refine r_region ?_
              refine OL.q (Q1.assign rfl) rfl rfl ?_
              refine OL.nil ?_
              refine r_ret1 Tryz.func43 rfl rfl ?_
              exact Ret.mk ⟨(congrArg (Value.int .i64) (by first | exact Ml.goodC_full (by omega) | exact Ml.goodC_key (by omega) hx1 (by simp only [Ml.keyOk]; simp; omega) | exact Ml.goodC_sort (by omega) ha hj hx1 hx2 (by assumption) | exact Ml.goodC_ok (by omega) ha hr (by omega) | (exfalso; omega))), hE2⟩
            | false =>
              replace hb5 := of_decide_eq_false hb5.symm
              refine OL.q (Q1.move rfl) rfl rfl ?_
              refine OL.qb (Q1.gt rfl rfl) rfl rfl ?_
              intro b9 hb6
              refine OL.q (Q1.pick_f rfl rfl) rfl rfl ?_
              refine OL.nil ?_
              cases b9 with
              | true =>
                replace hb6 := of_decide_eq_true hb6.symm
                refine r_cond_t rfl ?_
                refine r_seq ?_
                refine r_region ?_
                refine OL.q (Q1.assign rfl) rfl rfl ?_
                refine OL.nil ?_
                refine r_ret1 Tryz.func43 rfl rfl ?_
                exact Ret.mk ⟨(congrArg (Value.int .i64) (by first | exact Ml.goodC_full (by omega) | exact Ml.goodC_key (by omega) hx1 (by simp only [Ml.keyOk]; simp; omega) | exact Ml.goodC_sort (by omega) ha hj hx1 hx2 (by assumption) | exact Ml.goodC_ok (by omega) ha hr (by omega) | (exfalso; omega))), hE2⟩
              | false =>
                replace hb6 := of_decide_eq_false hb6.symm
                refine r_cond_f rfl ?_
                refine r_skip ?_
                refine r_inBlock ?_
                refine r_region ?_
                refine OL.q (Q1.move rfl) rfl rfl ?_
                refine OL.q (Q1.addI (((k + 1 : Nat) : Int)) rfl rfl (by omega)) rfl rfl ?_
                refine OL.q (Q1.assign rfl) rfl rfl ?_
                refine OL.nil ?_
                exact (ih1 _ _ _ ⟨(k + 1 : Nat), rfl, rfl, hE2, (by omega), f2, (by first | exact Ml.all_take_succ hi hx1 (by simp only [Ml.keyOk]; simp; omega) | (exfalso; omega))⟩ (by omega)).sub ⟨rfl, rfl, trivial⟩
      | false =>
        replace hb2 := of_decide_eq_false hb2.symm
        refine r_cond_f rfl ?_
        refine r_exit rfl ?_
        refine r_seq ?_
        refine r_seq ?_
        refine r_region ?_
        refine OL.q (Q1.assign rfl) rfl rfl ?_
        refine OL.nil ?_
        refine r_block ?_
        refine r_loop (I := fun m E W => ∃ (j : Nat), E = [(0, v_cuts), (5, .int .i64 (((j : Nat) : Int)))] ∧ m = cuts.length - j ∧ Ext w0 W ∧ w1.heap.size ≤ W.heap.size ∧ Sl encKey W (Iv 0 w0.heap.size) v_cuts cuts ∧ (1 ≤ j) ∧ (Ml.keysRise (cuts.take j) = true)) ?_ ?_
        · refine ⟨_, _, ⟨(1 : Nat), rfl, rfl, hE1, Nat.le_refl _, f1, (by omega), (by exact Ml.keysRise_one _)⟩, ⟨rfl, rfl, trivial⟩⟩
        · rintro _ _ w2 ⟨j, rfl, rfl, hE2, hs2, f2, hj, hr⟩ ih2
          have ha := Ml.all_of_take hi (by omega)
          refine r_seq ?_
          refine r_seq ?_
          refine r_region ?_
          refine OL.q (Q1.move rfl) rfl rfl ?_
          refine OL.q (Q1.move rfl) rfl rfl ?_
          refine OL.q (Q1.lenSl Tryz.underlying23 (f2) rfl) rfl rfl ?_
          refine OL.qb (Q1.lt rfl rfl) rfl rfl ?_
          intro b3 hb3
          refine OL.nil ?_
          cases b3 with
          | true =>
            replace hb3 := of_decide_eq_true hb3.symm
            refine r_cond_t rfl ?_
            refine r_skip ?_
            refine r_seq ?_
            refine r_block ?_
            refine r_seq ?_
            refine r_draw1 (fun i => Nat.beq i 9) 11 (fun w' => Mod (Mg 0) w2 w') mixed (by kernel_rfl) ?_
            intro w3 hm1
            have f3 := f2.ext hm1
            have hE3 := hE2.ext hm1
            have hs3 := hm1.size
            have hCw3 : Mod (Mg 0) w2 w3 := Mod.ofExt hm1
            refine ⟨hCw3, ?_⟩
            rw [show List.range' 0 (Array.size _) = [0, 1, 2, 3, 4, 5, 6, 7, 8, 9, 10] from rfl]
            refine OD.q rfl rfl (Q1.move rfl) rfl rfl ?_
            refine OD.q rfl rfl (Q1.move rfl) rfl rfl ?_
            refine OD.q rfl rfl (Q1.subI ((((j : Nat) : Int) - 1)) rfl rfl (by omega)) rfl rfl ?_
            obtain ⟨x1, b4, o1, hx1, hr1, hl1, hu1, hw1⟩ := Sl.at' (P := Tryz.prog) f2 Tryz.underlying23 ti57 encKey_len (k := .i64) (n := (((j : Nat) : Int) - 1)) ((j - 1)) (by omega) (by first | assumption | omega)
            refine OD.q rfl rfl (Q1.indexAddr rfl rfl hr1) rfl rfl ?_
            refine OD.q rfl rfl (Q1.loadN ti57 rfl (fun _ hc => hw1.keepG hc (by omega)) rfl) rfl rfl ?_
            refine OD.q rfl rfl (Q1.move rfl) rfl rfl ?_
            refine OD.q rfl rfl (Q1.move rfl) rfl rfl ?_
            obtain ⟨x2, b5, o2, hx2, hr2, hl2, hu2, hw2⟩ := Sl.at' (P := Tryz.prog) f2 Tryz.underlying23 ti57 encKey_len (k := .i64) (n := ((j : Nat) : Int)) (j) (by omega) (by first | assumption | omega)
            refine OD.q rfl rfl (Q1.indexAddr rfl rfl hr2) rfl rfl ?_
            refine OD.q rfl rfl (Q1.loadN ti57 rfl (fun _ hc => hw2.keepG hc (by omega)) rfl) rfl rfl ?_
            have hx1k := hk _ (List.mem_of_getElem? hx1)
            have hx2k := hk _ (List.mem_of_getElem? hx2)
            refine OD.act rfl rfl rfl rfl (AW.callF cl60 rfl (r12less_c (w0 := w3) (a := x1) (b := x2)  (by first | assumption | omega) (by first | assumption | omega)) ?_)
            rintro _ w4 ⟨⟨b6, hb4, rfl⟩, hm2⟩
            have f4 := f3.ext hm2
            have hE4 := hE3.ext hm2
            have hs4 := hm2.size
            have hCw4 := hCw3.ext hm2
            refine ⟨.inr hCw4, ?_⟩
            cases b6 with
            | true =>
              replace hb4 := hb4.symm
              refine OD.q rfl rfl (Q1.not rfl) rfl rfl ?_
              refine OD.nil ?_
              refine r_cond_f rfl ?_
              refine r_skip ?_
              refine r_inBlock ?_
              refine r_region ?_
              refine OL.q (Q1.move rfl) rfl rfl ?_
              refine OL.q (Q1.addI (((j + 1 : Nat) : Int)) rfl rfl (by omega)) rfl rfl ?_
              refine OL.q (Q1.assign rfl) rfl rfl ?_
              refine OL.nil ?_
              exact (ih2 _ _ _ ⟨(j + 1 : Nat), rfl, rfl, hE4, (by omega), f4, (by first | omega | (exfalso; omega)), (by first | exact Ml.keysRise_step hr hj hx1 hx2 (by assumption) | (exfalso; omega))⟩ (by omega)).sub ⟨rfl, rfl, trivial⟩
            | false =>
              replace hb4 := hb4.symm
              refine OD.q rfl rfl (Q1.not rfl) rfl rfl ?_
              refine OD.nil ?_
              refine r_cond_t rfl ?_
              refine r_seq ?_
              refine r_region ?_
              refine OL.q (Q1.assign rfl) rfl rfl ?_
              refine OL.nil ?_
              refine r_ret1 Tryz.func43 rfl rfl ?_
              exact Ret.mk ⟨(congrArg (Value.int .i64) (by first | exact Ml.goodC_full (by omega) | exact Ml.goodC_key (by omega) hx1 (by simp only [Ml.keyOk]; simp; omega) | exact Ml.goodC_sort (by omega) ha hj hx1 hx2 (by assumption) | exact Ml.goodC_ok (by omega) ha hr (by omega) | (exfalso; omega))), hE4⟩
          | false =>
            replace hb3 := of_decide_eq_false hb3.symm
            refine r_cond_f rfl ?_
            refine r_exit rfl ?_
            refine r_seq ?_
            refine r_region ?_
            refine OL.q (Q1.assign rfl) rfl rfl ?_
            refine OL.nil ?_
            refine r_ret1 Tryz.func43 rfl rfl ?_
            exact Ret.mk ⟨(congrArg (Value.int .i64) (by first | exact Ml.goodC_full (by omega) | exact Ml.goodC_key (by omega) hx1 (by simp only [Ml.keyOk]; simp; omega) | exact Ml.goodC_sort (by omega) ha hj hx1 hx2 (by assumption) | exact Ml.goodC_ok (by omega) ha hr (by omega) | (exfalso; omega))), hE2⟩
set_option maxRecDepth 20000 in
set_option maxHeartbeats 4000000 in
theorem r12of_c {w0 : World}  {v_cuts : Value} {cuts : List Key} (w : Str) (h_cuts : Sl encKey w0 (Iv 0 w0.heap.size) v_cuts cuts) (hk : ∀ k ∈ cuts, k.text.length ≤ 1000) (hw : w.length ≤ 1000000000) :
    Calls Tryz.prog 78 #[v_cuts, strV w] w0 (Ret fun rv w1 => rv = .int .i64 (Ml.ofM cuts w) ∧ Ext w0 w1) := by
  have hE0 : Ext w0 w0 := Mod.refl _ _
  have hle1 := h_cuts.le
  refine calls_enter Tryz.func78 rfl Tryz.ntmps78 rfl ?_
  refine r_seq ?_
  refine r_region ?_
  refine OL.q (Q1.assign rfl) rfl rfl ?_
  refine OL.nil ?_
  refine r_seq ?_
  refine r_seq ?_
  refine r_region ?_
  refine OL.q (Q1.move rfl) rfl rfl ?_
  refine OL.act rfl rfl (AW.callF cl57 rfl (rword_c (w0 := w0)  w (by first | assumption | omega)) ?_)
  rintro _ w1 ⟨⟨b1, hb1, rfl⟩, hm1⟩
  have f1 := h_cuts.ext hm1
  have hE1 := hE0.ext hm1
  have hs1 := hm1.size
  cases b1 with
  | true =>
    replace hb1 := hb1.symm
    refine OL.q (Q1.not rfl) rfl rfl ?_
    refine OL.nil ?_
    refine r_cond_f rfl ?_
    refine r_skip ?_
    refine r_seq ?_
    refine r_region ?_
    refine OL.q (Q1.assign rfl) rfl rfl ?_
    refine OL.nil ?_
    refine r_seq ?_
    refine r_seq ?_
    refine r_region ?_
    refine OL.q (Q1.assign rfl) rfl rfl ?_
    refine OL.nil ?_
    refine r_block ?_
    refine r_loop (I := fun m E W => ∃ (n : Nat) (j : Nat), E = [(0, v_cuts), (1, strV w), (5, .int .i64 (((n : Nat) : Int))), (6, .int .i64 (((j : Nat) : Int)))] ∧ m = cuts.length - j ∧ Ext w0 W ∧ w1.heap.size ≤ W.heap.size ∧ Sl encKey W (Iv 0 w0.heap.size) v_cuts cuts ∧ (n = ((cuts.take j).filter fun c => !Ml.keyLess ⟨Ml.lenT w, w⟩ c).length) ∧ (n ≤ j)) ?_ ?_
    · refine ⟨_, _, ⟨(0 : Nat), (0 : Nat), rfl, rfl, hE1, Nat.le_refl _, f1, (by rfl), (by omega)⟩, ⟨rfl, rfl, rfl, rfl, trivial⟩⟩
    · rintro _ _ w2 ⟨n, j, rfl, rfl, hE2, hs2, f2, hi, hn⟩ ih1
      refine r_seq ?_
      refine r_seq ?_
      refine r_region ?_
      refine OL.q (Q1.move rfl) rfl rfl ?_
      refine OL.q (Q1.move rfl) rfl rfl ?_
      refine OL.q (Q1.lenSl Tryz.underlying23 (f2) rfl) rfl rfl ?_
      refine OL.qb (Q1.lt rfl rfl) rfl rfl ?_
      intro b2 hb2
      refine OL.nil ?_
      cases b2 with
      | true =>
        replace hb2 := of_decide_eq_true hb2.symm
        refine r_cond_t rfl ?_
        refine r_skip ?_
        refine r_seq ?_
        refine r_block ?_
        refine r_seq ?_
        refine r_draw1 (fun i => Nat.beq i 1 || Nat.beq i 8) 10 (fun w' => Mod (Mg 0) w2 w') mixed (by kernel_rfl) ?_
        intro w3 hm2
        have f3 := f2.ext hm2
        have hE3 := hE2.ext hm2
        have hs3 := hm2.size
        have hCw3 : Mod (Mg 0) w2 w3 := Mod.ofExt hm2
        refine ⟨hCw3, ?_⟩
        rw [show List.range' 0 (Array.size _) = [0, 1, 2, 3, 4, 5, 6, 7, 8, 9] from rfl]
        refine OD.q rfl rfl (Q1.move rfl) rfl rfl ?_
        refine OD.act rfl rfl rfl rfl (AW.callF cl59 rfl (rlen_c (w0 := w3)  w (by first | assumption | omega)) ?_)
        rintro _ w4 ⟨rfl, hm3, hp1⟩
        have f4 := f3.ext hm3
        have hE4 := hE3.ext hm3
        have hs4 := hm3.size
        have hCw4 := hCw3.ext hm3
        refine ⟨.inr hCw4, ?_⟩
        refine OD.q rfl rfl (Q1.move rfl) rfl rfl ?_
        refine OD.q rfl rfl (Q1.build (vs := #[(0, (.int .i64 ((Ml.lenT w)) : Value)), (1, strV w)]) (v := .agg #[.int .i64 ((Ml.lenT w)), strV w]) rfl (fun _ => by kernel_rfl)) rfl rfl ?_
        refine OD.q rfl rfl (Q1.move rfl) rfl rfl ?_
        refine OD.q rfl rfl (Q1.move rfl) rfl rfl ?_
        obtain ⟨x1, b3, o1, hx1, hr1, hl1, hu1, hw1⟩ := Sl.at' (P := Tryz.prog) f2 Tryz.underlying23 ti57 encKey_len (k := .i64) (n := ((j : Nat) : Int)) (j) (by omega) (by first | assumption | omega)
        refine OD.q rfl rfl (Q1.indexAddr rfl rfl hr1) rfl rfl ?_
        refine OD.q rfl rfl (Q1.loadN ti57 rfl (fun _ hc => hw1.keepG hc (by omega)) rfl) rfl rfl ?_
        have hx1k := hk _ (List.mem_of_getElem? hx1)
        refine OD.act rfl rfl rfl rfl (AW.callF cl60 rfl (r12less_c (w0 := w4) (a := (Key.mk ((Ml.lenT w)) w)) (b := x1)  (by first | assumption | omega) (by first | assumption | omega)) ?_)
        rintro _ w5 ⟨⟨b4, hb3, rfl⟩, hm4⟩
        have f5 := f4.ext hm4
        have hE5 := hE4.ext hm4
        have hs5 := hm4.size
        have hCw5 := hCw4.ext hm4
        refine ⟨.inr hCw5, ?_⟩
        cases b4 with
        | true =>
          replace hb3 := hb3.symm
          refine OD.q rfl rfl (Q1.not rfl) rfl rfl ?_
          refine OD.nil ?_
          refine r_cond_f rfl ?_
          refine r_skip ?_
          refine r_inBlock ?_
          refine r_region ?_
          refine OL.q (Q1.move rfl) rfl rfl ?_
          refine OL.q (Q1.addI (((j + 1 : Nat) : Int)) rfl rfl (by omega)) rfl rfl ?_
          refine OL.q (Q1.assign rfl) rfl rfl ?_
          refine OL.nil ?_
          exact (ih1 _ _ _ ⟨(n : Nat), (j + 1 : Nat), rfl, rfl, hE5, (by omega), f5, (by first | (rw [Ml.filter_take_yes hx1 (by simp [*]), List.length_append, ← hi]; rfl) | (rw [Ml.filter_take_no hx1 (by simp [*])]; exact hi) | (exfalso; omega)), (by first | omega | (exfalso; omega))⟩ (by omega)).sub ⟨rfl, rfl, rfl, rfl, trivial⟩
        | false =>
          replace hb3 := hb3.symm
          refine OD.q rfl rfl (Q1.not rfl) rfl rfl ?_
          refine OD.nil ?_
          refine r_cond_t rfl ?_
          refine r_region ?_
          refine OL.q (Q1.move rfl) rfl rfl ?_
          refine OL.q (Q1.addI (((n + 1 : Nat) : Int)) rfl rfl (by omega)) rfl rfl ?_
          refine OL.q (Q1.assign rfl) rfl rfl ?_
          refine OL.nil ?_
          refine r_inBlock ?_
          refine r_region ?_
          refine OL.q (Q1.move rfl) rfl rfl ?_
          refine OL.q (Q1.addI (((j + 1 : Nat) : Int)) rfl rfl (by omega)) rfl rfl ?_
          refine OL.q (Q1.assign rfl) rfl rfl ?_
          refine OL.nil ?_
          exact (ih1 _ _ _ ⟨(n + 1 : Nat), (j + 1 : Nat), rfl, rfl, hE5, (by omega), f5, (by first | (rw [Ml.filter_take_yes hx1 (by simp [*]), List.length_append, ← hi]; rfl) | (rw [Ml.filter_take_no hx1 (by simp [*])]; exact hi) | (exfalso; omega)), (by first | omega | (exfalso; omega))⟩ (by omega)).sub ⟨rfl, rfl, rfl, rfl, trivial⟩
      | false =>
        replace hb2 := of_decide_eq_false hb2.symm
        refine r_cond_f rfl ?_
        refine r_exit rfl ?_
        refine r_seq ?_
        refine r_region ?_
        refine OL.q (Q1.move rfl) rfl rfl ?_
        refine OL.q (Q1.assign rfl) rfl rfl ?_
        refine OL.nil ?_
        refine r_ret1 Tryz.func78 rfl rfl ?_
        exact Ret.mk ⟨(congrArg (Value.int .i64) (by first | exact of_no (by assumption) | exact of_yes (by assumption) hi (by omega) | (exfalso; omega))), hE2⟩
  | false =>
    replace hb1 := hb1.symm
    refine OL.q (Q1.not rfl) rfl rfl ?_
    refine OL.nil ?_
    refine r_cond_t rfl ?_
    refine r_seq ?_
    refine r_region ?_
    refine OL.q (Q1.assign rfl) rfl rfl ?_
    refine OL.nil ?_
    refine r_ret1 Tryz.func78 rfl rfl ?_
    exact Ret.mk ⟨(congrArg (Value.int .i64) (by first | exact of_no (by assumption) | exact of_yes (by assumption) hi (by omega) | (exfalso; omega))), hE1⟩
set_option maxRecDepth 20000 in
set_option maxHeartbeats 4000000 in
theorem r12slice_c {w0 : World}  {v_cuts : Value} {cuts : List Key} {v_words : Value} {words : List Str} (shard : Int) (h_cuts : Sl encKey w0 (Iv 0 w0.heap.size) v_cuts cuts) (h_words : Sl encS w0 (Iv 0 w0.heap.size) v_words words) (h_shard : I64 shard) (hk : ∀ k ∈ cuts, k.text.length ≤ 1000) (hso : SOk words) (hlen : words.length ≤ 1000000) :
    Calls Tryz.prog 63 #[v_cuts, v_words, .int .i64 shard] w0 (Ret fun rv w1 => (∃ gr, Acc encS 9 1 w1 gr rv (Ml.sliceM cuts words shard) ∧ (gr = 0 ∨ w0.heap.size < gr)) ∧ Ext w0 w1) := by
  have hE0 : Ext w0 w0 := Mod.refl _ _
  have hle1 := h_cuts.le
  have hle2 := h_words.le
  refine calls_enter Tryz.func63 rfl Tryz.ntmps63 rfl ?_
  refine r_seq ?_
  refine r_region ?_
  refine OL.q (Q1.assign rfl) rfl rfl ?_
  refine OL.nil ?_
  refine r_seq ?_
  refine r_region ?_
  refine OL.q (Q1.assign rfl) rfl rfl ?_
  refine OL.nil ?_
  refine r_seq ?_
  refine r_seq ?_
  refine r_region ?_
  refine OL.q (Q1.assign rfl) rfl rfl ?_
  refine OL.nil ?_
  refine r_block ?_
  refine r_loop (I := fun m E W => ∃ (v_l : Value) (g_l : Nat) (l : List Str) (i : Nat), E = [(0, v_cuts), (1, v_words), (2, .int .i64 shard), (7, v_l), (8, .int .i64 (((i : Nat) : Int)))] ∧ m = words.length - i ∧ Ext w0 W ∧ w0.heap.size ≤ W.heap.size ∧ Acc encS 9 1 W g_l v_l l ∧ (g_l = 0 ∨ w0.heap.size < g_l) ∧ Sl encKey W (Iv 0 w0.heap.size) v_cuts cuts ∧ Sl encS W (Iv 0 w0.heap.size) v_words words ∧ (l = (words.take i).filter (Ml.slP cuts shard)) ∧ (l.length ≤ i)) ?_ ?_
  · refine ⟨_, _, ⟨(.slice none 0 0 : Value), (0 : Nat), ([] : List Str), (0 : Nat), rfl, rfl, hE0, Nat.le_refl _, Acc.nil, (by omega), h_cuts, h_words, (by rfl), (by exact Nat.zero_le _)⟩, ⟨rfl, rfl, rfl, rfl, rfl, trivial⟩⟩
  · rintro _ _ w1 ⟨v_l, g_l, l, i, rfl, rfl, hE1, hs1, ha1, hg1, f1, f2, hi, hn⟩ ih1
    refine r_seq ?_
    refine r_seq ?_
    refine r_region ?_
    refine OL.q (Q1.move rfl) rfl rfl ?_
    refine OL.q (Q1.move rfl) rfl rfl ?_
    refine OL.q (Q1.lenSl Tryz.underlying22 (f2) rfl) rfl rfl ?_
    refine OL.qb (Q1.lt rfl rfl) rfl rfl ?_
    intro b1 hb1
    refine OL.nil ?_
    cases b1 with
    | true =>
      replace hb1 := of_decide_eq_true hb1.symm
      refine r_cond_t rfl ?_
      refine r_skip ?_
      refine r_seq ?_
      refine r_block ?_
      refine r_seq ?_
      refine r_region ?_
      refine OL.q (Q1.move rfl) rfl rfl ?_
      refine OL.q (Q1.move rfl) rfl rfl ?_
      obtain ⟨x1, b2, o1, hx1, hr1, hl1, hu1, hw1⟩ := Sl.at' (P := Tryz.prog) f2 Tryz.underlying22 ti9 encS_len (k := .i64) (n := ((i : Nat) : Int)) (i) (by omega) (by first | assumption | omega)
      refine OL.q (Q1.indexAddr rfl rfl hr1) rfl rfl ?_
      refine OL.q (Q1.load1 ti9 rfl (fun _ e => e ▸ hw1)) rfl rfl ?_
      have hx1s := hso.at hx1
      refine OL.act rfl rfl (AW.callF cl57 rfl (rword_c (w0 := w1)  x1 (by first | assumption | omega)) ?_)
      rintro _ w2 ⟨⟨b3, hb2, rfl⟩, hm1⟩
      have hl2 := ha1.lt
      have f3 := ha1.ext hm1
      have f4 := f1.ext hm1
      have f5 := f2.ext hm1
      have hE2 := hE1.ext hm1
      have hs2 := hm1.size
      refine OL.q (Q1.move rfl) rfl rfl ?_
      cases b3 with
      | true =>
        replace hb2 := hb2.symm
        refine OL.q (Q1.move rfl) rfl rfl ?_
        refine OL.q (Q1.move rfl) rfl rfl ?_
        refine OL.q (Q1.move rfl) rfl rfl ?_
        obtain ⟨x2, b4, o2, hx2, hr2, hl3, hu2, hw2⟩ := Sl.at' (P := Tryz.prog) f5 Tryz.underlying22 ti9 encS_len (k := .i64) (n := ((i : Nat) : Int)) (i) (by omega) (by first | assumption | omega)
        obtain rfl : x1 = x2 := Option.some.inj (hx1.symm.trans hx2)
        refine OL.q (Q1.indexAddr rfl rfl hr2) rfl rfl ?_
        refine OL.q (Q1.load1 ti9 rfl (fun _ e => e ▸ hw2)) rfl rfl ?_
        refine OL.act rfl rfl (AW.callF cl78 rfl (r12of_c (w0 := w2) (cuts := cuts) x1 ((f4).iv (Nat.zero_le _) (by omega)) (by first | assumption | exact hcs.cuts) (by first | assumption | omega)) ?_)
        rintro _ w3 ⟨rfl, hm2⟩
        have hl4 := f3.lt
        have f6 := f3.ext hm2
        have f7 := f4.ext hm2
        have f8 := f5.ext hm2
        have hE3 := hE2.ext hm2
        have hs3 := hm2.size
        have := of_rng cuts x1
        refine OL.q (Q1.move rfl) rfl rfl ?_
        refine OL.qb (Q1.eq rfl rfl) rfl rfl ?_
        intro b5 hb3
        refine OL.q (Q1.pick_t rfl rfl) rfl rfl ?_
        refine OL.nil ?_
        cases b5 with
        | true =>
          replace hb3 := eq_of_beq hb3.symm
          refine r_cond_t rfl ?_
          refine r_region ?_
          refine OL.q (Q1.move rfl) rfl rfl ?_
          refine OL.q (Q1.move rfl) rfl rfl ?_
          refine OL.q (Q1.move rfl) rfl rfl ?_
          obtain ⟨x3, b6, o3, hx3, hr3, hl5, hu3, hw3⟩ := Sl.at' (P := Tryz.prog) f8 Tryz.underlying22 ti9 encS_len (k := .i64) (n := ((i : Nat) : Int)) (i) (by omega) (by first | assumption | omega)
          obtain rfl : x1 = x3 := Option.some.inj (hx1.symm.trans hx3)
          refine OL.q (Q1.indexAddr rfl rfl hr3) rfl rfl ?_
          refine OL.q (Q1.load1 ti9 rfl (fun _ e => e ▸ hw3)) rfl rfl ?_
          refine OL.act rfl rfl (AW.buildSlice [strV x1] Tryz.underlying22 ti9 rfl rfl rfl (by decide) ?_)
          intro w4 b7 hm3 hb4 hz1 hk1
          have hl6 := f6.lt
          have f9 := f6.ext hm3
          have f10 := f7.ext hm3
          have f11 := f8.ext hm3
          have hE4 := hE3.ext hm3
          have hs4 := hm3.size
          have hl7 := Sl.of_blk (enc := encS) hk1 ([x1] : List Str) 1 rfl rfl (by unfold maxLen; omega)
          have hl8 := f9.lt
          refine OL.act rfl rfl (AW.append f9 Tryz.underlying22 ti9 rfl encS_len encS_one rfl rfl (hl7) (by first | omega | (simp only [List.length_append, List.length_cons, List.length_nil]; omega) | (simp; omega)) (by unfold maxLen; first | omega | (simp only [List.length_append, List.length_cons, List.length_nil]; omega) | (simp; omega)) ?_)
          intro v1 g1 w5 ha2 hm4 hg2 hz2
          have hl9 := f9.lt
          have f12 := f10.keepG hm4 (by omega)
          have f13 := f11.keepG hm4 (by omega)
          have f14 := hl7.keepG hm4 (by omega)
          have hE5 := Ext.thenG hE4 hm4 (by omega)
          have hs5 := hm4.size
          refine OL.q (Q1.assign rfl) rfl rfl ?_
          refine OL.nil ?_
          refine r_inBlock ?_
          refine r_region ?_
          refine OL.q (Q1.move rfl) rfl rfl ?_
          refine OL.q (Q1.addI (((i + 1 : Nat) : Int)) rfl rfl (by omega)) rfl rfl ?_
          refine OL.q (Q1.assign rfl) rfl rfl ?_
          refine OL.nil ?_
          exact (ih1 _ _ _ ⟨(v1 : Value), (g1 : Nat), ((l ++ [x1]) : List Str), (i + 1 : Nat), rfl, rfl, hE5, (by omega), ha2, (by omega), f12, f13, (by first | (rw [Ml.filter_take_yes hx1 (sl_yes (by assumption) (by assumption)), hi]) | (rw [Ml.filter_take_no hx1 (Ml.slP_no2 (by assumption))]; exact hi) | (rw [Ml.filter_take_no hx1 (sl_no1 (by assumption))]; exact hi) | (exfalso; omega)), (by first | omega | (simp only [List.length_append, List.length_cons, List.length_nil]; omega) | (exfalso; omega))⟩ (by omega)).sub ⟨rfl, rfl, rfl, rfl, rfl, trivial⟩
        | false =>
          replace hb3 := ne_of_beq_false hb3.symm
          refine r_cond_f rfl ?_
          refine r_skip ?_
          refine r_inBlock ?_
          refine r_region ?_
          refine OL.q (Q1.move rfl) rfl rfl ?_
          refine OL.q (Q1.addI (((i + 1 : Nat) : Int)) rfl rfl (by omega)) rfl rfl ?_
          refine OL.q (Q1.assign rfl) rfl rfl ?_
          refine OL.nil ?_
          exact (ih1 _ _ _ ⟨(v_l : Value), (g_l : Nat), (l : List Str), (i + 1 : Nat), rfl, rfl, hE3, (by omega), f6, (by omega), f7, f8, (by first | (rw [Ml.filter_take_yes hx1 (sl_yes (by assumption) (by assumption)), hi]) | (rw [Ml.filter_take_no hx1 (Ml.slP_no2 (by assumption))]; exact hi) | (rw [Ml.filter_take_no hx1 (sl_no1 (by assumption))]; exact hi) | (exfalso; omega)), (by first | omega | (simp only [List.length_append, List.length_cons, List.length_nil]; omega) | (exfalso; omega))⟩ (by omega)).sub ⟨rfl, rfl, rfl, rfl, rfl, trivial⟩
      | false =>
        replace hb2 := hb2.symm
        refine OL.sk rfl rfl ?_
        refine OL.sk rfl rfl ?_
        refine OL.sk rfl rfl ?_
        refine OL.sk rfl rfl ?_
        refine OL.sk rfl rfl ?_
        refine OL.sk rfl rfl ?_
        refine OL.sk rfl rfl ?_
        refine OL.sk rfl rfl ?_
        refine OL.q (Q1.pick_f rfl rfl) rfl rfl ?_
        refine OL.nil ?_
        refine r_cond_f rfl ?_
        refine r_skip ?_
        refine r_inBlock ?_
        refine r_region ?_
        refine OL.q (Q1.move rfl) rfl rfl ?_
        refine OL.q (Q1.addI (((i + 1 : Nat) : Int)) rfl rfl (by omega)) rfl rfl ?_
        refine OL.q (Q1.assign rfl) rfl rfl ?_
        refine OL.nil ?_
        exact (ih1 _ _ _ ⟨(v_l : Value), (g_l : Nat), (l : List Str), (i + 1 : Nat), rfl, rfl, hE2, (by omega), f3, (by omega), f4, f5, (by first | (rw [Ml.filter_take_yes hx1 (sl_yes (by assumption) (by assumption)), hi]) | (rw [Ml.filter_take_no hx1 (Ml.slP_no2 (by assumption))]; exact hi) | (rw [Ml.filter_take_no hx1 (sl_no1 (by assumption))]; exact hi) | (exfalso; omega)), (by first | omega | (simp only [List.length_append, List.length_cons, List.length_nil]; omega) | (exfalso; omega))⟩ (by omega)).sub ⟨rfl, rfl, rfl, rfl, rfl, trivial⟩
    | false =>
      replace hb1 := of_decide_eq_false hb1.symm
      refine r_cond_f rfl ?_
      refine r_exit rfl ?_
      refine r_seq ?_
      refine r_region ?_
      refine OL.q (Q1.move rfl) rfl rfl ?_
      refine OL.q (Q1.assign rfl) rfl rfl ?_
      refine OL.nil ?_
      refine r_ret1 Tryz.func63 rfl rfl ?_
      exact Ret.mk ⟨⟨_, Acc.cast ha1 (by first | rw [hi, Ml.filter_take_all (by omega)]; rfl | (exfalso; omega)), by omega⟩, hE1⟩
set_option maxRecDepth 20000 in
set_option maxHeartbeats 4000000 in
theorem r13in_c {w0 : World}  (n : Int) (lo : Int) (hi : Int) (h_n : I64 n) (h_lo : I64 lo) (h_hi : I64 hi) :
    Calls Tryz.prog 44 #[.int .i64 n, .int .i64 lo, .int .i64 hi] w0 (Ret fun rv w1 => (∃ rb : Bool, rb = (Ml.within n lo hi) ∧ rv = .bool rb) ∧ Ext w0 w1) := by
  have hE0 : Ext w0 w0 := Mod.refl _ _
  refine calls_enter Tryz.func44 rfl Tryz.ntmps44 rfl ?_
  refine r_seq ?_
  refine r_region ?_
  refine OL.q (Q1.assign rfl) rfl rfl ?_
  refine OL.nil ?_
  refine r_seq ?_
  refine r_region ?_
  refine OL.q (Q1.move rfl) rfl rfl ?_
  refine OL.q (Q1.move rfl) rfl rfl ?_
  refine OL.qb (Q1.ge rfl rfl) rfl rfl ?_
  intro b1 hb1
  refine OL.q (Q1.move rfl) rfl rfl ?_
  cases b1 with
  | true =>
    replace hb1 := of_decide_eq_true hb1.symm
    refine OL.q (Q1.move rfl) rfl rfl ?_
    refine OL.q (Q1.move rfl) rfl rfl ?_
    refine OL.qb (Q1.le rfl rfl) rfl rfl ?_
    intro b2 hb2
    refine OL.q (Q1.pick_t rfl rfl) rfl rfl ?_
    refine OL.q (Q1.assign rfl) rfl rfl ?_
    refine OL.nil ?_
    refine r_ret1 Tryz.func44 rfl rfl ?_
    exact Ret.mk ⟨⟨_, (by first | simp only [Ml.within, *]; simp | (exfalso; omega)), rfl⟩, hE0⟩
  | false =>
    replace hb1 := of_decide_eq_false hb1.symm
    refine OL.sk rfl rfl ?_
    refine OL.sk rfl rfl ?_
    refine OL.sk rfl rfl ?_
    refine OL.q (Q1.pick_f rfl rfl) rfl rfl ?_
    refine OL.q (Q1.assign rfl) rfl rfl ?_
    refine OL.nil ?_
    refine r_ret1 Tryz.func44 rfl rfl ?_
    exact Ret.mk ⟨⟨_, (by first | simp only [Ml.within, *]; simp | (exfalso; omega)), rfl⟩, hE0⟩
set_option maxRecDepth 20000 in
set_option maxHeartbeats 4000000 in
theorem r13may_c {w0 : World}  {c : Cfg} {v_c_words : Value} {v_c_cuts : Value} (h_c_words : Sl encS w0 (Iv 0 w0.heap.size) v_c_words c.words) (h_c_cuts : Sl encKey w0 (Iv 0 w0.heap.size) v_c_cuts c.cuts) (h_c : Cfg.Ok c) (hcs : CfgS c) :
    Calls Tryz.prog 27 #[.agg #[v_c_words, v_c_cuts, .int .i64 c.workers, .int .i64 c.copies, .int .i64 c.slots, .int .i64 c.batch, .int .i64 c.lease, .int .i64 c.hedge, .int .i64 c.first, .int .i64 c.cap, .int .i64 c.jitter, .int .i64 c.net]] w0 (Ret fun rv w1 => (∃ rb : Bool, rb = (Ml.may c) ∧ rv = .bool rb) ∧ Ext w0 w1) := by
  have hE0 : Ext w0 w0 := Mod.refl _ _
  have hle1 := h_c_words.le
  have hle2 := h_c_cuts.le
  have hc1 := h_c.workers
  have hc2 := h_c.copies
  have hc3 := h_c.slots
  have hc4 := h_c.batch
  have hc5 := h_c.lease
  have hc6 := h_c.hedge
  have hc7 := h_c.first
  have hc8 := h_c.cap
  have hc9 := h_c.jitter
  have hc10 := h_c.net
  have hwl := hcs.wl
  have hcl := hcs.cl
  have hcw := hcs.words
  refine calls_enter Tryz.func27 rfl Tryz.ntmps27 rfl ?_
  refine r_seq ?_
  refine r_region ?_
  refine OL.act rfl rfl (AW.box [v_c_words, v_c_cuts, .int .i64 c.workers, .int .i64 c.copies, .int .i64 c.slots, .int .i64 c.batch, .int .i64 c.lease, .int .i64 c.hedge, .int .i64 c.first, .int .i64 c.cap, .int .i64 c.jitter, .int .i64 c.net] rfl rfl ?_)
  intro w1 b1 hm1 hb1 hz1 hk1
  have f1 := h_c_words.ext hm1
  have f2 := h_c_cuts.ext hm1
  have hE1 := hE0.ext hm1
  have hs1 := hm1.size
  refine OL.q (Q1.assign rfl) rfl rfl ?_
  refine OL.nil ?_
  refine r_seq ?_
  refine r_seq ?_
  refine r_region ?_
  refine OL.q (Q1.fieldAddr fl25_0 rfl) rfl rfl ?_
  refine OL.q (Q1.load1 ti22 rfl (fun _ e => e ▸ (hk1.cell 0 _ rfl))) rfl rfl ?_
  refine OL.act rfl rfl (AW.callF cl42 rfl (r4good_c (w0 := w1) (l := c.words)  ((f1).iv (Nat.zero_le _) (by omega)) (by exact hcs.words)) ?_)
  rintro _ w2 ⟨rfl, hm2⟩
  have f3 := f1.ext hm2
  have f4 := f2.ext hm2
  have f5 := hk1.ext hm2
  have hE2 := hE1.ext hm2
  have hs2 := hm2.size
  have := Ml.goodL_range c.words
  refine OL.qb (Q1.ne rfl rfl) rfl rfl ?_
  intro b2 hb2
  refine OL.q (Q1.move rfl) rfl rfl ?_
  cases b2 with
  | true =>
    replace hb2 := bne_iff_ne.1 hb2.symm
    refine OL.sk rfl rfl ?_
    refine OL.sk rfl rfl ?_
    refine OL.sk rfl rfl ?_
    refine OL.sk rfl rfl ?_
    refine OL.q (Q1.pick_t rfl rfl) rfl rfl ?_
    refine OL.q (Q1.move rfl) rfl rfl ?_
    refine OL.sk rfl rfl ?_
    refine OL.sk rfl rfl ?_
    refine OL.sk rfl rfl ?_
    refine OL.sk rfl rfl ?_
    refine OL.q (Q1.pick_t rfl rfl) rfl rfl ?_
    refine OL.q (Q1.move rfl) rfl rfl ?_
    refine OL.sk rfl rfl ?_
    refine OL.sk rfl rfl ?_
    refine OL.sk rfl rfl ?_
    refine OL.sk rfl rfl ?_
    refine OL.sk rfl rfl ?_
    refine OL.sk rfl rfl ?_
    refine OL.sk rfl rfl ?_
    refine OL.q (Q1.pick_t rfl rfl) rfl rfl ?_
    refine OL.nil ?_
    refine r_cond_t rfl ?_
    refine r_seq ?_
    refine r_region ?_
    refine OL.q (Q1.assign rfl) rfl rfl ?_
    refine OL.nil ?_
    refine r_ret1 Tryz.func27 rfl rfl ?_
    exact Ret.mk ⟨⟨_, (by first | simp [Ml.may, Ml.nodesM, Ml.sizesM, Ml.timesM, *] | (exfalso; omega)), rfl⟩, hE2⟩
  | false =>
    replace hb2 := bne_eq_false_iff_eq.1 hb2.symm
    refine OL.q (Q1.fieldAddr fl25_1 rfl) rfl rfl ?_
    refine OL.q (Q1.load1 ti23 rfl (fun _ e => e ▸ (f5.cell 1 _ rfl))) rfl rfl ?_
    refine OL.act rfl rfl (AW.callF cl43 rfl (r12good_c (w0 := w2) (cuts := c.cuts)  ((f4).iv (Nat.zero_le _) (by omega)) (by first | assumption | exact hcs.cuts)) ?_)
    rintro _ w3 ⟨rfl, hm3⟩
    have f6 := f3.ext hm3
    have f7 := f4.ext hm3
    have f8 := f5.ext hm3
    have hE3 := hE2.ext hm3
    have hs3 := hm3.size
    refine OL.qb (Q1.ne rfl rfl) rfl rfl ?_
    intro b3 hb3
    refine OL.q (Q1.pick_f rfl rfl) rfl rfl ?_
    refine OL.q (Q1.move rfl) rfl rfl ?_
    cases b3 with
    | true =>
      replace hb3 := bne_iff_ne.1 hb3.symm
      refine OL.sk rfl rfl ?_
      refine OL.sk rfl rfl ?_
      refine OL.sk rfl rfl ?_
      refine OL.sk rfl rfl ?_
      refine OL.q (Q1.pick_t rfl rfl) rfl rfl ?_
      refine OL.q (Q1.move rfl) rfl rfl ?_
      refine OL.sk rfl rfl ?_
      refine OL.sk rfl rfl ?_
      refine OL.sk rfl rfl ?_
      refine OL.sk rfl rfl ?_
      refine OL.sk rfl rfl ?_
      refine OL.sk rfl rfl ?_
      refine OL.sk rfl rfl ?_
      refine OL.q (Q1.pick_t rfl rfl) rfl rfl ?_
      refine OL.nil ?_
      refine r_cond_t rfl ?_
      refine r_seq ?_
      refine r_region ?_
      refine OL.q (Q1.assign rfl) rfl rfl ?_
      refine OL.nil ?_
      refine r_ret1 Tryz.func27 rfl rfl ?_
      exact Ret.mk ⟨⟨_, (by first | simp [Ml.may, Ml.nodesM, Ml.sizesM, Ml.timesM, *] | (exfalso; omega)), rfl⟩, hE3⟩
    | false =>
      replace hb3 := bne_eq_false_iff_eq.1 hb3.symm
      refine OL.q (Q1.fieldAddr fl25_2 rfl) rfl rfl ?_
      refine OL.q (Q1.load1 ti3 rfl (fun _ e => e ▸ (f8.cell 2 _ rfl))) rfl rfl ?_
      refine OL.act rfl rfl (AW.callF cl44 rfl (r13in_c (w0 := w3)  (c.workers) (1) (5) (by first | omega | assumption) (by first | omega | assumption) (by first | omega | assumption)) ?_)
      rintro _ w4 ⟨⟨b4, hb4, rfl⟩, hm4⟩
      have f9 := f6.ext hm4
      have f10 := f7.ext hm4
      have f11 := f8.ext hm4
      have hE4 := hE3.ext hm4
      have hs4 := hm4.size
      cases b4 with
      | true =>
        replace hb4 := hb4.symm
        have := Ml.within_true hb4
        refine OL.q (Q1.not rfl) rfl rfl ?_
        refine OL.q (Q1.pick_f rfl rfl) rfl rfl ?_
        refine OL.q (Q1.move rfl) rfl rfl ?_
        refine OL.q (Q1.fieldAddr fl25_3 rfl) rfl rfl ?_
        refine OL.q (Q1.load1 ti3 rfl (fun _ e => e ▸ (f11.cell 3 _ rfl))) rfl rfl ?_
        refine OL.q (Q1.fieldAddr fl25_2 rfl) rfl rfl ?_
        refine OL.q (Q1.load1 ti3 rfl (fun _ e => e ▸ (f11.cell 2 _ rfl))) rfl rfl ?_
        refine OL.q (Q1.min rfl rfl) rfl rfl ?_
        refine OL.act rfl rfl (AW.callF cl44 rfl (r13in_c (w0 := w4)  (c.copies) (1) ((min 3 c.workers)) (by first | omega | assumption) (by first | omega | assumption) (by first | omega | assumption)) ?_)
        rintro _ w5 ⟨⟨b5, hb5, rfl⟩, hm5⟩
        have f12 := f9.ext hm5
        have f13 := f10.ext hm5
        have f14 := f11.ext hm5
        have hE5 := hE4.ext hm5
        have hs5 := hm5.size
        cases b5 with
        | true =>
          replace hb5 := hb5.symm
          have := Ml.within_true hb5
          refine OL.q (Q1.not rfl) rfl rfl ?_
          refine OL.q (Q1.pick_f rfl rfl) rfl rfl ?_
          refine OL.nil ?_
          refine r_cond_f rfl ?_
          refine r_skip ?_
          refine r_seq ?_
          refine r_seq ?_
          refine r_region ?_
          refine OL.q (Q1.fieldAddr fl25_4 rfl) rfl rfl ?_
          refine OL.q (Q1.load1 ti3 rfl (fun _ e => e ▸ (f14.cell 4 _ rfl))) rfl rfl ?_
          refine OL.act rfl rfl (AW.callF cl44 rfl (r13in_c (w0 := w5)  (c.slots) (1) (4) (by first | omega | assumption) (by first | omega | assumption) (by first | omega | assumption)) ?_)
          rintro _ w6 ⟨⟨b6, hb6, rfl⟩, hm6⟩
          have f15 := f12.ext hm6
          have f16 := f13.ext hm6
          have f17 := f14.ext hm6
          have hE6 := hE5.ext hm6
          have hs6 := hm6.size
          cases b6 with
          | true =>
            replace hb6 := hb6.symm
            have := Ml.within_true hb6
            refine OL.q (Q1.not rfl) rfl rfl ?_
            refine OL.q (Q1.move rfl) rfl rfl ?_
            refine OL.q (Q1.fieldAddr fl25_5 rfl) rfl rfl ?_
            refine OL.q (Q1.load1 ti3 rfl (fun _ e => e ▸ (f17.cell 5 _ rfl))) rfl rfl ?_
            refine OL.act rfl rfl (AW.callF cl44 rfl (r13in_c (w0 := w6)  (c.batch) (1) (5) (by first | omega | assumption) (by first | omega | assumption) (by first | omega | assumption)) ?_)
            rintro _ w7 ⟨⟨b7, hb7, rfl⟩, hm7⟩
            have f18 := f15.ext hm7
            have f19 := f16.ext hm7
            have f20 := f17.ext hm7
            have hE7 := hE6.ext hm7
            have hs7 := hm7.size
            cases b7 with
            | true =>
              replace hb7 := hb7.symm
              have := Ml.within_true hb7
              refine OL.q (Q1.not rfl) rfl rfl ?_
              refine OL.q (Q1.pick_f rfl rfl) rfl rfl ?_
              refine OL.q (Q1.move rfl) rfl rfl ?_
              refine OL.q (Q1.fieldAddr fl25_6 rfl) rfl rfl ?_
              refine OL.q (Q1.load1 ti3 rfl (fun _ e => e ▸ (f20.cell 6 _ rfl))) rfl rfl ?_
              refine OL.act rfl rfl (AW.callF cl44 rfl (r13in_c (w0 := w7)  (c.lease) (1) (1000) (by first | omega | assumption) (by first | omega | assumption) (by first | omega | assumption)) ?_)
              rintro _ w8 ⟨⟨b8, hb8, rfl⟩, hm8⟩
              have f21 := f18.ext hm8
              have f22 := f19.ext hm8
              have f23 := f20.ext hm8
              have hE8 := hE7.ext hm8
              have hs8 := hm8.size
              cases b8 with
              | true =>
                replace hb8 := hb8.symm
                have := Ml.within_true hb8
                refine OL.q (Q1.not rfl) rfl rfl ?_
                refine OL.q (Q1.pick_f rfl rfl) rfl rfl ?_
                refine OL.q (Q1.move rfl) rfl rfl ?_
                refine OL.q (Q1.fieldAddr fl25_7 rfl) rfl rfl ?_
                refine OL.q (Q1.load1 ti3 rfl (fun _ e => e ▸ (f23.cell 7 _ rfl))) rfl rfl ?_
                refine OL.act rfl rfl (AW.callF cl44 rfl (r13in_c (w0 := w8)  (c.hedge) (1) (1000) (by first | omega | assumption) (by first | omega | assumption) (by first | omega | assumption)) ?_)
                rintro _ w9 ⟨⟨b9, hb9, rfl⟩, hm9⟩
                have f24 := f21.ext hm9
                have f25 := f22.ext hm9
                have f26 := f23.ext hm9
                have hE9 := hE8.ext hm9
                have hs9 := hm9.size
                cases b9 with
                | true =>
                  replace hb9 := hb9.symm
                  have := Ml.within_true hb9
                  refine OL.q (Q1.not rfl) rfl rfl ?_
                  refine OL.q (Q1.pick_f rfl rfl) rfl rfl ?_
                  refine OL.nil ?_
                  refine r_cond_f rfl ?_
                  refine r_skip ?_
                  refine r_seq ?_
                  refine r_region ?_
                  refine OL.q (Q1.fieldAddr fl25_8 rfl) rfl rfl ?_
                  refine OL.q (Q1.load1 ti3 rfl (fun _ e => e ▸ (f26.cell 8 _ rfl))) rfl rfl ?_
                  refine OL.act rfl rfl (AW.callF cl44 rfl (r13in_c (w0 := w9)  (c.first) (1) (10) (by first | omega | assumption) (by first | omega | assumption) (by first | omega | assumption)) ?_)
                  rintro _ w10 ⟨⟨b10, hb10, rfl⟩, hm10⟩
                  have f27 := f24.ext hm10
                  have f28 := f25.ext hm10
                  have f29 := f26.ext hm10
                  have hE10 := hE9.ext hm10
                  have hs10 := hm10.size
                  refine OL.q (Q1.move rfl) rfl rfl ?_
                  cases b10 with
                  | true =>
                    replace hb10 := hb10.symm
                    have := Ml.within_true hb10
                    refine OL.q (Q1.fieldAddr fl25_9 rfl) rfl rfl ?_
                    refine OL.q (Q1.load1 ti3 rfl (fun _ e => e ▸ (f29.cell 9 _ rfl))) rfl rfl ?_
                    refine OL.q (Q1.fieldAddr fl25_8 rfl) rfl rfl ?_
                    refine OL.q (Q1.load1 ti3 rfl (fun _ e => e ▸ (f29.cell 8 _ rfl))) rfl rfl ?_
                    refine OL.act rfl rfl (AW.callF cl44 rfl (r13in_c (w0 := w10)  (c.cap) (c.first) (50) (by first | omega | assumption) (by first | omega | assumption) (by first | omega | assumption)) ?_)
                    rintro _ w11 ⟨⟨b11, hb11, rfl⟩, hm11⟩
                    have f30 := f27.ext hm11
                    have f31 := f28.ext hm11
                    have f32 := f29.ext hm11
                    have hE11 := hE10.ext hm11
                    have hs11 := hm11.size
                    refine OL.q (Q1.pick_t rfl rfl) rfl rfl ?_
                    refine OL.q (Q1.move rfl) rfl rfl ?_
                    cases b11 with
                    | true =>
                      replace hb11 := hb11.symm
                      have := Ml.within_true hb11
                      refine OL.q (Q1.fieldAddr fl25_10 rfl) rfl rfl ?_
                      refine OL.q (Q1.load1 ti3 rfl (fun _ e => e ▸ (f32.cell 10 _ rfl))) rfl rfl ?_
                      refine OL.act rfl rfl (AW.callF cl44 rfl (r13in_c (w0 := w11)  (c.jitter) (0) (10) (by first | omega | assumption) (by first | omega | assumption) (by first | omega | assumption)) ?_)
                      rintro _ w12 ⟨⟨b12, hb12, rfl⟩, hm12⟩
                      have f33 := f30.ext hm12
                      have f34 := f31.ext hm12
                      have f35 := f32.ext hm12
                      have hE12 := hE11.ext hm12
                      have hs12 := hm12.size
                      refine OL.q (Q1.pick_t rfl rfl) rfl rfl ?_
                      refine OL.q (Q1.move rfl) rfl rfl ?_
                      cases b12 with
                      | true =>
                        replace hb12 := hb12.symm
                        have := Ml.within_true hb12
                        refine OL.q (Q1.fieldAddr fl25_11 rfl) rfl rfl ?_
                        refine OL.q (Q1.load1 ti3 rfl (fun _ e => e ▸ (f35.cell 11 _ rfl))) rfl rfl ?_
                        refine OL.act rfl rfl (AW.callF cl44 rfl (r13in_c (w0 := w12)  (c.net) (8) (64) (by first | omega | assumption) (by first | omega | assumption) (by first | omega | assumption)) ?_)
                        rintro _ w13 ⟨⟨b13, hb13, rfl⟩, hm13⟩
                        have f36 := f33.ext hm13
                        have f37 := f34.ext hm13
                        have f38 := f35.ext hm13
                        have hE13 := hE12.ext hm13
                        have hs13 := hm13.size
                        refine OL.q (Q1.pick_t rfl rfl) rfl rfl ?_
                        refine OL.q (Q1.assign rfl) rfl rfl ?_
                        refine OL.nil ?_
                        refine r_ret1 Tryz.func27 rfl rfl ?_
                        exact Ret.mk ⟨⟨_, (by first | simp [Ml.may, Ml.nodesM, Ml.sizesM, Ml.timesM, *] | (exfalso; omega)), rfl⟩, hE13⟩
                      | false =>
                        replace hb12 := hb12.symm
                        have := Ml.within_false hb12
                        refine OL.sk rfl rfl ?_
                        refine OL.sk rfl rfl ?_
                        refine OL.sk rfl rfl ?_
                        refine OL.q (Q1.pick_f rfl rfl) rfl rfl ?_
                        refine OL.q (Q1.assign rfl) rfl rfl ?_
                        refine OL.nil ?_
                        refine r_ret1 Tryz.func27 rfl rfl ?_
                        exact Ret.mk ⟨⟨_, (by first | simp [Ml.may, Ml.nodesM, Ml.sizesM, Ml.timesM, *] | (exfalso; omega)), rfl⟩, hE12⟩
                    | false =>
                      replace hb11 := hb11.symm
                      have := Ml.within_false hb11
                      refine OL.sk rfl rfl ?_
                      refine OL.sk rfl rfl ?_
                      refine OL.sk rfl rfl ?_
                      refine OL.q (Q1.pick_f rfl rfl) rfl rfl ?_
                      refine OL.q (Q1.move rfl) rfl rfl ?_
                      refine OL.sk rfl rfl ?_
                      refine OL.sk rfl rfl ?_
                      refine OL.sk rfl rfl ?_
                      refine OL.q (Q1.pick_f rfl rfl) rfl rfl ?_
                      refine OL.q (Q1.assign rfl) rfl rfl ?_
                      refine OL.nil ?_
                      refine r_ret1 Tryz.func27 rfl rfl ?_
                      exact Ret.mk ⟨⟨_, (by first | simp [Ml.may, Ml.nodesM, Ml.sizesM, Ml.timesM, *] | (exfalso; omega)), rfl⟩, hE11⟩
                  | false =>
                    replace hb10 := hb10.symm
                    have := Ml.within_false hb10
                    refine OL.sk rfl rfl ?_
                    refine OL.sk rfl rfl ?_
                    refine OL.sk rfl rfl ?_
                    refine OL.sk rfl rfl ?_
                    refine OL.sk rfl rfl ?_
                    refine OL.q (Q1.pick_f rfl rfl) rfl rfl ?_
                    refine OL.q (Q1.move rfl) rfl rfl ?_
                    refine OL.sk rfl rfl ?_
                    refine OL.sk rfl rfl ?_
                    refine OL.sk rfl rfl ?_
                    refine OL.q (Q1.pick_f rfl rfl) rfl rfl ?_
                    refine OL.q (Q1.move rfl) rfl rfl ?_
                    refine OL.sk rfl rfl ?_
                    refine OL.sk rfl rfl ?_
                    refine OL.sk rfl rfl ?_
                    refine OL.q (Q1.pick_f rfl rfl) rfl rfl ?_
                    refine OL.q (Q1.assign rfl) rfl rfl ?_
                    refine OL.nil ?_
                    refine r_ret1 Tryz.func27 rfl rfl ?_
                    exact Ret.mk ⟨⟨_, (by first | simp [Ml.may, Ml.nodesM, Ml.sizesM, Ml.timesM, *] | (exfalso; omega)), rfl⟩, hE10⟩
                | false =>
                  replace hb9 := hb9.symm
                  have := Ml.within_false hb9
                  refine OL.q (Q1.not rfl) rfl rfl ?_
                  refine OL.q (Q1.pick_f rfl rfl) rfl rfl ?_
                  refine OL.nil ?_
                  refine r_cond_t rfl ?_
                  refine r_seq ?_
                  refine r_region ?_
                  refine OL.q (Q1.assign rfl) rfl rfl ?_
                  refine OL.nil ?_
                  refine r_ret1 Tryz.func27 rfl rfl ?_
                  exact Ret.mk ⟨⟨_, (by first | simp [Ml.may, Ml.nodesM, Ml.sizesM, Ml.timesM, *] | (exfalso; omega)), rfl⟩, hE9⟩
              | false =>
                replace hb8 := hb8.symm
                have := Ml.within_false hb8
                refine OL.q (Q1.not rfl) rfl rfl ?_
                refine OL.q (Q1.pick_f rfl rfl) rfl rfl ?_
                refine OL.q (Q1.move rfl) rfl rfl ?_
                refine OL.sk rfl rfl ?_
                refine OL.sk rfl rfl ?_
                refine OL.sk rfl rfl ?_
                refine OL.sk rfl rfl ?_
                refine OL.q (Q1.pick_t rfl rfl) rfl rfl ?_
                refine OL.nil ?_
                refine r_cond_t rfl ?_
                refine r_seq ?_
                refine r_region ?_
                refine OL.q (Q1.assign rfl) rfl rfl ?_
                refine OL.nil ?_
                refine r_ret1 Tryz.func27 rfl rfl ?_
                exact Ret.mk ⟨⟨_, (by first | simp [Ml.may, Ml.nodesM, Ml.sizesM, Ml.timesM, *] | (exfalso; omega)), rfl⟩, hE8⟩
            | false =>
              replace hb7 := hb7.symm
              have := Ml.within_false hb7
              refine OL.q (Q1.not rfl) rfl rfl ?_
              refine OL.q (Q1.pick_f rfl rfl) rfl rfl ?_
              refine OL.q (Q1.move rfl) rfl rfl ?_
              refine OL.sk rfl rfl ?_
              refine OL.sk rfl rfl ?_
              refine OL.sk rfl rfl ?_
              refine OL.sk rfl rfl ?_
              refine OL.q (Q1.pick_t rfl rfl) rfl rfl ?_
              refine OL.q (Q1.move rfl) rfl rfl ?_
              refine OL.sk rfl rfl ?_
              refine OL.sk rfl rfl ?_
              refine OL.sk rfl rfl ?_
              refine OL.sk rfl rfl ?_
              refine OL.q (Q1.pick_t rfl rfl) rfl rfl ?_
              refine OL.nil ?_
              refine r_cond_t rfl ?_
              refine r_seq ?_
              refine r_region ?_
              refine OL.q (Q1.assign rfl) rfl rfl ?_
              refine OL.nil ?_
              refine r_ret1 Tryz.func27 rfl rfl ?_
              exact Ret.mk ⟨⟨_, (by first | simp [Ml.may, Ml.nodesM, Ml.sizesM, Ml.timesM, *] | (exfalso; omega)), rfl⟩, hE7⟩
          | false =>
            replace hb6 := hb6.symm
            have := Ml.within_false hb6
            refine OL.q (Q1.not rfl) rfl rfl ?_
            refine OL.q (Q1.move rfl) rfl rfl ?_
            refine OL.sk rfl rfl ?_
            refine OL.sk rfl rfl ?_
            refine OL.sk rfl rfl ?_
            refine OL.sk rfl rfl ?_
            refine OL.q (Q1.pick_t rfl rfl) rfl rfl ?_
            refine OL.q (Q1.move rfl) rfl rfl ?_
            refine OL.sk rfl rfl ?_
            refine OL.sk rfl rfl ?_
            refine OL.sk rfl rfl ?_
            refine OL.sk rfl rfl ?_
            refine OL.q (Q1.pick_t rfl rfl) rfl rfl ?_
            refine OL.q (Q1.move rfl) rfl rfl ?_
            refine OL.sk rfl rfl ?_
            refine OL.sk rfl rfl ?_
            refine OL.sk rfl rfl ?_
            refine OL.sk rfl rfl ?_
            refine OL.q (Q1.pick_t rfl rfl) rfl rfl ?_
            refine OL.nil ?_
            refine r_cond_t rfl ?_
            refine r_seq ?_
            refine r_region ?_
            refine OL.q (Q1.assign rfl) rfl rfl ?_
            refine OL.nil ?_
            refine r_ret1 Tryz.func27 rfl rfl ?_
            exact Ret.mk ⟨⟨_, (by first | simp [Ml.may, Ml.nodesM, Ml.sizesM, Ml.timesM, *] | (exfalso; omega)), rfl⟩, hE6⟩
        | false =>
          replace hb5 := hb5.symm
          have := Ml.within_false hb5
          refine OL.q (Q1.not rfl) rfl rfl ?_
          refine OL.q (Q1.pick_f rfl rfl) rfl rfl ?_
          refine OL.nil ?_
          refine r_cond_t rfl ?_
          refine r_seq ?_
          refine r_region ?_
          refine OL.q (Q1.assign rfl) rfl rfl ?_
          refine OL.nil ?_
          refine r_ret1 Tryz.func27 rfl rfl ?_
          exact Ret.mk ⟨⟨_, (by first | simp [Ml.may, Ml.nodesM, Ml.sizesM, Ml.timesM, *] | (exfalso; omega)), rfl⟩, hE5⟩
      | false =>
        replace hb4 := hb4.symm
        have := Ml.within_false hb4
        refine OL.q (Q1.not rfl) rfl rfl ?_
        refine OL.q (Q1.pick_f rfl rfl) rfl rfl ?_
        refine OL.q (Q1.move rfl) rfl rfl ?_
        refine OL.sk rfl rfl ?_
        refine OL.sk rfl rfl ?_
        refine OL.sk rfl rfl ?_
        refine OL.sk rfl rfl ?_
        refine OL.sk rfl rfl ?_
        refine OL.sk rfl rfl ?_
        refine OL.sk rfl rfl ?_
        refine OL.q (Q1.pick_t rfl rfl) rfl rfl ?_
        refine OL.nil ?_
        refine r_cond_t rfl ?_
        refine r_seq ?_
        refine r_region ?_
        refine OL.q (Q1.assign rfl) rfl rfl ?_
        refine OL.nil ?_
        refine r_ret1 Tryz.func27 rfl rfl ?_
        exact Ret.mk ⟨⟨_, (by first | simp [Ml.may, Ml.nodesM, Ml.sizesM, Ml.timesM, *] | (exfalso; omega)), rfl⟩, hE4⟩
set_option maxRecDepth 20000 in
set_option maxHeartbeats 4000000 in
theorem r13shards_c {w0 : World}  {c : Cfg} {v_c_words : Value} {v_c_cuts : Value} (h_c_words : Sl encS w0 (Iv 0 w0.heap.size) v_c_words c.words) (h_c_cuts : Sl encKey w0 (Iv 0 w0.heap.size) v_c_cuts c.cuts) (h_c : Cfg.Ok c) (hcs : CfgS c) :
    Calls Tryz.prog 45 #[.agg #[v_c_words, v_c_cuts, .int .i64 c.workers, .int .i64 c.copies, .int .i64 c.slots, .int .i64 c.batch, .int .i64 c.lease, .int .i64 c.hedge, .int .i64 c.first, .int .i64 c.cap, .int .i64 c.jitter, .int .i64 c.net]] w0 (Ret fun rv w1 => rv = .int .i64 (((Ml.shards c : Nat) : Int)) ∧ Ext w0 w1) := by
  have hE0 : Ext w0 w0 := Mod.refl _ _
  have hle1 := h_c_words.le
  have hle2 := h_c_cuts.le
  have hcl := hcs.cl
  refine calls_enter Tryz.func45 rfl Tryz.ntmps45 rfl ?_
  refine r_seq ?_
  refine r_region ?_
  refine OL.act rfl rfl (AW.box [v_c_words, v_c_cuts, .int .i64 c.workers, .int .i64 c.copies, .int .i64 c.slots, .int .i64 c.batch, .int .i64 c.lease, .int .i64 c.hedge, .int .i64 c.first, .int .i64 c.cap, .int .i64 c.jitter, .int .i64 c.net] rfl rfl ?_)
  intro w1 b1 hm1 hb1 hz1 hk1
  have f1 := h_c_words.ext hm1
  have f2 := h_c_cuts.ext hm1
  have hE1 := hE0.ext hm1
  have hs1 := hm1.size
  refine OL.q (Q1.assign rfl) rfl rfl ?_
  refine OL.nil ?_
  refine r_seq ?_
  refine r_seq ?_
  refine r_region ?_
  refine OL.q (Q1.loadN ti25 rfl (fun _ e => e ▸ hk1.row) rfl) rfl rfl ?_
  refine OL.act rfl rfl (AW.callF cl27 rfl (r13may_c (w0 := w1) (c := c)  ((f1).iv (Nat.zero_le _) (by omega)) ((f2).iv (Nat.zero_le _) (by omega)) (by first | assumption | exact Ml.Cfg.ok_of (by decide +kernel)) (by first | assumption)) ?_)
  rintro _ w2 ⟨⟨b2, hb2, rfl⟩, hm2⟩
  have f3 := f1.ext hm2
  have f4 := f2.ext hm2
  have f5 := hk1.ext hm2
  have hE2 := hE1.ext hm2
  have hs2 := hm2.size
  cases b2 with
  | true =>
    replace hb2 := hb2.symm
    have := Ml.may_bounds hb2
    refine OL.q (Q1.not rfl) rfl rfl ?_
    refine OL.nil ?_
    refine r_cond_f rfl ?_
    refine r_skip ?_
    refine r_seq ?_
    refine r_region ?_
    refine OL.q (Q1.fieldAddr fl25_1 rfl) rfl rfl ?_
    refine OL.q (Q1.load1 ti23 rfl (fun _ e => e ▸ (f5.cell 1 _ rfl))) rfl rfl ?_
    refine OL.q (Q1.lenSl Tryz.underlying23 (f4) rfl) rfl rfl ?_
    refine OL.q (Q1.addI (((c.cuts.length + 1 : Nat) : Int)) rfl rfl (by omega)) rfl rfl ?_
    refine OL.q (Q1.assign rfl) rfl rfl ?_
    refine OL.nil ?_
    refine r_ret1 Tryz.func45 rfl rfl ?_
    exact Ret.mk ⟨(congrArg (Value.int .i64) (by first | simp only [Ml.shards, *]; rfl | (exfalso; omega))), hE2⟩
  | false =>
    replace hb2 := hb2.symm
    refine OL.q (Q1.not rfl) rfl rfl ?_
    refine OL.nil ?_
    refine r_cond_t rfl ?_
    refine r_seq ?_
    refine r_region ?_
    refine OL.q (Q1.assign rfl) rfl rfl ?_
    refine OL.nil ?_
    refine r_ret1 Tryz.func45 rfl rfl ?_
    exact Ret.mk ⟨(congrArg (Value.int .i64) (by first | simp only [Ml.shards, *]; rfl | (exfalso; omega))), hE2⟩
set_option maxRecDepth 20000 in
set_option maxHeartbeats 4000000 in
theorem r13copies_c {w0 : World}  {c : Cfg} {v_c_words : Value} {v_c_cuts : Value} (shard : Int) (h_c_words : Sl encS w0 (Iv 0 w0.heap.size) v_c_words c.words) (h_c_cuts : Sl encKey w0 (Iv 0 w0.heap.size) v_c_cuts c.cuts) (h_c : Cfg.Ok c) (h_shard : I64 shard) (hcs : CfgS c) :
    Calls Tryz.prog 46 #[.agg #[v_c_words, v_c_cuts, .int .i64 c.workers, .int .i64 c.copies, .int .i64 c.slots, .int .i64 c.batch, .int .i64 c.lease, .int .i64 c.hedge, .int .i64 c.first, .int .i64 c.cap, .int .i64 c.jitter, .int .i64 c.net], .int .i64 shard] w0 (Ret fun rv w1 => (∃ gr, Acc Ik.encI 3 1 w1 gr rv (Ml.copiesM c shard) ∧ (gr = 0 ∨ w0.heap.size < gr)) ∧ Ext w0 w1) := by
  have hE0 : Ext w0 w0 := Mod.refl _ _
  have hle1 := h_c_words.le
  have hle2 := h_c_cuts.le
  have hc1 := h_c.workers
  have hc2 := h_c.copies
  have hc3 := h_c.slots
  have hc4 := h_c.batch
  have hc5 := h_c.lease
  have hc6 := h_c.hedge
  have hc7 := h_c.first
  have hc8 := h_c.cap
  have hc9 := h_c.jitter
  have hc10 := h_c.net
  refine calls_enter Tryz.func46 rfl Tryz.ntmps46 rfl ?_
  refine r_seq ?_
  refine r_region ?_
  refine OL.act rfl rfl (AW.box [v_c_words, v_c_cuts, .int .i64 c.workers, .int .i64 c.copies, .int .i64 c.slots, .int .i64 c.batch, .int .i64 c.lease, .int .i64 c.hedge, .int .i64 c.first, .int .i64 c.cap, .int .i64 c.jitter, .int .i64 c.net] rfl rfl ?_)
  intro w1 b1 hm1 hb1 hz1 hk1
  have f1 := h_c_words.ext hm1
  have f2 := h_c_cuts.ext hm1
  have hE1 := hE0.ext hm1
  have hs1 := hm1.size
  refine OL.q (Q1.assign rfl) rfl rfl ?_
  refine OL.nil ?_
  refine r_seq ?_
  refine r_region ?_
  refine OL.q (Q1.assign rfl) rfl rfl ?_
  refine OL.nil ?_
  refine r_seq ?_
  refine r_seq ?_
  refine r_region ?_
  refine OL.q (Q1.assign rfl) rfl rfl ?_
  refine OL.nil ?_
  refine r_block ?_
  refine r_loop (I := fun m E W => ∃ (v_l : Value) (g_l : Nat) (l : List Int) (j : Nat), E = [(1, .int .i64 shard), (2, ptr b1 0), (5, v_l), (6, .int .i64 (((j : Nat) : Int)))] ∧ m = c.copies.toNat - j ∧ Ext w0 W ∧ w1.heap.size ≤ W.heap.size ∧ Acc Ik.encI 3 1 W g_l v_l l ∧ (g_l = 0 ∨ w0.heap.size < g_l) ∧ Bk W b1 [v_c_words, v_c_cuts, .int .i64 c.workers, .int .i64 c.copies, .int .i64 c.slots, .int .i64 c.batch, .int .i64 c.lease, .int .i64 c.hedge, .int .i64 c.first, .int .i64 c.cap, .int .i64 c.jitter, .int .i64 c.net] 25 ∧ Sl encS W (Iv 0 w0.heap.size) v_c_words c.words ∧ Sl encKey W (Iv 0 w0.heap.size) v_c_cuts c.cuts ∧ b1 + 1 ≠ g_l ∧ (l = (List.range j).map (fun j : Nat => 1 + (shard + (j : Int)) % c.workers)) ∧ (l.length = j) ∧ (j ≤ c.copies.toNat) ∧ (j = 0 ∨ Ml.within shard 0 ((Ml.shards c : Int) - 1) = true)) ?_ ?_
  · refine ⟨_, _, ⟨(.slice none 0 0 : Value), (0 : Nat), ([] : List Int), (0 : Nat), rfl, rfl, hE1, Nat.le_refl _, Acc.nil, (by omega), hk1, f1, f2, (by omega), (by rfl), (by rfl), (by exact Nat.zero_le _), (by exact .inl rfl)⟩, ⟨rfl, rfl, rfl, rfl, trivial⟩⟩
  · rintro _ _ w2 ⟨v_l, g_l, l, j, rfl, rfl, hE2, hs2, ha1, hg1, f3, f4, f5, hn1, hi, hl, hj, hin⟩ ih1
    refine r_seq ?_
    refine r_seq ?_
    refine r_region ?_
    refine OL.q (Q1.move rfl) rfl rfl ?_
    refine OL.q (Q1.fieldAddr fl25_3 rfl) rfl rfl ?_
    refine OL.q (Q1.load1 ti3 rfl (fun _ e => e ▸ (f3.cell 3 _ rfl))) rfl rfl ?_
    refine OL.qb (Q1.lt rfl rfl) rfl rfl ?_
    intro b2 hb2
    refine OL.q (Q1.move rfl) rfl rfl ?_
    cases b2 with
    | true =>
      replace hb2 := of_decide_eq_true hb2.symm
      refine OL.q (Q1.move rfl) rfl rfl ?_
      refine OL.qb (Q1.ge rfl rfl) rfl rfl ?_
      intro b3 hb3
      refine OL.q (Q1.pick_t rfl rfl) rfl rfl ?_
      refine OL.q (Q1.move rfl) rfl rfl ?_
      cases b3 with
      | true =>
        replace hb3 := of_decide_eq_true hb3.symm
        refine OL.q (Q1.move rfl) rfl rfl ?_
        refine OL.q (Q1.loadN ti25 rfl (fun _ e => e ▸ f3.row) rfl) rfl rfl ?_
        refine OL.act rfl rfl (AW.callF cl45 rfl (r13shards_c (w0 := w2) (c := c)  ((f4).iv (Nat.zero_le _) (by omega)) ((f5).iv (Nat.zero_le _) (by omega)) (by first | assumption | exact Ml.Cfg.ok_of (by decide +kernel)) (by first | assumption)) ?_)
        rintro _ w3 ⟨rfl, hm2⟩
        have hl1 := ha1.lt
        have f6 := ha1.ext hm2
        have f7 := f3.ext hm2
        have f8 := f4.ext hm2
        have f9 := f5.ext hm2
        have hE3 := hE2.ext hm2
        have hs3 := hm2.size
        have := Ml.shards_le c
        refine OL.qb (Q1.lt rfl rfl) rfl rfl ?_
        intro b4 hb4
        refine OL.q (Q1.pick_t rfl rfl) rfl rfl ?_
        refine OL.nil ?_
        cases b4 with
        | true =>
          replace hb4 := of_decide_eq_true hb4.symm
          refine r_cond_t rfl ?_
          refine r_skip ?_
          refine r_seq ?_
          refine r_block ?_
          refine r_region ?_
          refine OL.q (Q1.move rfl) rfl rfl ?_
          have hmy := Ml.may_bounds (Ml.may_of_shards (c := c) (by omega))
          have hsl := Ml.shards_le c
          refine OL.q (Q1.move rfl) rfl rfl ?_
          refine OL.q (Q1.move rfl) rfl rfl ?_
          refine OL.q (Q1.addI ((shard + (((j : Nat) : Int)))) rfl rfl (by omega)) rfl rfl ?_
          refine OL.q (Q1.fieldAddr fl25_2 rfl) rfl rfl ?_
          refine OL.q (Q1.load1 ti3 rfl (fun _ e => e ▸ (f7.cell 2 _ rfl))) rfl rfl ?_
          have := Int.emod_nonneg ((shard + (((j : Nat) : Int))) : Int) (by omega : (c.workers : Int) ≠ 0)
          have := Int.emod_lt_of_pos ((shard + (((j : Nat) : Int))) : Int) (by omega : (0 : Int) < c.workers)
          refine OL.q (Q1.remI (((shard + (((j : Nat) : Int))) % c.workers)) rfl rfl ⟨by omega, by omega, rfl⟩) rfl rfl ?_
          refine OL.q (Q1.addI ((1 + (((shard + (((j : Nat) : Int))) % c.workers)))) rfl rfl (by omega)) rfl rfl ?_
          refine OL.act rfl rfl (AW.buildSlice [(.int .i64 ((1 + (((shard + (((j : Nat) : Int))) % c.workers)))) : Value)] Tryz.underlying63 ti3 rfl rfl rfl (by decide) ?_)
          intro w4 b5 hm3 hb5 hz2 hk2
          have hl2 := f6.lt
          have f10 := f6.ext hm3
          have f11 := f7.ext hm3
          have f12 := f8.ext hm3
          have f13 := f9.ext hm3
          have hE4 := hE3.ext hm3
          have hs4 := hm3.size
          have hl3 := Sl.of_blk (enc := Ik.encI) hk2 ([(1 + (((shard + (((j : Nat) : Int))) % c.workers)))] : List Int) 1 rfl rfl (by unfold maxLen; omega)
          have hl4 := f10.lt
          refine OL.act rfl rfl (AW.append f10 Tryz.underlying63 ti3 rfl Ik.encI_len Ik.encI_one rfl rfl (hl3) (by first | omega | (simp only [List.length_append, List.length_cons, List.length_nil]; omega) | (simp; omega)) (by unfold maxLen; first | omega | (simp only [List.length_append, List.length_cons, List.length_nil]; omega) | (simp; omega)) ?_)
          intro v1 g1 w5 ha2 hm4 hg2 hz3
          have hl5 := f10.lt
          have f14 := f11.keepG hm4 (by omega)
          have f15 := f12.keepG hm4 (by omega)
          have f16 := f13.keepG hm4 (by omega)
          have f17 := hl3.keepG hm4 (by omega)
          have hE5 := Ext.thenG hE4 hm4 (by omega)
          have hs5 := hm4.size
          refine OL.q (Q1.assign rfl) rfl rfl ?_
          refine OL.nil ?_
          refine r_inBlock ?_
          refine r_region ?_
          refine OL.q (Q1.move rfl) rfl rfl ?_
          refine OL.q (Q1.addI (((j + 1 : Nat) : Int)) rfl rfl (by omega)) rfl rfl ?_
          refine OL.q (Q1.assign rfl) rfl rfl ?_
          refine OL.nil ?_
          exact (ih1 _ _ _ ⟨(v1 : Value), (g1 : Nat), ((l ++ [(1 + (((shard + (((j : Nat) : Int))) % c.workers)))]) : List Int), (j + 1 : Nat), rfl, rfl, hE5, (by omega), ha2, (by omega), f14, f15, f16, (by omega), (by first | rw [hi, List.range_succ, List.map_append]; rfl | (exfalso; omega)), (by first | omega | (simp only [List.length_append, List.length_cons, List.length_nil]; omega) | (exfalso; omega)), (by first | omega | (exfalso; omega)), (by first | exact .inr (within_yes (by omega) (by omega)) | (exfalso; omega))⟩ (by omega)).sub ⟨rfl, rfl, rfl, rfl, trivial⟩
        | false =>
          replace hb4 := of_decide_eq_false hb4.symm
          refine r_cond_f rfl ?_
          refine r_exit rfl ?_
          refine r_seq ?_
          refine r_region ?_
          refine OL.q (Q1.move rfl) rfl rfl ?_
          refine OL.q (Q1.assign rfl) rfl rfl ?_
          refine OL.nil ?_
          refine r_ret1 Tryz.func46 rfl rfl ?_
          exact Ret.mk ⟨⟨_, Acc.cast f6 (by first | exact cop_1 hi (by omega) hj hin | exact cop_2 hi (by omega) hin | (exfalso; omega)), by omega⟩, hE3⟩
      | false =>
        replace hb3 := of_decide_eq_false hb3.symm
        refine OL.sk rfl rfl ?_
        refine OL.sk rfl rfl ?_
        refine OL.sk rfl rfl ?_
        refine OL.sk rfl rfl ?_
        refine OL.q (Q1.pick_f rfl rfl) rfl rfl ?_
        refine OL.nil ?_
        refine r_cond_f rfl ?_
        refine r_exit rfl ?_
        refine r_seq ?_
        refine r_region ?_
        refine OL.q (Q1.move rfl) rfl rfl ?_
        refine OL.q (Q1.assign rfl) rfl rfl ?_
        refine OL.nil ?_
        refine r_ret1 Tryz.func46 rfl rfl ?_
        exact Ret.mk ⟨⟨_, Acc.cast ha1 (by first | exact cop_1 hi (by omega) hj hin | exact cop_2 hi (by omega) hin | (exfalso; omega)), by omega⟩, hE2⟩
    | false =>
      replace hb2 := of_decide_eq_false hb2.symm
      refine OL.sk rfl rfl ?_
      refine OL.sk rfl rfl ?_
      refine OL.q (Q1.pick_f rfl rfl) rfl rfl ?_
      refine OL.q (Q1.move rfl) rfl rfl ?_
      refine OL.sk rfl rfl ?_
      refine OL.sk rfl rfl ?_
      refine OL.sk rfl rfl ?_
      refine OL.sk rfl rfl ?_
      refine OL.q (Q1.pick_f rfl rfl) rfl rfl ?_
      refine OL.nil ?_
      refine r_cond_f rfl ?_
      refine r_exit rfl ?_
      refine r_seq ?_
      refine r_region ?_
      refine OL.q (Q1.move rfl) rfl rfl ?_
      refine OL.q (Q1.assign rfl) rfl rfl ?_
      refine OL.nil ?_
      refine r_ret1 Tryz.func46 rfl rfl ?_
      exact Ret.mk ⟨⟨_, Acc.cast ha1 (by first | exact cop_1 hi (by omega) hj hin | exact cop_2 hi (by omega) hin | (exfalso; omega)), by omega⟩, hE2⟩
set_option maxRecDepth 20000 in
set_option maxHeartbeats 4000000 in
theorem r13keeps_c {w0 : World}  {c : Cfg} {v_c_words : Value} {v_c_cuts : Value} (worker : Int) (h_c_words : Sl encS w0 (Iv 0 w0.heap.size) v_c_words c.words) (h_c_cuts : Sl encKey w0 (Iv 0 w0.heap.size) v_c_cuts c.cuts) (h_c : Cfg.Ok c) (h_worker : I64 worker) (hcs : CfgS c) :
    Calls Tryz.prog 28 #[.agg #[v_c_words, v_c_cuts, .int .i64 c.workers, .int .i64 c.copies, .int .i64 c.slots, .int .i64 c.batch, .int .i64 c.lease, .int .i64 c.hedge, .int .i64 c.first, .int .i64 c.cap, .int .i64 c.jitter, .int .i64 c.net], .int .i64 worker] w0 (Ret fun rv w1 => (∃ gr, Acc Ik.encI 3 1 w1 gr rv (Ml.keepsM c worker) ∧ (gr = 0 ∨ w0.heap.size < gr)) ∧ Ext w0 w1) := by
  have hE0 : Ext w0 w0 := Mod.refl _ _
  have hle1 := h_c_words.le
  have hle2 := h_c_cuts.le
  have hc1 := h_c.workers
  have hc2 := h_c.copies
  have hc3 := h_c.slots
  have hc4 := h_c.batch
  have hc5 := h_c.lease
  have hc6 := h_c.hedge
  have hc7 := h_c.first
  have hc8 := h_c.cap
  have hc9 := h_c.jitter
  have hc10 := h_c.net
  refine calls_enter Tryz.func28 rfl Tryz.ntmps28 rfl ?_
  refine r_seq ?_
  refine r_region ?_
  refine OL.act rfl rfl (AW.box [v_c_words, v_c_cuts, .int .i64 c.workers, .int .i64 c.copies, .int .i64 c.slots, .int .i64 c.batch, .int .i64 c.lease, .int .i64 c.hedge, .int .i64 c.first, .int .i64 c.cap, .int .i64 c.jitter, .int .i64 c.net] rfl rfl ?_)
  intro w1 b1 hm1 hb1 hz1 hk1
  have f1 := h_c_words.ext hm1
  have f2 := h_c_cuts.ext hm1
  have hE1 := hE0.ext hm1
  have hs1 := hm1.size
  refine OL.q (Q1.assign rfl) rfl rfl ?_
  refine OL.nil ?_
  refine r_seq ?_
  refine r_region ?_
  refine OL.q (Q1.assign rfl) rfl rfl ?_
  refine OL.nil ?_
  refine r_seq ?_
  refine r_seq ?_
  refine r_region ?_
  refine OL.q (Q1.assign rfl) rfl rfl ?_
  refine OL.nil ?_
  refine r_block ?_
  refine r_loop (I := fun m E W => ∃ (v_l : Value) (g_l : Nat) (l : List Int) (k : Nat), E = [(1, .int .i64 worker), (2, ptr b1 0), (5, v_l), (6, .int .i64 (((k : Nat) : Int)))] ∧ m = Ml.shards c - k ∧ Ext w0 W ∧ w1.heap.size ≤ W.heap.size ∧ Acc Ik.encI 3 1 W g_l v_l l ∧ (g_l = 0 ∨ w0.heap.size < g_l) ∧ Bk W b1 [v_c_words, v_c_cuts, .int .i64 c.workers, .int .i64 c.copies, .int .i64 c.slots, .int .i64 c.batch, .int .i64 c.lease, .int .i64 c.hedge, .int .i64 c.first, .int .i64 c.cap, .int .i64 c.jitter, .int .i64 c.net] 25 ∧ Sl encS W (Iv 0 w0.heap.size) v_c_words c.words ∧ Sl encKey W (Iv 0 w0.heap.size) v_c_cuts c.cuts ∧ b1 + 1 ≠ g_l ∧ (l = ((List.range k).filter (fun s : Nat => (Ml.copiesM c (s : Int)).contains worker)).map (fun s : Nat => (s : Int))) ∧ (k ≤ Ml.shards c) ∧ (l.length ≤ 10 * k)) ?_ ?_
  · refine ⟨_, _, ⟨(.slice none 0 0 : Value), (0 : Nat), ([] : List Int), (0 : Nat), rfl, rfl, hE1, Nat.le_refl _, Acc.nil, (by omega), hk1, f1, f2, (by omega), (by rfl), (by exact Nat.zero_le _), (by simp)⟩, ⟨rfl, rfl, rfl, rfl, trivial⟩⟩
  · rintro _ _ w2 ⟨v_l, g_l, l, k, rfl, rfl, hE2, hs2, ha1, hg1, f3, f4, f5, hn1, hi, hkl, hll⟩ ih1
    have hsl := Ml.shards_le c
    refine r_seq ?_
    refine r_seq ?_
    refine r_region ?_
    refine OL.q (Q1.move rfl) rfl rfl ?_
    refine OL.q (Q1.loadN ti25 rfl (fun _ e => e ▸ f3.row) rfl) rfl rfl ?_
    refine OL.act rfl rfl (AW.callF cl45 rfl (r13shards_c (w0 := w2) (c := c)  ((f4).iv (Nat.zero_le _) (by omega)) ((f5).iv (Nat.zero_le _) (by omega)) (by first | assumption | exact Ml.Cfg.ok_of (by decide +kernel)) (by first | assumption)) ?_)
    rintro _ w3 ⟨rfl, hm2⟩
    have hl1 := ha1.lt
    have f6 := ha1.ext hm2
    have f7 := f3.ext hm2
    have f8 := f4.ext hm2
    have f9 := f5.ext hm2
    have hE3 := hE2.ext hm2
    have hs3 := hm2.size
    have := Ml.shards_le c
    refine OL.qb (Q1.lt rfl rfl) rfl rfl ?_
    intro b2 hb2
    refine OL.nil ?_
    cases b2 with
    | true =>
      replace hb2 := of_decide_eq_true hb2.symm
      refine r_cond_t rfl ?_
      refine r_skip ?_
      refine r_seq ?_
      refine r_block ?_
      refine r_seq ?_
      refine r_region ?_
      refine OL.q (Q1.loadN ti25 rfl (fun _ e => e ▸ f7.row) rfl) rfl rfl ?_
      refine OL.q (Q1.move rfl) rfl rfl ?_
      refine OL.act rfl rfl (AW.callF cl46 rfl (r13copies_c (w0 := w3) (c := c) (((k : Nat) : Int)) ((f8).iv (Nat.zero_le _) (by omega)) ((f9).iv (Nat.zero_le _) (by omega)) (by first | assumption | exact Ml.Cfg.ok_of (by decide +kernel)) (by first | omega | assumption) (by first | assumption)) ?_)
      rintro v1 w4 ⟨⟨gr1, h1, hg2⟩, hm3⟩
      have hl2 := f6.lt
      have f10 := f6.ext hm3
      have f11 := f7.ext hm3
      have f12 := f8.ext hm3
      have f13 := f9.ext hm3
      have hE4 := hE3.ext hm3
      have hs4 := hm3.size
      have hle_1 := h1.le
      have hlt_1 := h1.lt
      have := copies_len c (((k : Nat) : Int))
      refine OL.q (Q1.assign rfl) rfl rfl ?_
      refine OL.nil ?_
      refine r_seq ?_
      refine r_region ?_
      refine OL.q (Q1.assign rfl) rfl rfl ?_
      refine OL.nil ?_
      refine r_block ?_
      refine r_loop (I := fun m E W => ∃ (v_l2 : Value) (g_l2 : Nat) (l2 : List Int) (j : Nat), E = [(1, .int .i64 worker), (2, ptr b1 0), (5, v_l2), (6, .int .i64 (((k : Nat) : Int))), (7, v1), (8, .int .i64 (((j : Nat) : Int)))] ∧ m = (Ml.copiesM c (k : Int)).length - j ∧ Ext w0 W ∧ w4.heap.size ≤ W.heap.size ∧ Acc Ik.encI 3 1 W g_l2 v_l2 l2 ∧ (g_l2 = 0 ∨ w0.heap.size < g_l2) ∧ Bk W b1 [v_c_words, v_c_cuts, .int .i64 c.workers, .int .i64 c.copies, .int .i64 c.slots, .int .i64 c.batch, .int .i64 c.lease, .int .i64 c.hedge, .int .i64 c.first, .int .i64 c.cap, .int .i64 c.jitter, .int .i64 c.net] 25 ∧ Sl encS W (Iv 0 w0.heap.size) v_c_words c.words ∧ Sl encKey W (Iv 0 w0.heap.size) v_c_cuts c.cuts ∧ Acc Ik.encI 3 1 W gr1 v1 ((Ml.copiesM c (((k : Nat) : Int)))) ∧ b1 + 1 ≠ g_l2 ∧ (g_l2 ≠ gr1 ∨ gr1 = 0) ∧ (l2 = l ++ List.replicate (((Ml.copiesM c (k : Int)).take j).count worker) (k : Int)) ∧ (l2.length ≤ 10 * k + j) ∧ (j ≤ (Ml.copiesM c (k : Int)).length)) ?_ ?_
      · refine ⟨_, _, ⟨(v_l : Value), (g_l : Nat), (l : List Int), (0 : Nat), rfl, rfl, hE4, Nat.le_refl _, f10, (by omega), f11, f12, f13, h1, (by omega), (by omega), (by simp), (by omega), (by omega)⟩, ⟨rfl, rfl, rfl, rfl, rfl, rfl, trivial⟩⟩
      · rintro _ _ w5 ⟨v_l2, g_l2, l2, j, rfl, rfl, hE5, hs5, ha2, hg3, f14, f15, f16, f17, hn2, hn3, hkz, hlz, hjl⟩ ih2
        refine r_seq ?_
        refine r_seq ?_
        refine r_region ?_
        refine OL.q (Q1.move rfl) rfl rfl ?_
        refine OL.q (Q1.move rfl) rfl rfl ?_
        refine OL.q (Q1.lenSl Tryz.underlying63 (f17.sl) rfl) rfl rfl ?_
        refine OL.qb (Q1.lt rfl rfl) rfl rfl ?_
        intro b3 hb3
        refine OL.nil ?_
        cases b3 with
        | true =>
          replace hb3 := of_decide_eq_true hb3.symm
          refine r_cond_t rfl ?_
          refine r_skip ?_
          refine r_seq ?_
          refine r_block ?_
          refine r_seq ?_
          refine r_region ?_
          refine OL.q (Q1.move rfl) rfl rfl ?_
          refine OL.q (Q1.move rfl) rfl rfl ?_
          obtain ⟨x1, b4, o1, hx1, hr1, hl3, hu1, hw1⟩ := Sl.at' (P := Tryz.prog) f17.sl Tryz.underlying63 ti3 Ik.encI_len (k := .i64) (n := ((j : Nat) : Int)) (j) (by omega) (by first | assumption | omega)
          refine OL.q (Q1.indexAddr rfl rfl hr1) rfl rfl ?_
          refine OL.q (Q1.load1 ti3 rfl (fun _ e => e ▸ hw1)) rfl rfl ?_
          refine OL.q (Q1.move rfl) rfl rfl ?_
          refine OL.qb (Q1.eq rfl rfl) rfl rfl ?_
          intro b5 hb4
          refine OL.nil ?_
          cases b5 with
          | true =>
            replace hb4 := eq_of_beq hb4.symm
            refine r_cond_t rfl ?_
            refine r_region ?_
            refine OL.q (Q1.move rfl) rfl rfl ?_
            refine OL.q (Q1.move rfl) rfl rfl ?_
            refine OL.act rfl rfl (AW.buildSlice [(.int .i64 (((k : Nat) : Int)) : Value)] Tryz.underlying63 ti3 rfl rfl rfl (by decide) ?_)
            intro w6 b6 hm4 hb5 hz2 hk2
            have hl4 := ha2.lt
            have hl5 := f17.lt
            have f18 := ha2.ext hm4
            have f19 := f14.ext hm4
            have f20 := f15.ext hm4
            have f21 := f16.ext hm4
            have f22 := f17.ext hm4
            have hE6 := hE5.ext hm4
            have hs6 := hm4.size
            have hl6 := Sl.of_blk (enc := Ik.encI) hk2 ([((k : Nat) : Int)] : List Int) 1 rfl rfl (by unfold maxLen; omega)
            have hl7 := f18.lt
            refine OL.act rfl rfl (AW.append f18 Tryz.underlying63 ti3 rfl Ik.encI_len Ik.encI_one rfl rfl (hl6) (by first | omega | (simp only [List.length_append, List.length_cons, List.length_nil]; omega) | (simp; omega)) (by unfold maxLen; first | omega | (simp only [List.length_append, List.length_cons, List.length_nil]; omega) | (simp; omega)) ?_)
            intro v2 g1 w7 ha3 hm5 hg4 hz3
            have hl8 := f18.lt
            have hl9 := f22.lt
            have f23 := f19.keepG hm5 (by omega)
            have f24 := f20.keepG hm5 (by omega)
            have f25 := f21.keepG hm5 (by omega)
            have f26 := f22.keepG hm5 (by omega)
            have f27 := hl6.keepG hm5 (by omega)
            have hE7 := Ext.thenG hE6 hm5 (by omega)
            have hs7 := hm5.size
            refine OL.q (Q1.assign rfl) rfl rfl ?_
            refine OL.nil ?_
            refine r_inBlock ?_
            refine r_region ?_
            refine OL.q (Q1.move rfl) rfl rfl ?_
            refine OL.q (Q1.addI (((j + 1 : Nat) : Int)) rfl rfl (by omega)) rfl rfl ?_
            refine OL.q (Q1.assign rfl) rfl rfl ?_
            refine OL.nil ?_
            exact (ih2 _ _ _ ⟨(v2 : Value), (g1 : Nat), ((l2 ++ [((k : Nat) : Int)]) : List Int), (j + 1 : Nat), rfl, rfl, hE7, (by omega), ha3, (by omega), f23, f24, f25, f26, (by omega), (by omega), (by first | exact kp_yes hkz hx1 (by assumption) | exact kp_no hkz hx1 (by assumption) | (exfalso; omega)), (by first | omega | (simp only [List.length_append, List.length_cons, List.length_nil]; omega) | (exfalso; omega)), (by first | omega | (exfalso; omega))⟩ (by omega)).sub ⟨rfl, rfl, rfl, rfl, rfl, rfl, trivial⟩
          | false =>
            replace hb4 := ne_of_beq_false hb4.symm
            refine r_cond_f rfl ?_
            refine r_skip ?_
            refine r_inBlock ?_
            refine r_region ?_
            refine OL.q (Q1.move rfl) rfl rfl ?_
            refine OL.q (Q1.addI (((j + 1 : Nat) : Int)) rfl rfl (by omega)) rfl rfl ?_
            refine OL.q (Q1.assign rfl) rfl rfl ?_
            refine OL.nil ?_
            exact (ih2 _ _ _ ⟨(v_l2 : Value), (g_l2 : Nat), (l2 : List Int), (j + 1 : Nat), rfl, rfl, hE5, (by omega), ha2, (by omega), f14, f15, f16, f17, (by omega), (by omega), (by first | exact kp_yes hkz hx1 (by assumption) | exact kp_no hkz hx1 (by assumption) | (exfalso; omega)), (by first | omega | (simp only [List.length_append, List.length_cons, List.length_nil]; omega) | (exfalso; omega)), (by first | omega | (exfalso; omega))⟩ (by omega)).sub ⟨rfl, rfl, rfl, rfl, rfl, rfl, trivial⟩
        | false =>
          replace hb3 := of_decide_eq_false hb3.symm
          refine r_cond_f rfl ?_
          refine r_exit rfl ?_
          refine r_inBlock ?_
          refine r_region ?_
          refine OL.q (Q1.move rfl) rfl rfl ?_
          refine OL.q (Q1.addI (((k + 1 : Nat) : Int)) rfl rfl (by omega)) rfl rfl ?_
          refine OL.q (Q1.assign rfl) rfl rfl ?_
          refine OL.nil ?_
          exact (ih1 _ _ _ ⟨(v_l2 : Value), (g_l2 : Nat), (l2 : List Int), (k + 1 : Nat), rfl, rfl, hE5, (by omega), ha2, (by omega), f14, f15, f16, (by omega), (by first | exact kp_next hi hkz (by omega) | (exfalso; omega)), (by first | omega | (exfalso; omega)), (by first | omega | (exfalso; omega))⟩ (by omega)).sub ⟨rfl, rfl, rfl, rfl, trivial⟩
    | false =>
      replace hb2 := of_decide_eq_false hb2.symm
      refine r_cond_f rfl ?_
      refine r_exit rfl ?_
      refine r_seq ?_
      refine r_region ?_
      refine OL.q (Q1.move rfl) rfl rfl ?_
      refine OL.q (Q1.assign rfl) rfl rfl ?_
      refine OL.nil ?_
      refine r_ret1 Tryz.func28 rfl rfl ?_
      exact Ret.mk ⟨⟨_, Acc.cast f6 (by first | rw [hi, show k = Ml.shards c from by omega]; rfl | (exfalso; omega)), by omega⟩, hE3⟩
set_option maxRecDepth 20000 in
set_option maxHeartbeats 4000000 in
theorem r13words_c {w0 : World}  {c : Cfg} {v_c_words : Value} {v_c_cuts : Value} (shard : Int) (h_c_words : Sl encS w0 (Iv 0 w0.heap.size) v_c_words c.words) (h_c_cuts : Sl encKey w0 (Iv 0 w0.heap.size) v_c_cuts c.cuts) (h_c : Cfg.Ok c) (h_shard : I64 shard) (hcs : CfgS c) :
    Calls Tryz.prog 48 #[.agg #[v_c_words, v_c_cuts, .int .i64 c.workers, .int .i64 c.copies, .int .i64 c.slots, .int .i64 c.batch, .int .i64 c.lease, .int .i64 c.hedge, .int .i64 c.first, .int .i64 c.cap, .int .i64 c.jitter, .int .i64 c.net], .int .i64 shard] w0 (Ret fun rv w1 => (∃ gr, Acc encS 9 1 w1 gr rv (wordsR c shard) ∧ (gr = 0 ∨ w0.heap.size < gr)) ∧ Ext w0 w1) := by
  have hE0 : Ext w0 w0 := Mod.refl _ _
  have hle1 := h_c_words.le
  have hle2 := h_c_cuts.le
  have hwl := hcs.wl
  refine calls_enter Tryz.func48 rfl Tryz.ntmps48 rfl ?_
  refine r_seq ?_
  refine r_region ?_
  refine OL.act rfl rfl (AW.box [v_c_words, v_c_cuts, .int .i64 c.workers, .int .i64 c.copies, .int .i64 c.slots, .int .i64 c.batch, .int .i64 c.lease, .int .i64 c.hedge, .int .i64 c.first, .int .i64 c.cap, .int .i64 c.jitter, .int .i64 c.net] rfl rfl ?_)
  intro w1 b1 hm1 hb1 hz1 hk1
  have f1 := h_c_words.ext hm1
  have f2 := h_c_cuts.ext hm1
  have hE1 := hE0.ext hm1
  have hs1 := hm1.size
  refine OL.q (Q1.assign rfl) rfl rfl ?_
  refine OL.nil ?_
  refine r_seq ?_
  refine r_seq ?_
  refine r_region ?_
  refine OL.q (Q1.move rfl) rfl rfl ?_
  refine OL.qb (Q1.lt rfl rfl) rfl rfl ?_
  intro b2 hb2
  refine OL.q (Q1.move rfl) rfl rfl ?_
  cases b2 with
  | true =>
    replace hb2 := of_decide_eq_true hb2.symm
    refine OL.sk rfl rfl ?_
    refine OL.sk rfl rfl ?_
    refine OL.sk rfl rfl ?_
    refine OL.sk rfl rfl ?_
    refine OL.q (Q1.pick_t rfl rfl) rfl rfl ?_
    refine OL.nil ?_
    refine r_cond_t rfl ?_
    refine r_seq ?_
    refine r_region ?_
    refine OL.q (Q1.assign rfl) rfl rfl ?_
    refine OL.nil ?_
    refine r_ret1 Tryz.func48 rfl rfl ?_
    exact Ret.mk ⟨⟨0, Acc.cast Acc.nil (by first | exact wordsR_no (by omega) | exact wordsR_yes (by omega) (by omega) | (exfalso; omega)), .inl rfl⟩, hE1⟩
  | false =>
    replace hb2 := of_decide_eq_false hb2.symm
    refine OL.q (Q1.move rfl) rfl rfl ?_
    refine OL.q (Q1.loadN ti25 rfl (fun _ e => e ▸ hk1.row) rfl) rfl rfl ?_
    refine OL.act rfl rfl (AW.callF cl45 rfl (r13shards_c (w0 := w1) (c := c)  ((f1).iv (Nat.zero_le _) (by omega)) ((f2).iv (Nat.zero_le _) (by omega)) (by first | assumption | exact Ml.Cfg.ok_of (by decide +kernel)) (by first | assumption)) ?_)
    rintro _ w2 ⟨rfl, hm2⟩
    have f3 := f1.ext hm2
    have f4 := f2.ext hm2
    have f5 := hk1.ext hm2
    have hE2 := hE1.ext hm2
    have hs2 := hm2.size
    have := Ml.shards_le c
    refine OL.qb (Q1.ge rfl rfl) rfl rfl ?_
    intro b3 hb3
    refine OL.q (Q1.pick_f rfl rfl) rfl rfl ?_
    refine OL.nil ?_
    cases b3 with
    | true =>
      replace hb3 := of_decide_eq_true hb3.symm
      refine r_cond_t rfl ?_
      refine r_seq ?_
      refine r_region ?_
      refine OL.q (Q1.assign rfl) rfl rfl ?_
      refine OL.nil ?_
      refine r_ret1 Tryz.func48 rfl rfl ?_
      exact Ret.mk ⟨⟨0, Acc.cast Acc.nil (by first | exact wordsR_no (by omega) | exact wordsR_yes (by omega) (by omega) | (exfalso; omega)), .inl rfl⟩, hE2⟩
    | false =>
      replace hb3 := of_decide_eq_false hb3.symm
      refine r_cond_f rfl ?_
      refine r_skip ?_
      refine r_seq ?_
      refine r_region ?_
      refine OL.q (Q1.fieldAddr fl25_1 rfl) rfl rfl ?_
      refine OL.q (Q1.load1 ti23 rfl (fun _ e => e ▸ (f5.cell 1 _ rfl))) rfl rfl ?_
      refine OL.q (Q1.fieldAddr fl25_0 rfl) rfl rfl ?_
      refine OL.q (Q1.load1 ti22 rfl (fun _ e => e ▸ (f5.cell 0 _ rfl))) rfl rfl ?_
      refine OL.q (Q1.move rfl) rfl rfl ?_
      refine OL.act rfl rfl (AW.callF cl63 rfl (r12slice_c (w0 := w2) (cuts := c.cuts) (words := c.words) (shard) ((f4).iv (Nat.zero_le _) (by omega)) ((f3).iv (Nat.zero_le _) (by omega)) (by first | omega | assumption) (by first | assumption | exact hcs.cuts) (by first | assumption | exact hcs.words) (by first | assumption | omega)) ?_)
      rintro v1 w3 ⟨⟨gr1, h1, hg1⟩, hm3⟩
      have f6 := f3.ext hm3
      have f7 := f4.ext hm3
      have f8 := f5.ext hm3
      have hE3 := hE2.ext hm3
      have hs3 := hm3.size
      have hle_1 := h1.le
      have hlt_1 := h1.lt
      have := slice_len c.cuts c.words shard
      refine OL.q (Q1.assign rfl) rfl rfl ?_
      refine OL.nil ?_
      refine r_ret1 Tryz.func48 rfl rfl ?_
      exact Ret.mk ⟨⟨_, Acc.cast h1 (by first | exact wordsR_no (by omega) | exact wordsR_yes (by omega) (by omega) | (exfalso; omega)), by omega⟩, hE3⟩
set_option maxRecDepth 20000 in
set_option maxHeartbeats 4000000 in
theorem r13image_c {w0 : World}  {c : Cfg} {v_c_words : Value} {v_c_cuts : Value} (shard : Int) (h_c_words : Sl encS w0 (Iv 0 w0.heap.size) v_c_words c.words) (h_c_cuts : Sl encKey w0 (Iv 0 w0.heap.size) v_c_cuts c.cuts) (h_c : Cfg.Ok c) (h_shard : I64 shard) (hcs : CfgS c) :
    Calls Tryz.prog 29 #[.agg #[v_c_words, v_c_cuts, .int .i64 c.workers, .int .i64 c.copies, .int .i64 c.slots, .int .i64 c.batch, .int .i64 c.lease, .int .i64 c.hedge, .int .i64 c.first, .int .i64 c.cap, .int .i64 c.jitter, .int .i64 c.net], .int .i64 shard] w0 (Ret fun rv w1 => ∃ u0 u1, rv = .tuple #[u0, u1] ∧ (∃ gr, Acc encB 5 1 w1 gr u0 (imgC c shard) ∧ (gr = 0 ∨ w0.heap.size < gr)) ∧ u1 = .int .i64 (errC c shard) ∧ Ext w0 w1) := by
  have hE0 : Ext w0 w0 := Mod.refl _ _
  have hle1 := h_c_words.le
  have hle2 := h_c_cuts.le
  have hwl := hcs.wl
  refine calls_enter Tryz.func29 rfl Tryz.ntmps29 rfl ?_
  refine r_seq ?_
  refine r_region ?_
  refine OL.act rfl rfl (AW.box [v_c_words, v_c_cuts, .int .i64 c.workers, .int .i64 c.copies, .int .i64 c.slots, .int .i64 c.batch, .int .i64 c.lease, .int .i64 c.hedge, .int .i64 c.first, .int .i64 c.cap, .int .i64 c.jitter, .int .i64 c.net] rfl rfl ?_)
  intro w1 b1 hm1 hb1 hz1 hk1
  have f1 := h_c_words.ext hm1
  have f2 := h_c_cuts.ext hm1
  have hE1 := hE0.ext hm1
  have hs1 := hm1.size
  refine OL.q (Q1.assign rfl) rfl rfl ?_
  refine OL.q (Q1.assign rfl) rfl rfl ?_
  refine OL.nil ?_
  refine r_seq ?_
  refine r_seq ?_
  refine r_region ?_
  refine OL.q (Q1.move rfl) rfl rfl ?_
  refine OL.qb (Q1.lt rfl rfl) rfl rfl ?_
  intro b2 hb2
  refine OL.q (Q1.move rfl) rfl rfl ?_
  cases b2 with
  | true =>
    replace hb2 := of_decide_eq_true hb2.symm
    refine OL.sk rfl rfl ?_
    refine OL.sk rfl rfl ?_
    refine OL.sk rfl rfl ?_
    refine OL.sk rfl rfl ?_
    refine OL.q (Q1.pick_t rfl rfl) rfl rfl ?_
    refine OL.nil ?_
    refine r_cond_t rfl ?_
    refine r_seq ?_
    refine r_region ?_
    refine OL.q (Q1.assign rfl) rfl rfl ?_
    refine OL.q (Q1.assign rfl) rfl rfl ?_
    refine OL.nil ?_
    refine r_ret2 Tryz.func29 rfl rfl rfl ?_
    exact Ret.mk ⟨_, _, rfl, ⟨0, Acc.cast Acc.nil (by first | exact (imgC_no (by omega)).1 | exact (imgC_no (by omega)).2 | (rw [← hwR]; exact (imgC_yes (by omega) (by omega)).1) | (rw [← hwR]; exact (imgC_yes (by omega) (by omega)).2) | (exfalso; omega)), .inl rfl⟩, (congrArg (Value.int .i64) (by first | exact (imgC_no (by omega)).1 | exact (imgC_no (by omega)).2 | (rw [← hwR]; exact (imgC_yes (by omega) (by omega)).1) | (rw [← hwR]; exact (imgC_yes (by omega) (by omega)).2) | (exfalso; omega))), hE1⟩
  | false =>
    replace hb2 := of_decide_eq_false hb2.symm
    refine OL.q (Q1.move rfl) rfl rfl ?_
    refine OL.q (Q1.loadN ti25 rfl (fun _ e => e ▸ hk1.row) rfl) rfl rfl ?_
    refine OL.act rfl rfl (AW.callF cl45 rfl (r13shards_c (w0 := w1) (c := c)  ((f1).iv (Nat.zero_le _) (by omega)) ((f2).iv (Nat.zero_le _) (by omega)) (by first | assumption | exact Ml.Cfg.ok_of (by decide +kernel)) (by first | assumption)) ?_)
    rintro _ w2 ⟨rfl, hm2⟩
    have f3 := f1.ext hm2
    have f4 := f2.ext hm2
    have f5 := hk1.ext hm2
    have hE2 := hE1.ext hm2
    have hs2 := hm2.size
    have := Ml.shards_le c
    refine OL.qb (Q1.ge rfl rfl) rfl rfl ?_
    intro b3 hb3
    refine OL.q (Q1.pick_f rfl rfl) rfl rfl ?_
    refine OL.nil ?_
    cases b3 with
    | true =>
      replace hb3 := of_decide_eq_true hb3.symm
      refine r_cond_t rfl ?_
      refine r_seq ?_
      refine r_region ?_
      refine OL.q (Q1.assign rfl) rfl rfl ?_
      refine OL.q (Q1.assign rfl) rfl rfl ?_
      refine OL.nil ?_
      refine r_ret2 Tryz.func29 rfl rfl rfl ?_
      exact Ret.mk ⟨_, _, rfl, ⟨0, Acc.cast Acc.nil (by first | exact (imgC_no (by omega)).1 | exact (imgC_no (by omega)).2 | (rw [← hwR]; exact (imgC_yes (by omega) (by omega)).1) | (rw [← hwR]; exact (imgC_yes (by omega) (by omega)).2) | (exfalso; omega)), .inl rfl⟩, (congrArg (Value.int .i64) (by first | exact (imgC_no (by omega)).1 | exact (imgC_no (by omega)).2 | (rw [← hwR]; exact (imgC_yes (by omega) (by omega)).1) | (rw [← hwR]; exact (imgC_yes (by omega) (by omega)).2) | (exfalso; omega))), hE2⟩
    | false =>
      replace hb3 := of_decide_eq_false hb3.symm
      refine r_cond_f rfl ?_
      refine r_skip ?_
      refine r_seq ?_
      refine r_region ?_
      refine OL.q (Q1.loadN ti25 rfl (fun _ e => e ▸ f5.row) rfl) rfl rfl ?_
      refine OL.q (Q1.move rfl) rfl rfl ?_
      refine OL.act rfl rfl (AW.callF cl48 rfl (r13words_c (w0 := w2) (c := c) (shard) ((f3).iv (Nat.zero_le _) (by omega)) ((f4).iv (Nat.zero_le _) (by omega)) (by first | assumption | exact Ml.Cfg.ok_of (by decide +kernel)) (by first | omega | assumption) (by first | assumption)) ?_)
      rintro v1 w3 ⟨⟨gr1, h1, hg1⟩, hm3⟩
      have f6 := f3.ext hm3
      have f7 := f4.ext hm3
      have f8 := f5.ext hm3
      have hE3 := hE2.ext hm3
      have hs3 := hm3.size
      have hle_1 := h1.le
      have hlt_1 := h1.lt
      have := wordsR_len c shard
      have hwR := wordsR_yes (c := c) (shard := shard) (by omega) (by omega)
      have hwo : SOk (wordsR c shard) := hwR ▸ slice_ok hcs.words
      refine OL.act rfl rfl (AW.callF cl47 rfl (r9of_c (w0 := w3) (words := (wordsR c shard))  ((h1.sl).iv (Nat.zero_le _) (by omega)) (by first | assumption) (by first | assumption | omega)) ?_)
      rintro _ w4 ⟨v2, _, rfl, ⟨gr2, h2, hg2⟩, rfl, hm4⟩
      have hl1 := h1.lt
      have f9 := f6.ext hm4
      have f10 := f7.ext hm4
      have f11 := f8.ext hm4
      have f12 := h1.ext hm4
      have hE4 := hE3.ext hm4
      have hs4 := hm4.size
      have hle_2 := h2.le
      have hlt_2 := h2.lt
      have := imgM_len ((wordsR c shard))
      have := goodL_range ((wordsR c shard))
      refine OL.q (Q1.extract rfl rfl) rfl rfl ?_
      refine OL.q (Q1.extract rfl rfl) rfl rfl ?_
      refine OL.q (Q1.assign rfl) rfl rfl ?_
      refine OL.q (Q1.assign rfl) rfl rfl ?_
      refine OL.nil ?_
      refine r_ret2 Tryz.func29 rfl rfl rfl ?_
      exact Ret.mk ⟨_, _, rfl, ⟨_, Acc.cast h2 (by first | exact (imgC_no (by omega)).1 | exact (imgC_no (by omega)).2 | (rw [← hwR]; exact (imgC_yes (by omega) (by omega)).1) | (rw [← hwR]; exact (imgC_yes (by omega) (by omega)).2) | (exfalso; omega)), by omega⟩, (congrArg (Value.int .i64) (by first | exact (imgC_no (by omega)).1 | exact (imgC_no (by omega)).2 | (rw [← hwR]; exact (imgC_yes (by omega) (by omega)).1) | (rw [← hwR]; exact (imgC_yes (by omega) (by omega)).2) | (exfalso; omega))), hE4⟩
end Go.Proofs
