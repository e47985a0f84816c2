/-
  Walks through the references of chapters 12 and 13.
-/
import Derived.Test.YtajedfbogchkcaaWRef9
set_option linter.unusedVariables false
set_option linter.unusedSimpArgs false
namespace Go.Proofs
open Go.Ik Go.Ml
set_option maxRecDepth 20000 in
set_option maxHeartbeats 4000000 in
theorem r12less_c {w0 : World}  {a : Key} {b : Key} (haw : a.text.length ≤ 1000000000) (hbw : b.text.length ≤ 1000000000) :
    Calls Try.prog 115 #[.agg #[.int .i64 a.len, strV a.text], .agg #[.int .i64 b.len, strV b.text]] w0 (Ret fun rv w1 => (∃ rb : Bool, rb = (Ml.keyLess a b) ∧ rv = .bool rb) ∧ Ext w0 w1) := by
  have hE0 : Ext w0 w0 := Mod.refl _ _
  refine calls_enter Try.func115 rfl Try.ntmps115 rfl ?_
  refine r_seq ?_
  refine r_region ?_
  refine OL.act rfl rfl (AW.box [.int .i64 a.len, strV a.text] rfl rfl ?_)
  intro w1 b1 hm1 hb1 hz1 hk1
  have hE1 := hE0.ext hm1
  have hs1 := hm1.size
  refine OL.act rfl rfl (AW.box [.int .i64 b.len, strV b.text] rfl rfl ?_)
  intro w2 b2 hm2 hb2 hz2 hk2
  have f1 := hk1.ext hm2
  have hE2 := hE1.ext hm2
  have hs2 := hm2.size
  refine OL.q (Q1.assign rfl) rfl rfl ?_
  refine OL.nil ?_
  refine r_seq ?_
  refine r_region ?_
  refine OL.q (Q1.fieldAddr fl126_0 rfl) rfl rfl ?_
  refine OL.q (Q1.load1 ti3 rfl (fun _ e => e ▸ (f1.cell 0 _ rfl))) rfl rfl ?_
  refine OL.q (Q1.fieldAddr fl126_0 rfl) rfl rfl ?_
  refine OL.q (Q1.load1 ti3 rfl (fun _ e => e ▸ (hk2.cell 0 _ rfl))) rfl rfl ?_
  refine OL.qb (Q1.lt rfl rfl) rfl rfl ?_
  intro b3 hb3
  refine OL.q (Q1.move rfl) rfl rfl ?_
  cases b3 with
  | true =>
    replace hb3 := of_decide_eq_true hb3.symm
    refine OL.sk rfl rfl ?_
    refine OL.sk rfl rfl ?_
    refine OL.sk rfl rfl ?_
    refine OL.sk rfl rfl ?_
    refine OL.sk rfl rfl ?_
    refine OL.sk rfl rfl ?_
    refine OL.sk rfl rfl ?_
    refine OL.sk rfl rfl ?_
    refine OL.sk rfl rfl ?_
    refine OL.sk rfl rfl ?_
    refine OL.sk rfl rfl ?_
    refine OL.sk rfl rfl ?_
    refine OL.sk rfl rfl ?_
    refine OL.q (Q1.pick_t rfl rfl) rfl rfl ?_
    refine OL.q (Q1.assign rfl) rfl rfl ?_
    refine OL.nil ?_
    refine r_ret1 Try.func115 rfl rfl ?_
    exact Ret.mk ⟨⟨_, (by first | exact kl_yes (by assumption) | exact kl_no (by assumption) (by assumption) | exact kl_dec (by assumption) (by assumption) | (exfalso; omega)), rfl⟩, hE2⟩
  | false =>
    replace hb3 := of_decide_eq_false hb3.symm
    refine OL.q (Q1.fieldAddr fl126_0 rfl) rfl rfl ?_
    refine OL.q (Q1.load1 ti3 rfl (fun _ e => e ▸ (f1.cell 0 _ rfl))) rfl rfl ?_
    refine OL.q (Q1.fieldAddr fl126_0 rfl) rfl rfl ?_
    refine OL.q (Q1.load1 ti3 rfl (fun _ e => e ▸ (hk2.cell 0 _ rfl))) rfl rfl ?_
    refine OL.qb (Q1.eq rfl rfl) rfl rfl ?_
    intro b4 hb4
    refine OL.q (Q1.move rfl) rfl rfl ?_
    cases b4 with
    | true =>
      replace hb4 := eq_of_beq hb4.symm
      refine OL.q (Q1.fieldAddr fl126_1 rfl) rfl rfl ?_
      refine OL.q (Q1.load1 ti9 rfl (fun _ e => e ▸ (f1.cell 1 _ rfl))) rfl rfl ?_
      refine OL.q (Q1.fieldAddr fl126_1 rfl) rfl rfl ?_
      refine OL.q (Q1.load1 ti9 rfl (fun _ e => e ▸ (hk2.cell 1 _ rfl))) rfl rfl ?_
      refine OL.act rfl rfl (AW.callF cl113 rfl (rcmp_c (w0 := w2)  a.text b.text (by first | assumption | omega) (by first | assumption | omega)) ?_)
      rintro _ w3 ⟨rfl, hm3, hp1⟩
      have f2 := f1.ext hm3
      have f3 := hk2.ext hm3
      have hE3 := hE2.ext hm3
      have hs3 := hm3.size
      refine OL.qb (Q1.lt rfl rfl) rfl rfl ?_
      intro b5 hb5
      refine OL.q (Q1.pick_t rfl rfl) rfl rfl ?_
      refine OL.q (Q1.pick_f rfl rfl) rfl rfl ?_
      refine OL.q (Q1.assign rfl) rfl rfl ?_
      refine OL.nil ?_
      refine r_ret1 Try.func115 rfl rfl ?_
      exact Ret.mk ⟨⟨_, (by first | exact kl_yes (by assumption) | exact kl_no (by assumption) (by assumption) | exact kl_dec (by assumption) (by assumption) | (exfalso; omega)), rfl⟩, hE3⟩
    | false =>
      replace hb4 := ne_of_beq_false hb4.symm
      refine OL.sk rfl rfl ?_
      refine OL.sk rfl rfl ?_
      refine OL.sk rfl rfl ?_
      refine OL.sk rfl rfl ?_
      refine OL.sk rfl rfl ?_
      refine OL.sk rfl rfl ?_
      refine OL.q (Q1.pick_f rfl rfl) rfl rfl ?_
      refine OL.q (Q1.pick_f rfl rfl) rfl rfl ?_
      refine OL.q (Q1.assign rfl) rfl rfl ?_
      refine OL.nil ?_
      refine r_ret1 Try.func115 rfl rfl ?_
      exact Ret.mk ⟨⟨_, (by first | exact kl_yes (by assumption) | exact kl_no (by assumption) (by assumption) | exact kl_dec (by assumption) (by assumption) | (exfalso; omega)), rfl⟩, hE2⟩
set_option maxRecDepth 20000 in
set_option maxHeartbeats 4000000 in
theorem r12good_c {w0 : World}  {v_cuts : Value} {cuts : List Key} (h_cuts : Sl encKey w0 (Iv 0 w0.heap.size) v_cuts cuts) (hk : ∀ k ∈ cuts, k.text.length ≤ 1000) :
    Calls Try.prog 86 #[v_cuts] w0 (Ret fun rv w1 => rv = .int .i64 (Ml.goodC cuts) ∧ Ext w0 w1) := by
  have hE0 : Ext w0 w0 := Mod.refl _ _
  have hle1 := h_cuts.le
  refine calls_enter Try.func86 rfl Try.ntmps86 rfl ?_
  refine r_seq ?_
  refine r_region ?_
  refine OL.q (Q1.assign rfl) rfl rfl ?_
  refine OL.nil ?_
  refine r_seq ?_
  refine r_seq ?_
  refine r_region ?_
  refine OL.q (Q1.move rfl) rfl rfl ?_
  refine OL.q (Q1.lenSl Try.underlying51 (h_cuts) rfl) rfl rfl ?_
  refine OL.qb (Q1.gt rfl rfl) rfl rfl ?_
  intro b1 hb1
  refine OL.nil ?_
  cases b1 with
  | true =>
    replace hb1 := of_decide_eq_true hb1.symm
    refine r_cond_t rfl ?_
    refine r_seq ?_
    refine r_region ?_
    refine OL.q (Q1.assign rfl) rfl rfl ?_
    refine OL.nil ?_
    refine r_ret1 Try.func86 rfl rfl ?_
    exact Ret.mk ⟨(congrArg (Value.int .i64) (by first | exact Ml.goodC_full (by omega) | exact Ml.goodC_key (by omega) hx1 (by simp only [Ml.keyOk]; simp; omega) | exact Ml.goodC_sort (by omega) ha hj hx1 hx2 (by assumption) | exact Ml.goodC_ok (by omega) ha hr (by omega) | (exfalso; omega))), hE0⟩
  | false =>
    replace hb1 := of_decide_eq_false hb1.symm
    refine r_cond_f rfl ?_
    refine r_skip ?_
    refine r_seq ?_
    refine r_seq ?_
    refine r_region ?_
    refine OL.q (Q1.assign rfl) rfl rfl ?_
    refine OL.nil ?_
    refine r_block ?_
    refine r_loop (I := fun m E W => ∃ (k : Nat), E = [(0, v_cuts), (3, .int .i64 (((k : Nat) : Int)))] ∧ m = cuts.length - k ∧ Ext w0 W ∧ w0.heap.size ≤ W.heap.size ∧ Sl encKey W (Iv 0 w0.heap.size) v_cuts cuts ∧ ((cuts.take k).all Ml.keyOk = true)) ?_ ?_
    · refine ⟨_, _, ⟨(0 : Nat), rfl, rfl, hE0, Nat.le_refl _, h_cuts, (by rfl)⟩, ⟨rfl, rfl, trivial⟩⟩
    · rintro _ _ w1 ⟨k, rfl, rfl, hE1, hs1, f1, hi⟩ ih1
      refine r_seq ?_
      refine r_seq ?_
      refine r_region ?_
      refine OL.q (Q1.move rfl) rfl rfl ?_
      refine OL.q (Q1.move rfl) rfl rfl ?_
      refine OL.q (Q1.lenSl Try.underlying51 (f1) rfl) rfl rfl ?_
      refine OL.qb (Q1.lt rfl rfl) rfl rfl ?_
      intro b2 hb2
      refine OL.nil ?_
      cases b2 with
      | true =>
        replace hb2 := of_decide_eq_true hb2.symm
        refine r_cond_t rfl ?_
        refine r_skip ?_
        refine r_seq ?_
        refine r_block ?_
        refine r_seq ?_
        refine r_region ?_
        refine OL.q (Q1.move rfl) rfl rfl ?_
        refine OL.q (Q1.move rfl) rfl rfl ?_
        obtain ⟨x1, b3, o1, hx1, hr1, hl1, hu1, hw1⟩ := Sl.at' (P := Try.prog) f1 Try.underlying51 ti126 encKey_len (k := .i64) (n := ((k : Nat) : Int)) (k) (by omega) (by first | assumption | omega)
        refine OL.q (Q1.indexAddr rfl rfl hr1) rfl rfl ?_
        refine OL.q (Q1.fieldAddr fl126_1 rfl) rfl rfl ?_
        have hr2 := hw1.sub 1 1 (Nat.le_of_ble_eq_true rfl)
        refine OL.q (Q1.load1 ti9 rfl (fun _ e => e ▸ hr2)) rfl rfl ?_
        have hx1k := hk _ (List.mem_of_getElem? hx1)
        have hx1t := lenT_le x1.text
        refine OL.act rfl rfl (AW.callF cl114 rfl (rlen_c (w0 := w1)  x1.text (by first | assumption | omega)) ?_)
        rintro _ w2 ⟨rfl, hm1, hp1⟩
        have f2 := f1.ext hm1
        have hE2 := hE1.ext hm1
        have hs2 := hm1.size
        refine OL.q (Q1.assign rfl) rfl rfl ?_
        refine OL.nil ?_
        refine r_seq ?_
        refine r_region ?_
        refine OL.q (Q1.move rfl) rfl rfl ?_
        refine OL.q (Q1.move rfl) rfl rfl ?_
        obtain ⟨x2, b4, o2, hx2, hr3, hl2, hu2, hw2⟩ := Sl.at' (P := Try.prog) f2 Try.underlying51 ti126 encKey_len (k := .i64) (n := ((k : Nat) : Int)) (k) (by omega) (by first | assumption | omega)
        obtain rfl : x1 = x2 := Option.some.inj (hx1.symm.trans hx2)
        refine OL.q (Q1.indexAddr rfl rfl hr3) rfl rfl ?_
        refine OL.q (Q1.fieldAddr fl126_0 rfl) rfl rfl ?_
        have hr4 := hw2.sub 0 1 (Nat.le_of_ble_eq_true rfl)
        refine OL.q (Q1.load1 ti3 rfl (fun _ e => e ▸ hr4)) rfl rfl ?_
        refine OL.qb (Q1.lt rfl rfl) rfl rfl ?_
        intro b5 hb3
        refine OL.q (Q1.move rfl) rfl rfl ?_
        cases b5 with
        | true =>
          replace hb3 := of_decide_eq_true hb3.symm
          refine OL.sk rfl rfl ?_
          refine OL.sk rfl rfl ?_
          refine OL.sk rfl rfl ?_
          refine OL.sk rfl rfl ?_
          refine OL.sk rfl rfl ?_
          refine OL.sk rfl rfl ?_
          refine OL.q (Q1.pick_t rfl rfl) rfl rfl ?_
          refine OL.q (Q1.move rfl) rfl rfl ?_
          refine OL.sk rfl rfl ?_
          refine OL.sk rfl rfl ?_
          refine OL.q (Q1.pick_t rfl rfl) rfl rfl ?_
          refine OL.q (Q1.move rfl) rfl rfl ?_
          refine OL.sk rfl rfl ?_
          refine OL.sk rfl rfl ?_
          refine OL.q (Q1.pick_t rfl rfl) rfl rfl ?_
          refine OL.nil ?_
          refine r_cond_t rfl ?_
          refine r_seq ?_
          refine r_region ?_
          refine OL.q (Q1.assign rfl) rfl rfl ?_
          refine OL.nil ?_
          refine r_ret1 Try.func86 rfl rfl ?_
          exact Ret.mk ⟨(congrArg (Value.int .i64) (by first | exact Ml.goodC_full (by omega) | exact Ml.goodC_key (by omega) hx1 (by simp only [Ml.keyOk]; simp; omega) | exact Ml.goodC_sort (by omega) ha hj hx1 hx2 (by assumption) | exact Ml.goodC_ok (by omega) ha hr (by omega) | (exfalso; omega))), hE2⟩
        | false =>
          replace hb3 := of_decide_eq_false hb3.symm
          refine OL.q (Q1.move rfl) rfl rfl ?_
          refine OL.q (Q1.move rfl) rfl rfl ?_
          obtain ⟨x3, b6, o3, hx3, hr5, hl3, hu3, hw3⟩ := Sl.at' (P := Try.prog) f2 Try.underlying51 ti126 encKey_len (k := .i64) (n := ((k : Nat) : Int)) (k) (by omega) (by first | assumption | omega)
          obtain rfl : x1 = x3 := Option.some.inj (hx1.symm.trans hx3)
          refine OL.q (Q1.indexAddr rfl rfl hr5) rfl rfl ?_
          refine OL.q (Q1.fieldAddr fl126_0 rfl) rfl rfl ?_
          have hr6 := hw3.sub 0 1 (Nat.le_of_ble_eq_true rfl)
          refine OL.q (Q1.load1 ti3 rfl (fun _ e => e ▸ hr6)) rfl rfl ?_
          refine OL.qb (Q1.gt rfl rfl) rfl rfl ?_
          intro b7 hb4
          refine OL.q (Q1.pick_f rfl rfl) rfl rfl ?_
          refine OL.q (Q1.move rfl) rfl rfl ?_
          cases b7 with
          | true =>
            replace hb4 := of_decide_eq_true hb4.symm
            refine OL.sk rfl rfl ?_
            refine OL.sk rfl rfl ?_
            refine OL.q (Q1.pick_t rfl rfl) rfl rfl ?_
            refine OL.q (Q1.move rfl) rfl rfl ?_
            refine OL.sk rfl rfl ?_
            refine OL.sk rfl rfl ?_
            refine OL.q (Q1.pick_t rfl rfl) rfl rfl ?_
            refine OL.nil ?_
            refine r_cond_t rfl ?_
            refine r_seq ?_
            refine r_region ?_
            refine OL.q (Q1.assign rfl) rfl rfl ?_
            refine OL.nil ?_
            refine r_ret1 Try.func86 rfl rfl ?_
            exact Ret.mk ⟨(congrArg (Value.int .i64) (by first | exact Ml.goodC_full (by omega) | exact Ml.goodC_key (by omega) hx1 (by simp only [Ml.keyOk]; simp; omega) | exact Ml.goodC_sort (by omega) ha hj hx1 hx2 (by assumption) | exact Ml.goodC_ok (by omega) ha hr (by omega) | (exfalso; omega))), hE2⟩
          | false =>
            replace hb4 := of_decide_eq_false hb4.symm
            refine OL.q (Q1.move rfl) rfl rfl ?_
            refine OL.qb (Q1.lt rfl rfl) rfl rfl ?_
            intro b8 hb5
            refine OL.q (Q1.pick_f rfl rfl) rfl rfl ?_
            refine OL.q (Q1.move rfl) rfl rfl ?_
            cases b8 with
            | true =>
              replace hb5 := of_decide_eq_true hb5.symm
              refine OL.sk rfl rfl ?_
              refine OL.sk rfl rfl ?_
              refine OL.q (Q1.pick_t rfl rfl) rfl rfl ?_
              refine OL.nil ?_
              refine r_cond_t rfl ?_
              refine r_seq ?_
              refine r_region ?_
              refine OL.q (Q1.assign rfl) rfl rfl ?_
              refine OL.nil ?_
              refine r_ret1 Try.func86 rfl rfl ?_
              exact Ret.mk ⟨(congrArg (Value.int .i64) (by first | exact Ml.goodC_full (by omega) | exact Ml.goodC_key (by omega) hx1 (by simp only [Ml.keyOk]; simp; omega) | exact Ml.goodC_sort (by omega) ha hj hx1 hx2 (by assumption) | exact Ml.goodC_ok (by omega) ha hr (by omega) | (exfalso; omega))), hE2⟩
            | false =>
              replace hb5 := of_decide_eq_false hb5.symm
              refine OL.q (Q1.move rfl) rfl rfl ?_
              refine OL.qb (Q1.gt rfl rfl) rfl rfl ?_
              intro b9 hb6
              refine OL.q (Q1.pick_f rfl rfl) rfl rfl ?_
              refine OL.nil ?_
              cases b9 with
              | true =>
                replace hb6 := of_decide_eq_true hb6.symm
                refine r_cond_t rfl ?_
                refine r_seq ?_
                refine r_region ?_
                refine OL.q (Q1.assign rfl) rfl rfl ?_
                refine OL.nil ?_
                refine r_ret1 Try.func86 rfl rfl ?_
                exact Ret.mk ⟨(congrArg (Value.int .i64) (by first | exact Ml.goodC_full (by omega) | exact Ml.goodC_key (by omega) hx1 (by simp only [Ml.keyOk]; simp; omega) | exact Ml.goodC_sort (by omega) ha hj hx1 hx2 (by assumption) | exact Ml.goodC_ok (by omega) ha hr (by omega) | (exfalso; omega))), hE2⟩
              | false =>
                replace hb6 := of_decide_eq_false hb6.symm
                refine r_cond_f rfl ?_
                refine r_skip ?_
                refine r_inBlock ?_
                refine r_region ?_
                refine OL.q (Q1.move rfl) rfl rfl ?_
                refine OL.q (Q1.addI (((k + 1 : Nat) : Int)) rfl rfl (by omega)) rfl rfl ?_
                refine OL.q (Q1.assign rfl) rfl rfl ?_
                refine OL.nil ?_
                exact (ih1 _ _ _ ⟨(k + 1 : Nat), rfl, rfl, hE2, (by omega), f2, (by first | exact Ml.all_take_succ hi hx1 (by simp only [Ml.keyOk]; simp; omega) | (exfalso; omega))⟩ (by omega)).sub ⟨rfl, rfl, trivial⟩
      | false =>
        replace hb2 := of_decide_eq_false hb2.symm
        refine r_cond_f rfl ?_
        refine r_exit rfl ?_
        refine r_seq ?_
        refine r_seq ?_
        refine r_region ?_
        refine OL.q (Q1.assign rfl) rfl rfl ?_
        refine OL.nil ?_
        refine r_block ?_
        refine r_loop (I := fun m E W => ∃ (j : Nat), E = [(0, v_cuts), (5, .int .i64 (((j : Nat) : Int)))] ∧ m = cuts.length - j ∧ Ext w0 W ∧ w1.heap.size ≤ W.heap.size ∧ Sl encKey W (Iv 0 w0.heap.size) v_cuts cuts ∧ (1 ≤ j) ∧ (Ml.keysRise (cuts.take j) = true)) ?_ ?_
        · refine ⟨_, _, ⟨(1 : Nat), rfl, rfl, hE1, Nat.le_refl _, f1, (by omega), (by exact Ml.keysRise_one _)⟩, ⟨rfl, rfl, trivial⟩⟩
        · rintro _ _ w2 ⟨j, rfl, rfl, hE2, hs2, f2, hj, hr⟩ ih2
          have ha := Ml.all_of_take hi (by omega)
          refine r_seq ?_
          refine r_seq ?_
          refine r_region ?_
          refine OL.q (Q1.move rfl) rfl rfl ?_
          refine OL.q (Q1.move rfl) rfl rfl ?_
          refine OL.q (Q1.lenSl Try.underlying51 (f2) rfl) rfl rfl ?_
          refine OL.qb (Q1.lt rfl rfl) rfl rfl ?_
          intro b3 hb3
          refine OL.nil ?_
          cases b3 with
          | true =>
            replace hb3 := of_decide_eq_true hb3.symm
            refine r_cond_t rfl ?_
            refine r_skip ?_
            refine r_seq ?_
            refine r_block ?_
            refine r_seq ?_
            refine r_draw1 (fun i => Nat.beq i 9) 11 (fun w' => Mod (Mg 0) w2 w') mixed (by kernel_rfl) ?_
            intro w3 hm1
            have f3 := f2.ext hm1
            have hE3 := hE2.ext hm1
            have hs3 := hm1.size
            have hCw3 : Mod (Mg 0) w2 w3 := Mod.ofExt hm1
            refine ⟨hCw3, ?_⟩
            rw [show List.range' 0 (Array.size _) = [0, 1, 2, 3, 4, 5, 6, 7, 8, 9, 10] from rfl]
            refine OD.q rfl rfl (Q1.move rfl) rfl rfl ?_
            refine OD.q rfl rfl (Q1.move rfl) rfl rfl ?_
            refine OD.q rfl rfl (Q1.subI ((((j : Nat) : Int) - 1)) rfl rfl (by omega)) rfl rfl ?_
            obtain ⟨x1, b4, o1, hx1, hr1, hl1, hu1, hw1⟩ := Sl.at' (P := Try.prog) f2 Try.underlying51 ti126 encKey_len (k := .i64) (n := (((j : Nat) : Int) - 1)) ((j - 1)) (by omega) (by first | assumption | omega)
            refine OD.q rfl rfl (Q1.indexAddr rfl rfl hr1) rfl rfl ?_
            refine OD.q rfl rfl (Q1.loadN ti126 rfl (fun _ hc => hw1.keepG hc (by omega)) rfl) rfl rfl ?_
            refine OD.q rfl rfl (Q1.move rfl) rfl rfl ?_
            refine OD.q rfl rfl (Q1.move rfl) rfl rfl ?_
            obtain ⟨x2, b5, o2, hx2, hr2, hl2, hu2, hw2⟩ := Sl.at' (P := Try.prog) f2 Try.underlying51 ti126 encKey_len (k := .i64) (n := ((j : Nat) : Int)) (j) (by omega) (by first | assumption | omega)
            refine OD.q rfl rfl (Q1.indexAddr rfl rfl hr2) rfl rfl ?_
            refine OD.q rfl rfl (Q1.loadN ti126 rfl (fun _ hc => hw2.keepG hc (by omega)) rfl) rfl rfl ?_
            have hx1k := hk _ (List.mem_of_getElem? hx1)
            have hx2k := hk _ (List.mem_of_getElem? hx2)
            refine OD.act rfl rfl rfl rfl (AW.callF cl115 rfl (r12less_c (w0 := w3) (a := x1) (b := x2)  (by first | assumption | omega) (by first | assumption | omega)) ?_)
            rintro _ w4 ⟨⟨b6, hb4, rfl⟩, hm2⟩
            have f4 := f3.ext hm2
            have hE4 := hE3.ext hm2
            have hs4 := hm2.size
            have hCw4 := hCw3.ext hm2
            refine ⟨.inr hCw4, ?_⟩
            cases b6 with
            | true =>
              replace hb4 := hb4.symm
              refine OD.q rfl rfl (Q1.not rfl) rfl rfl ?_
              refine OD.nil ?_
              refine r_cond_f rfl ?_
              refine r_skip ?_
              refine r_inBlock ?_
              refine r_region ?_
              refine OL.q (Q1.move rfl) rfl rfl ?_
              refine OL.q (Q1.addI (((j + 1 : Nat) : Int)) rfl rfl (by omega)) rfl rfl ?_
              refine OL.q (Q1.assign rfl) rfl rfl ?_
              refine OL.nil ?_
              exact (ih2 _ _ _ ⟨(j + 1 : Nat), rfl, rfl, hE4, (by omega), f4, (by first | omega | (exfalso; omega)), (by first | exact Ml.keysRise_step hr hj hx1 hx2 (by assumption) | (exfalso; omega))⟩ (by omega)).sub ⟨rfl, rfl, trivial⟩
            | false =>
              replace hb4 := hb4.symm
              refine OD.q rfl rfl (Q1.not rfl) rfl rfl ?_
              refine OD.nil ?_
              refine r_cond_t rfl ?_
              refine r_seq ?_
              refine r_region ?_
              refine OL.q (Q1.assign rfl) rfl rfl ?_
              refine OL.nil ?_
              refine r_ret1 Try.func86 rfl rfl ?_
              exact Ret.mk ⟨(congrArg (Value.int .i64) (by first | exact Ml.goodC_full (by omega) | exact Ml.goodC_key (by omega) hx1 (by simp only [Ml.keyOk]; simp; omega) | exact Ml.goodC_sort (by omega) ha hj hx1 hx2 (by assumption) | exact Ml.goodC_ok (by omega) ha hr (by omega) | (exfalso; omega))), hE4⟩
          | false =>
            replace hb3 := of_decide_eq_false hb3.symm
            refine r_cond_f rfl ?_
            refine r_exit rfl ?_
            refine r_seq ?_
            refine r_region ?_
            refine OL.q (Q1.assign rfl) rfl rfl ?_
            refine OL.nil ?_
            refine r_ret1 Try.func86 rfl rfl ?_
            exact Ret.mk ⟨(congrArg (Value.int .i64) (by first | exact Ml.goodC_full (by omega) | exact Ml.goodC_key (by omega) hx1 (by simp only [Ml.keyOk]; simp; omega) | exact Ml.goodC_sort (by omega) ha hj hx1 hx2 (by assumption) | exact Ml.goodC_ok (by omega) ha hr (by omega) | (exfalso; omega))), hE2⟩
set_option maxRecDepth 20000 in
set_option maxHeartbeats 4000000 in
theorem r12of_c {w0 : World}  {v_cuts : Value} {cuts : List Key} (w : Str) (h_cuts : Sl encKey w0 (Iv 0 w0.heap.size) v_cuts cuts) (hk : ∀ k ∈ cuts, k.text.length ≤ 1000) (hw : w.length ≤ 1000000000) :
    Calls Try.prog 116 #[v_cuts, strV w] w0 (Ret fun rv w1 => rv = .int .i64 (Ml.ofM cuts w) ∧ Ext w0 w1) := by
  have hE0 : Ext w0 w0 := Mod.refl _ _
  have hle1 := h_cuts.le
  refine calls_enter Try.func116 rfl Try.ntmps116 rfl ?_
  refine r_seq ?_
  refine r_region ?_
  refine OL.q (Q1.assign rfl) rfl rfl ?_
  refine OL.nil ?_
  refine r_seq ?_
  refine r_seq ?_
  refine r_region ?_
  refine OL.q (Q1.move rfl) rfl rfl ?_
  refine OL.act rfl rfl (AW.callF cl112 rfl (rword_c (w0 := w0)  w (by first | assumption | omega)) ?_)
  rintro _ w1 ⟨⟨b1, hb1, rfl⟩, hm1⟩
  have f1 := h_cuts.ext hm1
  have hE1 := hE0.ext hm1
  have hs1 := hm1.size
  cases b1 with
  | true =>
    replace hb1 := hb1.symm
    refine OL.q (Q1.not rfl) rfl rfl ?_
    refine OL.nil ?_
    refine r_cond_f rfl ?_
    refine r_skip ?_
    refine r_seq ?_
    refine r_region ?_
    refine OL.q (Q1.assign rfl) rfl rfl ?_
    refine OL.nil ?_
    refine r_seq ?_
    refine r_seq ?_
    refine r_region ?_
    refine OL.q (Q1.assign rfl) rfl rfl ?_
    refine OL.nil ?_
    refine r_block ?_
    refine r_loop (I := fun m E W => ∃ (n : Nat) (j : Nat), E = [(0, v_cuts), (1, strV w), (5, .int .i64 (((n : Nat) : Int))), (6, .int .i64 (((j : Nat) : Int)))] ∧ m = cuts.length - j ∧ Ext w0 W ∧ w1.heap.size ≤ W.heap.size ∧ Sl encKey W (Iv 0 w0.heap.size) v_cuts cuts ∧ (n = ((cuts.take j).filter fun c => !Ml.keyLess ⟨Ml.lenT w, w⟩ c).length) ∧ (n ≤ j)) ?_ ?_
    · refine ⟨_, _, ⟨(0 : Nat), (0 : Nat), rfl, rfl, hE1, Nat.le_refl _, f1, (by rfl), (by omega)⟩, ⟨rfl, rfl, rfl, rfl, trivial⟩⟩
    · rintro _ _ w2 ⟨n, j, rfl, rfl, hE2, hs2, f2, hi, hn⟩ ih1
      refine r_seq ?_
      refine r_seq ?_
      refine r_region ?_
      refine OL.q (Q1.move rfl) rfl rfl ?_
      refine OL.q (Q1.move rfl) rfl rfl ?_
      refine OL.q (Q1.lenSl Try.underlying51 (f2) rfl) rfl rfl ?_
      refine OL.qb (Q1.lt rfl rfl) rfl rfl ?_
      intro b2 hb2
      refine OL.nil ?_
      cases b2 with
      | true =>
        replace hb2 := of_decide_eq_true hb2.symm
        refine r_cond_t rfl ?_
        refine r_skip ?_
        refine r_seq ?_
        refine r_block ?_
        refine r_seq ?_
        refine r_draw1 (fun i => Nat.beq i 1 || Nat.beq i 8) 10 (fun w' => Mod (Mg 0) w2 w') mixed (by kernel_rfl) ?_
        intro w3 hm2
        have f3 := f2.ext hm2
        have hE3 := hE2.ext hm2
        have hs3 := hm2.size
        have hCw3 : Mod (Mg 0) w2 w3 := Mod.ofExt hm2
        refine ⟨hCw3, ?_⟩
        rw [show List.range' 0 (Array.size _) = [0, 1, 2, 3, 4, 5, 6, 7, 8, 9] from rfl]
        refine OD.q rfl rfl (Q1.move rfl) rfl rfl ?_
        refine OD.act rfl rfl rfl rfl (AW.callF cl114 rfl (rlen_c (w0 := w3)  w (by first | assumption | omega)) ?_)
        rintro _ w4 ⟨rfl, hm3, hp1⟩
        have f4 := f3.ext hm3
        have hE4 := hE3.ext hm3
        have hs4 := hm3.size
        have hCw4 := hCw3.ext hm3
        refine ⟨.inr hCw4, ?_⟩
        refine OD.q rfl rfl (Q1.move rfl) rfl rfl ?_
        refine OD.q rfl rfl (Q1.build (vs := #[(0, (.int .i64 ((Ml.lenT w)) : Value)), (1, strV w)]) (v := .agg #[.int .i64 ((Ml.lenT w)), strV w]) rfl (fun _ => by kernel_rfl)) rfl rfl ?_
        refine OD.q rfl rfl (Q1.move rfl) rfl rfl ?_
        refine OD.q rfl rfl (Q1.move rfl) rfl rfl ?_
        obtain ⟨x1, b3, o1, hx1, hr1, hl1, hu1, hw1⟩ := Sl.at' (P := Try.prog) f2 Try.underlying51 ti126 encKey_len (k := .i64) (n := ((j : Nat) : Int)) (j) (by omega) (by first | assumption | omega)
        refine OD.q rfl rfl (Q1.indexAddr rfl rfl hr1) rfl rfl ?_
        refine OD.q rfl rfl (Q1.loadN ti126 rfl (fun _ hc => hw1.keepG hc (by omega)) rfl) rfl rfl ?_
        have hx1k := hk _ (List.mem_of_getElem? hx1)
        refine OD.act rfl rfl rfl rfl (AW.callF cl115 rfl (r12less_c (w0 := w4) (a := (Key.mk ((Ml.lenT w)) w)) (b := x1)  (by first | assumption | omega) (by first | assumption | omega)) ?_)
        rintro _ w5 ⟨⟨b4, hb3, rfl⟩, hm4⟩
        have f5 := f4.ext hm4
        have hE5 := hE4.ext hm4
        have hs5 := hm4.size
        have hCw5 := hCw4.ext hm4
        refine ⟨.inr hCw5, ?_⟩
        cases b4 with
        | true =>
          replace hb3 := hb3.symm
          refine OD.q rfl rfl (Q1.not rfl) rfl rfl ?_
          refine OD.nil ?_
          refine r_cond_f rfl ?_
          refine r_skip ?_
          refine r_inBlock ?_
          refine r_region ?_
          refine OL.q (Q1.move rfl) rfl rfl ?_
          refine OL.q (Q1.addI (((j + 1 : Nat) : Int)) rfl rfl (by omega)) rfl rfl ?_
          refine OL.q (Q1.assign rfl) rfl rfl ?_
          refine OL.nil ?_
          exact (ih1 _ _ _ ⟨(n : Nat), (j + 1 : Nat), rfl, rfl, hE5, (by omega), f5, (by first | (rw [Ml.filter_take_yes hx1 (by simp [*]), List.length_append, ← hi]; rfl) | (rw [Ml.filter_take_no hx1 (by simp [*])]; exact hi) | (exfalso; omega)), (by first | omega | (exfalso; omega))⟩ (by omega)).sub ⟨rfl, rfl, rfl, rfl, trivial⟩
        | false =>
          replace hb3 := hb3.symm
          refine OD.q rfl rfl (Q1.not rfl) rfl rfl ?_
          refine OD.nil ?_
          refine r_cond_t rfl ?_
          refine r_region ?_
          refine OL.q (Q1.move rfl) rfl rfl ?_
          refine OL.q (Q1.addI (((n + 1 : Nat) : Int)) rfl rfl (by omega)) rfl rfl ?_
          refine OL.q (Q1.assign rfl) rfl rfl ?_
          refine OL.nil ?_
          refine r_inBlock ?_
          refine r_region ?_
          refine OL.q (Q1.move rfl) rfl rfl ?_
          refine OL.q (Q1.addI (((j + 1 : Nat) : Int)) rfl rfl (by omega)) rfl rfl ?_
          refine OL.q (Q1.assign rfl) rfl rfl ?_
          refine OL.nil ?_
          exact (ih1 _ _ _ ⟨(n + 1 : Nat), (j + 1 : Nat), rfl, rfl, hE5, (by omega), f5, (by first | (rw [Ml.filter_take_yes hx1 (by simp [*]), List.length_append, ← hi]; rfl) | (rw [Ml.filter_take_no hx1 (by simp [*])]; exact hi) | (exfalso; omega)), (by first | omega | (exfalso; omega))⟩ (by omega)).sub ⟨rfl, rfl, rfl, rfl, trivial⟩
      | false =>
        replace hb2 := of_decide_eq_false hb2.symm
        refine r_cond_f rfl ?_
        refine r_exit rfl ?_
        refine r_seq ?_
        refine r_region ?_
        refine OL.q (Q1.move rfl) rfl rfl ?_
        refine OL.q (Q1.assign rfl) rfl rfl ?_
        refine OL.nil ?_
        refine r_ret1 Try.func116 rfl rfl ?_
        exact Ret.mk ⟨(congrArg (Value.int .i64) (by first | exact of_no (by assumption) | exact of_yes (by assumption) hi (by omega) | (exfalso; omega))), hE2⟩
  | false =>
    replace hb1 := hb1.symm
    refine OL.q (Q1.not rfl) rfl rfl ?_
    refine OL.nil ?_
    refine r_cond_t rfl ?_
    refine r_seq ?_
    refine r_region ?_
    refine OL.q (Q1.assign rfl) rfl rfl ?_
    refine OL.nil ?_
    refine r_ret1 Try.func116 rfl rfl ?_
    exact Ret.mk ⟨(congrArg (Value.int .i64) (by first | exact of_no (by assumption) | exact of_yes (by assumption) hi (by omega) | (exfalso; omega))), hE1⟩
set_option maxRecDepth 20000 in
set_option maxHeartbeats 4000000 in
theorem r12slice_c {w0 : World}  {v_cuts : Value} {cuts : List Key} {v_words : Value} {words : List Str} (shard : Int) (h_cuts : Sl encKey w0 (Iv 0 w0.heap.size) v_cuts cuts) (h_words : Sl encS w0 (Iv 0 w0.heap.size) v_words words) (h_shard : I64 shard) (hk : ∀ k ∈ cuts, k.text.length ≤ 1000) (hso : SOk words) (hlen : words.length ≤ 1000000) :
    Calls Try.prog 88 #[v_cuts, v_words, .int .i64 shard] w0 (Ret fun rv w1 => (∃ gr, Acc encS 9 1 w1 gr rv (Ml.sliceM cuts words shard) ∧ (gr = 0 ∨ w0.heap.size < gr)) ∧ Ext w0 w1) := by
  have hE0 : Ext w0 w0 := Mod.refl _ _
  have hle1 := h_cuts.le
  have hle2 := h_words.le
  refine calls_enter Try.func88 rfl Try.ntmps88 rfl ?_
  refine r_seq ?_
  refine r_region ?_
  refine OL.q (Q1.assign rfl) rfl rfl ?_
  refine OL.nil ?_
  refine r_seq ?_
  refine r_region ?_
  refine OL.q (Q1.assign rfl) rfl rfl ?_
  refine OL.nil ?_
  refine r_seq ?_
  refine r_seq ?_
  refine r_region ?_
  refine OL.q (Q1.assign rfl) rfl rfl ?_
  refine OL.nil ?_
  refine r_block ?_
  refine r_loop (I := fun m E W => ∃ (v_l : Value) (g_l : Nat) (l : List Str) (i : Nat), E = [(0, v_cuts), (1, v_words), (2, .int .i64 shard), (7, v_l), (8, .int .i64 (((i : Nat) : Int)))] ∧ m = words.length - i ∧ Ext w0 W ∧ w0.heap.size ≤ W.heap.size ∧ Acc encS 9 1 W g_l v_l l ∧ (g_l = 0 ∨ w0.heap.size < g_l) ∧ Sl encKey W (Iv 0 w0.heap.size) v_cuts cuts ∧ Sl encS W (Iv 0 w0.heap.size) v_words words ∧ (l = (words.take i).filter (Ml.slP cuts shard)) ∧ (l.length ≤ i)) ?_ ?_
  · refine ⟨_, _, ⟨(.slice none 0 0 : Value), (0 : Nat), ([] : List Str), (0 : Nat), rfl, rfl, hE0, Nat.le_refl _, Acc.nil, (by omega), h_cuts, h_words, (by rfl), (by exact Nat.zero_le _)⟩, ⟨rfl, rfl, rfl, rfl, rfl, trivial⟩⟩
  · rintro _ _ w1 ⟨v_l, g_l, l, i, rfl, rfl, hE1, hs1, ha1, hg1, f1, f2, hi, hn⟩ ih1
    refine r_seq ?_
    refine r_seq ?_
    refine r_region ?_
    refine OL.q (Q1.move rfl) rfl rfl ?_
    refine OL.q (Q1.move rfl) rfl rfl ?_
    refine OL.q (Q1.lenSl Try.underlying22 (f2) rfl) rfl rfl ?_
    refine OL.qb (Q1.lt rfl rfl) rfl rfl ?_
    intro b1 hb1
    refine OL.nil ?_
    cases b1 with
    | true =>
      replace hb1 := of_decide_eq_true hb1.symm
      refine r_cond_t rfl ?_
      refine r_skip ?_
      refine r_seq ?_
      refine r_block ?_
      refine r_seq ?_
      refine r_region ?_
      refine OL.q (Q1.move rfl) rfl rfl ?_
      refine OL.q (Q1.move rfl) rfl rfl ?_
      obtain ⟨x1, b2, o1, hx1, hr1, hl1, hu1, hw1⟩ := Sl.at' (P := Try.prog) f2 Try.underlying22 ti9 encS_len (k := .i64) (n := ((i : Nat) : Int)) (i) (by omega) (by first | assumption | omega)
      refine OL.q (Q1.indexAddr rfl rfl hr1) rfl rfl ?_
      refine OL.q (Q1.load1 ti9 rfl (fun _ e => e ▸ hw1)) rfl rfl ?_
      have hx1s := hso.at hx1
      refine OL.act rfl rfl (AW.callF cl112 rfl (rword_c (w0 := w1)  x1 (by first | assumption | omega)) ?_)
      rintro _ w2 ⟨⟨b3, hb2, rfl⟩, hm1⟩
      have hl2 := ha1.lt
      have f3 := ha1.ext hm1
      have f4 := f1.ext hm1
      have f5 := f2.ext hm1
      have hE2 := hE1.ext hm1
      have hs2 := hm1.size
      refine OL.q (Q1.move rfl) rfl rfl ?_
      cases b3 with
      | true =>
        replace hb2 := hb2.symm
        refine OL.q (Q1.move rfl) rfl rfl ?_
        refine OL.q (Q1.move rfl) rfl rfl ?_
        refine OL.q (Q1.move rfl) rfl rfl ?_
        obtain ⟨x2, b4, o2, hx2, hr2, hl3, hu2, hw2⟩ := Sl.at' (P := Try.prog) f5 Try.underlying22 ti9 encS_len (k := .i64) (n := ((i : Nat) : Int)) (i) (by omega) (by first | assumption | omega)
        obtain rfl : x1 = x2 := Option.some.inj (hx1.symm.trans hx2)
        refine OL.q (Q1.indexAddr rfl rfl hr2) rfl rfl ?_
        refine OL.q (Q1.load1 ti9 rfl (fun _ e => e ▸ hw2)) rfl rfl ?_
        refine OL.act rfl rfl (AW.callF cl116 rfl (r12of_c (w0 := w2) (cuts := cuts) x1 ((f4).iv (Nat.zero_le _) (by omega)) (by first | assumption | exact hcs.cuts) (by first | assumption | omega)) ?_)
        rintro _ w3 ⟨rfl, hm2⟩
        have hl4 := f3.lt
        have f6 := f3.ext hm2
        have f7 := f4.ext hm2
        have f8 := f5.ext hm2
        have hE3 := hE2.ext hm2
        have hs3 := hm2.size
        have := of_rng cuts x1
        refine OL.q (Q1.move rfl) rfl rfl ?_
        refine OL.qb (Q1.eq rfl rfl) rfl rfl ?_
        intro b5 hb3
        refine OL.q (Q1.pick_t rfl rfl) rfl rfl ?_
        refine OL.nil ?_
        cases b5 with
        | true =>
          replace hb3 := eq_of_beq hb3.symm
          refine r_cond_t rfl ?_
          refine r_region ?_
          refine OL.q (Q1.move rfl) rfl rfl ?_
          refine OL.q (Q1.move rfl) rfl rfl ?_
          refine OL.q (Q1.move rfl) rfl rfl ?_
          obtain ⟨x3, b6, o3, hx3, hr3, hl5, hu3, hw3⟩ := Sl.at' (P := Try.prog) f8 Try.underlying22 ti9 encS_len (k := .i64) (n := ((i : Nat) : Int)) (i) (by omega) (by first | assumption | omega)
          obtain rfl : x1 = x3 := Option.some.inj (hx1.symm.trans hx3)
          refine OL.q (Q1.indexAddr rfl rfl hr3) rfl rfl ?_
          refine OL.q (Q1.load1 ti9 rfl (fun _ e => e ▸ hw3)) rfl rfl ?_
          refine OL.act rfl rfl (AW.buildSlice [strV x1] Try.underlying22 ti9 rfl rfl rfl (by decide) ?_)
          intro w4 b7 hm3 hb4 hz1 hk1
          have hl6 := f6.lt
          have f9 := f6.ext hm3
          have f10 := f7.ext hm3
          have f11 := f8.ext hm3
          have hE4 := hE3.ext hm3
          have hs4 := hm3.size
          have hl7 := Sl.of_blk (enc := encS) hk1 ([x1] : List Str) 1 rfl rfl (by unfold maxLen; omega)
          have hl8 := f9.lt
          refine OL.act rfl rfl (AW.append f9 Try.underlying22 ti9 rfl encS_len encS_one rfl rfl (hl7) (by first | omega | (simp only [List.length_append, List.length_cons, List.length_nil]; omega) | (simp; omega)) (by unfold maxLen; first | omega | (simp only [List.length_append, List.length_cons, List.length_nil]; omega) | (simp; omega)) ?_)
          intro v1 g1 w5 ha2 hm4 hg2 hz2
          have hl9 := f9.lt
          have f12 := f10.keepG hm4 (by omega)
          have f13 := f11.keepG hm4 (by omega)
          have f14 := hl7.keepG hm4 (by omega)
          have hE5 := Ext.thenG hE4 hm4 (by omega)
          have hs5 := hm4.size
          refine OL.q (Q1.assign rfl) rfl rfl ?_
          refine OL.nil ?_
          refine r_inBlock ?_
          refine r_region ?_
          refine OL.q (Q1.move rfl) rfl rfl ?_
          refine OL.q (Q1.addI (((i + 1 : Nat) : Int)) rfl rfl (by omega)) rfl rfl ?_
          refine OL.q (Q1.assign rfl) rfl rfl ?_
          refine OL.nil ?_
          exact (ih1 _ _ _ ⟨(v1 : Value), (g1 : Nat), ((l ++ [x1]) : List Str), (i + 1 : Nat), rfl, rfl, hE5, (by omega), ha2, (by omega), f12, f13, (by first | (rw [Ml.filter_take_yes hx1 (sl_yes (by assumption) (by assumption)), hi]) | (rw [Ml.filter_take_no hx1 (Ml.slP_no2 (by assumption))]; exact hi) | (rw [Ml.filter_take_no hx1 (sl_no1 (by assumption))]; exact hi) | (exfalso; omega)), (by first | omega | (simp only [List.length_append, List.length_cons, List.length_nil]; omega) | (exfalso; omega))⟩ (by omega)).sub ⟨rfl, rfl, rfl, rfl, rfl, trivial⟩
        | false =>
          replace hb3 := ne_of_beq_false hb3.symm
          refine r_cond_f rfl ?_
          refine r_skip ?_
          refine r_inBlock ?_
          refine r_region ?_
          refine OL.q (Q1.move rfl) rfl rfl ?_
          refine OL.q (Q1.addI (((i + 1 : Nat) : Int)) rfl rfl (by omega)) rfl rfl ?_
          refine OL.q (Q1.assign rfl) rfl rfl ?_
          refine OL.nil ?_
          exact (ih1 _ _ _ ⟨(v_l : Value), (g_l : Nat), (l : List Str), (i + 1 : Nat), rfl, rfl, hE3, (by omega), f6, (by omega), f7, f8, (by first | (rw [Ml.filter_take_yes hx1 (sl_yes (by assumption) (by assumption)), hi]) | (rw [Ml.filter_take_no hx1 (Ml.slP_no2 (by assumption))]; exact hi) | (rw [Ml.filter_take_no hx1 (sl_no1 (by assumption))]; exact hi) | (exfalso; omega)), (by first | omega | (simp only [List.length_append, List.length_cons, List.length_nil]; omega) | (exfalso; omega))⟩ (by omega)).sub ⟨rfl, rfl, rfl, rfl, rfl, trivial⟩
      | false =>
        replace hb2 := hb2.symm
        refine OL.sk rfl rfl ?_
        refine OL.sk rfl rfl ?_
        refine OL.sk rfl rfl ?_
        refine OL.sk rfl rfl ?_
        refine OL.sk rfl rfl ?_
        refine OL.sk rfl rfl ?_
        refine OL.sk rfl rfl ?_
        refine OL.sk rfl rfl ?_
        refine OL.q (Q1.pick_f rfl rfl) rfl rfl ?_
        refine OL.nil ?_
        refine r_cond_f rfl ?_
        refine r_skip ?_
        refine r_inBlock ?_
        refine r_region ?_
        refine OL.q (Q1.move rfl) rfl rfl ?_
        refine OL.q (Q1.addI (((i + 1 : Nat) : Int)) rfl rfl (by omega)) rfl rfl ?_
        refine OL.q (Q1.assign rfl) rfl rfl ?_
        refine OL.nil ?_
        exact (ih1 _ _ _ ⟨(v_l : Value), (g_l : Nat), (l : List Str), (i + 1 : Nat), rfl, rfl, hE2, (by omega), f3, (by omega), f4, f5, (by first | (rw [Ml.filter_take_yes hx1 (sl_yes (by assumption) (by assumption)), hi]) | (rw [Ml.filter_take_no hx1 (Ml.slP_no2 (by assumption))]; exact hi) | (rw [Ml.filter_take_no hx1 (sl_no1 (by assumption))]; exact hi) | (exfalso; omega)), (by first | omega | (simp only [List.length_append, List.length_cons, List.length_nil]; omega) | (exfalso; omega))⟩ (by omega)).sub ⟨rfl, rfl, rfl, rfl, rfl, trivial⟩
    | false =>
      replace hb1 := of_decide_eq_false hb1.symm
      refine r_cond_f rfl ?_
      refine r_exit rfl ?_
      refine r_seq ?_
      refine r_region ?_
      refine OL.q (Q1.move rfl) rfl rfl ?_
      refine OL.q (Q1.assign rfl) rfl rfl ?_
      refine OL.nil ?_
      refine r_ret1 Try.func88 rfl rfl ?_
      exact Ret.mk ⟨⟨_, Acc.cast ha1 (by first | rw [hi, Ml.filter_take_all (by omega)]; rfl | (exfalso; omega)), by omega⟩, hE1⟩
set_option maxRecDepth 20000 in
set_option maxHeartbeats 4000000 in
theorem r13in_c {w0 : World}  (n : Int) (lo : Int) (hi : Int) (h_n : I64 n) (h_lo : I64 lo) (h_hi : I64 hi) :
    Calls Try.prog 87 #[.int .i64 n, .int .i64 lo, .int .i64 hi] w0 (Ret fun rv w1 => (∃ rb : Bool, rb = (Ml.within n lo hi) ∧ rv = .bool rb) ∧ Ext w0 w1) := by
  have hE0 : Ext w0 w0 := Mod.refl _ _
  refine calls_enter Try.func87 rfl Try.ntmps87 rfl ?_
  refine r_seq ?_
  refine r_region ?_
  refine OL.q (Q1.assign rfl) rfl rfl ?_
  refine OL.nil ?_
  refine r_seq ?_
  refine r_region ?_
  refine OL.q (Q1.move rfl) rfl rfl ?_
  refine OL.q (Q1.move rfl) rfl rfl ?_
  refine OL.qb (Q1.ge rfl rfl) rfl rfl ?_
  intro b1 hb1
  refine OL.q (Q1.move rfl) rfl rfl ?_
  cases b1 with
  | true =>
    replace hb1 := of_decide_eq_true hb1.symm
    refine OL.q (Q1.move rfl) rfl rfl ?_
    refine OL.q (Q1.move rfl) rfl rfl ?_
    refine OL.qb (Q1.le rfl rfl) rfl rfl ?_
    intro b2 hb2
    refine OL.q (Q1.pick_t rfl rfl) rfl rfl ?_
    refine OL.q (Q1.assign rfl) rfl rfl ?_
    refine OL.nil ?_
    refine r_ret1 Try.func87 rfl rfl ?_
    exact Ret.mk ⟨⟨_, (by first | simp only [Ml.within, *]; simp | (exfalso; omega)), rfl⟩, hE0⟩
  | false =>
    replace hb1 := of_decide_eq_false hb1.symm
    refine OL.sk rfl rfl ?_
    refine OL.sk rfl rfl ?_
    refine OL.sk rfl rfl ?_
    refine OL.q (Q1.pick_f rfl rfl) rfl rfl ?_
    refine OL.q (Q1.assign rfl) rfl rfl ?_
    refine OL.nil ?_
    refine r_ret1 Try.func87 rfl rfl ?_
    exact Ret.mk ⟨⟨_, (by first | simp only [Ml.within, *]; simp | (exfalso; omega)), rfl⟩, hE0⟩
set_option maxRecDepth 20000 in
set_option maxHeartbeats 4000000 in
theorem r13may_c {w0 : World}  {c : Cfg} {v_c_words : Value} {v_c_cuts : Value} (h_c_words : Sl encS w0 (Iv 0 w0.heap.size) v_c_words c.words) (h_c_cuts : Sl encKey w0 (Iv 0 w0.heap.size) v_c_cuts c.cuts) (h_c : Cfg.Ok c) (hcs : CfgS c) :
    Calls Try.prog 40 #[.agg #[v_c_words, v_c_cuts, .int .i64 c.workers, .int .i64 c.copies, .int .i64 c.slots, .int .i64 c.batch, .int .i64 c.lease, .int .i64 c.hedge, .int .i64 c.first, .int .i64 c.cap, .int .i64 c.jitter, .int .i64 c.net]] w0 (Ret fun rv w1 => (∃ rb : Bool, rb = (Ml.may c) ∧ rv = .bool rb) ∧ Ext w0 w1) := by
  have hE0 : Ext w0 w0 := Mod.refl _ _
  have hle1 := h_c_words.le
  have hle2 := h_c_cuts.le
  have hc1 := h_c.workers
  have hc2 := h_c.copies
  have hc3 := h_c.slots
  have hc4 := h_c.batch
  have hc5 := h_c.lease
  have hc6 := h_c.hedge
  have hc7 := h_c.first
  have hc8 := h_c.cap
  have hc9 := h_c.jitter
  have hc10 := h_c.net
  have hwl := hcs.wl
  have hcl := hcs.cl
  have hcw := hcs.words
  refine calls_enter Try.func40 rfl Try.ntmps40 rfl ?_
  refine r_seq ?_
  refine r_region ?_
  refine OL.act rfl rfl (AW.box [v_c_words, v_c_cuts, .int .i64 c.workers, .int .i64 c.copies, .int .i64 c.slots, .int .i64 c.batch, .int .i64 c.lease, .int .i64 c.hedge, .int .i64 c.first, .int .i64 c.cap, .int .i64 c.jitter, .int .i64 c.net] rfl rfl ?_)
  intro w1 b1 hm1 hb1 hz1 hk1
  have f1 := h_c_words.ext hm1
  have f2 := h_c_cuts.ext hm1
  have hE1 := hE0.ext hm1
  have hs1 := hm1.size
  refine OL.q (Q1.assign rfl) rfl rfl ?_
  refine OL.nil ?_
  refine r_seq ?_
  refine r_seq ?_
  refine r_region ?_
  refine OL.q (Q1.fieldAddr fl53_0 rfl) rfl rfl ?_
  refine OL.q (Q1.load1 ti22 rfl (fun _ e => e ▸ (hk1.cell 0 _ rfl))) rfl rfl ?_
  refine OL.act rfl rfl (AW.callF cl85 rfl (r4good_c (w0 := w1) (l := c.words)  ((f1).iv (Nat.zero_le _) (by omega)) (by exact hcs.words)) ?_)
  rintro _ w2 ⟨rfl, hm2⟩
  have f3 := f1.ext hm2
  have f4 := f2.ext hm2
  have f5 := hk1.ext hm2
  have hE2 := hE1.ext hm2
  have hs2 := hm2.size
  have := Ml.goodL_range c.words
  refine OL.qb (Q1.ne rfl rfl) rfl rfl ?_
  intro b2 hb2
  refine OL.q (Q1.move rfl) rfl rfl ?_
  cases b2 with
  | true =>
    replace hb2 := bne_iff_ne.1 hb2.symm
    refine OL.sk rfl rfl ?_
    refine OL.sk rfl rfl ?_
    refine OL.sk rfl rfl ?_
    refine OL.sk rfl rfl ?_
    refine OL.q (Q1.pick_t rfl rfl) rfl rfl ?_
    refine OL.q (Q1.move rfl) rfl rfl ?_
    refine OL.sk rfl rfl ?_
    refine OL.sk rfl rfl ?_
    refine OL.sk rfl rfl ?_
    refine OL.sk rfl rfl ?_
    refine OL.q (Q1.pick_t rfl rfl) rfl rfl ?_
    refine OL.q (Q1.move rfl) rfl rfl ?_
    refine OL.sk rfl rfl ?_
    refine OL.sk rfl rfl ?_
    refine OL.sk rfl rfl ?_
    refine OL.sk rfl rfl ?_
    refine OL.sk rfl rfl ?_
    refine OL.sk rfl rfl ?_
    refine OL.sk rfl rfl ?_
    refine OL.q (Q1.pick_t rfl rfl) rfl rfl ?_
    refine OL.nil ?_
    refine r_cond_t rfl ?_
    refine r_seq ?_
    refine r_region ?_
    refine OL.q (Q1.assign rfl) rfl rfl ?_
    refine OL.nil ?_
    refine r_ret1 Try.func40 rfl rfl ?_
    exact Ret.mk ⟨⟨_, (by first | simp [Ml.may, Ml.nodesM, Ml.sizesM, Ml.timesM, *] | (exfalso; omega)), rfl⟩, hE2⟩
  | false =>
    replace hb2 := bne_eq_false_iff_eq.1 hb2.symm
    refine OL.q (Q1.fieldAddr fl53_1 rfl) rfl rfl ?_
    refine OL.q (Q1.load1 ti51 rfl (fun _ e => e ▸ (f5.cell 1 _ rfl))) rfl rfl ?_
    refine OL.act rfl rfl (AW.callF cl86 rfl (r12good_c (w0 := w2) (cuts := c.cuts)  ((f4).iv (Nat.zero_le _) (by omega)) (by first | assumption | exact hcs.cuts)) ?_)
    rintro _ w3 ⟨rfl, hm3⟩
    have f6 := f3.ext hm3
    have f7 := f4.ext hm3
    have f8 := f5.ext hm3
    have hE3 := hE2.ext hm3
    have hs3 := hm3.size
    refine OL.qb (Q1.ne rfl rfl) rfl rfl ?_
    intro b3 hb3
    refine OL.q (Q1.pick_f rfl rfl) rfl rfl ?_
    refine OL.q (Q1.move rfl) rfl rfl ?_
    cases b3 with
    | true =>
      replace hb3 := bne_iff_ne.1 hb3.symm
      refine OL.sk rfl rfl ?_
      refine OL.sk rfl rfl ?_
      refine OL.sk rfl rfl ?_
      refine OL.sk rfl rfl ?_
      refine OL.q (Q1.pick_t rfl rfl) rfl rfl ?_
      refine OL.q (Q1.move rfl) rfl rfl ?_
      refine OL.sk rfl rfl ?_
      refine OL.sk rfl rfl ?_
      refine OL.sk rfl rfl ?_
      refine OL.sk rfl rfl ?_
      refine OL.sk rfl rfl ?_
      refine OL.sk rfl rfl ?_
      refine OL.sk rfl rfl ?_
      refine OL.q (Q1.pick_t rfl rfl) rfl rfl ?_
      refine OL.nil ?_
      refine r_cond_t rfl ?_
      refine r_seq ?_
      refine r_region ?_
      refine OL.q (Q1.assign rfl) rfl rfl ?_
      refine OL.nil ?_
      refine r_ret1 Try.func40 rfl rfl ?_
      exact Ret.mk ⟨⟨_, (by first | simp [Ml.may, Ml.nodesM, Ml.sizesM, Ml.timesM, *] | (exfalso; omega)), rfl⟩, hE3⟩
    | false =>
      replace hb3 := bne_eq_false_iff_eq.1 hb3.symm
      refine OL.q (Q1.fieldAddr fl53_2 rfl) rfl rfl ?_
      refine OL.q (Q1.load1 ti3 rfl (fun _ e => e ▸ (f8.cell 2 _ rfl))) rfl rfl ?_
      refine OL.act rfl rfl (AW.callF cl87 rfl (r13in_c (w0 := w3)  (c.workers) (1) (5) (by first | omega | assumption) (by first | omega | assumption) (by first | omega | assumption)) ?_)
      rintro _ w4 ⟨⟨b4, hb4, rfl⟩, hm4⟩
      have f9 := f6.ext hm4
      have f10 := f7.ext hm4
      have f11 := f8.ext hm4
      have hE4 := hE3.ext hm4
      have hs4 := hm4.size
      cases b4 with
      | true =>
        replace hb4 := hb4.symm
        have := Ml.within_true hb4
        refine OL.q (Q1.not rfl) rfl rfl ?_
        refine OL.q (Q1.pick_f rfl rfl) rfl rfl ?_
        refine OL.q (Q1.move rfl) rfl rfl ?_
        refine OL.q (Q1.fieldAddr fl53_3 rfl) rfl rfl ?_
        refine OL.q (Q1.load1 ti3 rfl (fun _ e => e ▸ (f11.cell 3 _ rfl))) rfl rfl ?_
        refine OL.q (Q1.fieldAddr fl53_2 rfl) rfl rfl ?_
        refine OL.q (Q1.load1 ti3 rfl (fun _ e => e ▸ (f11.cell 2 _ rfl))) rfl rfl ?_
        refine OL.q (Q1.min rfl rfl) rfl rfl ?_
        refine OL.act rfl rfl (AW.callF cl87 rfl (r13in_c (w0 := w4)  (c.copies) (1) ((min 3 c.workers)) (by first | omega | assumption) (by first | omega | assumption) (by first | omega | assumption)) ?_)
        rintro _ w5 ⟨⟨b5, hb5, rfl⟩, hm5⟩
        have f12 := f9.ext hm5
        have f13 := f10.ext hm5
        have f14 := f11.ext hm5
        have hE5 := hE4.ext hm5
        have hs5 := hm5.size
        cases b5 with
        | true =>
          replace hb5 := hb5.symm
          have := Ml.within_true hb5
          refine OL.q (Q1.not rfl) rfl rfl ?_
          refine OL.q (Q1.pick_f rfl rfl) rfl rfl ?_
          refine OL.nil ?_
          refine r_cond_f rfl ?_
          refine r_skip ?_
          refine r_seq ?_
          refine r_seq ?_
          refine r_region ?_
          refine OL.q (Q1.fieldAddr fl53_4 rfl) rfl rfl ?_
          refine OL.q (Q1.load1 ti3 rfl (fun _ e => e ▸ (f14.cell 4 _ rfl))) rfl rfl ?_
          refine OL.act rfl rfl (AW.callF cl87 rfl (r13in_c (w0 := w5)  (c.slots) (1) (4) (by first | omega | assumption) (by first | omega | assumption) (by first | omega | assumption)) ?_)
          rintro _ w6 ⟨⟨b6, hb6, rfl⟩, hm6⟩
          have f15 := f12.ext hm6
          have f16 := f13.ext hm6
          have f17 := f14.ext hm6
          have hE6 := hE5.ext hm6
          have hs6 := hm6.size
          cases b6 with
          | true =>
            replace hb6 := hb6.symm
            have := Ml.within_true hb6
            refine OL.q (Q1.not rfl) rfl rfl ?_
            refine OL.q (Q1.move rfl) rfl rfl ?_
            refine OL.q (Q1.fieldAddr fl53_5 rfl) rfl rfl ?_
            refine OL.q (Q1.load1 ti3 rfl (fun _ e => e ▸ (f17.cell 5 _ rfl))) rfl rfl ?_
            refine OL.act rfl rfl (AW.callF cl87 rfl (r13in_c (w0 := w6)  (c.batch) (1) (5) (by first | omega | assumption) (by first | omega | assumption) (by first | omega | assumption)) ?_)
            rintro _ w7 ⟨⟨b7, hb7, rfl⟩, hm7⟩
            have f18 := f15.ext hm7
            have f19 := f16.ext hm7
            have f20 := f17.ext hm7
            have hE7 := hE6.ext hm7
            have hs7 := hm7.size
            cases b7 with
            | true =>
              replace hb7 := hb7.symm
              have := Ml.within_true hb7
              refine OL.q (Q1.not rfl) rfl rfl ?_
              refine OL.q (Q1.pick_f rfl rfl) rfl rfl ?_
              refine OL.q (Q1.move rfl) rfl rfl ?_
              refine OL.q (Q1.fieldAddr fl53_6 rfl) rfl rfl ?_
              refine OL.q (Q1.load1 ti3 rfl (fun _ e => e ▸ (f20.cell 6 _ rfl))) rfl rfl ?_
              refine OL.act rfl rfl (AW.callF cl87 rfl (r13in_c (w0 := w7)  (c.lease) (1) (1000) (by first | omega | assumption) (by first | omega | assumption) (by first | omega | assumption)) ?_)
              rintro _ w8 ⟨⟨b8, hb8, rfl⟩, hm8⟩
              have f21 := f18.ext hm8
              have f22 := f19.ext hm8
              have f23 := f20.ext hm8
              have hE8 := hE7.ext hm8
              have hs8 := hm8.size
              cases b8 with
              | true =>
                replace hb8 := hb8.symm
                have := Ml.within_true hb8
                refine OL.q (Q1.not rfl) rfl rfl ?_
                refine OL.q (Q1.pick_f rfl rfl) rfl rfl ?_
                refine OL.q (Q1.move rfl) rfl rfl ?_
                refine OL.q (Q1.fieldAddr fl53_7 rfl) rfl rfl ?_
                refine OL.q (Q1.load1 ti3 rfl (fun _ e => e ▸ (f23.cell 7 _ rfl))) rfl rfl ?_
                refine OL.act rfl rfl (AW.callF cl87 rfl (r13in_c (w0 := w8)  (c.hedge) (1) (1000) (by first | omega | assumption) (by first | omega | assumption) (by first | omega | assumption)) ?_)
                rintro _ w9 ⟨⟨b9, hb9, rfl⟩, hm9⟩
                have f24 := f21.ext hm9
                have f25 := f22.ext hm9
                have f26 := f23.ext hm9
                have hE9 := hE8.ext hm9
                have hs9 := hm9.size
                cases b9 with
                | true =>
                  replace hb9 := hb9.symm
                  have := Ml.within_true hb9
                  refine OL.q (Q1.not rfl) rfl rfl ?_
                  refine OL.q (Q1.pick_f rfl rfl) rfl rfl ?_
                  refine OL.nil ?_
                  refine r_cond_f rfl ?_
                  refine r_skip ?_
                  refine r_seq ?_
                  refine r_region ?_
                  refine OL.q (Q1.fieldAddr fl53_8 rfl) rfl rfl ?_
                  refine OL.q (Q1.load1 ti3 rfl (fun _ e => e ▸ (f26.cell 8 _ rfl))) rfl rfl ?_
                  refine OL.act rfl rfl (AW.callF cl87 rfl (r13in_c (w0 := w9)  (c.first) (1) (10) (by first | omega | assumption) (by first | omega | assumption) (by first | omega | assumption)) ?_)
                  rintro _ w10 ⟨⟨b10, hb10, rfl⟩, hm10⟩
                  have f27 := f24.ext hm10
                  have f28 := f25.ext hm10
                  have f29 := f26.ext hm10
                  have hE10 := hE9.ext hm10
                  have hs10 := hm10.size
                  refine OL.q (Q1.move rfl) rfl rfl ?_
                  cases b10 with
                  | true =>
                    replace hb10 := hb10.symm
                    have := Ml.within_true hb10
                    refine OL.q (Q1.fieldAddr fl53_9 rfl) rfl rfl ?_
                    refine OL.q (Q1.load1 ti3 rfl (fun _ e => e ▸ (f29.cell 9 _ rfl))) rfl rfl ?_
                    refine OL.q (Q1.fieldAddr fl53_8 rfl) rfl rfl ?_
                    refine OL.q (Q1.load1 ti3 rfl (fun _ e => e ▸ (f29.cell 8 _ rfl))) rfl rfl ?_
                    refine OL.act rfl rfl (AW.callF cl87 rfl (r13in_c (w0 := w10)  (c.cap) (c.first) (50) (by first | omega | assumption) (by first | omega | assumption) (by first | omega | assumption)) ?_)
                    rintro _ w11 ⟨⟨b11, hb11, rfl⟩, hm11⟩
                    have f30 := f27.ext hm11
                    have f31 := f28.ext hm11
                    have f32 := f29.ext hm11
                    have hE11 := hE10.ext hm11
                    have hs11 := hm11.size
                    refine OL.q (Q1.pick_t rfl rfl) rfl rfl ?_
                    refine OL.q (Q1.move rfl) rfl rfl ?_
                    cases b11 with
                    | true =>
                      replace hb11 := hb11.symm
                      have := Ml.within_true hb11
                      refine OL.q (Q1.fieldAddr fl53_10 rfl) rfl rfl ?_
                      refine OL.q (Q1.load1 ti3 rfl (fun _ e => e ▸ (f32.cell 10 _ rfl))) rfl rfl ?_
                      refine OL.act rfl rfl (AW.callF cl87 rfl (r13in_c (w0 := w11)  (c.jitter) (0) (10) (by first | omega | assumption) (by first | omega | assumption) (by first | omega | assumption)) ?_)
                      rintro _ w12 ⟨⟨b12, hb12, rfl⟩, hm12⟩
                      have f33 := f30.ext hm12
                      have f34 := f31.ext hm12
                      have f35 := f32.ext hm12
                      have hE12 := hE11.ext hm12
                      have hs12 := hm12.size
                      refine OL.q (Q1.pick_t rfl rfl) rfl rfl ?_
                      refine OL.q (Q1.move rfl) rfl rfl ?_
                      cases b12 with
                      | true =>
                        replace hb12 := hb12.symm
                        have := Ml.within_true hb12
                        refine OL.q (Q1.fieldAddr fl53_11 rfl) rfl rfl ?_
                        refine OL.q (Q1.load1 ti3 rfl (fun _ e => e ▸ (f35.cell 11 _ rfl))) rfl rfl ?_
                        refine OL.act rfl rfl (AW.callF cl87 rfl (r13in_c (w0 := w12)  (c.net) (8) (64) (by first | omega | assumption) (by first | omega | assumption) (by first | omega | assumption)) ?_)
                        rintro _ w13 ⟨⟨b13, hb13, rfl⟩, hm13⟩
                        have f36 := f33.ext hm13
                        have f37 := f34.ext hm13
                        have f38 := f35.ext hm13
                        have hE13 := hE12.ext hm13
                        have hs13 := hm13.size
                        refine OL.q (Q1.pick_t rfl rfl) rfl rfl ?_
                        refine OL.q (Q1.assign rfl) rfl rfl ?_
                        refine OL.nil ?_
                        refine r_ret1 Try.func40 rfl rfl ?_
                        exact Ret.mk ⟨⟨_, (by first | simp [Ml.may, Ml.nodesM, Ml.sizesM, Ml.timesM, *] | (exfalso; omega)), rfl⟩, hE13⟩
                      | false =>
                        replace hb12 := hb12.symm
                        have := Ml.within_false hb12
                        refine OL.sk rfl rfl ?_
                        refine OL.sk rfl rfl ?_
                        refine OL.sk rfl rfl ?_
                        refine OL.q (Q1.pick_f rfl rfl) rfl rfl ?_
                        refine OL.q (Q1.assign rfl) rfl rfl ?_
                        refine OL.nil ?_
                        refine r_ret1 Try.func40 rfl rfl ?_
                        exact Ret.mk ⟨⟨_, (by first | simp [Ml.may, Ml.nodesM, Ml.sizesM, Ml.timesM, *] | (exfalso; omega)), rfl⟩, hE12⟩
                    | false =>
                      replace hb11 := hb11.symm
                      have := Ml.within_false hb11
                      refine OL.sk rfl rfl ?_
                      refine OL.sk rfl rfl ?_
                      refine OL.sk rfl rfl ?_
                      refine OL.q (Q1.pick_f rfl rfl) rfl rfl ?_
                      refine OL.q (Q1.move rfl) rfl rfl ?_
                      refine OL.sk rfl rfl ?_
                      refine OL.sk rfl rfl ?_
                      refine OL.sk rfl rfl ?_
                      refine OL.q (Q1.pick_f rfl rfl) rfl rfl ?_
                      refine OL.q (Q1.assign rfl) rfl rfl ?_
                      refine OL.nil ?_
                      refine r_ret1 Try.func40 rfl rfl ?_
                      exact Ret.mk ⟨⟨_, (by first | simp [Ml.may, Ml.nodesM, Ml.sizesM, Ml.timesM, *] | (exfalso; omega)), rfl⟩, hE11⟩
                  | false =>
                    replace hb10 := hb10.symm
                    have := Ml.within_false hb10
                    refine OL.sk rfl rfl ?_
                    refine OL.sk rfl rfl ?_
                    refine OL.sk rfl rfl ?_
                    refine OL.sk rfl rfl ?_
                    refine OL.sk rfl rfl ?_
                    refine OL.q (Q1.pick_f rfl rfl) rfl rfl ?_
                    refine OL.q (Q1.move rfl) rfl rfl ?_
                    refine OL.sk rfl rfl ?_
                    refine OL.sk rfl rfl ?_
                    refine OL.sk rfl rfl ?_
                    refine OL.q (Q1.pick_f rfl rfl) rfl rfl ?_
                    refine OL.q (Q1.move rfl) rfl rfl ?_
                    refine OL.sk rfl rfl ?_
                    refine OL.sk rfl rfl ?_
                    refine OL.sk rfl rfl ?_
                    refine OL.q (Q1.pick_f rfl rfl) rfl rfl ?_
                    refine OL.q (Q1.assign rfl) rfl rfl ?_
                    refine OL.nil ?_
                    refine r_ret1 Try.func40 rfl rfl ?_
                    exact Ret.mk ⟨⟨_, (by first | simp [Ml.may, Ml.nodesM, Ml.sizesM, Ml.timesM, *] | (exfalso; omega)), rfl⟩, hE10⟩
                | false =>
                  replace hb9 := hb9.symm
                  have := Ml.within_false hb9
                  refine OL.q (Q1.not rfl) rfl rfl ?_
                  refine OL.q (Q1.pick_f rfl rfl) rfl rfl ?_
                  refine OL.nil ?_
                  refine r_cond_t rfl ?_
                  refine r_seq ?_
                  refine r_region ?_
                  refine OL.q (Q1.assign rfl) rfl rfl ?_
                  refine OL.nil ?_
                  refine r_ret1 Try.func40 rfl rfl ?_
                  exact Ret.mk ⟨⟨_, (by first | simp [Ml.may, Ml.nodesM, Ml.sizesM, Ml.timesM, *] | (exfalso; omega)), rfl⟩, hE9⟩
              | false =>
                replace hb8 := hb8.symm
                have := Ml.within_false hb8
                refine OL.q (Q1.not rfl) rfl rfl ?_
                refine OL.q (Q1.pick_f rfl rfl) rfl rfl ?_
                refine OL.q (Q1.move rfl) rfl rfl ?_
                refine OL.sk rfl rfl ?_
                refine OL.sk rfl rfl ?_
                refine OL.sk rfl rfl ?_
                refine OL.sk rfl rfl ?_
                refine OL.q (Q1.pick_t rfl rfl) rfl rfl ?_
                refine OL.nil ?_
                refine r_cond_t rfl ?_
                refine r_seq ?_
                refine r_region ?_
                refine OL.q (Q1.assign rfl) rfl rfl ?_
                refine OL.nil ?_
                refine r_ret1 Try.func40 rfl rfl ?_
                exact Ret.mk ⟨⟨_, (by first | simp [Ml.may, Ml.nodesM, Ml.sizesM, Ml.timesM, *] | (exfalso; omega)), rfl⟩, hE8⟩
            | false =>
              replace hb7 := hb7.symm
              have := Ml.within_false hb7
              refine OL.q (Q1.not rfl) rfl rfl ?_
              refine OL.q (Q1.pick_f rfl rfl) rfl rfl ?_
              refine OL.q (Q1.move rfl) rfl rfl ?_
              refine OL.sk rfl rfl ?_
              refine OL.sk rfl rfl ?_
              refine OL.sk rfl rfl ?_
              refine OL.sk rfl rfl ?_
              refine OL.q (Q1.pick_t rfl rfl) rfl rfl ?_
              refine OL.q (Q1.move rfl) rfl rfl ?_
              refine OL.sk rfl rfl ?_
              refine OL.sk rfl rfl ?_
              refine OL.sk rfl rfl ?_
              refine OL.sk rfl rfl ?_
              refine OL.q (Q1.pick_t rfl rfl) rfl rfl ?_
              refine OL.nil ?_
              refine r_cond_t rfl ?_
              refine r_seq ?_
              refine r_region ?_
              refine OL.q (Q1.assign rfl) rfl rfl ?_
              refine OL.nil ?_
              refine r_ret1 Try.func40 rfl rfl ?_
              exact Ret.mk ⟨⟨_, (by first | simp [Ml.may, Ml.nodesM, Ml.sizesM, Ml.timesM, *] | (exfalso; omega)), rfl⟩, hE7⟩
          | false =>
            replace hb6 := hb6.symm
            have := Ml.within_false hb6
            refine OL.q (Q1.not rfl) rfl rfl ?_
            refine OL.q (Q1.move rfl) rfl rfl ?_
            refine OL.sk rfl rfl ?_
            refine OL.sk rfl rfl ?_
            refine OL.sk rfl rfl ?_
            refine OL.sk rfl rfl ?_
            refine OL.q (Q1.pick_t rfl rfl) rfl rfl ?_
            refine OL.q (Q1.move rfl) rfl rfl ?_
            refine OL.sk rfl rfl ?_
            refine OL.sk rfl rfl ?_
            refine OL.sk rfl rfl ?_
            refine OL.sk rfl rfl ?_
            refine OL.q (Q1.pick_t rfl rfl) rfl rfl ?_
            refine OL.q (Q1.move rfl) rfl rfl ?_
            refine OL.sk rfl rfl ?_
            refine OL.sk rfl rfl ?_
            refine OL.sk rfl rfl ?_
            refine OL.sk rfl rfl ?_
            refine OL.q (Q1.pick_t rfl rfl) rfl rfl ?_
            refine OL.nil ?_
            refine r_cond_t rfl ?_
            refine r_seq ?_
            refine r_region ?_
            refine OL.q (Q1.assign rfl) rfl rfl ?_
            refine OL.nil ?_
            refine r_ret1 Try.func40 rfl rfl ?_
            exact Ret.mk ⟨⟨_, (by first | simp [Ml.may, Ml.nodesM, Ml.sizesM, Ml.timesM, *] | (exfalso; omega)), rfl⟩, hE6⟩
        | false =>
          replace hb5 := hb5.symm
          have := Ml.within_false hb5
          refine OL.q (Q1.not rfl) rfl rfl ?_
          refine OL.q (Q1.pick_f rfl rfl) rfl rfl ?_
          refine OL.nil ?_
          refine r_cond_t rfl ?_
          refine r_seq ?_
          refine r_region ?_
          refine OL.q (Q1.assign rfl) rfl rfl ?_
          refine OL.nil ?_
          refine r_ret1 Try.func40 rfl rfl ?_
          exact Ret.mk ⟨⟨_, (by first | simp [Ml.may, Ml.nodesM, Ml.sizesM, Ml.timesM, *] | (exfalso; omega)), rfl⟩, hE5⟩
      | false =>
        replace hb4 := hb4.symm
        have := Ml.within_false hb4
        refine OL.q (Q1.not rfl) rfl rfl ?_
        refine OL.q (Q1.pick_f rfl rfl) rfl rfl ?_
        refine OL.q (Q1.move rfl) rfl rfl ?_
        refine OL.sk rfl rfl ?_
        refine OL.sk rfl rfl ?_
        refine OL.sk rfl rfl ?_
        refine OL.sk rfl rfl ?_
        refine OL.sk rfl rfl ?_
        refine OL.sk rfl rfl ?_
        refine OL.sk rfl rfl ?_
        refine OL.q (Q1.pick_t rfl rfl) rfl rfl ?_
        refine OL.nil ?_
        refine r_cond_t rfl ?_
        refine r_seq ?_
        refine r_region ?_
        refine OL.q (Q1.assign rfl) rfl rfl ?_
        refine OL.nil ?_
        refine r_ret1 Try.func40 rfl rfl ?_
        exact Ret.mk ⟨⟨_, (by first | simp [Ml.may, Ml.nodesM, Ml.sizesM, Ml.timesM, *] | (exfalso; omega)), rfl⟩, hE4⟩
set_option maxRecDepth 20000 in
set_option maxHeartbeats 4000000 in
theorem r13shards_c {w0 : World}  {c : Cfg} {v_c_words : Value} {v_c_cuts : Value} (h_c_words : Sl encS w0 (Iv 0 w0.heap.size) v_c_words c.words) (h_c_cuts : Sl encKey w0 (Iv 0 w0.heap.size) v_c_cuts c.cuts) (h_c : Cfg.Ok c) (hcs : CfgS c) :
    Calls Try.prog 42 #[.agg #[v_c_words, v_c_cuts, .int .i64 c.workers, .int .i64 c.copies, .int .i64 c.slots, .int .i64 c.batch, .int .i64 c.lease, .int .i64 c.hedge, .int .i64 c.first, .int .i64 c.cap, .int .i64 c.jitter, .int .i64 c.net]] w0 (Ret fun rv w1 => rv = .int .i64 (((Ml.shards c : Nat) : Int)) ∧ Ext w0 w1) := by
  have hE0 : Ext w0 w0 := Mod.refl _ _
  have hle1 := h_c_words.le
  have hle2 := h_c_cuts.le
  have hcl := hcs.cl
  refine calls_enter Try.func42 rfl Try.ntmps42 rfl ?_
  refine r_seq ?_
  refine r_region ?_
  refine OL.act rfl rfl (AW.box [v_c_words, v_c_cuts, .int .i64 c.workers, .int .i64 c.copies, .int .i64 c.slots, .int .i64 c.batch, .int .i64 c.lease, .int .i64 c.hedge, .int .i64 c.first, .int .i64 c.cap, .int .i64 c.jitter, .int .i64 c.net] rfl rfl ?_)
  intro w1 b1 hm1 hb1 hz1 hk1
  have f1 := h_c_words.ext hm1
  have f2 := h_c_cuts.ext hm1
  have hE1 := hE0.ext hm1
  have hs1 := hm1.size
  refine OL.q (Q1.assign rfl) rfl rfl ?_
  refine OL.nil ?_
  refine r_seq ?_
  refine r_seq ?_
  refine r_region ?_
  refine OL.q (Q1.loadN ti53 rfl (fun _ e => e ▸ hk1.row) rfl) rfl rfl ?_
  refine OL.act rfl rfl (AW.callF cl40 rfl (r13may_c (w0 := w1) (c := c)  ((f1).iv (Nat.zero_le _) (by omega)) ((f2).iv (Nat.zero_le _) (by omega)) (by first | assumption | exact Ml.Cfg.ok_of (by decide +kernel)) (by first | assumption)) ?_)
  rintro _ w2 ⟨⟨b2, hb2, rfl⟩, hm2⟩
  have f3 := f1.ext hm2
  have f4 := f2.ext hm2
  have f5 := hk1.ext hm2
  have hE2 := hE1.ext hm2
  have hs2 := hm2.size
  cases b2 with
  | true =>
    replace hb2 := hb2.symm
    have := Ml.may_bounds hb2
    refine OL.q (Q1.not rfl) rfl rfl ?_
    refine OL.nil ?_
    refine r_cond_f rfl ?_
    refine r_skip ?_
    refine r_seq ?_
    refine r_region ?_
    refine OL.q (Q1.fieldAddr fl53_1 rfl) rfl rfl ?_
    refine OL.q (Q1.load1 ti51 rfl (fun _ e => e ▸ (f5.cell 1 _ rfl))) rfl rfl ?_
    refine OL.q (Q1.lenSl Try.underlying51 (f4) rfl) rfl rfl ?_
    refine OL.q (Q1.addI (((c.cuts.length + 1 : Nat) : Int)) rfl rfl (by omega)) rfl rfl ?_
    refine OL.q (Q1.assign rfl) rfl rfl ?_
    refine OL.nil ?_
    refine r_ret1 Try.func42 rfl rfl ?_
    exact Ret.mk ⟨(congrArg (Value.int .i64) (by first | simp only [Ml.shards, *]; rfl | (exfalso; omega))), hE2⟩
  | false =>
    replace hb2 := hb2.symm
    refine OL.q (Q1.not rfl) rfl rfl ?_
    refine OL.nil ?_
    refine r_cond_t rfl ?_
    refine r_seq ?_
    refine r_region ?_
    refine OL.q (Q1.assign rfl) rfl rfl ?_
    refine OL.nil ?_
    refine r_ret1 Try.func42 rfl rfl ?_
    exact Ret.mk ⟨(congrArg (Value.int .i64) (by first | simp only [Ml.shards, *]; rfl | (exfalso; omega))), hE2⟩
set_option maxRecDepth 20000 in
set_option maxHeartbeats 4000000 in
theorem r13copies_c {w0 : World}  {c : Cfg} {v_c_words : Value} {v_c_cuts : Value} (shard : Int) (h_c_words : Sl encS w0 (Iv 0 w0.heap.size) v_c_words c.words) (h_c_cuts : Sl encKey w0 (Iv 0 w0.heap.size) v_c_cuts c.cuts) (h_c : Cfg.Ok c) (h_shard : I64 shard) (hcs : CfgS c) :
    Calls Try.prog 44 #[.agg #[v_c_words, v_c_cuts, .int .i64 c.workers, .int .i64 c.copies, .int .i64 c.slots, .int .i64 c.batch, .int .i64 c.lease, .int .i64 c.hedge, .int .i64 c.first, .int .i64 c.cap, .int .i64 c.jitter, .int .i64 c.net], .int .i64 shard] w0 (Ret fun rv w1 => (∃ gr, Acc Ik.encI 3 1 w1 gr rv (Ml.copiesM c shard) ∧ (gr = 0 ∨ w0.heap.size < gr)) ∧ Ext w0 w1) := by
  have hE0 : Ext w0 w0 := Mod.refl _ _
  have hle1 := h_c_words.le
  have hle2 := h_c_cuts.le
  have hc1 := h_c.workers
  have hc2 := h_c.copies
  have hc3 := h_c.slots
  have hc4 := h_c.batch
  have hc5 := h_c.lease
  have hc6 := h_c.hedge
  have hc7 := h_c.first
  have hc8 := h_c.cap
  have hc9 := h_c.jitter
  have hc10 := h_c.net
  refine calls_enter Try.func44 rfl Try.ntmps44 rfl ?_
  refine r_seq ?_
  refine r_region ?_
  refine OL.act rfl rfl (AW.box [v_c_words, v_c_cuts, .int .i64 c.workers, .int .i64 c.copies, .int .i64 c.slots, .int .i64 c.batch, .int .i64 c.lease, .int .i64 c.hedge, .int .i64 c.first, .int .i64 c.cap, .int .i64 c.jitter, .int .i64 c.net] rfl rfl ?_)
  intro w1 b1 hm1 hb1 hz1 hk1
  have f1 := h_c_words.ext hm1
  have f2 := h_c_cuts.ext hm1
  have hE1 := hE0.ext hm1
  have hs1 := hm1.size
  refine OL.q (Q1.assign rfl) rfl rfl ?_
  refine OL.nil ?_
  refine r_seq ?_
  refine r_region ?_
  refine OL.q (Q1.assign rfl) rfl rfl ?_
  refine OL.nil ?_
  refine r_seq ?_
  refine r_seq ?_
  refine r_region ?_
  refine OL.q (Q1.assign rfl) rfl rfl ?_
  refine OL.nil ?_
  refine r_block ?_
  refine r_loop (I := fun m E W => ∃ (v_l : Value) (g_l : Nat) (l : List Int) (j : Nat), E = [(1, .int .i64 shard), (2, ptr b1 0), (5, v_l), (6, .int .i64 (((j : Nat) : Int)))] ∧ m = c.copies.toNat - j ∧ Ext w0 W ∧ w1.heap.size ≤ W.heap.size ∧ Acc Ik.encI 3 1 W g_l v_l l ∧ (g_l = 0 ∨ w0.heap.size < g_l) ∧ Bk W b1 [v_c_words, v_c_cuts, .int .i64 c.workers, .int .i64 c.copies, .int .i64 c.slots, .int .i64 c.batch, .int .i64 c.lease, .int .i64 c.hedge, .int .i64 c.first, .int .i64 c.cap, .int .i64 c.jitter, .int .i64 c.net] 53 ∧ Sl encS W (Iv 0 w0.heap.size) v_c_words c.words ∧ Sl encKey W (Iv 0 w0.heap.size) v_c_cuts c.cuts ∧ b1 + 1 ≠ g_l ∧ (l = (List.range j).map (fun j : Nat => 1 + (shard + (j : Int)) % c.workers)) ∧ (l.length = j) ∧ (j ≤ c.copies.toNat) ∧ (j = 0 ∨ Ml.within shard 0 ((Ml.shards c : Int) - 1) = true)) ?_ ?_
  · refine ⟨_, _, ⟨(.slice none 0 0 : Value), (0 : Nat), ([] : List Int), (0 : Nat), rfl, rfl, hE1, Nat.le_refl _, Acc.nil, (by omega), hk1, f1, f2, (by omega), (by rfl), (by rfl), (by exact Nat.zero_le _), (by exact .inl rfl)⟩, ⟨rfl, rfl, rfl, rfl, trivial⟩⟩
  · rintro _ _ w2 ⟨v_l, g_l, l, j, rfl, rfl, hE2, hs2, ha1, hg1, f3, f4, f5, hn1, hi, hl, hj, hin⟩ ih1
    refine r_seq ?_
    refine r_seq ?_
    refine r_region ?_
    refine OL.q (Q1.move rfl) rfl rfl ?_
    refine OL.q (Q1.fieldAddr fl53_3 rfl) rfl rfl ?_
    refine OL.q (Q1.load1 ti3 rfl (fun _ e => e ▸ (f3.cell 3 _ rfl))) rfl rfl ?_
    refine OL.qb (Q1.lt rfl rfl) rfl rfl ?_
    intro b2 hb2
    refine OL.q (Q1.move rfl) rfl rfl ?_
    cases b2 with
    | true =>
      replace hb2 := of_decide_eq_true hb2.symm
      refine OL.q (Q1.move rfl) rfl rfl ?_
      refine OL.qb (Q1.ge rfl rfl) rfl rfl ?_
      intro b3 hb3
      refine OL.q (Q1.pick_t rfl rfl) rfl rfl ?_
      refine OL.q (Q1.move rfl) rfl rfl ?_
      cases b3 with
      | true =>
        replace hb3 := of_decide_eq_true hb3.symm
        refine OL.q (Q1.move rfl) rfl rfl ?_
        refine OL.q (Q1.loadN ti53 rfl (fun _ e => e ▸ f3.row) rfl) rfl rfl ?_
        refine OL.act rfl rfl (AW.callF cl42 rfl (r13shards_c (w0 := w2) (c := c)  ((f4).iv (Nat.zero_le _) (by omega)) ((f5).iv (Nat.zero_le _) (by omega)) (by first | assumption | exact Ml.Cfg.ok_of (by decide +kernel)) (by first | assumption)) ?_)
        rintro _ w3 ⟨rfl, hm2⟩
        have hl1 := ha1.lt
        have f6 := ha1.ext hm2
        have f7 := f3.ext hm2
        have f8 := f4.ext hm2
        have f9 := f5.ext hm2
        have hE3 := hE2.ext hm2
        have hs3 := hm2.size
        have := Ml.shards_le c
        refine OL.qb (Q1.lt rfl rfl) rfl rfl ?_
        intro b4 hb4
        refine OL.q (Q1.pick_t rfl rfl) rfl rfl ?_
        refine OL.nil ?_
        cases b4 with
        | true =>
          replace hb4 := of_decide_eq_true hb4.symm
          refine r_cond_t rfl ?_
          refine r_skip ?_
          refine r_seq ?_
          refine r_block ?_
          refine r_region ?_
          refine OL.q (Q1.move rfl) rfl rfl ?_
          have hmy := Ml.may_bounds (Ml.may_of_shards (c := c) (by omega))
          have hsl := Ml.shards_le c
          refine OL.q (Q1.move rfl) rfl rfl ?_
          refine OL.q (Q1.move rfl) rfl rfl ?_
          refine OL.q (Q1.addI ((shard + (((j : Nat) : Int)))) rfl rfl (by omega)) rfl rfl ?_
          refine OL.q (Q1.fieldAddr fl53_2 rfl) rfl rfl ?_
          refine OL.q (Q1.load1 ti3 rfl (fun _ e => e ▸ (f7.cell 2 _ rfl))) rfl rfl ?_
          have := Int.emod_nonneg ((shard + (((j : Nat) : Int))) : Int) (by omega : (c.workers : Int) ≠ 0)
          have := Int.emod_lt_of_pos ((shard + (((j : Nat) : Int))) : Int) (by omega : (0 : Int) < c.workers)
          refine OL.q (Q1.remI (((shard + (((j : Nat) : Int))) % c.workers)) rfl rfl ⟨by omega, by omega, rfl⟩) rfl rfl ?_
          refine OL.q (Q1.addI ((1 + (((shard + (((j : Nat) : Int))) % c.workers)))) rfl rfl (by omega)) rfl rfl ?_
          refine OL.act rfl rfl (AW.buildSlice [(.int .i64 ((1 + (((shard + (((j : Nat) : Int))) % c.workers)))) : Value)] Try.underlying55 ti3 rfl rfl rfl (by decide) ?_)
          intro w4 b5 hm3 hb5 hz2 hk2
          have hl2 := f6.lt
          have f10 := f6.ext hm3
          have f11 := f7.ext hm3
          have f12 := f8.ext hm3
          have f13 := f9.ext hm3
          have hE4 := hE3.ext hm3
          have hs4 := hm3.size
          have hl3 := Sl.of_blk (enc := Ik.encI) hk2 ([(1 + (((shard + (((j : Nat) : Int))) % c.workers)))] : List Int) 1 rfl rfl (by unfold maxLen; omega)
          have hl4 := f10.lt
          refine OL.act rfl rfl (AW.append f10 Try.underlying55 ti3 rfl Ik.encI_len Ik.encI_one rfl rfl (hl3) (by first | omega | (simp only [List.length_append, List.length_cons, List.length_nil]; omega) | (simp; omega)) (by unfold maxLen; first | omega | (simp only [List.length_append, List.length_cons, List.length_nil]; omega) | (simp; omega)) ?_)
          intro v1 g1 w5 ha2 hm4 hg2 hz3
          have hl5 := f10.lt
          have f14 := f11.keepG hm4 (by omega)
          have f15 := f12.keepG hm4 (by omega)
          have f16 := f13.keepG hm4 (by omega)
          have f17 := hl3.keepG hm4 (by omega)
          have hE5 := Ext.thenG hE4 hm4 (by omega)
          have hs5 := hm4.size
          refine OL.q (Q1.assign rfl) rfl rfl ?_
          refine OL.nil ?_
          refine r_inBlock ?_
          refine r_region ?_
          refine OL.q (Q1.move rfl) rfl rfl ?_
          refine OL.q (Q1.addI (((j + 1 : Nat) : Int)) rfl rfl (by omega)) rfl rfl ?_
          refine OL.q (Q1.assign rfl) rfl rfl ?_
          refine OL.nil ?_
          exact (ih1 _ _ _ ⟨(v1 : Value), (g1 : Nat), ((l ++ [(1 + (((shard + (((j : Nat) : Int))) % c.workers)))]) : List Int), (j + 1 : Nat), rfl, rfl, hE5, (by omega), ha2, (by omega), f14, f15, f16, (by omega), (by first | rw [hi, List.range_succ, List.map_append]; rfl | (exfalso; omega)), (by first | omega | (simp only [List.length_append, List.length_cons, List.length_nil]; omega) | (exfalso; omega)), (by first | omega | (exfalso; omega)), (by first | exact .inr (within_yes (by omega) (by omega)) | (exfalso; omega))⟩ (by omega)).sub ⟨rfl, rfl, rfl, rfl, trivial⟩
        | false =>
          replace hb4 := of_decide_eq_false hb4.symm
          refine r_cond_f rfl ?_
          refine r_exit rfl ?_
          refine r_seq ?_
          refine r_region ?_
          refine OL.q (Q1.move rfl) rfl rfl ?_
          refine OL.q (Q1.assign rfl) rfl rfl ?_
          refine OL.nil ?_
          refine r_ret1 Try.func44 rfl rfl ?_
          exact Ret.mk ⟨⟨_, Acc.cast f6 (by first | exact cop_1 hi (by omega) hj hin | exact cop_2 hi (by omega) hin | (exfalso; omega)), by omega⟩, hE3⟩
      | false =>
        replace hb3 := of_decide_eq_false hb3.symm
        refine OL.sk rfl rfl ?_
        refine OL.sk rfl rfl ?_
        refine OL.sk rfl rfl ?_
        refine OL.sk rfl rfl ?_
        refine OL.q (Q1.pick_f rfl rfl) rfl rfl ?_
        refine OL.nil ?_
        refine r_cond_f rfl ?_
        refine r_exit rfl ?_
        refine r_seq ?_
        refine r_region ?_
        refine OL.q (Q1.move rfl) rfl rfl ?_
        refine OL.q (Q1.assign rfl) rfl rfl ?_
        refine OL.nil ?_
        refine r_ret1 Try.func44 rfl rfl ?_
        exact Ret.mk ⟨⟨_, Acc.cast ha1 (by first | exact cop_1 hi (by omega) hj hin | exact cop_2 hi (by omega) hin | (exfalso; omega)), by omega⟩, hE2⟩
    | false =>
      replace hb2 := of_decide_eq_false hb2.symm
      refine OL.sk rfl rfl ?_
      refine OL.sk rfl rfl ?_
      refine OL.q (Q1.pick_f rfl rfl) rfl rfl ?_
      refine OL.q (Q1.move rfl) rfl rfl ?_
      refine OL.sk rfl rfl ?_
      refine OL.sk rfl rfl ?_
      refine OL.sk rfl rfl ?_
      refine OL.sk rfl rfl ?_
      refine OL.q (Q1.pick_f rfl rfl) rfl rfl ?_
      refine OL.nil ?_
      refine r_cond_f rfl ?_
      refine r_exit rfl ?_
      refine r_seq ?_
      refine r_region ?_
      refine OL.q (Q1.move rfl) rfl rfl ?_
      refine OL.q (Q1.assign rfl) rfl rfl ?_
      refine OL.nil ?_
      refine r_ret1 Try.func44 rfl rfl ?_
      exact Ret.mk ⟨⟨_, Acc.cast ha1 (by first | exact cop_1 hi (by omega) hj hin | exact cop_2 hi (by omega) hin | (exfalso; omega)), by omega⟩, hE2⟩
set_option maxRecDepth 20000 in
set_option maxHeartbeats 4000000 in
theorem r13keeps_c {w0 : World}  {c : Cfg} {v_c_words : Value} {v_c_cuts : Value} (worker : Int) (h_c_words : Sl encS w0 (Iv 0 w0.heap.size) v_c_words c.words) (h_c_cuts : Sl encKey w0 (Iv 0 w0.heap.size) v_c_cuts c.cuts) (h_c : Cfg.Ok c) (h_worker : I64 worker) (hcs : CfgS c) :
    Calls Try.prog 45 #[.agg #[v_c_words, v_c_cuts, .int .i64 c.workers, .int .i64 c.copies, .int .i64 c.slots, .int .i64 c.batch, .int .i64 c.lease, .int .i64 c.hedge, .int .i64 c.first, .int .i64 c.cap, .int .i64 c.jitter, .int .i64 c.net], .int .i64 worker] w0 (Ret fun rv w1 => (∃ gr, Acc Ik.encI 3 1 w1 gr rv (Ml.keepsM c worker) ∧ (gr = 0 ∨ w0.heap.size < gr)) ∧ Ext w0 w1) := by
  have hE0 : Ext w0 w0 := Mod.refl _ _
  have hle1 := h_c_words.le
  have hle2 := h_c_cuts.le
  have hc1 := h_c.workers
  have hc2 := h_c.copies
  have hc3 := h_c.slots
  have hc4 := h_c.batch
  have hc5 := h_c.lease
  have hc6 := h_c.hedge
  have hc7 := h_c.first
  have hc8 := h_c.cap
  have hc9 := h_c.jitter
  have hc10 := h_c.net
  refine calls_enter Try.func45 rfl Try.ntmps45 rfl ?_
  refine r_seq ?_
  refine r_region ?_
  refine OL.act rfl rfl (AW.box [v_c_words, v_c_cuts, .int .i64 c.workers, .int .i64 c.copies, .int .i64 c.slots, .int .i64 c.batch, .int .i64 c.lease, .int .i64 c.hedge, .int .i64 c.first, .int .i64 c.cap, .int .i64 c.jitter, .int .i64 c.net] rfl rfl ?_)
  intro w1 b1 hm1 hb1 hz1 hk1
  have f1 := h_c_words.ext hm1
  have f2 := h_c_cuts.ext hm1
  have hE1 := hE0.ext hm1
  have hs1 := hm1.size
  refine OL.q (Q1.assign rfl) rfl rfl ?_
  refine OL.nil ?_
  refine r_seq ?_
  refine r_region ?_
  refine OL.q (Q1.assign rfl) rfl rfl ?_
  refine OL.nil ?_
  refine r_seq ?_
  refine r_seq ?_
  refine r_region ?_
  refine OL.q (Q1.assign rfl) rfl rfl ?_
  refine OL.nil ?_
  refine r_block ?_
  refine r_loop (I := fun m E W => ∃ (v_l : Value) (g_l : Nat) (l : List Int) (k : Nat), E = [(1, .int .i64 worker), (2, ptr b1 0), (5, v_l), (6, .int .i64 (((k : Nat) : Int)))] ∧ m = Ml.shards c - k ∧ Ext w0 W ∧ w1.heap.size ≤ W.heap.size ∧ Acc Ik.encI 3 1 W g_l v_l l ∧ (g_l = 0 ∨ w0.heap.size < g_l) ∧ Bk W b1 [v_c_words, v_c_cuts, .int .i64 c.workers, .int .i64 c.copies, .int .i64 c.slots, .int .i64 c.batch, .int .i64 c.lease, .int .i64 c.hedge, .int .i64 c.first, .int .i64 c.cap, .int .i64 c.jitter, .int .i64 c.net] 53 ∧ Sl encS W (Iv 0 w0.heap.size) v_c_words c.words ∧ Sl encKey W (Iv 0 w0.heap.size) v_c_cuts c.cuts ∧ b1 + 1 ≠ g_l ∧ (l = ((List.range k).filter (fun s : Nat => (Ml.copiesM c (s : Int)).contains worker)).map (fun s : Nat => (s : Int))) ∧ (k ≤ Ml.shards c) ∧ (l.length ≤ 10 * k)) ?_ ?_
  · refine ⟨_, _, ⟨(.slice none 0 0 : Value), (0 : Nat), ([] : List Int), (0 : Nat), rfl, rfl, hE1, Nat.le_refl _, Acc.nil, (by omega), hk1, f1, f2, (by omega), (by rfl), (by exact Nat.zero_le _), (by simp)⟩, ⟨rfl, rfl, rfl, rfl, trivial⟩⟩
  · rintro _ _ w2 ⟨v_l, g_l, l, k, rfl, rfl, hE2, hs2, ha1, hg1, f3, f4, f5, hn1, hi, hkl, hll⟩ ih1
    have hsl := Ml.shards_le c
    refine r_seq ?_
    refine r_seq ?_
    refine r_region ?_
    refine OL.q (Q1.move rfl) rfl rfl ?_
    refine OL.q (Q1.loadN ti53 rfl (fun _ e => e ▸ f3.row) rfl) rfl rfl ?_
    refine OL.act rfl rfl (AW.callF cl42 rfl (r13shards_c (w0 := w2) (c := c)  ((f4).iv (Nat.zero_le _) (by omega)) ((f5).iv (Nat.zero_le _) (by omega)) (by first | assumption | exact Ml.Cfg.ok_of (by decide +kernel)) (by first | assumption)) ?_)
    rintro _ w3 ⟨rfl, hm2⟩
    have hl1 := ha1.lt
    have f6 := ha1.ext hm2
    have f7 := f3.ext hm2
    have f8 := f4.ext hm2
    have f9 := f5.ext hm2
    have hE3 := hE2.ext hm2
    have hs3 := hm2.size
    have := Ml.shards_le c
    refine OL.qb (Q1.lt rfl rfl) rfl rfl ?_
    intro b2 hb2
    refine OL.nil ?_
    cases b2 with
    | true =>
      replace hb2 := of_decide_eq_true hb2.symm
      refine r_cond_t rfl ?_
      refine r_skip ?_
      refine r_seq ?_
      refine r_block ?_
      refine r_seq ?_
      refine r_region ?_
      refine OL.q (Q1.loadN ti53 rfl (fun _ e => e ▸ f7.row) rfl) rfl rfl ?_
      refine OL.q (Q1.move rfl) rfl rfl ?_
      refine OL.act rfl rfl (AW.callF cl44 rfl (r13copies_c (w0 := w3) (c := c) (((k : Nat) : Int)) ((f8).iv (Nat.zero_le _) (by omega)) ((f9).iv (Nat.zero_le _) (by omega)) (by first | assumption | exact Ml.Cfg.ok_of (by decide +kernel)) (by first | omega | assumption) (by first | assumption)) ?_)
      rintro v1 w4 ⟨⟨gr1, h1, hg2⟩, hm3⟩
      have hl2 := f6.lt
      have f10 := f6.ext hm3
      have f11 := f7.ext hm3
      have f12 := f8.ext hm3
      have f13 := f9.ext hm3
      have hE4 := hE3.ext hm3
      have hs4 := hm3.size
      have hle_1 := h1.le
      have hlt_1 := h1.lt
      have := copies_len c (((k : Nat) : Int))
      refine OL.q (Q1.assign rfl) rfl rfl ?_
      refine OL.nil ?_
      refine r_seq ?_
      refine r_region ?_
      refine OL.q (Q1.assign rfl) rfl rfl ?_
      refine OL.nil ?_
      refine r_block ?_
      refine r_loop (I := fun m E W => ∃ (v_l2 : Value) (g_l2 : Nat) (l2 : List Int) (j : Nat), E = [(1, .int .i64 worker), (2, ptr b1 0), (5, v_l2), (6, .int .i64 (((k : Nat) : Int))), (7, v1), (8, .int .i64 (((j : Nat) : Int)))] ∧ m = (Ml.copiesM c (k : Int)).length - j ∧ Ext w0 W ∧ w4.heap.size ≤ W.heap.size ∧ Acc Ik.encI 3 1 W g_l2 v_l2 l2 ∧ (g_l2 = 0 ∨ w0.heap.size < g_l2) ∧ Bk W b1 [v_c_words, v_c_cuts, .int .i64 c.workers, .int .i64 c.copies, .int .i64 c.slots, .int .i64 c.batch, .int .i64 c.lease, .int .i64 c.hedge, .int .i64 c.first, .int .i64 c.cap, .int .i64 c.jitter, .int .i64 c.net] 53 ∧ Sl encS W (Iv 0 w0.heap.size) v_c_words c.words ∧ Sl encKey W (Iv 0 w0.heap.size) v_c_cuts c.cuts ∧ Acc Ik.encI 3 1 W gr1 v1 ((Ml.copiesM c (((k : Nat) : Int)))) ∧ b1 + 1 ≠ g_l2 ∧ (g_l2 ≠ gr1 ∨ gr1 = 0) ∧ (l2 = l ++ List.replicate (((Ml.copiesM c (k : Int)).take j).count worker) (k : Int)) ∧ (l2.length ≤ 10 * k + j) ∧ (j ≤ (Ml.copiesM c (k : Int)).length)) ?_ ?_
      · refine ⟨_, _, ⟨(v_l : Value), (g_l : Nat), (l : List Int), (0 : Nat), rfl, rfl, hE4, Nat.le_refl _, f10, (by omega), f11, f12, f13, h1, (by omega), (by omega), (by simp), (by omega), (by omega)⟩, ⟨rfl, rfl, rfl, rfl, rfl, rfl, trivial⟩⟩
      · rintro _ _ w5 ⟨v_l2, g_l2, l2, j, rfl, rfl, hE5, hs5, ha2, hg3, f14, f15, f16, f17, hn2, hn3, hkz, hlz, hjl⟩ ih2
        refine r_seq ?_
        refine r_seq ?_
        refine r_region ?_
        refine OL.q (Q1.move rfl) rfl rfl ?_
        refine OL.q (Q1.move rfl) rfl rfl ?_
        refine OL.q (Q1.lenSl Try.underlying55 (f17.sl) rfl) rfl rfl ?_
        refine OL.qb (Q1.lt rfl rfl) rfl rfl ?_
        intro b3 hb3
        refine OL.nil ?_
        cases b3 with
        | true =>
          replace hb3 := of_decide_eq_true hb3.symm
          refine r_cond_t rfl ?_
          refine r_skip ?_
          refine r_seq ?_
          refine r_block ?_
          refine r_seq ?_
          refine r_region ?_
          refine OL.q (Q1.move rfl) rfl rfl ?_
          refine OL.q (Q1.move rfl) rfl rfl ?_
          obtain ⟨x1, b4, o1, hx1, hr1, hl3, hu1, hw1⟩ := Sl.at' (P := Try.prog) f17.sl Try.underlying55 ti3 Ik.encI_len (k := .i64) (n := ((j : Nat) : Int)) (j) (by omega) (by first | assumption | omega)
          refine OL.q (Q1.indexAddr rfl rfl hr1) rfl rfl ?_
          refine OL.q (Q1.load1 ti3 rfl (fun _ e => e ▸ hw1)) rfl rfl ?_
          refine OL.q (Q1.move rfl) rfl rfl ?_
          refine OL.qb (Q1.eq rfl rfl) rfl rfl ?_
          intro b5 hb4
          refine OL.nil ?_
          cases b5 with
          | true =>
            replace hb4 := eq_of_beq hb4.symm
            refine r_cond_t rfl ?_
            refine r_region ?_
            refine OL.q (Q1.move rfl) rfl rfl ?_
            refine OL.q (Q1.move rfl) rfl rfl ?_
            refine OL.act rfl rfl (AW.buildSlice [(.int .i64 (((k : Nat) : Int)) : Value)] Try.underlying55 ti3 rfl rfl rfl (by decide) ?_)
            intro w6 b6 hm4 hb5 hz2 hk2
            have hl4 := ha2.lt
            have hl5 := f17.lt
            have f18 := ha2.ext hm4
            have f19 := f14.ext hm4
            have f20 := f15.ext hm4
            have f21 := f16.ext hm4
            have f22 := f17.ext hm4
            have hE6 := hE5.ext hm4
            have hs6 := hm4.size
            have hl6 := Sl.of_blk (enc := Ik.encI) hk2 ([((k : Nat) : Int)] : List Int) 1 rfl rfl (by unfold maxLen; omega)
            have hl7 := f18.lt
            refine OL.act rfl rfl (AW.append f18 Try.underlying55 ti3 rfl Ik.encI_len Ik.encI_one rfl rfl (hl6) (by first | omega | (simp only [List.length_append, List.length_cons, List.length_nil]; omega) | (simp; omega)) (by unfold maxLen; first | omega | (simp only [List.length_append, List.length_cons, List.length_nil]; omega) | (simp; omega)) ?_)
            intro v2 g1 w7 ha3 hm5 hg4 hz3
            have hl8 := f18.lt
            have hl9 := f22.lt
            have f23 := f19.keepG hm5 (by omega)
            have f24 := f20.keepG hm5 (by omega)
            have f25 := f21.keepG hm5 (by omega)
            have f26 := f22.keepG hm5 (by omega)
            have f27 := hl6.keepG hm5 (by omega)
            have hE7 := Ext.thenG hE6 hm5 (by omega)
            have hs7 := hm5.size
            refine OL.q (Q1.assign rfl) rfl rfl ?_
            refine OL.nil ?_
            refine r_inBlock ?_
            refine r_region ?_
            refine OL.q (Q1.move rfl) rfl rfl ?_
            refine OL.q (Q1.addI (((j + 1 : Nat) : Int)) rfl rfl (by omega)) rfl rfl ?_
            refine OL.q (Q1.assign rfl) rfl rfl ?_
            refine OL.nil ?_
            exact (ih2 _ _ _ ⟨(v2 : Value), (g1 : Nat), ((l2 ++ [((k : Nat) : Int)]) : List Int), (j + 1 : Nat), rfl, rfl, hE7, (by omega), ha3, (by omega), f23, f24, f25, f26, (by omega), (by omega), (by first | exact kp_yes hkz hx1 (by assumption) | exact kp_no hkz hx1 (by assumption) | (exfalso; omega)), (by first | omega | (simp only [List.length_append, List.length_cons, List.length_nil]; omega) | (exfalso; omega)), (by first | omega | (exfalso; omega))⟩ (by omega)).sub ⟨rfl, rfl, rfl, rfl, rfl, rfl, trivial⟩
          | false =>
            replace hb4 := ne_of_beq_false hb4.symm
            refine r_cond_f rfl ?_
            refine r_skip ?_
            refine r_inBlock ?_
            refine r_region ?_
            refine OL.q (Q1.move rfl) rfl rfl ?_
            refine OL.q (Q1.addI (((j + 1 : Nat) : Int)) rfl rfl (by omega)) rfl rfl ?_
            refine OL.q (Q1.assign rfl) rfl rfl ?_
            refine OL.nil ?_
            exact (ih2 _ _ _ ⟨(v_l2 : Value), (g_l2 : Nat), (l2 : List Int), (j + 1 : Nat), rfl, rfl, hE5, (by omega), ha2, (by omega), f14, f15, f16, f17, (by omega), (by omega), (by first | exact kp_yes hkz hx1 (by assumption) | exact kp_no hkz hx1 (by assumption) | (exfalso; omega)), (by first | omega | (simp only [List.length_append, List.length_cons, List.length_nil]; omega) | (exfalso; omega)), (by first | omega | (exfalso; omega))⟩ (by omega)).sub ⟨rfl, rfl, rfl, rfl, rfl, rfl, trivial⟩
        | false =>
          replace hb3 := of_decide_eq_false hb3.symm
          refine r_cond_f rfl ?_
          refine r_exit rfl ?_
          refine r_inBlock ?_
          refine r_region ?_
          refine OL.q (Q1.move rfl) rfl rfl ?_
          refine OL.q (Q1.addI (((k + 1 : Nat) : Int)) rfl rfl (by omega)) rfl rfl ?_
          refine OL.q (Q1.assign rfl) rfl rfl ?_
          refine OL.nil ?_
          exact (ih1 _ _ _ ⟨(v_l2 : Value), (g_l2 : Nat), (l2 : List Int), (k + 1 : Nat), rfl, rfl, hE5, (by omega), ha2, (by omega), f14, f15, f16, (by omega), (by first | exact kp_next hi hkz (by omega) | (exfalso; omega)), (by first | omega | (exfalso; omega)), (by first | omega | (exfalso; omega))⟩ (by omega)).sub ⟨rfl, rfl, rfl, rfl, trivial⟩
    | false =>
      replace hb2 := of_decide_eq_false hb2.symm
      refine r_cond_f rfl ?_
      refine r_exit rfl ?_
      refine r_seq ?_
      refine r_region ?_
      refine OL.q (Q1.move rfl) rfl rfl ?_
      refine OL.q (Q1.assign rfl) rfl rfl ?_
      refine OL.nil ?_
      refine r_ret1 Try.func45 rfl rfl ?_
      exact Ret.mk ⟨⟨_, Acc.cast f6 (by first | rw [hi, show k = Ml.shards c from by omega]; rfl | (exfalso; omega)), by omega⟩, hE3⟩
set_option maxRecDepth 20000 in
set_option maxHeartbeats 4000000 in
theorem r13words_c {w0 : World}  {c : Cfg} {v_c_words : Value} {v_c_cuts : Value} (shard : Int) (h_c_words : Sl encS w0 (Iv 0 w0.heap.size) v_c_words c.words) (h_c_cuts : Sl encKey w0 (Iv 0 w0.heap.size) v_c_cuts c.cuts) (h_c : Cfg.Ok c) (h_shard : I64 shard) (hcs : CfgS c) :
    Calls Try.prog 46 #[.agg #[v_c_words, v_c_cuts, .int .i64 c.workers, .int .i64 c.copies, .int .i64 c.slots, .int .i64 c.batch, .int .i64 c.lease, .int .i64 c.hedge, .int .i64 c.first, .int .i64 c.cap, .int .i64 c.jitter, .int .i64 c.net], .int .i64 shard] w0 (Ret fun rv w1 => (∃ gr, Acc encS 9 1 w1 gr rv (wordsR c shard) ∧ (gr = 0 ∨ w0.heap.size < gr)) ∧ Ext w0 w1) := by
  have hE0 : Ext w0 w0 := Mod.refl _ _
  have hle1 := h_c_words.le
  have hle2 := h_c_cuts.le
  have hwl := hcs.wl
  refine calls_enter Try.func46 rfl Try.ntmps46 rfl ?_
  refine r_seq ?_
  refine r_region ?_
  refine OL.act rfl rfl (AW.box [v_c_words, v_c_cuts, .int .i64 c.workers, .int .i64 c.copies, .int .i64 c.slots, .int .i64 c.batch, .int .i64 c.lease, .int .i64 c.hedge, .int .i64 c.first, .int .i64 c.cap, .int .i64 c.jitter, .int .i64 c.net] rfl rfl ?_)
  intro w1 b1 hm1 hb1 hz1 hk1
  have f1 := h_c_words.ext hm1
  have f2 := h_c_cuts.ext hm1
  have hE1 := hE0.ext hm1
  have hs1 := hm1.size
  refine OL.q (Q1.assign rfl) rfl rfl ?_
  refine OL.nil ?_
  refine r_seq ?_
  refine r_seq ?_
  refine r_region ?_
  refine OL.q (Q1.move rfl) rfl rfl ?_
  refine OL.qb (Q1.lt rfl rfl) rfl rfl ?_
  intro b2 hb2
  refine OL.q (Q1.move rfl) rfl rfl ?_
  cases b2 with
  | true =>
    replace hb2 := of_decide_eq_true hb2.symm
    refine OL.sk rfl rfl ?_
    refine OL.sk rfl rfl ?_
    refine OL.sk rfl rfl ?_
    refine OL.sk rfl rfl ?_
    refine OL.q (Q1.pick_t rfl rfl) rfl rfl ?_
    refine OL.nil ?_
    refine r_cond_t rfl ?_
    refine r_seq ?_
    refine r_region ?_
    refine OL.q (Q1.assign rfl) rfl rfl ?_
    refine OL.nil ?_
    refine r_ret1 Try.func46 rfl rfl ?_
    exact Ret.mk ⟨⟨0, Acc.cast Acc.nil (by first | exact wordsR_no (by omega) | exact wordsR_yes (by omega) (by omega) | (exfalso; omega)), .inl rfl⟩, hE1⟩
  | false =>
    replace hb2 := of_decide_eq_false hb2.symm
    refine OL.q (Q1.move rfl) rfl rfl ?_
    refine OL.q (Q1.loadN ti53 rfl (fun _ e => e ▸ hk1.row) rfl) rfl rfl ?_
    refine OL.act rfl rfl (AW.callF cl42 rfl (r13shards_c (w0 := w1) (c := c)  ((f1).iv (Nat.zero_le _) (by omega)) ((f2).iv (Nat.zero_le _) (by omega)) (by first | assumption | exact Ml.Cfg.ok_of (by decide +kernel)) (by first | assumption)) ?_)
    rintro _ w2 ⟨rfl, hm2⟩
    have f3 := f1.ext hm2
    have f4 := f2.ext hm2
    have f5 := hk1.ext hm2
    have hE2 := hE1.ext hm2
    have hs2 := hm2.size
    have := Ml.shards_le c
    refine OL.qb (Q1.ge rfl rfl) rfl rfl ?_
    intro b3 hb3
    refine OL.q (Q1.pick_f rfl rfl) rfl rfl ?_
    refine OL.nil ?_
    cases b3 with
    | true =>
      replace hb3 := of_decide_eq_true hb3.symm
      refine r_cond_t rfl ?_
      refine r_seq ?_
      refine r_region ?_
      refine OL.q (Q1.assign rfl) rfl rfl ?_
      refine OL.nil ?_
      refine r_ret1 Try.func46 rfl rfl ?_
      exact Ret.mk ⟨⟨0, Acc.cast Acc.nil (by first | exact wordsR_no (by omega) | exact wordsR_yes (by omega) (by omega) | (exfalso; omega)), .inl rfl⟩, hE2⟩
    | false =>
      replace hb3 := of_decide_eq_false hb3.symm
      refine r_cond_f rfl ?_
      refine r_skip ?_
      refine r_seq ?_
      refine r_region ?_
      refine OL.q (Q1.fieldAddr fl53_1 rfl) rfl rfl ?_
      refine OL.q (Q1.load1 ti51 rfl (fun _ e => e ▸ (f5.cell 1 _ rfl))) rfl rfl ?_
      refine OL.q (Q1.fieldAddr fl53_0 rfl) rfl rfl ?_
      refine OL.q (Q1.load1 ti22 rfl (fun _ e => e ▸ (f5.cell 0 _ rfl))) rfl rfl ?_
      refine OL.q (Q1.move rfl) rfl rfl ?_
      refine OL.act rfl rfl (AW.callF cl88 rfl (r12slice_c (w0 := w2) (cuts := c.cuts) (words := c.words) (shard) ((f4).iv (Nat.zero_le _) (by omega)) ((f3).iv (Nat.zero_le _) (by omega)) (by first | omega | assumption) (by first | assumption | exact hcs.cuts) (by first | assumption | exact hcs.words) (by first | assumption | omega)) ?_)
      rintro v1 w3 ⟨⟨gr1, h1, hg1⟩, hm3⟩
      have f6 := f3.ext hm3
      have f7 := f4.ext hm3
      have f8 := f5.ext hm3
      have hE3 := hE2.ext hm3
      have hs3 := hm3.size
      have hle_1 := h1.le
      have hlt_1 := h1.lt
      have := slice_len c.cuts c.words shard
      refine OL.q (Q1.assign rfl) rfl rfl ?_
      refine OL.nil ?_
      refine r_ret1 Try.func46 rfl rfl ?_
      exact Ret.mk ⟨⟨_, Acc.cast h1 (by first | exact wordsR_no (by omega) | exact wordsR_yes (by omega) (by omega) | (exfalso; omega)), by omega⟩, hE3⟩
set_option maxRecDepth 20000 in
set_option maxHeartbeats 4000000 in
theorem r13image_c {w0 : World}  {c : Cfg} {v_c_words : Value} {v_c_cuts : Value} (shard : Int) (h_c_words : Sl encS w0 (Iv 0 w0.heap.size) v_c_words c.words) (h_c_cuts : Sl encKey w0 (Iv 0 w0.heap.size) v_c_cuts c.cuts) (h_c : Cfg.Ok c) (h_shard : I64 shard) (hcs : CfgS c) :
    Calls Try.prog 38 #[.agg #[v_c_words, v_c_cuts, .int .i64 c.workers, .int .i64 c.copies, .int .i64 c.slots, .int .i64 c.batch, .int .i64 c.lease, .int .i64 c.hedge, .int .i64 c.first, .int .i64 c.cap, .int .i64 c.jitter, .int .i64 c.net], .int .i64 shard] w0 (Ret fun rv w1 => ∃ u0 u1, rv = .tuple #[u0, u1] ∧ (∃ gr, Acc encB 5 1 w1 gr u0 (imgC c shard) ∧ (gr = 0 ∨ w0.heap.size < gr)) ∧ u1 = .int .i64 (errC c shard) ∧ Ext w0 w1) := by
  have hE0 : Ext w0 w0 := Mod.refl _ _
  have hle1 := h_c_words.le
  have hle2 := h_c_cuts.le
  have hwl := hcs.wl
  refine calls_enter Try.func38 rfl Try.ntmps38 rfl ?_
  refine r_seq ?_
  refine r_region ?_
  refine OL.act rfl rfl (AW.box [v_c_words, v_c_cuts, .int .i64 c.workers, .int .i64 c.copies, .int .i64 c.slots, .int .i64 c.batch, .int .i64 c.lease, .int .i64 c.hedge, .int .i64 c.first, .int .i64 c.cap, .int .i64 c.jitter, .int .i64 c.net] rfl rfl ?_)
  intro w1 b1 hm1 hb1 hz1 hk1
  have f1 := h_c_words.ext hm1
  have f2 := h_c_cuts.ext hm1
  have hE1 := hE0.ext hm1
  have hs1 := hm1.size
  refine OL.q (Q1.assign rfl) rfl rfl ?_
  refine OL.q (Q1.assign rfl) rfl rfl ?_
  refine OL.nil ?_
  refine r_seq ?_
  refine r_seq ?_
  refine r_region ?_
  refine OL.q (Q1.move rfl) rfl rfl ?_
  refine OL.qb (Q1.lt rfl rfl) rfl rfl ?_
  intro b2 hb2
  refine OL.q (Q1.move rfl) rfl rfl ?_
  cases b2 with
  | true =>
    replace hb2 := of_decide_eq_true hb2.symm
    refine OL.sk rfl rfl ?_
    refine OL.sk rfl rfl ?_
    refine OL.sk rfl rfl ?_
    refine OL.sk rfl rfl ?_
    refine OL.q (Q1.pick_t rfl rfl) rfl rfl ?_
    refine OL.nil ?_
    refine r_cond_t rfl ?_
    refine r_seq ?_
    refine r_region ?_
    refine OL.q (Q1.assign rfl) rfl rfl ?_
    refine OL.q (Q1.assign rfl) rfl rfl ?_
    refine OL.nil ?_
    refine r_ret2 Try.func38 rfl rfl rfl ?_
    exact Ret.mk ⟨_, _, rfl, ⟨0, Acc.cast Acc.nil (by first | exact (imgC_no (by omega)).1 | exact (imgC_no (by omega)).2 | (rw [← hwR]; exact (imgC_yes (by omega) (by omega)).1) | (rw [← hwR]; exact (imgC_yes (by omega) (by omega)).2) | (exfalso; omega)), .inl rfl⟩, (congrArg (Value.int .i64) (by first | exact (imgC_no (by omega)).1 | exact (imgC_no (by omega)).2 | (rw [← hwR]; exact (imgC_yes (by omega) (by omega)).1) | (rw [← hwR]; exact (imgC_yes (by omega) (by omega)).2) | (exfalso; omega))), hE1⟩
  | false =>
    replace hb2 := of_decide_eq_false hb2.symm
    refine OL.q (Q1.move rfl) rfl rfl ?_
    refine OL.q (Q1.loadN ti53 rfl (fun _ e => e ▸ hk1.row) rfl) rfl rfl ?_
    refine OL.act rfl rfl (AW.callF cl42 rfl (r13shards_c (w0 := w1) (c := c)  ((f1).iv (Nat.zero_le _) (by omega)) ((f2).iv (Nat.zero_le _) (by omega)) (by first | assumption | exact Ml.Cfg.ok_of (by decide +kernel)) (by first | assumption)) ?_)
    rintro _ w2 ⟨rfl, hm2⟩
    have f3 := f1.ext hm2
    have f4 := f2.ext hm2
    have f5 := hk1.ext hm2
    have hE2 := hE1.ext hm2
    have hs2 := hm2.size
    have := Ml.shards_le c
    refine OL.qb (Q1.ge rfl rfl) rfl rfl ?_
    intro b3 hb3
    refine OL.q (Q1.pick_f rfl rfl) rfl rfl ?_
    refine OL.nil ?_
    cases b3 with
    | true =>
      replace hb3 := of_decide_eq_true hb3.symm
      refine r_cond_t rfl ?_
      refine r_seq ?_
      refine r_region ?_
      refine OL.q (Q1.assign rfl) rfl rfl ?_
      refine OL.q (Q1.assign rfl) rfl rfl ?_
      refine OL.nil ?_
      refine r_ret2 Try.func38 rfl rfl rfl ?_
      exact Ret.mk ⟨_, _, rfl, ⟨0, Acc.cast Acc.nil (by first | exact (imgC_no (by omega)).1 | exact (imgC_no (by omega)).2 | (rw [← hwR]; exact (imgC_yes (by omega) (by omega)).1) | (rw [← hwR]; exact (imgC_yes (by omega) (by omega)).2) | (exfalso; omega)), .inl rfl⟩, (congrArg (Value.int .i64) (by first | exact (imgC_no (by omega)).1 | exact (imgC_no (by omega)).2 | (rw [← hwR]; exact (imgC_yes (by omega) (by omega)).1) | (rw [← hwR]; exact (imgC_yes (by omega) (by omega)).2) | (exfalso; omega))), hE2⟩
    | false =>
      replace hb3 := of_decide_eq_false hb3.symm
      refine r_cond_f rfl ?_
      refine r_skip ?_
      refine r_seq ?_
      refine r_region ?_
      refine OL.q (Q1.loadN ti53 rfl (fun _ e => e ▸ f5.row) rfl) rfl rfl ?_
      refine OL.q (Q1.move rfl) rfl rfl ?_
      refine OL.act rfl rfl (AW.callF cl46 rfl (r13words_c (w0 := w2) (c := c) (shard) ((f3).iv (Nat.zero_le _) (by omega)) ((f4).iv (Nat.zero_le _) (by omega)) (by first | assumption | exact Ml.Cfg.ok_of (by decide +kernel)) (by first | omega | assumption) (by first | assumption)) ?_)
      rintro v1 w3 ⟨⟨gr1, h1, hg1⟩, hm3⟩
      have f6 := f3.ext hm3
      have f7 := f4.ext hm3
      have f8 := f5.ext hm3
      have hE3 := hE2.ext hm3
      have hs3 := hm3.size
      have hle_1 := h1.le
      have hlt_1 := h1.lt
      have := wordsR_len c shard
      have hwR := wordsR_yes (c := c) (shard := shard) (by omega) (by omega)
      have hwo : SOk (wordsR c shard) := hwR ▸ slice_ok hcs.words
      refine OL.act rfl rfl (AW.callF cl16 rfl (r9of_c (w0 := w3) (words := (wordsR c shard))  ((h1.sl).iv (Nat.zero_le _) (by omega)) (by first | assumption) (by first | assumption | omega)) ?_)
      rintro _ w4 ⟨v2, _, rfl, ⟨gr2, h2, hg2⟩, rfl, hm4⟩
      have hl1 := h1.lt
      have f9 := f6.ext hm4
      have f10 := f7.ext hm4
      have f11 := f8.ext hm4
      have f12 := h1.ext hm4
      have hE4 := hE3.ext hm4
      have hs4 := hm4.size
      have hle_2 := h2.le
      have hlt_2 := h2.lt
      have := imgM_len ((wordsR c shard))
      have := goodL_range ((wordsR c shard))
      refine OL.q (Q1.extract rfl rfl) rfl rfl ?_
      refine OL.q (Q1.extract rfl rfl) rfl rfl ?_
      refine OL.q (Q1.assign rfl) rfl rfl ?_
      refine OL.q (Q1.assign rfl) rfl rfl ?_
      refine OL.nil ?_
      refine r_ret2 Try.func38 rfl rfl rfl ?_
      exact Ret.mk ⟨_, _, rfl, ⟨_, Acc.cast h2 (by first | exact (imgC_no (by omega)).1 | exact (imgC_no (by omega)).2 | (rw [← hwR]; exact (imgC_yes (by omega) (by omega)).1) | (rw [← hwR]; exact (imgC_yes (by omega) (by omega)).2) | (exfalso; omega)), by omega⟩, (congrArg (Value.int .i64) (by first | exact (imgC_no (by omega)).1 | exact (imgC_no (by omega)).2 | (rw [← hwR]; exact (imgC_yes (by omega) (by omega)).1) | (rw [← hwR]; exact (imgC_yes (by omega) (by omega)).2) | (exfalso; omega))), hE4⟩
end Go.Proofs
