/-
  What the law PackReads needs, part 8 of 8: theory, and walks through the code.
-/
import Derived.Test.YtajedfbogchkcaaSPackReadsG
set_option linter.unusedVariables false
set_option linter.unusedSimpArgs false
namespace Go.Proofs
open Go.Ik Go.Ml
set_option maxRecDepth 20000 in
set_option maxHeartbeats 4000000 in
theorem each_c : ∀ (d : Nat) {w0 : World} {v_g : Value} {lo_g hi_g : Nat} {s : GS} {σ : Type} {ky : FuncId} {first cap : List Value} {B : Nat} {Inv : σ → (Nat → Prop) → World → Prop} {ok : σ → Str → Prop} {f : σ → Str → σ × Bool} (n : Int) (ahead : Str) (x : List Str × List Ed) (s0 : σ) (F0 : Nat → Prop) (hgr : Gr 0 w0 lo_g hi_g v_g (gnOf s)) (hhi : hi_g ≤ B) (hnode : ∀ y ∈ s, Corr s y ∧ GoodR y.1 ∧ Deep 12 y.1) (hn : I64 n) (hna : nodeAt (gnOf s) n = (finB x.1, x.2)) (hc : Corr s x) (hg : GoodR x.1) (hd : Deep d x.1) (hsz : s.length ≤ 1000000) (hah : ahead.length + 4 * d ≤ 1000000) (hy : Yield Try.prog ky first cap B Inv ok f) (hInv : Inv s0 F0 w0) (hB : B ≤ w0.heap.size) (hok : OkAll ok f s0 (x.1.map (ahead ++ ·))),
    Calls Try.prog 73 #[v_g, .int .i64 n, strV ahead, .func (.func ky) first.toArray cap.toArray] w0 (Ret fun rv w1 => rv = .bool (eachF f s0 (x.1.map (ahead ++ ·))).2 ∧ Mod F0 w0 w1 ∧ ∃ F1, Inv (eachF f s0 (x.1.map (ahead ++ ·))).1 F1 w1 ∧ ∀ b, F1 b → F0 b ∨ w0.heap.size ≤ b) := by
  intro d
  induction d using Nat.strongRecOn with
  | _ d ih0 =>
  intro w0 v_g lo_g hi_g s σ ky first cap B Inv ok f n ahead x s0 F0 hgr hhi hnode hn hna hc hg hd hsz hah hy hInv hB hok
  have hgl : (gnOf s).length ≤ 1000000 := by rw [gnOf_len]; exact hsz
  have hcorr := (All2.get hc).1
  rw [map_rests hg] at hok ⊢
  generalize hALL : (if finB x.1 = true then [ahead] else []) ++ restL ahead x.1 0 = ALL at hok ⊢
  have hF0 : ∀ b, F0 b → F0 b ∨ w0.heap.size ≤ b := fun b hb => .inl hb
  have hb0 : Ext w0 w0 := Mod.refl _ _
  have hE0 : Mod F0 w0 w0 := Mod.refl _ _
  refine calls_enter Try.func73 rfl Try.ntmps73 rfl ?_
  refine r_seq ?_
  refine r_region ?_
  refine OL.q (Q1.assign rfl) rfl rfl ?_
  refine OL.nil ?_
  refine r_seq ?_
  refine r_region ?_
  refine OL.q (Q1.move rfl) rfl rfl ?_
  refine OL.q (Q1.move rfl) rfl rfl ?_
  refine OL.act rfl rfl (AW.callF cl80 rfl (get_c (w0 := w0) (g := (gnOf s)) (n) hgr (by omega) (by first | omega | assumption) (by first | assumption | omega)) ?_)
  rintro _ w1 ⟨⟨fb1, ve1, rfl, hfb1, hs_1⟩, hm1⟩
  rw [hna] at hfb1 hs_1
  dsimp only at hfb1 hs_1
  obtain ⟨ad1, cp1, hv1⟩ := hs_1.shape
  subst hv1
  have f1 := hgr.ext hm1
  have hE1 := hE0.ext hm1
  have hb1 := hb0.ext hm1
  have hs1 := hm1.size
  have hle_1 := hs_1.le
  refine OL.act rfl rfl (AW.alloc ti91 ?_)
  intro w2 b1 hm2 hb2 hz1 hk1
  have f2 := f1.ext hm2
  have f3 := hs_1.ext hm2
  have hE2 := hE1.ext hm2
  have hb3 := hb1.ext hm2
  have hs2 := hm2.size
  refine OL.act rfl rfl (AW.store ti91 rfl rfl rfl rfl rfl hk1 (Nat.le_of_ble_eq_true rfl) ?_)
  intro w3 hm3 hz2 hk2
  replace hk2 : Bk w3 b1 [.bool fb1, (.slice ad1 x.2.length cp1)] 91 := hk2
  have f4 := f2.keepG hm3 (by omega)
  have f5 := f3.keepG hm3 (by omega)
  have hE3 := ModF.thenG hE2 hm3 (by omega)
  have hb4 := Ext.thenG hb3 hm3 (by omega)
  have hs3 := hm3.size
  refine OL.nil ?_
  refine r_seq ?_
  refine r_seq ?_
  refine r_region ?_
  refine OL.q (Q1.fieldAddr fl91_0 rfl) rfl rfl ?_
  refine OL.q (Q1.load1 ti4 rfl (fun _ e => e ▸ (hk2.cell 0 _ rfl))) rfl rfl ?_
  refine OL.q (Q1.move rfl) rfl rfl ?_
  cases fb1 with
  | true =>
    replace hfb1 := hfb1.symm
    refine OL.q (Q1.move rfl) rfl rfl ?_
    refine OL.q (Q1.move rfl) rfl rfl ?_
    rw [if_pos (by assumption)] at hALL
    rw [← hALL] at hok
    refine OL.act rfl rfl (AW.call (first := first) (cap := cap) hy.cl rfl rfl (hy.call _ _ _ _ (hy.ext _ _ _ _ hInv hb4) hok.1) ?_)
    rintro _ w4 ⟨rfl, hm4, F1, hI1, hF1⟩
    have hfar1 := Far.of hy hInv
    have f6 := f4.keepF hm4 hfar1 (by omega)
    have f7 := f5.keepF hm4 hfar1 (by omega)
    have f8 := hk2.keep hm4 (fun hx => by have := (hy.foot _ _ _ hInv _ hx).2; omega)
    have hE4 := ModF.thenF hE3 hm4 hF0
    have hs4 := hm4.size
    have hb5 : Ext w4 w4 := Mod.refl _ _
    have hFk1 : ∀ b, F1 b → F0 b ∨ w0.heap.size ≤ b := fun b hb => (hF1 b hb).elim (hF0 b) (fun h => .inr (by omega))
    generalize hb6 : (f s0 ahead).2 = b2
    replace hb6 := hb6.symm
    cases b2 with
    | true =>
      replace hb6 := hb6.symm
      refine OL.q (Q1.not rfl) rfl rfl ?_
      refine OL.q (Q1.pick_t rfl rfl) rfl rfl ?_
      refine OL.nil ?_
      refine r_cond_f rfl ?_
      refine r_skip ?_
      refine r_seq ?_
      refine r_seq ?_
      refine r_region ?_
      refine OL.q (Q1.fieldAddr fl91_1 rfl) rfl rfl ?_
      refine OL.q (Q1.load1 ti49 rfl (fun _ e => e ▸ (f8.cell 1 _ rfl))) rfl rfl ?_
      refine OL.q (Q1.lenSl Try.underlying49 (f7) rfl) rfl rfl ?_
      refine OL.q (Q1.move rfl) rfl rfl ?_
      refine OL.nil ?_
      refine r_block ?_
      refine r_loop (I := fun m E W => ∃ (k : Nat) (sk : σ) (Fk : Nat → Prop), E = [(0, v_g), (2, strV ahead), (3, .func (.func ky) first.toArray cap.toArray), (24, (.slice ad1 x.2.length cp1)), (25, .int .i64 (((x.2.length : Nat) : Int))), (26, .int .i64 (((k : Nat) : Int)))] ∧ m = x.2.length - k ∧ Mod F0 w0 W ∧ w4.heap.size ≤ W.heap.size ∧ Gr 0 W lo_g hi_g v_g ((gnOf s)) ∧ Sl encE W (Iv lo_g hi_g) ((.slice ad1 x.2.length cp1)) x.2 ∧ (Inv sk Fk W) ∧ (∀ b, Fk b → F0 b ∨ w0.heap.size ≤ b) ∧ (eachF f s0 ALL = eachF f sk (restL ahead x.1 k)) ∧ (OkAll ok f sk (restL ahead x.1 k))) ?_ ?_
      · refine ⟨_, _, ⟨(0 : Nat), ((f s0 ahead).1 : σ), (F1 : Nat → Prop), rfl, rfl, hE4, Nat.le_refl _, f6, f7, (hI1), (hFk1), (by first | (rw [← hALL, if_neg (by simp [*])]; rfl) | (rw [← hALL]; exact each_first (by assumption))), (by first | (rw [← hALL, if_neg (by simp [*])] at hok; exact hok) | exact hok.2 (by assumption))⟩, ⟨rfl, rfl, rfl, rfl, rfl, rfl, trivial⟩⟩
      · rintro _ _ w5 ⟨k, sk, Fk, rfl, rfl, hE5, hs5, f9, f10, hIL, hFk, hall, hok2⟩ ih1
        have hb7 : Ext w5 w5 := Mod.refl _ _
        refine r_seq ?_
        refine r_region ?_
        refine OL.qb (Q1.lt rfl rfl) rfl rfl ?_
        intro b3 hb8
        refine OL.nil ?_
        refine r_seq ?_
        cases b3 with
        | true =>
          replace hb8 := of_decide_eq_true hb8.symm
          refine r_cond_t rfl ?_
          refine r_skip ?_
          refine r_seq ?_
          refine r_block ?_
          refine r_seq ?_
          refine r_region ?_
          obtain ⟨x1, b4, o1, hx1, hr1, hl1, hu1, hw1⟩ := Sl.at' (P := Try.prog) f10 Try.underlying49 ti94 encE_len (k := .i64) (n := ((k : Nat) : Int)) (k) (by omega) (by first | assumption | omega)
          refine OL.q (Q1.indexAddr rfl rfl hr1) rfl rfl ?_
          refine OL.q (Q1.loadN ti94 rfl (fun _ e => e ▸ hw1) rfl) rfl rfl ?_
          obtain ⟨gg, jn, es1, hgk, hru, hto, hjs, hgd, hgne⟩ := edge_at hc hg hx1
          obtain ⟨de, rfl, hde⟩ := deep_edge hg hd hgk
          have hjlt := (List.getElem?_eq_some_iff.1 hjs).1
          have henc : encR x1.rune = encL gg.1 := by rw [hru]; exact encR_L hgd
          have hl4 := encL_len4 gg.1
          have hl5 : (encR x1.rune).length ≤ 4 := by rw [henc]; exact hl4
          refine OL.act rfl rfl (AW.alloc ti94 ?_)
          intro w6 b5 hm5 hb9 hz3 hk3
          have f11 := f9.ext hm5
          have f12 := f10.ext hm5
          have hE6 := hE5.ext hm5
          have hb10 := hb7.ext hm5
          have hs6 := hm5.size
          refine OL.act rfl rfl (AW.store ti94 rfl rfl rfl rfl rfl hk3 (Nat.le_of_ble_eq_true rfl) ?_)
          intro w7 hm6 hz4 hk4
          replace hk4 : Bk w7 b5 [.int .i32 x1.rune, .int .i64 x1.to] 94 := hk4
          have f13 := f11.keepG hm6 (by omega)
          have f14 := f12.keepG hm6 (by omega)
          have hE7 := ModF.thenG hE6 hm6 (by omega)
          have hb11 := Ext.thenG hb10 hm6 (by omega)
          have hs7 := hm6.size
          refine OL.nil ?_
          refine r_seq ?_
          refine r_region ?_
          refine OL.q (Q1.move rfl) rfl rfl ?_
          refine OL.q (Q1.fieldAddr fl94_1 rfl) rfl rfl ?_
          refine OL.q (Q1.load1 ti3 rfl (fun _ e => e ▸ (hk4.cell 1 _ rfl))) rfl rfl ?_
          refine OL.q (Q1.move rfl) rfl rfl ?_
          refine OL.q (Q1.fieldAddr fl94_0 rfl) rfl rfl ?_
          refine OL.q (Q1.load1 ti21 rfl (fun _ e => e ▸ (hk4.cell 0 _ rfl))) rfl rfl ?_
          refine OL.q (Q1.convRS (by kernel_rfl) Try.underlying9 rfl) rfl rfl ?_
          refine OL.q (Q1.catS rfl rfl (by first | omega | (simp only [List.length_append]; omega))) rfl rfl ?_
          refine OL.q (Q1.move rfl) rfl rfl ?_
          refine OL.act rfl rfl (AW.callF cl73 rfl (ih0 de (by omega) (x1.to) ((ahead ++ (encR x1.rune))) (gg.2, es1) sk Fk f13 hhi hnode (by omega) (by rw [hto]; exact gnOf_at hjs) (hnode _ (List.mem_of_getElem? hjs)).1 (hnode _ (List.mem_of_getElem? hjs)).2.1 hde hsz (by rw [henc]; simp only [List.length_append]; omega) hy (hy.ext _ _ _ _ hIL hb11) (by omega) (by rw [henc]; exact (OkAll.app (by rw [restL_step hgk] at hok2; exact hok2)).1)) ?_)
          rintro _ w8 ⟨rfl, hm7, F2, hI2, hF2⟩
          have hfar2 := Far.of hy hIL
          have f15 := f13.keepF hm7 hfar2 (by omega)
          have f16 := f14.keepF hm7 hfar2 (by omega)
          have hE8 := ModF.thenF hE7 hm7 hFk
          have hs8 := hm7.size
          have hb13 : Ext w8 w8 := Mod.refl _ _
          have hFk2 : ∀ b, F2 b → F0 b ∨ w0.heap.size ≤ b := fun b hb => (hF2 b hb).elim (hFk b) (fun h => .inr (by omega))
          rw [henc] at hI2 ⊢
          generalize hb12 : (eachF f sk (gg.2.map ((ahead ++ encL gg.1) ++ ·))).2 = b6
          replace hb12 := hb12.symm
          cases b6 with
          | true =>
            replace hb12 := hb12.symm
            refine OL.q (Q1.not rfl) rfl rfl ?_
            refine OL.nil ?_
            refine r_cond_f rfl ?_
            refine r_skip ?_
            refine r_inBlock ?_
            refine r_region ?_
            refine OL.q (Q1.addI (((k + 1 : Nat) : Int)) rfl rfl (by omega)) rfl rfl ?_
            refine OL.q (Q1.move rfl) rfl rfl ?_
            refine OL.nil ?_
            exact (ih1 _ _ _ ⟨(k + 1 : Nat), ((eachF f sk (gg.2.map ((ahead ++ encL gg.1) ++ ·))).1 : σ), (F2 : Nat → Prop), rfl, rfl, hE8, (by omega), f15, f16, (hI2), (hFk2), (by first | exact each_go hall (restL_step hgk) (by assumption) | (exfalso; omega)), (by first | exact (OkAll.app (by rw [restL_step hgk] at hok2; exact hok2)).2 (by assumption) | (exfalso; omega))⟩ (by omega)).sub ⟨rfl, rfl, rfl, rfl, rfl, rfl, trivial⟩
          | false =>
            replace hb12 := hb12.symm
            refine OL.q (Q1.not rfl) rfl rfl ?_
            refine OL.nil ?_
            refine r_cond_t rfl ?_
            refine r_seq ?_
            refine r_region ?_
            refine OL.q (Q1.assign rfl) rfl rfl ?_
            refine OL.nil ?_
            refine r_ret1 Try.func73 rfl rfl ?_
            refine Ret.mk ⟨congrArg Value.bool ?_, hE8, F2, ?_, hFk2⟩
            · first | (rw [each_stop hall (restL_step hgk) (by assumption)]; symm; assumption) | (rw [hall, restL_end (by omega)] <;> rfl) | (rw [← hALL, each_first_no (by assumption)] <;> rfl)
            · first | (rw [each_stop hall (restL_step hgk) (by assumption)]; exact hI2) | (rw [hall, restL_end (by omega)]; exact hI2) | (rw [← hALL, each_first_no (by assumption)]; exact hI2)
        | false =>
          replace hb8 := of_decide_eq_false hb8.symm
          refine r_cond_f rfl ?_
          refine r_exit rfl ?_
          refine r_seq ?_
          refine r_region ?_
          refine OL.q (Q1.assign rfl) rfl rfl ?_
          refine OL.nil ?_
          refine r_ret1 Try.func73 rfl rfl ?_
          refine Ret.mk ⟨congrArg Value.bool ?_, hE5, Fk, ?_, hFk⟩
          · first | (rw [each_stop hall (restL_step hgk) (by assumption)]; symm; assumption) | (rw [hall, restL_end (by omega)] <;> rfl) | (rw [← hALL, each_first_no (by assumption)] <;> rfl)
          · first | (rw [each_stop hall (restL_step hgk) (by assumption)]; exact hIL) | (rw [hall, restL_end (by omega)]; exact hIL) | (rw [← hALL, each_first_no (by assumption)]; exact hIL)
    | false =>
      replace hb6 := hb6.symm
      refine OL.q (Q1.not rfl) rfl rfl ?_
      refine OL.q (Q1.pick_t rfl rfl) rfl rfl ?_
      refine OL.nil ?_
      refine r_cond_t rfl ?_
      refine r_seq ?_
      refine r_region ?_
      refine OL.q (Q1.assign rfl) rfl rfl ?_
      refine OL.nil ?_
      refine r_ret1 Try.func73 rfl rfl ?_
      refine Ret.mk ⟨congrArg Value.bool ?_, hE4, F1, ?_, hFk1⟩
      · first | (rw [each_stop hall (restL_step hgk) (by assumption)]; symm; assumption) | (rw [hall, restL_end (by omega)] <;> rfl) | (rw [← hALL, each_first_no (by assumption)] <;> rfl)
      · first | (rw [each_stop hall (restL_step hgk) (by assumption)]; exact hI1) | (rw [hall, restL_end (by omega)]; exact hI1) | (rw [← hALL, each_first_no (by assumption)]; exact hI1)
  | false =>
    replace hfb1 := hfb1.symm
    refine OL.sk rfl rfl ?_
    refine OL.sk rfl rfl ?_
    refine OL.sk rfl rfl ?_
    refine OL.sk rfl rfl ?_
    refine OL.q (Q1.pick_f rfl rfl) rfl rfl ?_
    refine OL.nil ?_
    refine r_cond_f rfl ?_
    refine r_skip ?_
    refine r_seq ?_
    refine r_seq ?_
    refine r_region ?_
    refine OL.q (Q1.fieldAddr fl91_1 rfl) rfl rfl ?_
    refine OL.q (Q1.load1 ti49 rfl (fun _ e => e ▸ (hk2.cell 1 _ rfl))) rfl rfl ?_
    refine OL.q (Q1.lenSl Try.underlying49 (f5) rfl) rfl rfl ?_
    refine OL.q (Q1.move rfl) rfl rfl ?_
    refine OL.nil ?_
    refine r_block ?_
    refine r_loop (I := fun m E W => ∃ (k : Nat) (sk : σ) (Fk : Nat → Prop), E = [(0, v_g), (2, strV ahead), (3, .func (.func ky) first.toArray cap.toArray), (24, (.slice ad1 x.2.length cp1)), (25, .int .i64 (((x.2.length : Nat) : Int))), (26, .int .i64 (((k : Nat) : Int)))] ∧ m = x.2.length - k ∧ Mod F0 w0 W ∧ w3.heap.size ≤ W.heap.size ∧ Gr 0 W lo_g hi_g v_g ((gnOf s)) ∧ Sl encE W (Iv lo_g hi_g) ((.slice ad1 x.2.length cp1)) x.2 ∧ (Inv sk Fk W) ∧ (∀ b, Fk b → F0 b ∨ w0.heap.size ≤ b) ∧ (eachF f s0 ALL = eachF f sk (restL ahead x.1 k)) ∧ (OkAll ok f sk (restL ahead x.1 k))) ?_ ?_
    · refine ⟨_, _, ⟨(0 : Nat), (s0 : σ), (F0 : Nat → Prop), rfl, rfl, hE3, Nat.le_refl _, f4, f5, ((hy.ext _ _ _ _ hInv hb4)), (hF0), (by first | (rw [← hALL, if_neg (by simp [*])]; rfl) | (rw [← hALL]; exact each_first (by assumption))), (by first | (rw [← hALL, if_neg (by simp [*])] at hok; exact hok) | exact hok.2 (by assumption))⟩, ⟨rfl, rfl, rfl, rfl, rfl, rfl, trivial⟩⟩
    · rintro _ _ w4 ⟨k, sk, Fk, rfl, rfl, hE4, hs4, f6, f7, hIL, hFk, hall, hok2⟩ ih1
      have hb5 : Ext w4 w4 := Mod.refl _ _
      refine r_seq ?_
      refine r_region ?_
      refine OL.qb (Q1.lt rfl rfl) rfl rfl ?_
      intro b2 hb6
      refine OL.nil ?_
      refine r_seq ?_
      cases b2 with
      | true =>
        replace hb6 := of_decide_eq_true hb6.symm
        refine r_cond_t rfl ?_
        refine r_skip ?_
        refine r_seq ?_
        refine r_block ?_
        refine r_seq ?_
        refine r_region ?_
        obtain ⟨x1, b3, o1, hx1, hr1, hl1, hu1, hw1⟩ := Sl.at' (P := Try.prog) f7 Try.underlying49 ti94 encE_len (k := .i64) (n := ((k : Nat) : Int)) (k) (by omega) (by first | assumption | omega)
        refine OL.q (Q1.indexAddr rfl rfl hr1) rfl rfl ?_
        refine OL.q (Q1.loadN ti94 rfl (fun _ e => e ▸ hw1) rfl) rfl rfl ?_
        obtain ⟨gg, jn, es1, hgk, hru, hto, hjs, hgd, hgne⟩ := edge_at hc hg hx1
        obtain ⟨de, rfl, hde⟩ := deep_edge hg hd hgk
        have hjlt := (List.getElem?_eq_some_iff.1 hjs).1
        have henc : encR x1.rune = encL gg.1 := by rw [hru]; exact encR_L hgd
        have hl4 := encL_len4 gg.1
        have hl5 : (encR x1.rune).length ≤ 4 := by rw [henc]; exact hl4
        refine OL.act rfl rfl (AW.alloc ti94 ?_)
        intro w5 b4 hm4 hb7 hz3 hk3
        have f8 := f6.ext hm4
        have f9 := f7.ext hm4
        have hE5 := hE4.ext hm4
        have hb8 := hb5.ext hm4
        have hs5 := hm4.size
        refine OL.act rfl rfl (AW.store ti94 rfl rfl rfl rfl rfl hk3 (Nat.le_of_ble_eq_true rfl) ?_)
        intro w6 hm5 hz4 hk4
        replace hk4 : Bk w6 b4 [.int .i32 x1.rune, .int .i64 x1.to] 94 := hk4
        have f10 := f8.keepG hm5 (by omega)
        have f11 := f9.keepG hm5 (by omega)
        have hE6 := ModF.thenG hE5 hm5 (by omega)
        have hb9 := Ext.thenG hb8 hm5 (by omega)
        have hs6 := hm5.size
        refine OL.nil ?_
        refine r_seq ?_
        refine r_region ?_
        refine OL.q (Q1.move rfl) rfl rfl ?_
        refine OL.q (Q1.fieldAddr fl94_1 rfl) rfl rfl ?_
        refine OL.q (Q1.load1 ti3 rfl (fun _ e => e ▸ (hk4.cell 1 _ rfl))) rfl rfl ?_
        refine OL.q (Q1.move rfl) rfl rfl ?_
        refine OL.q (Q1.fieldAddr fl94_0 rfl) rfl rfl ?_
        refine OL.q (Q1.load1 ti21 rfl (fun _ e => e ▸ (hk4.cell 0 _ rfl))) rfl rfl ?_
        refine OL.q (Q1.convRS (by kernel_rfl) Try.underlying9 rfl) rfl rfl ?_
        refine OL.q (Q1.catS rfl rfl (by first | omega | (simp only [List.length_append]; omega))) rfl rfl ?_
        refine OL.q (Q1.move rfl) rfl rfl ?_
        refine OL.act rfl rfl (AW.callF cl73 rfl (ih0 de (by omega) (x1.to) ((ahead ++ (encR x1.rune))) (gg.2, es1) sk Fk f10 hhi hnode (by omega) (by rw [hto]; exact gnOf_at hjs) (hnode _ (List.mem_of_getElem? hjs)).1 (hnode _ (List.mem_of_getElem? hjs)).2.1 hde hsz (by rw [henc]; simp only [List.length_append]; omega) hy (hy.ext _ _ _ _ hIL hb9) (by omega) (by rw [henc]; exact (OkAll.app (by rw [restL_step hgk] at hok2; exact hok2)).1)) ?_)
        rintro _ w7 ⟨rfl, hm6, F1, hI1, hF1⟩
        have hfar1 := Far.of hy hIL
        have f12 := f10.keepF hm6 hfar1 (by omega)
        have f13 := f11.keepF hm6 hfar1 (by omega)
        have hE7 := ModF.thenF hE6 hm6 hFk
        have hs7 := hm6.size
        have hb11 : Ext w7 w7 := Mod.refl _ _
        have hFk1 : ∀ b, F1 b → F0 b ∨ w0.heap.size ≤ b := fun b hb => (hF1 b hb).elim (hFk b) (fun h => .inr (by omega))
        rw [henc] at hI1 ⊢
        generalize hb10 : (eachF f sk (gg.2.map ((ahead ++ encL gg.1) ++ ·))).2 = b5
        replace hb10 := hb10.symm
        cases b5 with
        | true =>
          replace hb10 := hb10.symm
          refine OL.q (Q1.not rfl) rfl rfl ?_
          refine OL.nil ?_
          refine r_cond_f rfl ?_
          refine r_skip ?_
          refine r_inBlock ?_
          refine r_region ?_
          refine OL.q (Q1.addI (((k + 1 : Nat) : Int)) rfl rfl (by omega)) rfl rfl ?_
          refine OL.q (Q1.move rfl) rfl rfl ?_
          refine OL.nil ?_
          exact (ih1 _ _ _ ⟨(k + 1 : Nat), ((eachF f sk (gg.2.map ((ahead ++ encL gg.1) ++ ·))).1 : σ), (F1 : Nat → Prop), rfl, rfl, hE7, (by omega), f12, f13, (hI1), (hFk1), (by first | exact each_go hall (restL_step hgk) (by assumption) | (exfalso; omega)), (by first | exact (OkAll.app (by rw [restL_step hgk] at hok2; exact hok2)).2 (by assumption) | (exfalso; omega))⟩ (by omega)).sub ⟨rfl, rfl, rfl, rfl, rfl, rfl, trivial⟩
        | false =>
          replace hb10 := hb10.symm
          refine OL.q (Q1.not rfl) rfl rfl ?_
          refine OL.nil ?_
          refine r_cond_t rfl ?_
          refine r_seq ?_
          refine r_region ?_
          refine OL.q (Q1.assign rfl) rfl rfl ?_
          refine OL.nil ?_
          refine r_ret1 Try.func73 rfl rfl ?_
          refine Ret.mk ⟨congrArg Value.bool ?_, hE7, F1, ?_, hFk1⟩
          · first | (rw [each_stop hall (restL_step hgk) (by assumption)]; symm; assumption) | (rw [hall, restL_end (by omega)] <;> rfl) | (rw [← hALL, each_first_no (by assumption)] <;> rfl)
          · first | (rw [each_stop hall (restL_step hgk) (by assumption)]; exact hI1) | (rw [hall, restL_end (by omega)]; exact hI1) | (rw [← hALL, each_first_no (by assumption)]; exact hI1)
      | false =>
        replace hb6 := of_decide_eq_false hb6.symm
        refine r_cond_f rfl ?_
        refine r_exit rfl ?_
        refine r_seq ?_
        refine r_region ?_
        refine OL.q (Q1.assign rfl) rfl rfl ?_
        refine OL.nil ?_
        refine r_ret1 Try.func73 rfl rfl ?_
        refine Ret.mk ⟨congrArg Value.bool ?_, hE4, Fk, ?_, hFk⟩
        · first | (rw [each_stop hall (restL_step hgk) (by assumption)]; symm; assumption) | (rw [hall, restL_end (by omega)] <;> rfl) | (rw [← hALL, each_first_no (by assumption)] <;> rfl)
        · first | (rw [each_stop hall (restL_step hgk) (by assumption)]; exact hIL) | (rw [hall, restL_end (by omega)]; exact hIL) | (rw [← hALL, each_first_no (by assumption)]; exact hIL)
set_option maxRecDepth 20000 in
set_option maxHeartbeats 4000000 in
theorem words1_c {w0 : World} {bl gl : Nat} {vl : Value} {l : List Str} (x : Str)  (hb : Bk w0 bl [vl] 22) (ha : Acc encS 9 1 w0 gl vl l) (hne : bl + 1 ≠ gl) (hln : l.length ≤ 1000000) :
    Calls Try.prog 74 #[strV x, ptr bl 0] w0 (Ret fun rv w1 => rv = .bool true ∧ Mod (Mg2 (bl + 1) gl) w0 w1 ∧ ∃ v2 g2, Bk w1 bl [v2] 22 ∧ Acc encS 9 1 w1 g2 v2 (l ++ [x]) ∧ (g2 = gl ∨ w0.heap.size < g2)) := by
  have hle1 := ha.le
  have hlt1 := ha.lt
  have hlt2 := hb.lt
  have hE0 : Mod (Mg2 (bl + 1) gl) w0 w0 := Mod.refl _ _
  refine calls_enter Try.func74 rfl Try.ntmps74 rfl ?_
  refine r_seq ?_
  refine r_region ?_
  refine OL.q (Q1.assign rfl) rfl rfl ?_
  refine OL.nil ?_
  refine r_seq ?_
  refine r_region ?_
  refine OL.q (Q1.load1 ti22 rfl (fun _ e => e ▸ (hb.cell 0 _ rfl))) rfl rfl ?_
  refine OL.q (Q1.move rfl) rfl rfl ?_
  refine OL.act rfl rfl (AW.buildSlice [strV x] Try.underlying22 ti9 rfl rfl rfl (by decide) ?_)
  intro w1 b1 hm1 hb1 hz1 hk1
  have hl1 := ha.lt
  have f1 := ha.ext hm1
  have f2 := hb.ext hm1
  have hE1 := hE0.ext hm1
  have hs1 := hm1.size
  have hl2 := Sl.of_blk (enc := encS) hk1 ([x] : List Str) 1 rfl rfl (by unfold maxLen; omega)
  have hl3 := f1.lt
  refine OL.act rfl rfl (AW.append f1 Try.underlying22 ti9 rfl encS_len encS_one rfl rfl (hl2) (by first | omega | (simp only [List.length_append, List.length_cons, List.length_nil]; omega) | (simp; omega)) (by unfold maxLen; first | omega | (simp only [List.length_append, List.length_cons, List.length_nil]; omega) | (simp; omega)) ?_)
  intro v1 g1 w2 ha1 hm2 hg1 hz2
  have hl4 := f1.lt
  have f3 := f2.keepG hm2 (by omega)
  have f4 := hl2.keepG hm2 (by omega)
  have hE2 := Mod.thenG2 hE1 hm2 (by omega)
  have hs2 := hm2.size
  obtain ⟨ad1, cp1, hv1⟩ := ha1.shape
  subst hv1
  refine OL.act rfl rfl (AW.store ti22 rfl rfl rfl rfl rfl f3 (Nat.le_of_ble_eq_true rfl) ?_)
  intro w3 hm3 hz3 hk2
  replace hk2 : Bk w3 bl [(.slice ad1 ((l ++ [x])).length cp1)] 22 := hk2
  have hl5 := ha1.lt
  have f5 := ha1.keepG hm3 (by omega)
  have f6 := f4.keepG hm3 (by omega)
  have hE3 := Mod.thenG2 hE2 hm3 (by omega)
  have hs3 := hm3.size
  refine OL.nil ?_
  refine r_seq ?_
  refine r_region ?_
  refine OL.q (Q1.assign rfl) rfl rfl ?_
  refine OL.nil ?_
  refine r_ret1 Try.func74 rfl rfl ?_
  exact Ret.mk ⟨congrArg Value.bool (by rfl), hE3, _, _, hk2, Acc.cast f5 (by rfl), by omega⟩
theorem words_yield (bl B : Nat) : Yield Try.prog 74 [] [ptr bl 0] B (fun s F w => BoxAcc 22 9 bl B s F w) (fun s _ => s.length ≤ 1000000) (fun (s : List Str) x => (s ++ [x], true)) where
  cl := by kernel_rfl
  ext := fun s F w w' h hm => h.ext hm
  foot := fun s F w h => h.foot
  call := fun s F w x h hok => by
    obtain ⟨v, g, hb, ha, hne, hB, hg, hF⟩ := h
    refine Calls.mono (words1_c x hb ha hne hok) ?_
    rintro e w' ⟨rv, rfl, rfl, hm, v2, g2, k1, k2, k3⟩
    refine ⟨_, rfl, rfl, hm.weaken (fun b hb' _ => (hF b).2 (by unfold Mg2 at hb'; omega)), ?_⟩
    exact BoxAcc.go hF hB hg hne hb.lt k1 k2 k3
set_option maxRecDepth 20000 in
set_option maxHeartbeats 4000000 in
theorem words_c {w0 : World} {v_g : Value} {lo_g hi_g : Nat} {N : List GN} {s : GS} {words : List Str}  (hgr : Gr 0 w0 lo_g hi_g v_g N) (hhi : hi_g ≤ w0.heap.size) (hok : GOk N s words) (hwl : words.length ≤ 1000000) :
    Calls Try.prog 28 #[v_g] w0 (Ret fun rv w1 => (∃ gr, Acc encS 9 1 w1 gr rv (words) ∧ (gr = 0 ∨ w0.heap.size < gr)) ∧ Ext w0 w1) := by
  obtain ⟨rfl, ⟨es0, hna, hc⟩, hgood, hdeep, hnode, hsz, hel⟩ := hok
  have hE0 : Ext w0 w0 := Mod.refl _ _
  refine calls_enter Try.func28 rfl Try.ntmps28 rfl ?_
  refine r_seq ?_
  refine r_region ?_
  refine OL.q (Q1.assign rfl) rfl rfl ?_
  refine OL.nil ?_
  refine r_seq ?_
  refine r_region ?_
  refine OL.act rfl rfl (AW.alloc ti22 ?_)
  intro w1 b1 hm1 hb1 hz1 hk1
  have f1 := hgr.ext hm1
  have hE1 := hE0.ext hm1
  have hs1 := hm1.size
  refine OL.nil ?_
  refine r_seq ?_
  refine r_region ?_
  refine OL.q (Q1.move rfl) rfl rfl ?_
  refine OL.q (Q1.makeFunc (first := []) (cap := [ptr b1 0]) rfl rfl) rfl rfl ?_
  have hi1 : BoxAcc 22 9 b1 b1 [] (fun b => b = b1 ∨ b + 1 = 0) w1 := ⟨_, 0, hk1, Acc.nil, by omega, Nat.le_refl _, .inl rfl, fun b => Iff.rfl⟩
  refine OL.act rfl rfl (AW.callF cl73 rfl (each_c 12 0 [] (words, es0) ([] : List Str) _ f1 (by omega) hnode (by omega) hna hc hgood hdeep hsz (by simp) (words_yield b1 b1) hi1 (by omega) (okAll_all 1000000 _ _ (by simp; omega))) ?_)
  rintro _ w2 ⟨rfl, hm2, F1, ⟨v1, g1, hb2, ha1, hne1, hB1, hgg1, hF1⟩, hF2⟩
  simp only [List.nil_append, List.map_id', eachF_all] at ha1
  replace hm2 : Mod (Mg (b1 + 1)) w1 w2 := hm2.weaken (fun b hb _ => by unfold Mg; rcases hb with hb | hb <;> omega)
  have hl1 := hk1.lt
  have f2 := f1.keepG hm2 (by omega)
  have hE2 := Ext.thenG hE1 hm2 (by omega)
  have hs2 := hm2.size
  refine OL.nil ?_
  refine r_seq ?_
  refine r_region ?_
  refine OL.q (Q1.load1 ti22 rfl (fun _ e => e ▸ (hb2.cell 0 _ rfl))) rfl rfl ?_
  refine OL.q (Q1.assign rfl) rfl rfl ?_
  refine OL.nil ?_
  refine r_ret1 Try.func28 rfl rfl ?_
  exact Ret.mk ⟨⟨_, ha1, by omega⟩, hE2⟩
end Go.Proofs
namespace Go.Proofs
open Go.Ik Go.Ml
set_option maxRecDepth 20000 in
set_option maxHeartbeats 4000000 in
theorem PackReads_c {w0 : World}  {v_b : Value} {b : List UInt8} (h_b : Sl encB w0 (Iv 0 w0.heap.size) v_b b) :
    Calls Try.prog 5 #[v_b] w0 (Ret fun rv w1 => (∃ rb : Bool, rb = true ∧ rv = .bool rb) ∧ Ext w0 w1) := by
  have hE0 : Ext w0 w0 := Mod.refl _ _
  have hle1 := h_b.le
  refine calls_enter Try.func5 rfl Try.ntmps5 rfl ?_
  refine r_seq ?_
  refine r_region ?_
  refine OL.q (Q1.assign rfl) rfl rfl ?_
  refine OL.nil ?_
  refine r_seq ?_
  refine r_seq ?_
  refine r_region ?_
  refine OL.q (Q1.move rfl) rfl rfl ?_
  refine OL.q (Q1.lenSl Try.underlying25 (h_b) rfl) rfl rfl ?_
  refine OL.qb (Q1.gt rfl rfl) rfl rfl ?_
  intro b1 hb1
  refine OL.nil ?_
  cases b1 with
  | true =>
    replace hb1 := of_decide_eq_true hb1.symm
    refine r_cond_t rfl ?_
    refine r_seq ?_
    refine r_region ?_
    refine OL.act rfl rfl (AW.callF cl14 rfl (awake9_c (w0 := w0)   ) ?_)
    rintro _ w1 ⟨⟨_, rfl, rfl⟩, hm1⟩
    have f1 := h_b.ext hm1
    have hE1 := hE0.ext hm1
    have hs1 := hm1.size
    refine OL.q (Q1.assign rfl) rfl rfl ?_
    refine OL.nil ?_
    refine r_ret1 Try.func5 rfl rfl ?_
    exact Ret.mk ⟨⟨_, (by rfl), rfl⟩, hE1⟩
  | false =>
    replace hb1 := of_decide_eq_false hb1.symm
    refine r_cond_f rfl ?_
    refine r_skip ?_
    refine r_seq ?_
    refine r_region ?_
    refine OL.q (Q1.move rfl) rfl rfl ?_
    have hdr := decG_rng b
    refine OL.act rfl rfl (AW.callF cl24 rfl (lendBytes_c (w0 := w0) (l := b)  ((h_b).iv (Nat.zero_le _) (by omega)) (by first | assumption | omega)) ?_)
    rintro _ w1 ⟨⟨bl1, rfl, h1, hg1⟩, hm1⟩
    have f1 := h_b.ext hm1
    have hE1 := hE0.ext hm1
    have hs1 := hm1.size
    have hle_1 := h1.lt
    refine OL.q (Q1.assign rfl) rfl rfl ?_
    refine OL.nil ?_
    refine r_seq ?_
    refine r_region ?_
    refine OL.q (Q1.move rfl) rfl rfl ?_
    refine OL.act rfl rfl (AW.callF cl22 rfl (decode_c (w0 := w1) (b := b)  (((h1.sl 3 (by simp) (by unfold maxLen; omega))).iv (Nat.zero_le _) (by omega)) (by first | assumption | omega)) ?_)
    rintro _ w2 ⟨vg1, _, rfl, ⟨lo1, hi1, hgr_1, hlo1, hhi1⟩, rfl, hm2⟩
    have f2 := f1.ext hm2
    have f3 := h1.ext hm2
    have hE2 := hE1.ext hm2
    have hs2 := hm2.size
    refine OL.q (Q1.move rfl) rfl rfl ?_
    refine OL.q (Q1.extract rfl rfl) rfl rfl ?_
    refine OL.q (Q1.extract rfl rfl) rfl rfl ?_
    refine OL.q (Q1.assign rfl) rfl rfl ?_
    refine OL.q (Q1.assign rfl) rfl rfl ?_
    refine OL.nil ?_
    refine r_seq ?_
    refine r_region ?_
    refine OL.q (Q1.move rfl) rfl rfl ?_
    refine OL.act rfl rfl (AW.callF cl25 rfl (r9decode_c (w0 := w2) (b := b)  ((f2).iv (Nat.zero_le _) (by omega)) (by first | assumption | omega)) ?_)
    rintro _ w3 ⟨v1, _, rfl, ⟨gr1, h2, hg2⟩, rfl, hm3⟩
    have f4 := f2.ext hm3
    have f5 := f3.ext hm3
    have f6 := hgr_1.ext hm3
    have hE3 := hE2.ext hm3
    have hs3 := hm3.size
    have hle_2 := h2.le
    have hlt_1 := h2.lt
    refine OL.q (Q1.move rfl) rfl rfl ?_
    refine OL.q (Q1.extract rfl rfl) rfl rfl ?_
    refine OL.q (Q1.extract rfl rfl) rfl rfl ?_
    refine OL.q (Q1.assign rfl) rfl rfl ?_
    refine OL.q (Q1.assign rfl) rfl rfl ?_
    refine OL.nil ?_
    refine r_seq ?_
    refine r_seq ?_
    refine r_region ?_
    refine OL.q (Q1.move rfl) rfl rfl ?_
    refine OL.act rfl rfl (AW.callF cl18 rfl (num_c (w0 := w3)  (((decG b).2)) (by first | omega | assumption)) ?_)
    rintro _ w4 ⟨rfl, hm4⟩
    have hl1 := h2.lt
    have f7 := f4.ext hm4
    have f8 := f5.ext hm4
    have f9 := f6.ext hm4
    have f10 := h2.ext hm4
    have hE4 := hE3.ext hm4
    have hs4 := hm4.size
    refine OL.q (Q1.move rfl) rfl rfl ?_
    refine OL.qb (Q1.ne rfl rfl) rfl rfl ?_
    intro b2 hb2
    obtain rfl : b2 = false := hb2.trans (by exact bne_eq_false_iff_eq.2 (reads_same b).1)
    refine OL.q (Q1.move rfl) rfl rfl ?_
    refine OL.q (Q1.move rfl) rfl rfl ?_
    have hgr1 := f9
    rcases f9 with ⟨hv1, hN1⟩ | ⟨b3, vn1, nds1, hv1, hN1, hrw1, hsl1, hrel1⟩
    · subst hv1
      try subst hN1
      refine OL.q (Q1.eqNil Try.underlying33 rfl rfl) rfl rfl ?_
      refine OL.q (Q1.move rfl) rfl rfl ?_
      refine OL.qb (Q1.ne rfl rfl) rfl rfl ?_
      intro b4 hb3
      obtain rfl : b4 = true := hb3.trans (by exact bne_iff_ne.2 (read_nil (by assumption)))
      refine OL.qb (Q1.neB Try.underlying4 rfl rfl) rfl rfl ?_
      intro b5 hb4
      obtain rfl : b5 = false := hb4.trans (by first | rfl | decide)
      refine OL.q (Q1.pick_f rfl rfl) rfl rfl ?_
      refine OL.q (Q1.move rfl) rfl rfl ?_
      refine OL.q (Q1.move rfl) rfl rfl ?_
      refine OL.q (Q1.move rfl) rfl rfl ?_
      refine OL.act rfl rfl (AW.callF cl26 rfl (keptBytes_c (w0 := w4) (lent := b) (l := b)  f8 ((f7).iv (Nat.zero_le _) (by omega)) (by first | assumption | omega)) ?_)
      rintro _ w5 ⟨⟨b6, hb5, rfl⟩, hm5⟩
      have hl2 := f10.lt
      have f11 := f7.ext hm5
      have f12 := f8.ext hm5
      have f13 := hgr1.ext hm5
      have f14 := f10.ext hm5
      have hE5 := hE4.ext hm5
      have hs5 := hm5.size
      obtain rfl : b6 = true := hb5.trans (by exact decide_eq_true rfl)
      refine OL.q (Q1.not rfl) rfl rfl ?_
      refine OL.q (Q1.pick_f rfl rfl) rfl rfl ?_
      refine OL.nil ?_
      refine r_cond_f rfl ?_
      refine r_skip ?_
      refine r_seq ?_
      refine r_region ?_
      have ha1 := Lent.acc f12 encB_len 3 rfl (by unfold maxLen; omega)
      have hl3 := ha1.lt
      refine OL.q (Q1.move rfl) rfl rfl ?_
      refine OL.act rfl rfl (AW.callF cl21 rfl (overBytes_c (w0 := w5) (l := b)  ha1 (by first | assumption | omega)) ?_)
      rintro _ w6 ⟨rfl, hm6⟩
      have hl4 := ha1.lt
      have hl5 := f14.lt
      have f15 := f11.keepG hm6 (by omega)
      have f16 := f13.keepG hm6 (by omega)
      have f17 := f14.keepG hm6 (by omega)
      have hE6 := Ext.thenG hE5 hm6 (by omega)
      have hs6 := hm6.size
      refine OL.nil ?_
      refine r_seq ?_
      refine r_region ?_
      refine OL.q (Q1.move rfl) rfl rfl ?_
      refine OL.q (Q1.eqNil Try.underlying33 rfl rfl) rfl rfl ?_
      refine OL.q (Q1.move rfl) rfl rfl ?_
      refine OL.sk rfl rfl ?_
      refine OL.sk rfl rfl ?_
      refine OL.sk rfl rfl ?_
      refine OL.sk rfl rfl ?_
      refine OL.q (Q1.pick_t rfl rfl) rfl rfl ?_
      refine OL.q (Q1.move rfl) rfl rfl ?_
      refine OL.act rfl rfl (AW.callF cl14 rfl (awake9_c (w0 := w6)   ) ?_)
      rintro _ w7 ⟨⟨_, rfl, rfl⟩, hm7⟩
      have hl6 := f17.lt
      have f18 := f15.ext hm7
      have f19 := f16.ext hm7
      have f20 := f17.ext hm7
      have hE7 := hE6.ext hm7
      have hs7 := hm7.size
      refine OL.q (Q1.pick_t rfl rfl) rfl rfl ?_
      refine OL.q (Q1.assign rfl) rfl rfl ?_
      refine OL.nil ?_
      refine r_ret1 Try.func5 rfl rfl ?_
      exact Ret.mk ⟨⟨_, (by rfl), rfl⟩, hE7⟩
    · subst hv1
      have hnl1 := (All2.get hrel1).1
      refine OL.q (Q1.eqNil Try.underlying33 rfl rfl) rfl rfl ?_
      refine OL.q (Q1.move rfl) rfl rfl ?_
      refine OL.qb (Q1.ne rfl rfl) rfl rfl ?_
      intro b4 hb3
      obtain rfl : b4 = false := hb3.trans (by exact bne_eq_false_iff_eq.2 (read_yes (by assumption)))
      refine OL.qb (Q1.neB Try.underlying4 rfl rfl) rfl rfl ?_
      intro b5 hb4
      obtain rfl : b5 = false := hb4.trans (by first | rfl | decide)
      refine OL.q (Q1.pick_f rfl rfl) rfl rfl ?_
      refine OL.q (Q1.move rfl) rfl rfl ?_
      refine OL.q (Q1.move rfl) rfl rfl ?_
      refine OL.q (Q1.move rfl) rfl rfl ?_
      refine OL.act rfl rfl (AW.callF cl26 rfl (keptBytes_c (w0 := w4) (lent := b) (l := b)  f8 ((f7).iv (Nat.zero_le _) (by omega)) (by first | assumption | omega)) ?_)
      rintro _ w5 ⟨⟨b6, hb5, rfl⟩, hm5⟩
      have hl2 := f10.lt
      have f11 := f7.ext hm5
      have f12 := f8.ext hm5
      have f13 := hgr1.ext hm5
      have f14 := f10.ext hm5
      have f15 := hrel1.ext hm5
      have f16 := hsl1.ext hm5
      have f17 := hrw1.ext hm5
      have hE5 := hE4.ext hm5
      have hs5 := hm5.size
      obtain rfl : b6 = true := hb5.trans (by exact decide_eq_true rfl)
      refine OL.q (Q1.not rfl) rfl rfl ?_
      refine OL.q (Q1.pick_f rfl rfl) rfl rfl ?_
      refine OL.nil ?_
      refine r_cond_f rfl ?_
      refine r_skip ?_
      refine r_seq ?_
      refine r_region ?_
      obtain ⟨hg0, hgq⟩ := read_words (b := b) (by assumption)
      have hgok := gok_of hg0
      rw [hgq] at f13
      have hwl60 := (good_words hg0).1
      have ha1 := Lent.acc f12 encB_len 3 rfl (by unfold maxLen; omega)
      have hl3 := ha1.lt
      refine OL.q (Q1.move rfl) rfl rfl ?_
      refine OL.act rfl rfl (AW.callF cl21 rfl (overBytes_c (w0 := w5) (l := b)  ha1 (by first | assumption | omega)) ?_)
      rintro _ w6 ⟨rfl, hm6⟩
      have hl4 := ha1.lt
      have hl5 := f14.lt
      have f18 := f11.keepG hm6 (by omega)
      have f19 := f13.keepG hm6 (by omega)
      have f20 := f14.keepG hm6 (by omega)
      have f21 := f15.keepG hm6 (by omega)
      have f22 := f16.keepG hm6 (by omega)
      have f23 := f17.keepG hm6 (by omega)
      have hE6 := Ext.thenG hE5 hm6 (by omega)
      have hs6 := hm6.size
      refine OL.nil ?_
      refine r_seq ?_
      refine r_region ?_
      refine OL.q (Q1.move rfl) rfl rfl ?_
      refine OL.q (Q1.eqNil Try.underlying33 rfl rfl) rfl rfl ?_
      refine OL.q (Q1.move rfl) rfl rfl ?_
      refine OL.q (Q1.move rfl) rfl rfl ?_
      refine OL.act rfl rfl (AW.callF cl28 rfl (words_c (w0 := w6)  f19 (by omega) (by assumption) (by first | omega | (simp; done))) ?_)
      rintro v2 w7 ⟨⟨gr2, h3, hg3⟩, hm7⟩
      have hl6 := f20.lt
      have f24 := f18.ext hm7
      have f25 := f19.ext hm7
      have f26 := f20.ext hm7
      have f27 := f21.ext hm7
      have f28 := f22.ext hm7
      have f29 := f23.ext hm7
      have hE7 := hE6.ext hm7
      have hs7 := hm7.size
      have hle_3 := h3.le
      have hlt_2 := h3.lt
      refine OL.q (Q1.move rfl) rfl rfl ?_
      refine OL.act rfl rfl (AW.callF cl27 rfl (sameT_c (w0 := w7) (a := ((decP b).1)) (b := ((decP b).1))  ((h3.sl).iv (Nat.zero_le _) (by omega)) ((f26.sl).iv (Nat.zero_le _) (by omega))) ?_)
      rintro _ w8 ⟨⟨b7, hb6, rfl⟩, hm8⟩
      have hl7 := f26.lt
      have hl8 := h3.lt
      have f30 := f24.ext hm8
      have f31 := f25.ext hm8
      have f32 := f26.ext hm8
      have f33 := f27.ext hm8
      have f34 := f28.ext hm8
      have f35 := f29.ext hm8
      have f36 := h3.ext hm8
      have hE8 := hE7.ext hm8
      have hs8 := hm8.size
      obtain rfl : b7 = true := hb6.trans (by exact decide_eq_true rfl)
      refine OL.q (Q1.pick_f rfl rfl) rfl rfl ?_
      refine OL.q (Q1.move rfl) rfl rfl ?_
      refine OL.act rfl rfl (AW.callF cl14 rfl (awake9_c (w0 := w8)   ) ?_)
      rintro _ w9 ⟨⟨_, rfl, rfl⟩, hm9⟩
      have hl9 := f32.lt
      have hl10 := f36.lt
      have f37 := f30.ext hm9
      have f38 := f31.ext hm9
      have f39 := f32.ext hm9
      have f40 := f33.ext hm9
      have f41 := f34.ext hm9
      have f42 := f35.ext hm9
      have f43 := f36.ext hm9
      have hE9 := hE8.ext hm9
      have hs9 := hm9.size
      refine OL.q (Q1.pick_t rfl rfl) rfl rfl ?_
      refine OL.q (Q1.assign rfl) rfl rfl ?_
      refine OL.nil ?_
      refine r_ret1 Try.func5 rfl rfl ?_
      exact Ret.mk ⟨⟨_, (by rfl), rfl⟩, hE9⟩
end Go.Proofs
