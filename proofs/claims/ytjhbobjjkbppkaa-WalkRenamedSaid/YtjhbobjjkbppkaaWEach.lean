/-
  The walk through the near words on a stack.
-/
import Derived.Test.YtjhbobjjkbppkaaWGraph
import Derived.Test.YtjhbobjjkbppkaaWAuto
set_option linter.unusedVariables false
set_option linter.unusedSimpArgs false
namespace Go.Proofs
open Go.Ik Go.Ml
set_option maxRecDepth 20000 in
set_option maxHeartbeats 2000000 in
theorem weach_c {w0 : World} {F G : Nat → Prop} {σ : Type} {A : σ → Res (fun _ => False)} {ky : FuncId} {first cap : List Value} {ok : σ → Str → Prop} {f : σ → Str → σ × Bool} {v_g v_q : Value} {lo_g hi_g : Nat} {s : GS} {words : List Str} {es0 : List Ed} {q : List Int} (d : Int) (s0 : σ) (hy : YieldS Try.prog ky first cap A ok f) (hA : (A s0).p F w0) (hF : ∀ b, F b → b < w0.heap.size) (hgr : Gr 0 w0 lo_g hi_g v_g (gnOf s)) (hhi : hi_g ≤ w0.heap.size) (hgF : ∀ b, lo_g ≤ b → b < hi_g → ¬ F b) (hq : Sl encRn w0 G v_q q) (hG : ∀ b, G b → ¬ F b) (hGl : ∀ b, G b → b < w0.heap.size) (hd : 0 ≤ d ∧ d ≤ 4) (hql : q.length ≤ 999) (hna0 : nodeAt (gnOf s) 0 = (finB words, es0)) (hc0 : Corr s (words, es0)) (hg0 : GoodR words) (hd0 : Deep 12 words) (hnode : ∀ y ∈ s, Corr s y ∧ GoodR y.1 ∧ Deep 12 y.1) (hsz : s.length ≤ 1000000) (hel : ∀ x ∈ gnOf s, x.2.length ≤ 1000000) (hwg : wgt words ≤ 500000) (hok : OkAll ok f s0 (distsM words q d)) :
    Calls Try.prog 36 #[v_g, v_q, .int .i64 d, .func (.func ky) first.toArray cap.toArray] w0 (Ret fun rv w1 => rv = .tuple #[] ∧ Mod F w0 w1 ∧ ∃ F2, (A (eachF f s0 (distsM words q d)).1).p F2 w1 ∧ ∀ b, F2 b → b < w1.heap.size ∧ (F b ∨ w0.heap.size ≤ b)) := by
  have hS00 := St.start1 (R := fun _ => False) hA (fun b hb => ⟨hF b hb, id⟩) (fun _ h => h.elim)
  have hle1 := hq.le
  have hgl : (gnOf s).length ≤ 1000000 := by rw [gnOf_len]; exact hsz
  refine calls_enter Try.func36 rfl Try.ntmps36 rfl ?_
  refine r_seq ?_
  refine r_region ?_
  refine OL.q (Q1.move rfl) rfl rfl ?_
  refine OL.q (Q1.move rfl) rfl rfl ?_
  refine OL.act rfl rfl (AW.callF cl54 rfl (astart_c (w0 := w0) (q := q) (d) (hq.mono (fun b hb => ⟨Nat.zero_le _, Nat.lt_of_lt_of_le (hGl b hb) hS00.mod.size⟩)) (by first | omega | assumption) (by first | assumption | omega)) ?_)
  rintro v1 w1 ⟨h1, hm1⟩
  have hS1 := hS00.ext hm1
  have hS2 : St (fun _ => False) F w0 w1 [A s0, slR encPos [(v1, ([Pos.mk 0 0]))]] := hS00.newSl hm1 h1
  have hle_1 := h1.le
  have f1 := hS2.sl (i := 1) (k := 0) rfl rfl
  obtain ⟨ad1, cp1, hv1⟩ := f1.shape
  subst hv1
  refine OL.q (Q1.build (vs := #[(0, (.int .i64 0 : Value)), (1, (.slice ad1 (([Pos.mk 0 0])).length cp1)), (2, strV (([] : Str)))]) (v := .agg #[.int .i64 0, (.slice ad1 (([Pos.mk 0 0])).length cp1), strV (([] : Str))]) rfl (fun _ => by kernel_rfl)) rfl rfl ?_
  refine OL.act rfl rfl (AW.buildSlice [(.agg #[.int .i64 0, (.slice ad1 (([Pos.mk 0 0])).length cp1), strV (([] : Str))] : Value)] Try.underlying97 ti96 rfl rfl rfl (by decide) ?_)
  intro w2 b1 hm2 hb1 hz1 hk1
  have hS3 := hS2.ext hm2
  have hl1 := Acc.of_blk (enc := encPW) hk1 ([(PW.mk 0 (SH.mk ad1 (([Pos.mk 0 0])).length cp1) (([] : Str)))] : List PW) 1 rfl encPW_len rfl (by unfold maxLen; omega)
  have hS4 : St (fun _ => False) F w0 w2 [A s0, slR encPos [((.slice ad1 (([Pos.mk 0 0])).length cp1), ([Pos.mk 0 0]))], accR encPW 96 3 ((.slice (some ⟨b1, 0, none⟩) 1 1)) ([(PW.mk 0 (SH.mk ad1 (([Pos.mk 0 0])).length cp1) (([] : Str)))])] := hS2.newAcc hm2 hl1 (.inr (by omega))
  refine OL.q (Q1.assign rfl) rfl rfl ?_
  refine OL.nil ?_
  refine r_block ?_
  have hS6 : St (fun _ => False) F w0 w2 [accR encPW 96 3 ((.slice (some ⟨b1, 0, none⟩) 1 1)) ([(PW.mk 0 (SH.mk ad1 (([Pos.mk 0 0])).length cp1) (([] : Str)))]), slR encPos [((.slice ad1 (([Pos.mk 0 0])).length cp1), ([Pos.mk 0 0]))], A s0] := hS4.sel [2, 1, 0] (by rfl) (by decide)
  refine r_loop (I := fun m E W => ∃ (v_ps : Value) (ps : List PW) (zs : List PZ) (V : List (Value × List Pos)) (sk : σ), E = [(0, v_g), (1, v_q), (2, .int .i64 d), (3, .func (.func ky) first.toArray cap.toArray), (8, v_ps)] ∧ m = wgtS zs ∧ St (fun _ => False) F w0 W [accR encPW 96 3 v_ps ps, slR encPos V, A sk] ∧ (All2 (PWR q d s V) ps zs) ∧ (eachF f s0 (distsM words q d) = eachF f sk (todoZ q d zs)) ∧ (OkAll ok f sk (todoZ q d zs)) ∧ (wgtS zs ≤ 500000) ∧ (ps.length ≤ 500000)) ?_ ?_
  · refine ⟨_, _, ⟨((.slice (some ⟨b1, 0, none⟩) 1 1) : Value), ([(PW.mk 0 (SH.mk ad1 (([Pos.mk 0 0])).length cp1) (([] : Str)))] : List PW), ([PZ.mk 0 (words, es0) []] : List PZ), ([((.slice ad1 (([Pos.mk 0 0])).length cp1), ([Pos.mk 0 0]))] : List (Value × List Pos)), (s0 : σ), rfl, rfl, hS6, (by exact PWR.start hd.1 rfl hna0 hc0 hg0 hd0), (by rw [todo_root]), (by rw [todo_root]; exact hok), (by simpa [wgtS] using hwg), (by simp)⟩, ⟨rfl, rfl, rfl, rfl, rfl, trivial⟩⟩
  · rintro _ _ w3 ⟨v_ps, ps, zs, V, sk, rfl, rfl, hS5, hzs, hall, hok2, hwz, hpl⟩ ih1
    refine r_seq ?_
    refine r_seq ?_
    refine r_region ?_
    refine OL.q (Q1.move rfl) rfl rfl ?_
    obtain ⟨g1, f2, hl2, k1⟩ := hS5.accK (i := 0) rfl
    refine OL.q (Q1.lenSl Try.underlying97 (f2.sl) rfl) rfl rfl ?_
    refine OL.qb (Q1.gt rfl rfl) rfl rfl ?_
    intro b2 hb2
    refine OL.nil ?_
    cases b2 with
    | true =>
      replace hb2 := of_decide_eq_true hb2.symm
      refine r_cond_t rfl ?_
      refine r_skip ?_
      refine r_block ?_
      refine r_seq ?_
      refine r_region ?_
      refine OL.q (Q1.move rfl) rfl rfl ?_
      refine OL.q (Q1.move rfl) rfl rfl ?_
      refine OL.q (Q1.lenSl Try.underlying97 (f2.sl) rfl) rfl rfl ?_
      refine OL.q (Q1.subI ((((ps.length : Nat) : Int) - 1)) rfl rfl (by omega)) rfl rfl ?_
      obtain ⟨x1, b3, o1, hx1, hr1, hl3, hw1⟩ := Sl.atF (P := Try.prog) f2.sl Try.underlying97 ti96 encPW_len (k := .i64) (n := (((ps.length : Nat) : Int) - 1)) ((ps.length - 1)) (by omega) (by first | assumption | omega)
      refine OL.q (Q1.indexAddr rfl rfl hr1) rfl rfl ?_
      refine OL.q (Q1.loadN ti96 rfl (fun _ e => e ▸ hw1) rfl) rfl rfl ?_
      obtain ⟨zs1, z, sh1, rfl, rfl, hz1, hzm, hna, hzc, hzg, hzf, hzk, ez, hzd, hzl⟩ := PWR.pop hzs hx1 (by omega)
      rw [todo_pop, zNear_eq hzg, ← eFrom_zero] at hall hok2
      have hwsn := wgtS_snoc zs1 z
      have hwe := wgt_edges hzg
      have hwga := wgt_len hz1
      have hdn := dist_near (q := q) (w := z.word) hd.1 (D := spreadF q.length d (stateP q d (runesI z.word)) q.length) rfl
      have hstl := stF_len (q.length + 1) d (rowF q (runesI z.word))
      change (stateP q d (runesI z.word)).length ≤ _ at hstl
      refine OL.act rfl rfl (AW.alloc ti96 ?_)
      intro w4 b4 hm3 hb3 hz2 hk2
      have hS7 := hS5.ext hm3
      have hS8 : St (fun _ => False) F w0 w4 [accR encPW 96 3 v_ps ps, slR encPos V, A sk, bkR b4 [.int .i64 0, .slice none 0 0, strV []] 96] := hS5.newBk hm3 hb3 hk2
      have f3 := hS8.bk (i := 3) rfl
      refine OL.act rfl rfl (AW.store ti96 rfl rfl rfl rfl rfl f3 (Nat.le_of_ble_eq_true rfl) ?_)
      intro w5 hm4 hz3 hk3
      have hS9 : St (fun _ => False) F w0 w5 [accR encPW 96 3 v_ps ps, slR encPos V, A sk, bkR b4 [.int .i64 ((z.n : Int)), sh1.val, strV z.word] 96] := hS8.bkK (i := 3) rfl hm4 hk3
      refine OL.nil ?_
      refine r_seq ?_
      refine r_region ?_
      refine OL.q (Q1.move rfl) rfl rfl ?_
      refine OL.q (Q1.move rfl) rfl rfl ?_
      obtain ⟨g2, f4, hl4, k2⟩ := hS9.accK (i := 0) rfl
      refine OL.q (Q1.lenSl Try.underlying97 (f4.sl) rfl) rfl rfl ?_
      refine OL.q (Q1.subI ((((ps.length : Nat) : Int) - 1)) rfl rfl (by omega)) rfl rfl ?_
      obtain ⟨v2, hr2, ha1⟩ := Acc.cut (P := Try.prog) f4 Try.underlying97 ti96 encPW_len (k := .i64) (n := (((ps.length : Nat) : Int) - 1)) ((ps.length - 1)) (by omega) (by omega)
      refine OL.q (Q1.sliceV rfl rfl rfl rfl hr2) rfl rfl ?_
      have hS10 : St (fun _ => False) F w0 w5 [accR encPW 96 3 v2 ((ps.take ((ps.length - 1)))), slR encPos V, A sk, bkR b4 [.int .i64 ((z.n : Int)), sh1.val, strV z.word] 96] := k2 _ _ _ _ (Mod.refl _ _) ha1 (.inl rfl)
      refine OL.q (Q1.assign rfl) rfl rfl ?_
      refine OL.nil ?_
      refine r_seq ?_
      refine r_seq ?_
      refine r_region ?_
      refine OL.q (Q1.move rfl) rfl rfl ?_
      refine OL.q (Q1.move rfl) rfl rfl ?_
      refine OL.q (Q1.fieldAddr fl96_1 rfl) rfl rfl ?_
      have f5 := hS10.bk (i := 3) rfl
      refine OL.q (Q1.load1 ti93 rfl (fun _ e => e ▸ (f5.cell 1 _ rfl))) rfl rfl ?_
      have f6 := hS10.out hq hG
      have f7 := hS10.slMem (i := 1) rfl hzm
      refine OL.act rfl rfl (AW.callF cl55 rfl (adist_c (w0 := w5) (q := q) (s := (stateP q d (runesI z.word))) (d) (f6.mono (fun b hb => ⟨Nat.zero_le _, Nat.lt_of_lt_of_le (hGl b hb) hS10.mod.size⟩)) (by first | omega | assumption) f7 (by first | assumption | omega) (by first | assumption | omega) (by first | assumption | omega)) ?_)
      rintro _ w6 ⟨_, _, rfl, rfl, ⟨b5, hb4, rfl⟩, hm5⟩
      have hS11 := hS10.ext hm5
      refine OL.q (Q1.move rfl) rfl rfl ?_
      refine OL.q (Q1.extract rfl rfl) rfl rfl ?_
      refine OL.q (Q1.extract rfl rfl) rfl rfl ?_
      refine OL.q (Q1.assign rfl) rfl rfl ?_
      refine OL.q (Q1.assign rfl) rfl rfl ?_
      refine OL.nil ?_
      refine r_seq ?_
      refine r_region ?_
      refine OL.q (Q1.move rfl) rfl rfl ?_
      refine OL.q (Q1.move rfl) rfl rfl ?_
      cases b5 with
      | true =>
        replace hb4 := hb4.symm
        refine OL.q (Q1.move rfl) rfl rfl ?_
        refine OL.q (Q1.move rfl) rfl rfl ?_
        refine OL.qb (Q1.eq rfl rfl) rfl rfl ?_
        intro b6 hb5
        refine OL.q (Q1.pick_t rfl rfl) rfl rfl ?_
        refine OL.q (Q1.move rfl) rfl rfl ?_
        cases b6 with
        | true =>
          replace hb5 := eq_of_beq hb5.symm
          refine OL.q (Q1.move rfl) rfl rfl ?_
          refine OL.q (Q1.fieldAddr fl96_0 rfl) rfl rfl ?_
          have f8 := hS11.bk (i := 3) rfl
          refine OL.q (Q1.load1 ti3 rfl (fun _ e => e ▸ (f8.cell 0 _ rfl))) rfl rfl ?_
          have f9 := Gr.keepM hgr hS11.mod hgF
          refine OL.act rfl rfl (AW.callF cl56 rfl (final_c (w0 := w6)  ((z.n : Int)) f9 (Nat.le_trans hhi hS11.mod.size) (by first | omega | assumption) (by first | assumption | omega | (simp; done))) ?_)
          rintro _ w7 ⟨⟨b7, hb6, rfl⟩, hm6⟩
          have hS12 := hS11.ext hm6
          rw [hna] at hb6
          dsimp only at hb6
          refine OL.q (Q1.pick_t rfl rfl) rfl rfl ?_
          refine OL.q (Q1.move rfl) rfl rfl ?_
          cases b7 with
          | true =>
            replace hb6 := hb6.symm
            refine OL.q (Q1.move rfl) rfl rfl ?_
            refine OL.q (Q1.fieldAddr fl96_2 rfl) rfl rfl ?_
            have f10 := hS12.bk (i := 3) rfl
            refine OL.q (Q1.load1 ti9 rfl (fun _ e => e ▸ (f10.cell 2 _ rfl))) rfl rfl ?_
            have hfin : finB z.x.1 = true := by assumption
            obtain ⟨Fy1, hAy1, hFy1, hky1⟩ := hS12.act (i := 2) rfl
            refine OL.act rfl rfl (AW.call (first := first) (cap := cap) hy.cl rfl rfl (hy.call _ _ _ _ hAy1 (fun b hb => (hFy1 b hb).2) (yz_ok hok2 ⟨hfin, hdn.1 (far_yes (by assumption) (by assumption))⟩)) ?_)
            rintro _ w8 ⟨rfl, hm7, F1, hB1, hF1⟩
            have hS13 : St (fun _ => False) F w0 w8 [accR encPW 96 3 v2 ((ps.take ((ps.length - 1)))), slR encPos V, A (f sk z.word).1, bkR b4 [.int .i64 ((z.n : Int)), sh1.val, strV z.word] 96] := hky1 _ _ _ hm7 hB1 hF1
            clear hAy1 hFy1 hky1 hB1 hF1
            generalize hb7 : (f sk z.word).2 = b8
            replace hb7 := hb7.symm
            cases b8 with
            | true =>
              replace hb7 := hb7.symm
              refine OL.q (Q1.not rfl) rfl rfl ?_
              refine OL.q (Q1.pick_t rfl rfl) rfl rfl ?_
              refine OL.nil ?_
              refine r_cond_f rfl ?_
              refine r_skip ?_
              refine r_seq ?_
              refine r_region ?_
              refine OL.q (Q1.move rfl) rfl rfl ?_
              refine OL.q (Q1.fieldAddr fl96_0 rfl) rfl rfl ?_
              have f11 := hS13.bk (i := 3) rfl
              refine OL.q (Q1.load1 ti3 rfl (fun _ e => e ▸ (f11.cell 0 _ rfl))) rfl rfl ?_
              have f12 := Gr.keepM hgr hS13.mod hgF
              refine OL.act rfl rfl (AW.callF cl57 rfl (edges_c (w0 := w8)  ((z.n : Int)) f12 (Nat.le_trans hhi hS13.mod.size) (by first | omega | assumption) (by first | assumption | omega | (simp; done)) (by first | assumption | (simp; done))) ?_)
              rintro v3 w9 ⟨⟨gr1, h2, hg1⟩, hm8⟩
              have hS14 := hS13.ext hm8
              have hS15 : St (fun _ => False) F w0 w9 [accR encPW 96 3 v2 ((ps.take ((ps.length - 1)))), slR encPos V, A (f sk z.word).1, bkR b4 [.int .i64 ((z.n : Int)), sh1.val, strV z.word] 96, accR encE 91 2 v3 (((nodeAt ((gnOf s)) ((z.n : Int))).2))] := hS13.newAcc hm8 h2 hg1
              clear hg1
              have hle_2 := h2.le
              have hne1 : (nodeAt (gnOf s) (z.n : Int)).2 = z.x.2 := by rw [hna]
              have hel1 := nodeAt_len hel (z.n : Int)
              rw [hne1] at hel1
              have hS16 : St (fun _ => False) F w0 w9 [accR encPW 96 3 v2 ((ps.take ((ps.length - 1)))), slR encPos V, A (f sk z.word).1, bkR b4 [.int .i64 ((z.n : Int)), sh1.val, strV z.word] 96, accR encE 91 2 v3 z.x.2] := (by rw [← hne1]; exact hS15)
              have hE2 : eachF f s0 (distsM words q d) = eachF f (f sk z.word).1 (eFrom q d z 0 ++ todoZ q d zs1) := yz_yes hall ⟨hfin, hdn.1 (far_yes (by assumption) (by assumption))⟩ (by assumption)
              have hE3 : OkAll ok f (f sk z.word).1 (eFrom q d z 0 ++ todoZ q d zs1) := yz_okyes hok2 ⟨hfin, hdn.1 (far_yes (by assumption) (by assumption))⟩ (by assumption)
              refine OL.q (Q1.assign rfl) rfl rfl ?_
              refine OL.nil ?_
              refine r_seq ?_
              refine r_region ?_
              refine OL.q (Q1.move rfl) rfl rfl ?_
              obtain ⟨g3, f13, hl5, k3⟩ := hS16.accK (i := 4) rfl
              refine OL.q (Q1.lenSl Try.underlying70 (f13.sl) rfl) rfl rfl ?_
              refine OL.q (Q1.subI ((((z.x.2.length : Nat) : Int) - 1)) rfl rfl (by omega)) rfl rfl ?_
              refine OL.q (Q1.assign rfl) rfl rfl ?_
              refine OL.nil ?_
              refine r_block ?_
              have hS18 : St (fun _ => False) F w0 w9 [accR encPW 96 3 v2 ((ps.take ((ps.length - 1)))), slR encPos V, bkR b4 [.int .i64 ((z.n : Int)), sh1.val, strV z.word] 96, accR encE 91 2 v3 z.x.2, A (f sk z.word).1] := hS16.sel [0, 1, 3, 4, 2] (by rfl) (by decide)
              refine r_loop (I := fun m E W => ∃ (v_ps2 : Value) (ps2 : List PW) (i : Int) (zs2 : List PZ) (V2 : List (Value × List Pos)), E = [(0, v_g), (1, v_q), (2, .int .i64 d), (3, .func (.func ky) first.toArray cap.toArray), (8, v_ps2), (9, ptr b4 0), (12, v3), (13, .int .i64 i)] ∧ m = (i + 1).toNat ∧ St (fun _ => False) F w0 W [accR encPW 96 3 v_ps2 ps2, slR encPos V2, bkR b4 [.int .i64 ((z.n : Int)), sh1.val, strV z.word] 96, accR encE 91 2 v3 z.x.2, A (f sk z.word).1] ∧ (All2 (PWR q d s V2) ps2 zs2) ∧ (∀ x ∈ V, x ∈ V2) ∧ (todoZ q d zs2 = eFrom q d z (i + 1).toNat ++ todoZ q d zs1) ∧ (wgtS zs2 ≤ wgtS zs1 + wgtFrom (groups (dropE z.x.1)) (i + 1).toNat) ∧ (-1 ≤ i ∧ i < (z.x.2.length : Int))) ?_ ?_
              · refine ⟨_, _, ⟨(v2 : Value), ((ps.take ((ps.length - 1))) : List PW), ((((z.x.2.length : Nat) : Int) - 1) : Int), (zs1 : List PZ), (V : List (Value × List Pos)), rfl, rfl, hS18, (by exact hz1), (by exact fun x hx => hx), (by (rw [eFrom_end (by have := grp_len hzc; omega)]; rfl)), (by omega), (by omega)⟩, ⟨rfl, rfl, rfl, rfl, rfl, rfl, rfl, rfl, trivial⟩⟩
              · rintro _ _ w10 ⟨v_ps2, ps2, i, zs2, V2, rfl, rfl, hS17, hzs2, hVm, htd, hwg2, hi1⟩ ih2
                refine r_seq ?_
                refine r_seq ?_
                refine r_region ?_
                refine OL.q (Q1.move rfl) rfl rfl ?_
                refine OL.qb (Q1.ge rfl rfl) rfl rfl ?_
                intro b9 hb8
                refine OL.nil ?_
                cases b9 with
                | true =>
                  replace hb8 := of_decide_eq_true hb8.symm
                  refine r_cond_t rfl ?_
                  refine r_skip ?_
                  refine r_seq ?_
                  refine r_block ?_
                  refine r_seq ?_
                  refine r_region ?_
                  refine OL.q (Q1.move rfl) rfl rfl ?_
                  refine OL.q (Q1.move rfl) rfl rfl ?_
                  obtain ⟨g4, f14, hl6, k4⟩ := hS17.accK (i := 3) rfl
                  obtain ⟨x2, b10, o2, hx2, hr3, hl7, hw2⟩ := Sl.atF (P := Try.prog) f14.sl Try.underlying70 ti91 encE_len (k := .i64) (n := i) ((i).toNat) (by omega) (by first | assumption | omega)
                  refine OL.q (Q1.indexAddr rfl rfl hr3) rfl rfl ?_
                  obtain ⟨gg, jn, es1, hgk, hru, hto, hjs, hgd, hgne⟩ := edge_at hzc hzg hx2
                  obtain ⟨de, rfl, hde⟩ := deep_edge hzg hzd hgk
                  have henc : encR x2.rune = encL gg.1 := by rw [hru]; exact encR_L hgd
                  have hlya := encL_len4 gg.1
                  have hlyb : (encR x2.rune).length ≤ 4 := by rw [henc]; exact hlya
                  have hgr1 : 0 ≤ x2.rune ∧ x2.rune ≤ 1114111 := by rw [hru]; have := hgd.1; omega
                  have hst1 := eFrom_step (q := q) (d := d) hgk
                  have hst2 := wgtFrom_step hgk
                  have hgw := wgt_pos gg.2
                  have hwgb := wgt_len hzs2
                  have hwgc := wgtFrom_le (groups (dropE z.x.1)) (i + 1).toNat
                  refine OL.q (Q1.loadN ti91 rfl (fun _ e => e ▸ hw2) rfl) rfl rfl ?_
                  refine OL.act rfl rfl (AW.alloc ti91 ?_)
                  intro w11 b11 hm9 hb9 hz4 hk4
                  have hS19 := hS17.ext hm9
                  have hS20 : St (fun _ => False) F w0 w11 [accR encPW 96 3 v_ps2 ps2, slR encPos V2, bkR b4 [.int .i64 ((z.n : Int)), sh1.val, strV z.word] 96, accR encE 91 2 v3 z.x.2, A (f sk z.word).1, bkR b11 [.int .i32 0, .int .i64 0] 91] := hS17.newBk hm9 hb9 hk4
                  have f15 := hS20.bk (i := 5) rfl
                  refine OL.act rfl rfl (AW.store ti91 rfl rfl rfl rfl rfl f15 (Nat.le_of_ble_eq_true rfl) ?_)
                  intro w12 hm10 hz5 hk5
                  have hS21 : St (fun _ => False) F w0 w12 [accR encPW 96 3 v_ps2 ps2, slR encPos V2, bkR b4 [.int .i64 ((z.n : Int)), sh1.val, strV z.word] 96, accR encE 91 2 v3 z.x.2, A (f sk z.word).1, bkR b11 [.int .i32 x2.rune, .int .i64 x2.to] 91] := hS20.bkK (i := 5) rfl hm10 hk5
                  refine OL.nil ?_
                  refine r_seq ?_
                  refine r_region ?_
                  refine OL.q (Q1.move rfl) rfl rfl ?_
                  refine OL.q (Q1.move rfl) rfl rfl ?_
                  refine OL.q (Q1.fieldAddr fl96_1 rfl) rfl rfl ?_
                  have f16 := hS21.bk (i := 2) rfl
                  refine OL.q (Q1.load1 ti93 rfl (fun _ e => e ▸ (f16.cell 1 _ rfl))) rfl rfl ?_
                  refine OL.q (Q1.fieldAddr fl91_0 rfl) rfl rfl ?_
                  have f17 := hS21.bk (i := 5) rfl
                  refine OL.q (Q1.load1 ti21 rfl (fun _ e => e ▸ (f17.cell 0 _ rfl))) rfl rfl ?_
                  have f18 := hS21.out hq hG
                  have f19 := hS21.slMem (i := 1) rfl (hVm _ hzm)
                  refine OL.act rfl rfl (AW.callF cl58 rfl (astep_c (w0 := w12) (q := q) (s := (stateP q d (runesI z.word))) (d) (x2.rune) (f18.mono (fun b hb => ⟨Nat.zero_le _, Nat.lt_of_lt_of_le (hGl b hb) hS21.mod.size⟩)) (by first | omega | assumption) f19 (by first | omega | assumption) (by first | assumption | omega) (by first | assumption | omega) (by first | assumption | omega)) ?_)
                  rintro v4 w13 ⟨⟨gr2, h3, hg2⟩, hm11⟩
                  have hS22 := hS21.ext hm11
                  have hS23 : St (fun _ => False) F w0 w13 [accR encPW 96 3 v_ps2 ps2, slR encPos V2, bkR b4 [.int .i64 ((z.n : Int)), sh1.val, strV z.word] 96, accR encE 91 2 v3 z.x.2, A (f sk z.word).1, bkR b11 [.int .i32 x2.rune, .int .i64 x2.to] 91, accR encPos 121 2 v4 ((stateF (q.length + 1) d (cstepF d q (spreadF q.length d ((stateP q d (runesI z.word)))) x2.rune)))] := hS21.newAcc hm11 h3 hg2
                  clear hg2
                  have hle_3 := h3.le
                  refine OL.q (Q1.assign rfl) rfl rfl ?_
                  refine OL.nil ?_
                  refine r_seq ?_
                  refine r_region ?_
                  refine OL.q (Q1.move rfl) rfl rfl ?_
                  obtain ⟨g5, f20, hl8, k5⟩ := hS23.accK (i := 6) rfl
                  refine OL.act rfl rfl (AW.callF cl59 rfl (adead_c (w0 := w13) (s := (stateF (q.length + 1) d (cstepF d q (spreadF q.length d ((stateP q d (runesI z.word)))) x2.rune)))  (f20.sl.iv (Nat.zero_le _) f20.lt)) ?_)
                  rintro _ w14 ⟨⟨b12, hb10, rfl⟩, hm12⟩
                  have hS24 := hS23.ext hm12
                  cases b12 with
                  | true =>
                    replace hb10 := hb10.symm
                    refine OL.q (Q1.not rfl) rfl rfl ?_
                    refine OL.nil ?_
                    refine r_cond_f rfl ?_
                    refine r_skip ?_
                    refine r_inBlock ?_
                    refine r_region ?_
                    refine OL.q (Q1.move rfl) rfl rfl ?_
                    refine OL.q (Q1.subI ((i - 1)) rfl rfl (by omega)) rfl rfl ?_
                    refine OL.q (Q1.assign rfl) rfl rfl ?_
                    refine OL.nil ?_
                    have hS25 : St (fun _ => False) F w0 w14 [accR encPW 96 3 v_ps2 ps2, slR encPos V2, bkR b4 [.int .i64 ((z.n : Int)), sh1.val, strV z.word] 96, accR encE 91 2 v3 z.x.2, A (f sk z.word).1] := hS24.sel [0, 1, 2, 3, 4] (by rfl) (by decide)
                    exact (ih2 _ _ _ ⟨(v_ps2 : Value), (ps2 : List PW), ((i - 1) : Int), (zs2 : List PZ), (V2 : List (Value × List Pos)), rfl, rfl, hS25, (by first | exact hpush | exact hzs2 | (exfalso; omega)), (by first | exact hVm | exact fun x hx => List.mem_append_left _ (hVm x hx) | (exfalso; omega)), (by first | (rw [todo_push rfl rfl, htd, eFrom_to (by omega) hst1]; simp) | (rw [htd, eFrom_to (by omega) hst1, eNear_dead hd.1 hzf hru hgd hjs hnode rfl (by assumption)]; rfl) | (exfalso; omega)), (by first | (rw [wgtS_snoc]; rw [wgtFrom_to (by omega) hst2]; simp only; omega) | (rw [wgtFrom_to (by omega) hst2]; omega) | (exfalso; omega)), (by first | omega | (exfalso; omega))⟩ (by omega)).sub ⟨rfl, rfl, rfl, rfl, rfl, rfl, rfl, rfl, trivial⟩
                  | false =>
                    replace hb10 := hb10.symm
                    refine OL.q (Q1.not rfl) rfl rfl ?_
                    refine OL.nil ?_
                    refine r_cond_t rfl ?_
                    refine r_region ?_
                    refine OL.q (Q1.move rfl) rfl rfl ?_
                    refine OL.q (Q1.fieldAddr fl91_1 rfl) rfl rfl ?_
                    have f21 := hS24.bk (i := 5) rfl
                    refine OL.q (Q1.load1 ti3 rfl (fun _ e => e ▸ (f21.cell 1 _ rfl))) rfl rfl ?_
                    refine OL.q (Q1.move rfl) rfl rfl ?_
                    refine OL.q (Q1.fieldAddr fl96_2 rfl) rfl rfl ?_
                    have f22 := hS24.bk (i := 2) rfl
                    refine OL.q (Q1.load1 ti9 rfl (fun _ e => e ▸ (f22.cell 2 _ rfl))) rfl rfl ?_
                    refine OL.q (Q1.fieldAddr fl91_0 rfl) rfl rfl ?_
                    refine OL.q (Q1.load1 ti21 rfl (fun _ e => e ▸ (f21.cell 0 _ rfl))) rfl rfl ?_
                    refine OL.q (Q1.convRS (by kernel_rfl) Try.underlying9 rfl) rfl rfl ?_
                    refine OL.q (Q1.catS rfl rfl (by first | omega | (simp only [List.length_append]; omega) | (simp only [List.length_append, List.length_cons, List.length_nil]; omega))) rfl rfl ?_
                    obtain ⟨g6, f23, hl9, k6⟩ := hS24.accK (i := 6) rfl
                    obtain ⟨ad2, cp2, hv2⟩ := f23.shape
                    subst hv2
                    refine OL.q (Q1.build (vs := #[(0, (.int .i64 x2.to : Value)), (1, (.slice ad2 ((stateF (q.length + 1) d (cstepF d q (spreadF q.length d ((stateP q d (runesI z.word)))) x2.rune))).length cp2)), (2, strV ((z.word ++ (encR x2.rune))))]) (v := .agg #[.int .i64 x2.to, (.slice ad2 ((stateF (q.length + 1) d (cstepF d q (spreadF q.length d ((stateP q d (runesI z.word)))) x2.rune))).length cp2), strV ((z.word ++ (encR x2.rune)))]) rfl (fun _ => by kernel_rfl)) rfl rfl ?_
                    refine OL.act rfl rfl (AW.buildSlice [(.agg #[.int .i64 x2.to, (.slice ad2 ((stateF (q.length + 1) d (cstepF d q (spreadF q.length d ((stateP q d (runesI z.word)))) x2.rune))).length cp2), strV ((z.word ++ (encR x2.rune)))] : Value)] Try.underlying97 ti96 rfl rfl rfl (by decide) ?_)
                    intro w15 b13 hm13 hb11 hz6 hk6
                    have hS25 := hS24.ext hm13
                    have hl10 := Sl.of_blk (enc := encPW) hk6 ([(PW.mk x2.to (SH.mk ad2 ((stateF (q.length + 1) d (cstepF d q (spreadF q.length d ((stateP q d (runesI z.word)))) x2.rune))).length cp2) ((z.word ++ (encR x2.rune))))] : List PW) 1 rfl rfl (by unfold maxLen; omega)
                    have hS26 : St (fun _ => False) F w0 w15 [accR encPW 96 3 v_ps2 ps2, slR encPos V2, bkR b4 [.int .i64 ((z.n : Int)), sh1.val, strV z.word] 96, accR encE 91 2 v3 z.x.2, A (f sk z.word).1, bkR b11 [.int .i32 x2.rune, .int .i64 x2.to] 91, accR encPos 121 2 ((.slice ad2 ((stateF (q.length + 1) d (cstepF d q (spreadF q.length d ((stateP q d (runesI z.word)))) x2.rune))).length cp2)) ((stateF (q.length + 1) d (cstepF d q (spreadF q.length d ((stateP q d (runesI z.word)))) x2.rune))), slR encPW [((.slice (some ⟨b13, 0, none⟩) 1 1), [(PW.mk x2.to (SH.mk ad2 ((stateF (q.length + 1) d (cstepF d q (spreadF q.length d ((stateP q d (runesI z.word)))) x2.rune))).length cp2) ((z.word ++ (encR x2.rune))))])]] := hS24.newSlB hm13 hb11 hz6 hl10
                    obtain ⟨g8, f24, hl11, k7⟩ := hS26.accK (i := 0) rfl
                    have f25 := hS26.sl (i := 7) (k := 0) rfl rfl
                    refine OL.act rfl rfl (AW.append f24 Try.underlying97 ti96 rfl encPW_len encPW_one rfl rfl (f25) (by first | omega | (simp only [List.length_append, List.length_cons, List.length_nil]; omega) | (simp; omega)) (by unfold maxLen; first | omega | (simp only [List.length_append, List.length_cons, List.length_nil]; omega) | (simp; omega)) ?_)
                    intro v5 g7 w16 ha2 hm14 hg3 hz7
                    have hS27 : St (fun _ => False) F w0 w16 [accR encPW 96 3 v5 ((ps2 ++ [(PW.mk x2.to (SH.mk ad2 ((stateF (q.length + 1) d (cstepF d q (spreadF q.length d ((stateP q d (runesI z.word)))) x2.rune))).length cp2) ((z.word ++ (encR x2.rune))))])), slR encPos V2, bkR b4 [.int .i64 ((z.n : Int)), sh1.val, strV z.word] 96, accR encE 91 2 v3 z.x.2, A (f sk z.word).1, bkR b11 [.int .i32 x2.rune, .int .i64 x2.to] 91, accR encPos 121 2 ((.slice ad2 ((stateF (q.length + 1) d (cstepF d q (spreadF q.length d ((stateP q d (runesI z.word)))) x2.rune))).length cp2)) ((stateF (q.length + 1) d (cstepF d q (spreadF q.length d ((stateP q d (runesI z.word)))) x2.rune))), slR encPW [((.slice (some ⟨b13, 0, none⟩) 1 1), [(PW.mk x2.to (SH.mk ad2 ((stateF (q.length + 1) d (cstepF d q (spreadF q.length d ((stateP q d (runesI z.word)))) x2.rune))).length cp2) ((z.word ++ (encR x2.rune))))])]] := k7 _ _ _ _ hm14 ha2 hg3
                    clear hg3
                    refine OL.q (Q1.assign rfl) rfl rfl ?_
                    have hS28 : St (fun _ => False) F w0 w16 [accR encPW 96 3 v5 ((ps2 ++ [(PW.mk x2.to (SH.mk ad2 ((stateF (q.length + 1) d (cstepF d q (spreadF q.length d ((stateP q d (runesI z.word)))) x2.rune))).length cp2) ((z.word ++ (encR x2.rune))))])), slR encPos V2, bkR b4 [.int .i64 ((z.n : Int)), sh1.val, strV z.word] 96, accR encE 91 2 v3 z.x.2, A (f sk z.word).1, bkR b11 [.int .i32 x2.rune, .int .i64 x2.to] 91, slR encPos [((.slice ad2 ((stateF (q.length + 1) d (cstepF d q (spreadF q.length d ((stateP q d (runesI z.word)))) x2.rune))).length cp2), (stateF (q.length + 1) d (cstepF d q (spreadF q.length d ((stateP q d (runesI z.word)))) x2.rune)))], slR encPW [((.slice (some ⟨b13, 0, none⟩) 1 1), [(PW.mk x2.to (SH.mk ad2 ((stateF (q.length + 1) d (cstepF d q (spreadF q.length d ((stateP q d (runesI z.word)))) x2.rune))).length cp2) ((z.word ++ (encR x2.rune))))])]] := hS27.freeze (i := 6) rfl
                    have hS29 : St (fun _ => False) F w0 w16 [accR encPW 96 3 v5 ((ps2 ++ [(PW.mk x2.to (SH.mk ad2 ((stateF (q.length + 1) d (cstepF d q (spreadF q.length d ((stateP q d (runesI z.word)))) x2.rune))).length cp2) ((z.word ++ (encR x2.rune))))])), bkR b4 [.int .i64 ((z.n : Int)), sh1.val, strV z.word] 96, accR encE 91 2 v3 z.x.2, A (f sk z.word).1, bkR b11 [.int .i32 x2.rune, .int .i64 x2.to] 91, slR encPW [((.slice (some ⟨b13, 0, none⟩) 1 1), [(PW.mk x2.to (SH.mk ad2 ((stateF (q.length + 1) d (cstepF d q (spreadF q.length d ((stateP q d (runesI z.word)))) x2.rune))).length cp2) ((z.word ++ (encR x2.rune))))])], slR encPos V2, slR encPos [((.slice ad2 ((stateF (q.length + 1) d (cstepF d q (spreadF q.length d ((stateP q d (runesI z.word)))) x2.rune))).length cp2), (stateF (q.length + 1) d (cstepF d q (spreadF q.length d ((stateP q d (runesI z.word)))) x2.rune)))]] := hS28.sel [0, 2, 3, 4, 5, 7, 1, 6] (by rfl) (by decide)
                    have hS30 : St (fun _ => False) F w0 w16 [accR encPW 96 3 v5 ((ps2 ++ [(PW.mk x2.to (SH.mk ad2 ((stateF (q.length + 1) d (cstepF d q (spreadF q.length d ((stateP q d (runesI z.word)))) x2.rune))).length cp2) ((z.word ++ (encR x2.rune))))])), bkR b4 [.int .i64 ((z.n : Int)), sh1.val, strV z.word] 96, accR encE 91 2 v3 z.x.2, A (f sk z.word).1, bkR b11 [.int .i32 x2.rune, .int .i64 x2.to] 91, slR encPW [((.slice (some ⟨b13, 0, none⟩) 1 1), [(PW.mk x2.to (SH.mk ad2 ((stateF (q.length + 1) d (cstepF d q (spreadF q.length d ((stateP q d (runesI z.word)))) x2.rune))).length cp2) ((z.word ++ (encR x2.rune))))])], boxR [slR encPos V2, slR encPos [((.slice ad2 ((stateF (q.length + 1) d (cstepF d q (spreadF q.length d ((stateP q d (runesI z.word)))) x2.rune))).length cp2), (stateF (q.length + 1) d (cstepF d q (spreadF q.length d ((stateP q d (runesI z.word)))) x2.rune)))]]] := St.close (L1 := [accR encPW 96 3 v5 ((ps2 ++ [(PW.mk x2.to (SH.mk ad2 ((stateF (q.length + 1) d (cstepF d q (spreadF q.length d ((stateP q d (runesI z.word)))) x2.rune))).length cp2) ((z.word ++ (encR x2.rune))))])), bkR b4 [.int .i64 ((z.n : Int)), sh1.val, strV z.word] 96, accR encE 91 2 v3 z.x.2, A (f sk z.word).1, bkR b11 [.int .i32 x2.rune, .int .i64 x2.to] 91, slR encPW [((.slice (some ⟨b13, 0, none⟩) 1 1), [(PW.mk x2.to (SH.mk ad2 ((stateF (q.length + 1) d (cstepF d q (spreadF q.length d ((stateP q d (runesI z.word)))) x2.rune))).length cp2) ((z.word ++ (encR x2.rune))))])]]) hS29
                    have hS31 : St (fun _ => False) F w0 w16 [accR encPW 96 3 v5 ((ps2 ++ [(PW.mk x2.to (SH.mk ad2 ((stateF (q.length + 1) d (cstepF d q (spreadF q.length d ((stateP q d (runesI z.word)))) x2.rune))).length cp2) ((z.word ++ (encR x2.rune))))])), bkR b4 [.int .i64 ((z.n : Int)), sh1.val, strV z.word] 96, accR encE 91 2 v3 z.x.2, A (f sk z.word).1, bkR b11 [.int .i32 x2.rune, .int .i64 x2.to] 91, slR encPW [((.slice (some ⟨b13, 0, none⟩) 1 1), [(PW.mk x2.to (SH.mk ad2 ((stateF (q.length + 1) d (cstepF d q (spreadF q.length d ((stateP q d (runesI z.word)))) x2.rune))).length cp2) ((z.word ++ (encR x2.rune))))])], slR encPos (V2 ++ [((.slice ad2 ((stateF (q.length + 1) d (cstepF d q (spreadF q.length d ((stateP q d (runesI z.word)))) x2.rune))).length cp2), (stateF (q.length + 1) d (cstepF d q (spreadF q.length d ((stateP q d (runesI z.word)))) x2.rune)))])] := hS30.imp (i := 6) rfl (fun F_ h_ => sl_app h_)
                    have hpush := PWR.push hd.1 hzs2 hsz hnode hzf (sh := SH.mk ad2 ((stateF (q.length + 1) d (cstepF d q (spreadF q.length d ((stateP q d (runesI z.word)))) x2.rune))).length cp2) (L := (stateF (q.length + 1) d (cstepF d q (spreadF q.length d ((stateP q d (runesI z.word)))) x2.rune))) (wd := z.word ++ encR x2.rune) hru hjs hgd rfl (by rw [henc]) hde hzl hto
                    refine OL.nil ?_
                    refine r_inBlock ?_
                    refine r_region ?_
                    refine OL.q (Q1.move rfl) rfl rfl ?_
                    refine OL.q (Q1.subI ((i - 1)) rfl rfl (by omega)) rfl rfl ?_
                    refine OL.q (Q1.assign rfl) rfl rfl ?_
                    refine OL.nil ?_
                    have hS32 : St (fun _ => False) F w0 w16 [accR encPW 96 3 v5 ((ps2 ++ [(PW.mk x2.to (SH.mk ad2 ((stateF (q.length + 1) d (cstepF d q (spreadF q.length d ((stateP q d (runesI z.word)))) x2.rune))).length cp2) ((z.word ++ (encR x2.rune))))])), slR encPos (V2 ++ [((.slice ad2 ((stateF (q.length + 1) d (cstepF d q (spreadF q.length d ((stateP q d (runesI z.word)))) x2.rune))).length cp2), (stateF (q.length + 1) d (cstepF d q (spreadF q.length d ((stateP q d (runesI z.word)))) x2.rune)))]), bkR b4 [.int .i64 ((z.n : Int)), sh1.val, strV z.word] 96, accR encE 91 2 v3 z.x.2, A (f sk z.word).1] := hS31.sel [0, 6, 1, 2, 3] (by rfl) (by decide)
                    exact (ih2 _ _ _ ⟨(v5 : Value), ((ps2 ++ [(PW.mk x2.to (SH.mk ad2 ((stateF (q.length + 1) d (cstepF d q (spreadF q.length d ((stateP q d (runesI z.word)))) x2.rune))).length cp2) ((z.word ++ (encR x2.rune))))]) : List PW), ((i - 1) : Int), ((zs2 ++ [PZ.mk jn (gg.2, es1) (z.word ++ encL gg.1)]) : List PZ), ((V2 ++ [((.slice ad2 ((stateF (q.length + 1) d (cstepF d q (spreadF q.length d ((stateP q d (runesI z.word)))) x2.rune))).length cp2), (stateF (q.length + 1) d (cstepF d q (spreadF q.length d ((stateP q d (runesI z.word)))) x2.rune)))]) : List (Value × List Pos)), rfl, rfl, hS32, (by first | exact hpush | exact hzs2 | (exfalso; omega)), (by first | exact hVm | exact fun x hx => List.mem_append_left _ (hVm x hx) | (exfalso; omega)), (by first | (rw [todo_push rfl rfl, htd, eFrom_to (by omega) hst1]; simp) | (rw [htd, eFrom_to (by omega) hst1, eNear_dead hd.1 hzf hru hgd hjs hnode rfl (by assumption)]; rfl) | (exfalso; omega)), (by first | (rw [wgtS_snoc]; rw [wgtFrom_to (by omega) hst2]; simp only; omega) | (rw [wgtFrom_to (by omega) hst2]; omega) | (exfalso; omega)), (by first | omega | (exfalso; omega))⟩ (by omega)).sub ⟨rfl, rfl, rfl, rfl, rfl, rfl, rfl, rfl, trivial⟩
                | false =>
                  replace hb8 := of_decide_eq_false hb8.symm
                  refine r_cond_f rfl ?_
                  refine r_exit rfl ?_
                  refine r_inBlock ?_
                  have hS19 : St (fun _ => False) F w0 w10 [accR encPW 96 3 v_ps2 ps2, slR encPos V2, A (f sk z.word).1] := hS17.sel [0, 1, 4] (by rfl) (by decide)
                  exact (ih1 _ _ _ ⟨(v_ps2 : Value), (ps2 : List PW), (zs2 : List PZ), (V2 : List (Value × List Pos)), ((f sk z.word).1 : σ), rfl, rfl, hS19, (by first | exact hzs2 | (exfalso; omega)), (by first | rw [hE2, htd, eFrom_at (by omega)] | (exfalso; omega)), (by first | rw [htd, eFrom_at (by omega)]; exact hE3 | (exfalso; omega)), (by first | rw [wgtFrom_at (by omega)] at hwg2; omega | (exfalso; omega)), (by first | have := wgt_len hzs2; rw [wgtFrom_at (by omega)] at hwg2; omega | (exfalso; omega))⟩ (by rw [wgtFrom_at (by omega)] at hwg2; omega)).sub ⟨rfl, rfl, rfl, rfl, rfl, trivial⟩
            | false =>
              replace hb7 := hb7.symm
              refine OL.q (Q1.not rfl) rfl rfl ?_
              refine OL.q (Q1.pick_t rfl rfl) rfl rfl ?_
              refine OL.nil ?_
              refine r_cond_t rfl ?_
              refine r_ret0 Try.func36 rfl ?_
              have hS14 : St (fun _ => False) F w0 w8 [A (f sk z.word).1] := hS13.sel [2] (by rfl) (by decide)
              have hres : (eachF f s0 (distsM words q d)).1 = (f sk z.word).1 := by first | (rw [yz_stop hall ⟨hfin, hdn.1 (far_yes (by assumption) (by assumption))⟩ (by assumption)]; done) | (rw [hall, zs_nil hzs (by omega)]; rfl)
              obtain ⟨hmF, F2r, hAr, hFr⟩ := hS14.fin
              exact Ret.mk ⟨rfl, hmF, F2r, hres ▸ hAr, hFr⟩
          | false =>
            replace hb6 := hb6.symm
            refine OL.sk rfl rfl ?_
            refine OL.sk rfl rfl ?_
            refine OL.sk rfl rfl ?_
            refine OL.sk rfl rfl ?_
            refine OL.sk rfl rfl ?_
            refine OL.q (Q1.pick_f rfl rfl) rfl rfl ?_
            refine OL.nil ?_
            refine r_cond_f rfl ?_
            refine r_skip ?_
            refine r_seq ?_
            refine r_region ?_
            refine OL.q (Q1.move rfl) rfl rfl ?_
            refine OL.q (Q1.fieldAddr fl96_0 rfl) rfl rfl ?_
            have f10 := hS12.bk (i := 3) rfl
            refine OL.q (Q1.load1 ti3 rfl (fun _ e => e ▸ (f10.cell 0 _ rfl))) rfl rfl ?_
            have f11 := Gr.keepM hgr hS12.mod hgF
            refine OL.act rfl rfl (AW.callF cl57 rfl (edges_c (w0 := w7)  ((z.n : Int)) f11 (Nat.le_trans hhi hS12.mod.size) (by first | omega | assumption) (by first | assumption | omega | (simp; done)) (by first | assumption | (simp; done))) ?_)
            rintro v3 w8 ⟨⟨gr1, h2, hg1⟩, hm7⟩
            have hS13 := hS12.ext hm7
            have hS14 : St (fun _ => False) F w0 w8 [accR encPW 96 3 v2 ((ps.take ((ps.length - 1)))), slR encPos V, A sk, bkR b4 [.int .i64 ((z.n : Int)), sh1.val, strV z.word] 96, accR encE 91 2 v3 (((nodeAt ((gnOf s)) ((z.n : Int))).2))] := hS12.newAcc hm7 h2 hg1
            clear hg1
            have hle_2 := h2.le
            have hne1 : (nodeAt (gnOf s) (z.n : Int)).2 = z.x.2 := by rw [hna]
            have hel1 := nodeAt_len hel (z.n : Int)
            rw [hne1] at hel1
            have hS15 : St (fun _ => False) F w0 w8 [accR encPW 96 3 v2 ((ps.take ((ps.length - 1)))), slR encPos V, A sk, bkR b4 [.int .i64 ((z.n : Int)), sh1.val, strV z.word] 96, accR encE 91 2 v3 z.x.2] := (by rw [← hne1]; exact hS14)
            have hE2 : eachF f s0 (distsM words q d) = eachF f sk (eFrom q d z 0 ++ todoZ q d zs1) := yz_no hall (fun hc => by first | exact far_no (by assumption) (hdn.2 hc.2) | exact far_no2 (by assumption) (hdn.2 hc.2) | exact absurd hc.1 (by simp [*]))
            have hE3 : OkAll ok f sk (eFrom q d z 0 ++ todoZ q d zs1) := yz_okno hok2 (fun hc => by first | exact far_no (by assumption) (hdn.2 hc.2) | exact far_no2 (by assumption) (hdn.2 hc.2) | exact absurd hc.1 (by simp [*]))
            refine OL.q (Q1.assign rfl) rfl rfl ?_
            refine OL.nil ?_
            refine r_seq ?_
            refine r_region ?_
            refine OL.q (Q1.move rfl) rfl rfl ?_
            obtain ⟨g3, f12, hl5, k3⟩ := hS15.accK (i := 4) rfl
            refine OL.q (Q1.lenSl Try.underlying70 (f12.sl) rfl) rfl rfl ?_
            refine OL.q (Q1.subI ((((z.x.2.length : Nat) : Int) - 1)) rfl rfl (by omega)) rfl rfl ?_
            refine OL.q (Q1.assign rfl) rfl rfl ?_
            refine OL.nil ?_
            refine r_block ?_
            have hS17 : St (fun _ => False) F w0 w8 [accR encPW 96 3 v2 ((ps.take ((ps.length - 1)))), slR encPos V, bkR b4 [.int .i64 ((z.n : Int)), sh1.val, strV z.word] 96, accR encE 91 2 v3 z.x.2, A sk] := hS15.sel [0, 1, 3, 4, 2] (by rfl) (by decide)
            refine r_loop (I := fun m E W => ∃ (v_ps2 : Value) (ps2 : List PW) (i : Int) (zs2 : List PZ) (V2 : List (Value × List Pos)), E = [(0, v_g), (1, v_q), (2, .int .i64 d), (3, .func (.func ky) first.toArray cap.toArray), (8, v_ps2), (9, ptr b4 0), (12, v3), (13, .int .i64 i)] ∧ m = (i + 1).toNat ∧ St (fun _ => False) F w0 W [accR encPW 96 3 v_ps2 ps2, slR encPos V2, bkR b4 [.int .i64 ((z.n : Int)), sh1.val, strV z.word] 96, accR encE 91 2 v3 z.x.2, A sk] ∧ (All2 (PWR q d s V2) ps2 zs2) ∧ (∀ x ∈ V, x ∈ V2) ∧ (todoZ q d zs2 = eFrom q d z (i + 1).toNat ++ todoZ q d zs1) ∧ (wgtS zs2 ≤ wgtS zs1 + wgtFrom (groups (dropE z.x.1)) (i + 1).toNat) ∧ (-1 ≤ i ∧ i < (z.x.2.length : Int))) ?_ ?_
            · refine ⟨_, _, ⟨(v2 : Value), ((ps.take ((ps.length - 1))) : List PW), ((((z.x.2.length : Nat) : Int) - 1) : Int), (zs1 : List PZ), (V : List (Value × List Pos)), rfl, rfl, hS17, (by exact hz1), (by exact fun x hx => hx), (by (rw [eFrom_end (by have := grp_len hzc; omega)]; rfl)), (by omega), (by omega)⟩, ⟨rfl, rfl, rfl, rfl, rfl, rfl, rfl, rfl, trivial⟩⟩
            · rintro _ _ w9 ⟨v_ps2, ps2, i, zs2, V2, rfl, rfl, hS16, hzs2, hVm, htd, hwg2, hi1⟩ ih2
              refine r_seq ?_
              refine r_seq ?_
              refine r_region ?_
              refine OL.q (Q1.move rfl) rfl rfl ?_
              refine OL.qb (Q1.ge rfl rfl) rfl rfl ?_
              intro b8 hb7
              refine OL.nil ?_
              cases b8 with
              | true =>
                replace hb7 := of_decide_eq_true hb7.symm
                refine r_cond_t rfl ?_
                refine r_skip ?_
                refine r_seq ?_
                refine r_block ?_
                refine r_seq ?_
                refine r_region ?_
                refine OL.q (Q1.move rfl) rfl rfl ?_
                refine OL.q (Q1.move rfl) rfl rfl ?_
                obtain ⟨g4, f13, hl6, k4⟩ := hS16.accK (i := 3) rfl
                obtain ⟨x2, b9, o2, hx2, hr3, hl7, hw2⟩ := Sl.atF (P := Try.prog) f13.sl Try.underlying70 ti91 encE_len (k := .i64) (n := i) ((i).toNat) (by omega) (by first | assumption | omega)
                refine OL.q (Q1.indexAddr rfl rfl hr3) rfl rfl ?_
                obtain ⟨gg, jn, es1, hgk, hru, hto, hjs, hgd, hgne⟩ := edge_at hzc hzg hx2
                obtain ⟨de, rfl, hde⟩ := deep_edge hzg hzd hgk
                have henc : encR x2.rune = encL gg.1 := by rw [hru]; exact encR_L hgd
                have hlya := encL_len4 gg.1
                have hlyb : (encR x2.rune).length ≤ 4 := by rw [henc]; exact hlya
                have hgr1 : 0 ≤ x2.rune ∧ x2.rune ≤ 1114111 := by rw [hru]; have := hgd.1; omega
                have hst1 := eFrom_step (q := q) (d := d) hgk
                have hst2 := wgtFrom_step hgk
                have hgw := wgt_pos gg.2
                have hwgb := wgt_len hzs2
                have hwgc := wgtFrom_le (groups (dropE z.x.1)) (i + 1).toNat
                refine OL.q (Q1.loadN ti91 rfl (fun _ e => e ▸ hw2) rfl) rfl rfl ?_
                refine OL.act rfl rfl (AW.alloc ti91 ?_)
                intro w10 b10 hm8 hb8 hz4 hk4
                have hS18 := hS16.ext hm8
                have hS19 : St (fun _ => False) F w0 w10 [accR encPW 96 3 v_ps2 ps2, slR encPos V2, bkR b4 [.int .i64 ((z.n : Int)), sh1.val, strV z.word] 96, accR encE 91 2 v3 z.x.2, A sk, bkR b10 [.int .i32 0, .int .i64 0] 91] := hS16.newBk hm8 hb8 hk4
                have f14 := hS19.bk (i := 5) rfl
                refine OL.act rfl rfl (AW.store ti91 rfl rfl rfl rfl rfl f14 (Nat.le_of_ble_eq_true rfl) ?_)
                intro w11 hm9 hz5 hk5
                have hS20 : St (fun _ => False) F w0 w11 [accR encPW 96 3 v_ps2 ps2, slR encPos V2, bkR b4 [.int .i64 ((z.n : Int)), sh1.val, strV z.word] 96, accR encE 91 2 v3 z.x.2, A sk, bkR b10 [.int .i32 x2.rune, .int .i64 x2.to] 91] := hS19.bkK (i := 5) rfl hm9 hk5
                refine OL.nil ?_
                refine r_seq ?_
                refine r_region ?_
                refine OL.q (Q1.move rfl) rfl rfl ?_
                refine OL.q (Q1.move rfl) rfl rfl ?_
                refine OL.q (Q1.fieldAddr fl96_1 rfl) rfl rfl ?_
                have f15 := hS20.bk (i := 2) rfl
                refine OL.q (Q1.load1 ti93 rfl (fun _ e => e ▸ (f15.cell 1 _ rfl))) rfl rfl ?_
                refine OL.q (Q1.fieldAddr fl91_0 rfl) rfl rfl ?_
                have f16 := hS20.bk (i := 5) rfl
                refine OL.q (Q1.load1 ti21 rfl (fun _ e => e ▸ (f16.cell 0 _ rfl))) rfl rfl ?_
                have f17 := hS20.out hq hG
                have f18 := hS20.slMem (i := 1) rfl (hVm _ hzm)
                refine OL.act rfl rfl (AW.callF cl58 rfl (astep_c (w0 := w11) (q := q) (s := (stateP q d (runesI z.word))) (d) (x2.rune) (f17.mono (fun b hb => ⟨Nat.zero_le _, Nat.lt_of_lt_of_le (hGl b hb) hS20.mod.size⟩)) (by first | omega | assumption) f18 (by first | omega | assumption) (by first | assumption | omega) (by first | assumption | omega) (by first | assumption | omega)) ?_)
                rintro v4 w12 ⟨⟨gr2, h3, hg2⟩, hm10⟩
                have hS21 := hS20.ext hm10
                have hS22 : St (fun _ => False) F w0 w12 [accR encPW 96 3 v_ps2 ps2, slR encPos V2, bkR b4 [.int .i64 ((z.n : Int)), sh1.val, strV z.word] 96, accR encE 91 2 v3 z.x.2, A sk, bkR b10 [.int .i32 x2.rune, .int .i64 x2.to] 91, accR encPos 121 2 v4 ((stateF (q.length + 1) d (cstepF d q (spreadF q.length d ((stateP q d (runesI z.word)))) x2.rune)))] := hS20.newAcc hm10 h3 hg2
                clear hg2
                have hle_3 := h3.le
                refine OL.q (Q1.assign rfl) rfl rfl ?_
                refine OL.nil ?_
                refine r_seq ?_
                refine r_region ?_
                refine OL.q (Q1.move rfl) rfl rfl ?_
                obtain ⟨g5, f19, hl8, k5⟩ := hS22.accK (i := 6) rfl
                refine OL.act rfl rfl (AW.callF cl59 rfl (adead_c (w0 := w12) (s := (stateF (q.length + 1) d (cstepF d q (spreadF q.length d ((stateP q d (runesI z.word)))) x2.rune)))  (f19.sl.iv (Nat.zero_le _) f19.lt)) ?_)
                rintro _ w13 ⟨⟨b11, hb9, rfl⟩, hm11⟩
                have hS23 := hS22.ext hm11
                cases b11 with
                | true =>
                  replace hb9 := hb9.symm
                  refine OL.q (Q1.not rfl) rfl rfl ?_
                  refine OL.nil ?_
                  refine r_cond_f rfl ?_
                  refine r_skip ?_
                  refine r_inBlock ?_
                  refine r_region ?_
                  refine OL.q (Q1.move rfl) rfl rfl ?_
                  refine OL.q (Q1.subI ((i - 1)) rfl rfl (by omega)) rfl rfl ?_
                  refine OL.q (Q1.assign rfl) rfl rfl ?_
                  refine OL.nil ?_
                  have hS24 : St (fun _ => False) F w0 w13 [accR encPW 96 3 v_ps2 ps2, slR encPos V2, bkR b4 [.int .i64 ((z.n : Int)), sh1.val, strV z.word] 96, accR encE 91 2 v3 z.x.2, A sk] := hS23.sel [0, 1, 2, 3, 4] (by rfl) (by decide)
                  exact (ih2 _ _ _ ⟨(v_ps2 : Value), (ps2 : List PW), ((i - 1) : Int), (zs2 : List PZ), (V2 : List (Value × List Pos)), rfl, rfl, hS24, (by first | exact hpush | exact hzs2 | (exfalso; omega)), (by first | exact hVm | exact fun x hx => List.mem_append_left _ (hVm x hx) | (exfalso; omega)), (by first | (rw [todo_push rfl rfl, htd, eFrom_to (by omega) hst1]; simp) | (rw [htd, eFrom_to (by omega) hst1, eNear_dead hd.1 hzf hru hgd hjs hnode rfl (by assumption)]; rfl) | (exfalso; omega)), (by first | (rw [wgtS_snoc]; rw [wgtFrom_to (by omega) hst2]; simp only; omega) | (rw [wgtFrom_to (by omega) hst2]; omega) | (exfalso; omega)), (by first | omega | (exfalso; omega))⟩ (by omega)).sub ⟨rfl, rfl, rfl, rfl, rfl, rfl, rfl, rfl, trivial⟩
                | false =>
                  replace hb9 := hb9.symm
                  refine OL.q (Q1.not rfl) rfl rfl ?_
                  refine OL.nil ?_
                  refine r_cond_t rfl ?_
                  refine r_region ?_
                  refine OL.q (Q1.move rfl) rfl rfl ?_
                  refine OL.q (Q1.fieldAddr fl91_1 rfl) rfl rfl ?_
                  have f20 := hS23.bk (i := 5) rfl
                  refine OL.q (Q1.load1 ti3 rfl (fun _ e => e ▸ (f20.cell 1 _ rfl))) rfl rfl ?_
                  refine OL.q (Q1.move rfl) rfl rfl ?_
                  refine OL.q (Q1.fieldAddr fl96_2 rfl) rfl rfl ?_
                  have f21 := hS23.bk (i := 2) rfl
                  refine OL.q (Q1.load1 ti9 rfl (fun _ e => e ▸ (f21.cell 2 _ rfl))) rfl rfl ?_
                  refine OL.q (Q1.fieldAddr fl91_0 rfl) rfl rfl ?_
                  refine OL.q (Q1.load1 ti21 rfl (fun _ e => e ▸ (f20.cell 0 _ rfl))) rfl rfl ?_
                  refine OL.q (Q1.convRS (by kernel_rfl) Try.underlying9 rfl) rfl rfl ?_
                  refine OL.q (Q1.catS rfl rfl (by first | omega | (simp only [List.length_append]; omega) | (simp only [List.length_append, List.length_cons, List.length_nil]; omega))) rfl rfl ?_
                  obtain ⟨g6, f22, hl9, k6⟩ := hS23.accK (i := 6) rfl
                  obtain ⟨ad2, cp2, hv2⟩ := f22.shape
                  subst hv2
                  refine OL.q (Q1.build (vs := #[(0, (.int .i64 x2.to : Value)), (1, (.slice ad2 ((stateF (q.length + 1) d (cstepF d q (spreadF q.length d ((stateP q d (runesI z.word)))) x2.rune))).length cp2)), (2, strV ((z.word ++ (encR x2.rune))))]) (v := .agg #[.int .i64 x2.to, (.slice ad2 ((stateF (q.length + 1) d (cstepF d q (spreadF q.length d ((stateP q d (runesI z.word)))) x2.rune))).length cp2), strV ((z.word ++ (encR x2.rune)))]) rfl (fun _ => by kernel_rfl)) rfl rfl ?_
                  refine OL.act rfl rfl (AW.buildSlice [(.agg #[.int .i64 x2.to, (.slice ad2 ((stateF (q.length + 1) d (cstepF d q (spreadF q.length d ((stateP q d (runesI z.word)))) x2.rune))).length cp2), strV ((z.word ++ (encR x2.rune)))] : Value)] Try.underlying97 ti96 rfl rfl rfl (by decide) ?_)
                  intro w14 b12 hm12 hb10 hz6 hk6
                  have hS24 := hS23.ext hm12
                  have hl10 := Sl.of_blk (enc := encPW) hk6 ([(PW.mk x2.to (SH.mk ad2 ((stateF (q.length + 1) d (cstepF d q (spreadF q.length d ((stateP q d (runesI z.word)))) x2.rune))).length cp2) ((z.word ++ (encR x2.rune))))] : List PW) 1 rfl rfl (by unfold maxLen; omega)
                  have hS25 : St (fun _ => False) F w0 w14 [accR encPW 96 3 v_ps2 ps2, slR encPos V2, bkR b4 [.int .i64 ((z.n : Int)), sh1.val, strV z.word] 96, accR encE 91 2 v3 z.x.2, A sk, bkR b10 [.int .i32 x2.rune, .int .i64 x2.to] 91, accR encPos 121 2 ((.slice ad2 ((stateF (q.length + 1) d (cstepF d q (spreadF q.length d ((stateP q d (runesI z.word)))) x2.rune))).length cp2)) ((stateF (q.length + 1) d (cstepF d q (spreadF q.length d ((stateP q d (runesI z.word)))) x2.rune))), slR encPW [((.slice (some ⟨b12, 0, none⟩) 1 1), [(PW.mk x2.to (SH.mk ad2 ((stateF (q.length + 1) d (cstepF d q (spreadF q.length d ((stateP q d (runesI z.word)))) x2.rune))).length cp2) ((z.word ++ (encR x2.rune))))])]] := hS23.newSlB hm12 hb10 hz6 hl10
                  obtain ⟨g8, f23, hl11, k7⟩ := hS25.accK (i := 0) rfl
                  have f24 := hS25.sl (i := 7) (k := 0) rfl rfl
                  refine OL.act rfl rfl (AW.append f23 Try.underlying97 ti96 rfl encPW_len encPW_one rfl rfl (f24) (by first | omega | (simp only [List.length_append, List.length_cons, List.length_nil]; omega) | (simp; omega)) (by unfold maxLen; first | omega | (simp only [List.length_append, List.length_cons, List.length_nil]; omega) | (simp; omega)) ?_)
                  intro v5 g7 w15 ha2 hm13 hg3 hz7
                  have hS26 : St (fun _ => False) F w0 w15 [accR encPW 96 3 v5 ((ps2 ++ [(PW.mk x2.to (SH.mk ad2 ((stateF (q.length + 1) d (cstepF d q (spreadF q.length d ((stateP q d (runesI z.word)))) x2.rune))).length cp2) ((z.word ++ (encR x2.rune))))])), slR encPos V2, bkR b4 [.int .i64 ((z.n : Int)), sh1.val, strV z.word] 96, accR encE 91 2 v3 z.x.2, A sk, bkR b10 [.int .i32 x2.rune, .int .i64 x2.to] 91, accR encPos 121 2 ((.slice ad2 ((stateF (q.length + 1) d (cstepF d q (spreadF q.length d ((stateP q d (runesI z.word)))) x2.rune))).length cp2)) ((stateF (q.length + 1) d (cstepF d q (spreadF q.length d ((stateP q d (runesI z.word)))) x2.rune))), slR encPW [((.slice (some ⟨b12, 0, none⟩) 1 1), [(PW.mk x2.to (SH.mk ad2 ((stateF (q.length + 1) d (cstepF d q (spreadF q.length d ((stateP q d (runesI z.word)))) x2.rune))).length cp2) ((z.word ++ (encR x2.rune))))])]] := k7 _ _ _ _ hm13 ha2 hg3
                  clear hg3
                  refine OL.q (Q1.assign rfl) rfl rfl ?_
                  have hS27 : St (fun _ => False) F w0 w15 [accR encPW 96 3 v5 ((ps2 ++ [(PW.mk x2.to (SH.mk ad2 ((stateF (q.length + 1) d (cstepF d q (spreadF q.length d ((stateP q d (runesI z.word)))) x2.rune))).length cp2) ((z.word ++ (encR x2.rune))))])), slR encPos V2, bkR b4 [.int .i64 ((z.n : Int)), sh1.val, strV z.word] 96, accR encE 91 2 v3 z.x.2, A sk, bkR b10 [.int .i32 x2.rune, .int .i64 x2.to] 91, slR encPos [((.slice ad2 ((stateF (q.length + 1) d (cstepF d q (spreadF q.length d ((stateP q d (runesI z.word)))) x2.rune))).length cp2), (stateF (q.length + 1) d (cstepF d q (spreadF q.length d ((stateP q d (runesI z.word)))) x2.rune)))], slR encPW [((.slice (some ⟨b12, 0, none⟩) 1 1), [(PW.mk x2.to (SH.mk ad2 ((stateF (q.length + 1) d (cstepF d q (spreadF q.length d ((stateP q d (runesI z.word)))) x2.rune))).length cp2) ((z.word ++ (encR x2.rune))))])]] := hS26.freeze (i := 6) rfl
                  have hS28 : St (fun _ => False) F w0 w15 [accR encPW 96 3 v5 ((ps2 ++ [(PW.mk x2.to (SH.mk ad2 ((stateF (q.length + 1) d (cstepF d q (spreadF q.length d ((stateP q d (runesI z.word)))) x2.rune))).length cp2) ((z.word ++ (encR x2.rune))))])), bkR b4 [.int .i64 ((z.n : Int)), sh1.val, strV z.word] 96, accR encE 91 2 v3 z.x.2, A sk, bkR b10 [.int .i32 x2.rune, .int .i64 x2.to] 91, slR encPW [((.slice (some ⟨b12, 0, none⟩) 1 1), [(PW.mk x2.to (SH.mk ad2 ((stateF (q.length + 1) d (cstepF d q (spreadF q.length d ((stateP q d (runesI z.word)))) x2.rune))).length cp2) ((z.word ++ (encR x2.rune))))])], slR encPos V2, slR encPos [((.slice ad2 ((stateF (q.length + 1) d (cstepF d q (spreadF q.length d ((stateP q d (runesI z.word)))) x2.rune))).length cp2), (stateF (q.length + 1) d (cstepF d q (spreadF q.length d ((stateP q d (runesI z.word)))) x2.rune)))]] := hS27.sel [0, 2, 3, 4, 5, 7, 1, 6] (by rfl) (by decide)
                  have hS29 : St (fun _ => False) F w0 w15 [accR encPW 96 3 v5 ((ps2 ++ [(PW.mk x2.to (SH.mk ad2 ((stateF (q.length + 1) d (cstepF d q (spreadF q.length d ((stateP q d (runesI z.word)))) x2.rune))).length cp2) ((z.word ++ (encR x2.rune))))])), bkR b4 [.int .i64 ((z.n : Int)), sh1.val, strV z.word] 96, accR encE 91 2 v3 z.x.2, A sk, bkR b10 [.int .i32 x2.rune, .int .i64 x2.to] 91, slR encPW [((.slice (some ⟨b12, 0, none⟩) 1 1), [(PW.mk x2.to (SH.mk ad2 ((stateF (q.length + 1) d (cstepF d q (spreadF q.length d ((stateP q d (runesI z.word)))) x2.rune))).length cp2) ((z.word ++ (encR x2.rune))))])], boxR [slR encPos V2, slR encPos [((.slice ad2 ((stateF (q.length + 1) d (cstepF d q (spreadF q.length d ((stateP q d (runesI z.word)))) x2.rune))).length cp2), (stateF (q.length + 1) d (cstepF d q (spreadF q.length d ((stateP q d (runesI z.word)))) x2.rune)))]]] := St.close (L1 := [accR encPW 96 3 v5 ((ps2 ++ [(PW.mk x2.to (SH.mk ad2 ((stateF (q.length + 1) d (cstepF d q (spreadF q.length d ((stateP q d (runesI z.word)))) x2.rune))).length cp2) ((z.word ++ (encR x2.rune))))])), bkR b4 [.int .i64 ((z.n : Int)), sh1.val, strV z.word] 96, accR encE 91 2 v3 z.x.2, A sk, bkR b10 [.int .i32 x2.rune, .int .i64 x2.to] 91, slR encPW [((.slice (some ⟨b12, 0, none⟩) 1 1), [(PW.mk x2.to (SH.mk ad2 ((stateF (q.length + 1) d (cstepF d q (spreadF q.length d ((stateP q d (runesI z.word)))) x2.rune))).length cp2) ((z.word ++ (encR x2.rune))))])]]) hS28
                  have hS30 : St (fun _ => False) F w0 w15 [accR encPW 96 3 v5 ((ps2 ++ [(PW.mk x2.to (SH.mk ad2 ((stateF (q.length + 1) d (cstepF d q (spreadF q.length d ((stateP q d (runesI z.word)))) x2.rune))).length cp2) ((z.word ++ (encR x2.rune))))])), bkR b4 [.int .i64 ((z.n : Int)), sh1.val, strV z.word] 96, accR encE 91 2 v3 z.x.2, A sk, bkR b10 [.int .i32 x2.rune, .int .i64 x2.to] 91, slR encPW [((.slice (some ⟨b12, 0, none⟩) 1 1), [(PW.mk x2.to (SH.mk ad2 ((stateF (q.length + 1) d (cstepF d q (spreadF q.length d ((stateP q d (runesI z.word)))) x2.rune))).length cp2) ((z.word ++ (encR x2.rune))))])], slR encPos (V2 ++ [((.slice ad2 ((stateF (q.length + 1) d (cstepF d q (spreadF q.length d ((stateP q d (runesI z.word)))) x2.rune))).length cp2), (stateF (q.length + 1) d (cstepF d q (spreadF q.length d ((stateP q d (runesI z.word)))) x2.rune)))])] := hS29.imp (i := 6) rfl (fun F_ h_ => sl_app h_)
                  have hpush := PWR.push hd.1 hzs2 hsz hnode hzf (sh := SH.mk ad2 ((stateF (q.length + 1) d (cstepF d q (spreadF q.length d ((stateP q d (runesI z.word)))) x2.rune))).length cp2) (L := (stateF (q.length + 1) d (cstepF d q (spreadF q.length d ((stateP q d (runesI z.word)))) x2.rune))) (wd := z.word ++ encR x2.rune) hru hjs hgd rfl (by rw [henc]) hde hzl hto
                  refine OL.nil ?_
                  refine r_inBlock ?_
                  refine r_region ?_
                  refine OL.q (Q1.move rfl) rfl rfl ?_
                  refine OL.q (Q1.subI ((i - 1)) rfl rfl (by omega)) rfl rfl ?_
                  refine OL.q (Q1.assign rfl) rfl rfl ?_
                  refine OL.nil ?_
                  have hS31 : St (fun _ => False) F w0 w15 [accR encPW 96 3 v5 ((ps2 ++ [(PW.mk x2.to (SH.mk ad2 ((stateF (q.length + 1) d (cstepF d q (spreadF q.length d ((stateP q d (runesI z.word)))) x2.rune))).length cp2) ((z.word ++ (encR x2.rune))))])), slR encPos (V2 ++ [((.slice ad2 ((stateF (q.length + 1) d (cstepF d q (spreadF q.length d ((stateP q d (runesI z.word)))) x2.rune))).length cp2), (stateF (q.length + 1) d (cstepF d q (spreadF q.length d ((stateP q d (runesI z.word)))) x2.rune)))]), bkR b4 [.int .i64 ((z.n : Int)), sh1.val, strV z.word] 96, accR encE 91 2 v3 z.x.2, A sk] := hS30.sel [0, 6, 1, 2, 3] (by rfl) (by decide)
                  exact (ih2 _ _ _ ⟨(v5 : Value), ((ps2 ++ [(PW.mk x2.to (SH.mk ad2 ((stateF (q.length + 1) d (cstepF d q (spreadF q.length d ((stateP q d (runesI z.word)))) x2.rune))).length cp2) ((z.word ++ (encR x2.rune))))]) : List PW), ((i - 1) : Int), ((zs2 ++ [PZ.mk jn (gg.2, es1) (z.word ++ encL gg.1)]) : List PZ), ((V2 ++ [((.slice ad2 ((stateF (q.length + 1) d (cstepF d q (spreadF q.length d ((stateP q d (runesI z.word)))) x2.rune))).length cp2), (stateF (q.length + 1) d (cstepF d q (spreadF q.length d ((stateP q d (runesI z.word)))) x2.rune)))]) : List (Value × List Pos)), rfl, rfl, hS31, (by first | exact hpush | exact hzs2 | (exfalso; omega)), (by first | exact hVm | exact fun x hx => List.mem_append_left _ (hVm x hx) | (exfalso; omega)), (by first | (rw [todo_push rfl rfl, htd, eFrom_to (by omega) hst1]; simp) | (rw [htd, eFrom_to (by omega) hst1, eNear_dead hd.1 hzf hru hgd hjs hnode rfl (by assumption)]; rfl) | (exfalso; omega)), (by first | (rw [wgtS_snoc]; rw [wgtFrom_to (by omega) hst2]; simp only; omega) | (rw [wgtFrom_to (by omega) hst2]; omega) | (exfalso; omega)), (by first | omega | (exfalso; omega))⟩ (by omega)).sub ⟨rfl, rfl, rfl, rfl, rfl, rfl, rfl, rfl, trivial⟩
              | false =>
                replace hb7 := of_decide_eq_false hb7.symm
                refine r_cond_f rfl ?_
                refine r_exit rfl ?_
                refine r_inBlock ?_
                have hS18 : St (fun _ => False) F w0 w9 [accR encPW 96 3 v_ps2 ps2, slR encPos V2, A sk] := hS16.sel [0, 1, 4] (by rfl) (by decide)
                exact (ih1 _ _ _ ⟨(v_ps2 : Value), (ps2 : List PW), (zs2 : List PZ), (V2 : List (Value × List Pos)), (sk : σ), rfl, rfl, hS18, (by first | exact hzs2 | (exfalso; omega)), (by first | rw [hE2, htd, eFrom_at (by omega)] | (exfalso; omega)), (by first | rw [htd, eFrom_at (by omega)]; exact hE3 | (exfalso; omega)), (by first | rw [wgtFrom_at (by omega)] at hwg2; omega | (exfalso; omega)), (by first | have := wgt_len hzs2; rw [wgtFrom_at (by omega)] at hwg2; omega | (exfalso; omega))⟩ (by rw [wgtFrom_at (by omega)] at hwg2; omega)).sub ⟨rfl, rfl, rfl, rfl, rfl, trivial⟩
        | false =>
          replace hb5 := ne_of_beq_false hb5.symm
          refine OL.sk rfl rfl ?_
          refine OL.sk rfl rfl ?_
          refine OL.sk rfl rfl ?_
          refine OL.sk rfl rfl ?_
          refine OL.q (Q1.pick_f rfl rfl) rfl rfl ?_
          refine OL.q (Q1.move rfl) rfl rfl ?_
          refine OL.sk rfl rfl ?_
          refine OL.sk rfl rfl ?_
          refine OL.sk rfl rfl ?_
          refine OL.sk rfl rfl ?_
          refine OL.sk rfl rfl ?_
          refine OL.q (Q1.pick_f rfl rfl) rfl rfl ?_
          refine OL.nil ?_
          refine r_cond_f rfl ?_
          refine r_skip ?_
          refine r_seq ?_
          refine r_region ?_
          refine OL.q (Q1.move rfl) rfl rfl ?_
          refine OL.q (Q1.fieldAddr fl96_0 rfl) rfl rfl ?_
          have f8 := hS11.bk (i := 3) rfl
          refine OL.q (Q1.load1 ti3 rfl (fun _ e => e ▸ (f8.cell 0 _ rfl))) rfl rfl ?_
          have f9 := Gr.keepM hgr hS11.mod hgF
          refine OL.act rfl rfl (AW.callF cl57 rfl (edges_c (w0 := w6)  ((z.n : Int)) f9 (Nat.le_trans hhi hS11.mod.size) (by first | omega | assumption) (by first | assumption | omega | (simp; done)) (by first | assumption | (simp; done))) ?_)
          rintro v3 w7 ⟨⟨gr1, h2, hg1⟩, hm6⟩
          have hS12 := hS11.ext hm6
          have hS13 : St (fun _ => False) F w0 w7 [accR encPW 96 3 v2 ((ps.take ((ps.length - 1)))), slR encPos V, A sk, bkR b4 [.int .i64 ((z.n : Int)), sh1.val, strV z.word] 96, accR encE 91 2 v3 (((nodeAt ((gnOf s)) ((z.n : Int))).2))] := hS11.newAcc hm6 h2 hg1
          clear hg1
          have hle_2 := h2.le
          have hne1 : (nodeAt (gnOf s) (z.n : Int)).2 = z.x.2 := by rw [hna]
          have hel1 := nodeAt_len hel (z.n : Int)
          rw [hne1] at hel1
          have hS14 : St (fun _ => False) F w0 w7 [accR encPW 96 3 v2 ((ps.take ((ps.length - 1)))), slR encPos V, A sk, bkR b4 [.int .i64 ((z.n : Int)), sh1.val, strV z.word] 96, accR encE 91 2 v3 z.x.2] := (by rw [← hne1]; exact hS13)
          have hE2 : eachF f s0 (distsM words q d) = eachF f sk (eFrom q d z 0 ++ todoZ q d zs1) := yz_no hall (fun hc => by first | exact far_no (by assumption) (hdn.2 hc.2) | exact far_no2 (by assumption) (hdn.2 hc.2) | exact absurd hc.1 (by simp [*]))
          have hE3 : OkAll ok f sk (eFrom q d z 0 ++ todoZ q d zs1) := yz_okno hok2 (fun hc => by first | exact far_no (by assumption) (hdn.2 hc.2) | exact far_no2 (by assumption) (hdn.2 hc.2) | exact absurd hc.1 (by simp [*]))
          refine OL.q (Q1.assign rfl) rfl rfl ?_
          refine OL.nil ?_
          refine r_seq ?_
          refine r_region ?_
          refine OL.q (Q1.move rfl) rfl rfl ?_
          obtain ⟨g3, f10, hl5, k3⟩ := hS14.accK (i := 4) rfl
          refine OL.q (Q1.lenSl Try.underlying70 (f10.sl) rfl) rfl rfl ?_
          refine OL.q (Q1.subI ((((z.x.2.length : Nat) : Int) - 1)) rfl rfl (by omega)) rfl rfl ?_
          refine OL.q (Q1.assign rfl) rfl rfl ?_
          refine OL.nil ?_
          refine r_block ?_
          have hS16 : St (fun _ => False) F w0 w7 [accR encPW 96 3 v2 ((ps.take ((ps.length - 1)))), slR encPos V, bkR b4 [.int .i64 ((z.n : Int)), sh1.val, strV z.word] 96, accR encE 91 2 v3 z.x.2, A sk] := hS14.sel [0, 1, 3, 4, 2] (by rfl) (by decide)
          refine r_loop (I := fun m E W => ∃ (v_ps2 : Value) (ps2 : List PW) (i : Int) (zs2 : List PZ) (V2 : List (Value × List Pos)), E = [(0, v_g), (1, v_q), (2, .int .i64 d), (3, .func (.func ky) first.toArray cap.toArray), (8, v_ps2), (9, ptr b4 0), (12, v3), (13, .int .i64 i)] ∧ m = (i + 1).toNat ∧ St (fun _ => False) F w0 W [accR encPW 96 3 v_ps2 ps2, slR encPos V2, bkR b4 [.int .i64 ((z.n : Int)), sh1.val, strV z.word] 96, accR encE 91 2 v3 z.x.2, A sk] ∧ (All2 (PWR q d s V2) ps2 zs2) ∧ (∀ x ∈ V, x ∈ V2) ∧ (todoZ q d zs2 = eFrom q d z (i + 1).toNat ++ todoZ q d zs1) ∧ (wgtS zs2 ≤ wgtS zs1 + wgtFrom (groups (dropE z.x.1)) (i + 1).toNat) ∧ (-1 ≤ i ∧ i < (z.x.2.length : Int))) ?_ ?_
          · refine ⟨_, _, ⟨(v2 : Value), ((ps.take ((ps.length - 1))) : List PW), ((((z.x.2.length : Nat) : Int) - 1) : Int), (zs1 : List PZ), (V : List (Value × List Pos)), rfl, rfl, hS16, (by exact hz1), (by exact fun x hx => hx), (by (rw [eFrom_end (by have := grp_len hzc; omega)]; rfl)), (by omega), (by omega)⟩, ⟨rfl, rfl, rfl, rfl, rfl, rfl, rfl, rfl, trivial⟩⟩
          · rintro _ _ w8 ⟨v_ps2, ps2, i, zs2, V2, rfl, rfl, hS15, hzs2, hVm, htd, hwg2, hi1⟩ ih2
            refine r_seq ?_
            refine r_seq ?_
            refine r_region ?_
            refine OL.q (Q1.move rfl) rfl rfl ?_
            refine OL.qb (Q1.ge rfl rfl) rfl rfl ?_
            intro b7 hb6
            refine OL.nil ?_
            cases b7 with
            | true =>
              replace hb6 := of_decide_eq_true hb6.symm
              refine r_cond_t rfl ?_
              refine r_skip ?_
              refine r_seq ?_
              refine r_block ?_
              refine r_seq ?_
              refine r_region ?_
              refine OL.q (Q1.move rfl) rfl rfl ?_
              refine OL.q (Q1.move rfl) rfl rfl ?_
              obtain ⟨g4, f11, hl6, k4⟩ := hS15.accK (i := 3) rfl
              obtain ⟨x2, b8, o2, hx2, hr3, hl7, hw2⟩ := Sl.atF (P := Try.prog) f11.sl Try.underlying70 ti91 encE_len (k := .i64) (n := i) ((i).toNat) (by omega) (by first | assumption | omega)
              refine OL.q (Q1.indexAddr rfl rfl hr3) rfl rfl ?_
              obtain ⟨gg, jn, es1, hgk, hru, hto, hjs, hgd, hgne⟩ := edge_at hzc hzg hx2
              obtain ⟨de, rfl, hde⟩ := deep_edge hzg hzd hgk
              have henc : encR x2.rune = encL gg.1 := by rw [hru]; exact encR_L hgd
              have hlya := encL_len4 gg.1
              have hlyb : (encR x2.rune).length ≤ 4 := by rw [henc]; exact hlya
              have hgr1 : 0 ≤ x2.rune ∧ x2.rune ≤ 1114111 := by rw [hru]; have := hgd.1; omega
              have hst1 := eFrom_step (q := q) (d := d) hgk
              have hst2 := wgtFrom_step hgk
              have hgw := wgt_pos gg.2
              have hwgb := wgt_len hzs2
              have hwgc := wgtFrom_le (groups (dropE z.x.1)) (i + 1).toNat
              refine OL.q (Q1.loadN ti91 rfl (fun _ e => e ▸ hw2) rfl) rfl rfl ?_
              refine OL.act rfl rfl (AW.alloc ti91 ?_)
              intro w9 b9 hm7 hb7 hz4 hk4
              have hS17 := hS15.ext hm7
              have hS18 : St (fun _ => False) F w0 w9 [accR encPW 96 3 v_ps2 ps2, slR encPos V2, bkR b4 [.int .i64 ((z.n : Int)), sh1.val, strV z.word] 96, accR encE 91 2 v3 z.x.2, A sk, bkR b9 [.int .i32 0, .int .i64 0] 91] := hS15.newBk hm7 hb7 hk4
              have f12 := hS18.bk (i := 5) rfl
              refine OL.act rfl rfl (AW.store ti91 rfl rfl rfl rfl rfl f12 (Nat.le_of_ble_eq_true rfl) ?_)
              intro w10 hm8 hz5 hk5
              have hS19 : St (fun _ => False) F w0 w10 [accR encPW 96 3 v_ps2 ps2, slR encPos V2, bkR b4 [.int .i64 ((z.n : Int)), sh1.val, strV z.word] 96, accR encE 91 2 v3 z.x.2, A sk, bkR b9 [.int .i32 x2.rune, .int .i64 x2.to] 91] := hS18.bkK (i := 5) rfl hm8 hk5
              refine OL.nil ?_
              refine r_seq ?_
              refine r_region ?_
              refine OL.q (Q1.move rfl) rfl rfl ?_
              refine OL.q (Q1.move rfl) rfl rfl ?_
              refine OL.q (Q1.fieldAddr fl96_1 rfl) rfl rfl ?_
              have f13 := hS19.bk (i := 2) rfl
              refine OL.q (Q1.load1 ti93 rfl (fun _ e => e ▸ (f13.cell 1 _ rfl))) rfl rfl ?_
              refine OL.q (Q1.fieldAddr fl91_0 rfl) rfl rfl ?_
              have f14 := hS19.bk (i := 5) rfl
              refine OL.q (Q1.load1 ti21 rfl (fun _ e => e ▸ (f14.cell 0 _ rfl))) rfl rfl ?_
              have f15 := hS19.out hq hG
              have f16 := hS19.slMem (i := 1) rfl (hVm _ hzm)
              refine OL.act rfl rfl (AW.callF cl58 rfl (astep_c (w0 := w10) (q := q) (s := (stateP q d (runesI z.word))) (d) (x2.rune) (f15.mono (fun b hb => ⟨Nat.zero_le _, Nat.lt_of_lt_of_le (hGl b hb) hS19.mod.size⟩)) (by first | omega | assumption) f16 (by first | omega | assumption) (by first | assumption | omega) (by first | assumption | omega) (by first | assumption | omega)) ?_)
              rintro v4 w11 ⟨⟨gr2, h3, hg2⟩, hm9⟩
              have hS20 := hS19.ext hm9
              have hS21 : St (fun _ => False) F w0 w11 [accR encPW 96 3 v_ps2 ps2, slR encPos V2, bkR b4 [.int .i64 ((z.n : Int)), sh1.val, strV z.word] 96, accR encE 91 2 v3 z.x.2, A sk, bkR b9 [.int .i32 x2.rune, .int .i64 x2.to] 91, accR encPos 121 2 v4 ((stateF (q.length + 1) d (cstepF d q (spreadF q.length d ((stateP q d (runesI z.word)))) x2.rune)))] := hS19.newAcc hm9 h3 hg2
              clear hg2
              have hle_3 := h3.le
              refine OL.q (Q1.assign rfl) rfl rfl ?_
              refine OL.nil ?_
              refine r_seq ?_
              refine r_region ?_
              refine OL.q (Q1.move rfl) rfl rfl ?_
              obtain ⟨g5, f17, hl8, k5⟩ := hS21.accK (i := 6) rfl
              refine OL.act rfl rfl (AW.callF cl59 rfl (adead_c (w0 := w11) (s := (stateF (q.length + 1) d (cstepF d q (spreadF q.length d ((stateP q d (runesI z.word)))) x2.rune)))  (f17.sl.iv (Nat.zero_le _) f17.lt)) ?_)
              rintro _ w12 ⟨⟨b10, hb8, rfl⟩, hm10⟩
              have hS22 := hS21.ext hm10
              cases b10 with
              | true =>
                replace hb8 := hb8.symm
                refine OL.q (Q1.not rfl) rfl rfl ?_
                refine OL.nil ?_
                refine r_cond_f rfl ?_
                refine r_skip ?_
                refine r_inBlock ?_
                refine r_region ?_
                refine OL.q (Q1.move rfl) rfl rfl ?_
                refine OL.q (Q1.subI ((i - 1)) rfl rfl (by omega)) rfl rfl ?_
                refine OL.q (Q1.assign rfl) rfl rfl ?_
                refine OL.nil ?_
                have hS23 : St (fun _ => False) F w0 w12 [accR encPW 96 3 v_ps2 ps2, slR encPos V2, bkR b4 [.int .i64 ((z.n : Int)), sh1.val, strV z.word] 96, accR encE 91 2 v3 z.x.2, A sk] := hS22.sel [0, 1, 2, 3, 4] (by rfl) (by decide)
                exact (ih2 _ _ _ ⟨(v_ps2 : Value), (ps2 : List PW), ((i - 1) : Int), (zs2 : List PZ), (V2 : List (Value × List Pos)), rfl, rfl, hS23, (by first | exact hpush | exact hzs2 | (exfalso; omega)), (by first | exact hVm | exact fun x hx => List.mem_append_left _ (hVm x hx) | (exfalso; omega)), (by first | (rw [todo_push rfl rfl, htd, eFrom_to (by omega) hst1]; simp) | (rw [htd, eFrom_to (by omega) hst1, eNear_dead hd.1 hzf hru hgd hjs hnode rfl (by assumption)]; rfl) | (exfalso; omega)), (by first | (rw [wgtS_snoc]; rw [wgtFrom_to (by omega) hst2]; simp only; omega) | (rw [wgtFrom_to (by omega) hst2]; omega) | (exfalso; omega)), (by first | omega | (exfalso; omega))⟩ (by omega)).sub ⟨rfl, rfl, rfl, rfl, rfl, rfl, rfl, rfl, trivial⟩
              | false =>
                replace hb8 := hb8.symm
                refine OL.q (Q1.not rfl) rfl rfl ?_
                refine OL.nil ?_
                refine r_cond_t rfl ?_
                refine r_region ?_
                refine OL.q (Q1.move rfl) rfl rfl ?_
                refine OL.q (Q1.fieldAddr fl91_1 rfl) rfl rfl ?_
                have f18 := hS22.bk (i := 5) rfl
                refine OL.q (Q1.load1 ti3 rfl (fun _ e => e ▸ (f18.cell 1 _ rfl))) rfl rfl ?_
                refine OL.q (Q1.move rfl) rfl rfl ?_
                refine OL.q (Q1.fieldAddr fl96_2 rfl) rfl rfl ?_
                have f19 := hS22.bk (i := 2) rfl
                refine OL.q (Q1.load1 ti9 rfl (fun _ e => e ▸ (f19.cell 2 _ rfl))) rfl rfl ?_
                refine OL.q (Q1.fieldAddr fl91_0 rfl) rfl rfl ?_
                refine OL.q (Q1.load1 ti21 rfl (fun _ e => e ▸ (f18.cell 0 _ rfl))) rfl rfl ?_
                refine OL.q (Q1.convRS (by kernel_rfl) Try.underlying9 rfl) rfl rfl ?_
                refine OL.q (Q1.catS rfl rfl (by first | omega | (simp only [List.length_append]; omega) | (simp only [List.length_append, List.length_cons, List.length_nil]; omega))) rfl rfl ?_
                obtain ⟨g6, f20, hl9, k6⟩ := hS22.accK (i := 6) rfl
                obtain ⟨ad2, cp2, hv2⟩ := f20.shape
                subst hv2
                refine OL.q (Q1.build (vs := #[(0, (.int .i64 x2.to : Value)), (1, (.slice ad2 ((stateF (q.length + 1) d (cstepF d q (spreadF q.length d ((stateP q d (runesI z.word)))) x2.rune))).length cp2)), (2, strV ((z.word ++ (encR x2.rune))))]) (v := .agg #[.int .i64 x2.to, (.slice ad2 ((stateF (q.length + 1) d (cstepF d q (spreadF q.length d ((stateP q d (runesI z.word)))) x2.rune))).length cp2), strV ((z.word ++ (encR x2.rune)))]) rfl (fun _ => by kernel_rfl)) rfl rfl ?_
                refine OL.act rfl rfl (AW.buildSlice [(.agg #[.int .i64 x2.to, (.slice ad2 ((stateF (q.length + 1) d (cstepF d q (spreadF q.length d ((stateP q d (runesI z.word)))) x2.rune))).length cp2), strV ((z.word ++ (encR x2.rune)))] : Value)] Try.underlying97 ti96 rfl rfl rfl (by decide) ?_)
                intro w13 b11 hm11 hb9 hz6 hk6
                have hS23 := hS22.ext hm11
                have hl10 := Sl.of_blk (enc := encPW) hk6 ([(PW.mk x2.to (SH.mk ad2 ((stateF (q.length + 1) d (cstepF d q (spreadF q.length d ((stateP q d (runesI z.word)))) x2.rune))).length cp2) ((z.word ++ (encR x2.rune))))] : List PW) 1 rfl rfl (by unfold maxLen; omega)
                have hS24 : St (fun _ => False) F w0 w13 [accR encPW 96 3 v_ps2 ps2, slR encPos V2, bkR b4 [.int .i64 ((z.n : Int)), sh1.val, strV z.word] 96, accR encE 91 2 v3 z.x.2, A sk, bkR b9 [.int .i32 x2.rune, .int .i64 x2.to] 91, accR encPos 121 2 ((.slice ad2 ((stateF (q.length + 1) d (cstepF d q (spreadF q.length d ((stateP q d (runesI z.word)))) x2.rune))).length cp2)) ((stateF (q.length + 1) d (cstepF d q (spreadF q.length d ((stateP q d (runesI z.word)))) x2.rune))), slR encPW [((.slice (some ⟨b11, 0, none⟩) 1 1), [(PW.mk x2.to (SH.mk ad2 ((stateF (q.length + 1) d (cstepF d q (spreadF q.length d ((stateP q d (runesI z.word)))) x2.rune))).length cp2) ((z.word ++ (encR x2.rune))))])]] := hS22.newSlB hm11 hb9 hz6 hl10
                obtain ⟨g8, f21, hl11, k7⟩ := hS24.accK (i := 0) rfl
                have f22 := hS24.sl (i := 7) (k := 0) rfl rfl
                refine OL.act rfl rfl (AW.append f21 Try.underlying97 ti96 rfl encPW_len encPW_one rfl rfl (f22) (by first | omega | (simp only [List.length_append, List.length_cons, List.length_nil]; omega) | (simp; omega)) (by unfold maxLen; first | omega | (simp only [List.length_append, List.length_cons, List.length_nil]; omega) | (simp; omega)) ?_)
                intro v5 g7 w14 ha2 hm12 hg3 hz7
                have hS25 : St (fun _ => False) F w0 w14 [accR encPW 96 3 v5 ((ps2 ++ [(PW.mk x2.to (SH.mk ad2 ((stateF (q.length + 1) d (cstepF d q (spreadF q.length d ((stateP q d (runesI z.word)))) x2.rune))).length cp2) ((z.word ++ (encR x2.rune))))])), slR encPos V2, bkR b4 [.int .i64 ((z.n : Int)), sh1.val, strV z.word] 96, accR encE 91 2 v3 z.x.2, A sk, bkR b9 [.int .i32 x2.rune, .int .i64 x2.to] 91, accR encPos 121 2 ((.slice ad2 ((stateF (q.length + 1) d (cstepF d q (spreadF q.length d ((stateP q d (runesI z.word)))) x2.rune))).length cp2)) ((stateF (q.length + 1) d (cstepF d q (spreadF q.length d ((stateP q d (runesI z.word)))) x2.rune))), slR encPW [((.slice (some ⟨b11, 0, none⟩) 1 1), [(PW.mk x2.to (SH.mk ad2 ((stateF (q.length + 1) d (cstepF d q (spreadF q.length d ((stateP q d (runesI z.word)))) x2.rune))).length cp2) ((z.word ++ (encR x2.rune))))])]] := k7 _ _ _ _ hm12 ha2 hg3
                clear hg3
                refine OL.q (Q1.assign rfl) rfl rfl ?_
                have hS26 : St (fun _ => False) F w0 w14 [accR encPW 96 3 v5 ((ps2 ++ [(PW.mk x2.to (SH.mk ad2 ((stateF (q.length + 1) d (cstepF d q (spreadF q.length d ((stateP q d (runesI z.word)))) x2.rune))).length cp2) ((z.word ++ (encR x2.rune))))])), slR encPos V2, bkR b4 [.int .i64 ((z.n : Int)), sh1.val, strV z.word] 96, accR encE 91 2 v3 z.x.2, A sk, bkR b9 [.int .i32 x2.rune, .int .i64 x2.to] 91, slR encPos [((.slice ad2 ((stateF (q.length + 1) d (cstepF d q (spreadF q.length d ((stateP q d (runesI z.word)))) x2.rune))).length cp2), (stateF (q.length + 1) d (cstepF d q (spreadF q.length d ((stateP q d (runesI z.word)))) x2.rune)))], slR encPW [((.slice (some ⟨b11, 0, none⟩) 1 1), [(PW.mk x2.to (SH.mk ad2 ((stateF (q.length + 1) d (cstepF d q (spreadF q.length d ((stateP q d (runesI z.word)))) x2.rune))).length cp2) ((z.word ++ (encR x2.rune))))])]] := hS25.freeze (i := 6) rfl
                have hS27 : St (fun _ => False) F w0 w14 [accR encPW 96 3 v5 ((ps2 ++ [(PW.mk x2.to (SH.mk ad2 ((stateF (q.length + 1) d (cstepF d q (spreadF q.length d ((stateP q d (runesI z.word)))) x2.rune))).length cp2) ((z.word ++ (encR x2.rune))))])), bkR b4 [.int .i64 ((z.n : Int)), sh1.val, strV z.word] 96, accR encE 91 2 v3 z.x.2, A sk, bkR b9 [.int .i32 x2.rune, .int .i64 x2.to] 91, slR encPW [((.slice (some ⟨b11, 0, none⟩) 1 1), [(PW.mk x2.to (SH.mk ad2 ((stateF (q.length + 1) d (cstepF d q (spreadF q.length d ((stateP q d (runesI z.word)))) x2.rune))).length cp2) ((z.word ++ (encR x2.rune))))])], slR encPos V2, slR encPos [((.slice ad2 ((stateF (q.length + 1) d (cstepF d q (spreadF q.length d ((stateP q d (runesI z.word)))) x2.rune))).length cp2), (stateF (q.length + 1) d (cstepF d q (spreadF q.length d ((stateP q d (runesI z.word)))) x2.rune)))]] := hS26.sel [0, 2, 3, 4, 5, 7, 1, 6] (by rfl) (by decide)
                have hS28 : St (fun _ => False) F w0 w14 [accR encPW 96 3 v5 ((ps2 ++ [(PW.mk x2.to (SH.mk ad2 ((stateF (q.length + 1) d (cstepF d q (spreadF q.length d ((stateP q d (runesI z.word)))) x2.rune))).length cp2) ((z.word ++ (encR x2.rune))))])), bkR b4 [.int .i64 ((z.n : Int)), sh1.val, strV z.word] 96, accR encE 91 2 v3 z.x.2, A sk, bkR b9 [.int .i32 x2.rune, .int .i64 x2.to] 91, slR encPW [((.slice (some ⟨b11, 0, none⟩) 1 1), [(PW.mk x2.to (SH.mk ad2 ((stateF (q.length + 1) d (cstepF d q (spreadF q.length d ((stateP q d (runesI z.word)))) x2.rune))).length cp2) ((z.word ++ (encR x2.rune))))])], boxR [slR encPos V2, slR encPos [((.slice ad2 ((stateF (q.length + 1) d (cstepF d q (spreadF q.length d ((stateP q d (runesI z.word)))) x2.rune))).length cp2), (stateF (q.length + 1) d (cstepF d q (spreadF q.length d ((stateP q d (runesI z.word)))) x2.rune)))]]] := St.close (L1 := [accR encPW 96 3 v5 ((ps2 ++ [(PW.mk x2.to (SH.mk ad2 ((stateF (q.length + 1) d (cstepF d q (spreadF q.length d ((stateP q d (runesI z.word)))) x2.rune))).length cp2) ((z.word ++ (encR x2.rune))))])), bkR b4 [.int .i64 ((z.n : Int)), sh1.val, strV z.word] 96, accR encE 91 2 v3 z.x.2, A sk, bkR b9 [.int .i32 x2.rune, .int .i64 x2.to] 91, slR encPW [((.slice (some ⟨b11, 0, none⟩) 1 1), [(PW.mk x2.to (SH.mk ad2 ((stateF (q.length + 1) d (cstepF d q (spreadF q.length d ((stateP q d (runesI z.word)))) x2.rune))).length cp2) ((z.word ++ (encR x2.rune))))])]]) hS27
                have hS29 : St (fun _ => False) F w0 w14 [accR encPW 96 3 v5 ((ps2 ++ [(PW.mk x2.to (SH.mk ad2 ((stateF (q.length + 1) d (cstepF d q (spreadF q.length d ((stateP q d (runesI z.word)))) x2.rune))).length cp2) ((z.word ++ (encR x2.rune))))])), bkR b4 [.int .i64 ((z.n : Int)), sh1.val, strV z.word] 96, accR encE 91 2 v3 z.x.2, A sk, bkR b9 [.int .i32 x2.rune, .int .i64 x2.to] 91, slR encPW [((.slice (some ⟨b11, 0, none⟩) 1 1), [(PW.mk x2.to (SH.mk ad2 ((stateF (q.length + 1) d (cstepF d q (spreadF q.length d ((stateP q d (runesI z.word)))) x2.rune))).length cp2) ((z.word ++ (encR x2.rune))))])], slR encPos (V2 ++ [((.slice ad2 ((stateF (q.length + 1) d (cstepF d q (spreadF q.length d ((stateP q d (runesI z.word)))) x2.rune))).length cp2), (stateF (q.length + 1) d (cstepF d q (spreadF q.length d ((stateP q d (runesI z.word)))) x2.rune)))])] := hS28.imp (i := 6) rfl (fun F_ h_ => sl_app h_)
                have hpush := PWR.push hd.1 hzs2 hsz hnode hzf (sh := SH.mk ad2 ((stateF (q.length + 1) d (cstepF d q (spreadF q.length d ((stateP q d (runesI z.word)))) x2.rune))).length cp2) (L := (stateF (q.length + 1) d (cstepF d q (spreadF q.length d ((stateP q d (runesI z.word)))) x2.rune))) (wd := z.word ++ encR x2.rune) hru hjs hgd rfl (by rw [henc]) hde hzl hto
                refine OL.nil ?_
                refine r_inBlock ?_
                refine r_region ?_
                refine OL.q (Q1.move rfl) rfl rfl ?_
                refine OL.q (Q1.subI ((i - 1)) rfl rfl (by omega)) rfl rfl ?_
                refine OL.q (Q1.assign rfl) rfl rfl ?_
                refine OL.nil ?_
                have hS30 : St (fun _ => False) F w0 w14 [accR encPW 96 3 v5 ((ps2 ++ [(PW.mk x2.to (SH.mk ad2 ((stateF (q.length + 1) d (cstepF d q (spreadF q.length d ((stateP q d (runesI z.word)))) x2.rune))).length cp2) ((z.word ++ (encR x2.rune))))])), slR encPos (V2 ++ [((.slice ad2 ((stateF (q.length + 1) d (cstepF d q (spreadF q.length d ((stateP q d (runesI z.word)))) x2.rune))).length cp2), (stateF (q.length + 1) d (cstepF d q (spreadF q.length d ((stateP q d (runesI z.word)))) x2.rune)))]), bkR b4 [.int .i64 ((z.n : Int)), sh1.val, strV z.word] 96, accR encE 91 2 v3 z.x.2, A sk] := hS29.sel [0, 6, 1, 2, 3] (by rfl) (by decide)
                exact (ih2 _ _ _ ⟨(v5 : Value), ((ps2 ++ [(PW.mk x2.to (SH.mk ad2 ((stateF (q.length + 1) d (cstepF d q (spreadF q.length d ((stateP q d (runesI z.word)))) x2.rune))).length cp2) ((z.word ++ (encR x2.rune))))]) : List PW), ((i - 1) : Int), ((zs2 ++ [PZ.mk jn (gg.2, es1) (z.word ++ encL gg.1)]) : List PZ), ((V2 ++ [((.slice ad2 ((stateF (q.length + 1) d (cstepF d q (spreadF q.length d ((stateP q d (runesI z.word)))) x2.rune))).length cp2), (stateF (q.length + 1) d (cstepF d q (spreadF q.length d ((stateP q d (runesI z.word)))) x2.rune)))]) : List (Value × List Pos)), rfl, rfl, hS30, (by first | exact hpush | exact hzs2 | (exfalso; omega)), (by first | exact hVm | exact fun x hx => List.mem_append_left _ (hVm x hx) | (exfalso; omega)), (by first | (rw [todo_push rfl rfl, htd, eFrom_to (by omega) hst1]; simp) | (rw [htd, eFrom_to (by omega) hst1, eNear_dead hd.1 hzf hru hgd hjs hnode rfl (by assumption)]; rfl) | (exfalso; omega)), (by first | (rw [wgtS_snoc]; rw [wgtFrom_to (by omega) hst2]; simp only; omega) | (rw [wgtFrom_to (by omega) hst2]; omega) | (exfalso; omega)), (by first | omega | (exfalso; omega))⟩ (by omega)).sub ⟨rfl, rfl, rfl, rfl, rfl, rfl, rfl, rfl, trivial⟩
            | false =>
              replace hb6 := of_decide_eq_false hb6.symm
              refine r_cond_f rfl ?_
              refine r_exit rfl ?_
              refine r_inBlock ?_
              have hS17 : St (fun _ => False) F w0 w8 [accR encPW 96 3 v_ps2 ps2, slR encPos V2, A sk] := hS15.sel [0, 1, 4] (by rfl) (by decide)
              exact (ih1 _ _ _ ⟨(v_ps2 : Value), (ps2 : List PW), (zs2 : List PZ), (V2 : List (Value × List Pos)), (sk : σ), rfl, rfl, hS17, (by first | exact hzs2 | (exfalso; omega)), (by first | rw [hE2, htd, eFrom_at (by omega)] | (exfalso; omega)), (by first | rw [htd, eFrom_at (by omega)]; exact hE3 | (exfalso; omega)), (by first | rw [wgtFrom_at (by omega)] at hwg2; omega | (exfalso; omega)), (by first | have := wgt_len hzs2; rw [wgtFrom_at (by omega)] at hwg2; omega | (exfalso; omega))⟩ (by rw [wgtFrom_at (by omega)] at hwg2; omega)).sub ⟨rfl, rfl, rfl, rfl, rfl, trivial⟩
      | false =>
        replace hb4 := hb4.symm
        refine OL.sk rfl rfl ?_
        refine OL.sk rfl rfl ?_
        refine OL.sk rfl rfl ?_
        refine OL.q (Q1.pick_f rfl rfl) rfl rfl ?_
        refine OL.q (Q1.move rfl) rfl rfl ?_
        refine OL.sk rfl rfl ?_
        refine OL.sk rfl rfl ?_
        refine OL.sk rfl rfl ?_
        refine OL.sk rfl rfl ?_
        refine OL.q (Q1.pick_f rfl rfl) rfl rfl ?_
        refine OL.q (Q1.move rfl) rfl rfl ?_
        refine OL.sk rfl rfl ?_
        refine OL.sk rfl rfl ?_
        refine OL.sk rfl rfl ?_
        refine OL.sk rfl rfl ?_
        refine OL.sk rfl rfl ?_
        refine OL.q (Q1.pick_f rfl rfl) rfl rfl ?_
        refine OL.nil ?_
        refine r_cond_f rfl ?_
        refine r_skip ?_
        refine r_seq ?_
        refine r_region ?_
        refine OL.q (Q1.move rfl) rfl rfl ?_
        refine OL.q (Q1.fieldAddr fl96_0 rfl) rfl rfl ?_
        have f8 := hS11.bk (i := 3) rfl
        refine OL.q (Q1.load1 ti3 rfl (fun _ e => e ▸ (f8.cell 0 _ rfl))) rfl rfl ?_
        have f9 := Gr.keepM hgr hS11.mod hgF
        refine OL.act rfl rfl (AW.callF cl57 rfl (edges_c (w0 := w6)  ((z.n : Int)) f9 (Nat.le_trans hhi hS11.mod.size) (by first | omega | assumption) (by first | assumption | omega | (simp; done)) (by first | assumption | (simp; done))) ?_)
        rintro v3 w7 ⟨⟨gr1, h2, hg1⟩, hm6⟩
        have hS12 := hS11.ext hm6
        have hS13 : St (fun _ => False) F w0 w7 [accR encPW 96 3 v2 ((ps.take ((ps.length - 1)))), slR encPos V, A sk, bkR b4 [.int .i64 ((z.n : Int)), sh1.val, strV z.word] 96, accR encE 91 2 v3 (((nodeAt ((gnOf s)) ((z.n : Int))).2))] := hS11.newAcc hm6 h2 hg1
        clear hg1
        have hle_2 := h2.le
        have hne1 : (nodeAt (gnOf s) (z.n : Int)).2 = z.x.2 := by rw [hna]
        have hel1 := nodeAt_len hel (z.n : Int)
        rw [hne1] at hel1
        have hS14 : St (fun _ => False) F w0 w7 [accR encPW 96 3 v2 ((ps.take ((ps.length - 1)))), slR encPos V, A sk, bkR b4 [.int .i64 ((z.n : Int)), sh1.val, strV z.word] 96, accR encE 91 2 v3 z.x.2] := (by rw [← hne1]; exact hS13)
        have hE2 : eachF f s0 (distsM words q d) = eachF f sk (eFrom q d z 0 ++ todoZ q d zs1) := yz_no hall (fun hc => by first | exact far_no (by assumption) (hdn.2 hc.2) | exact far_no2 (by assumption) (hdn.2 hc.2) | exact absurd hc.1 (by simp [*]))
        have hE3 : OkAll ok f sk (eFrom q d z 0 ++ todoZ q d zs1) := yz_okno hok2 (fun hc => by first | exact far_no (by assumption) (hdn.2 hc.2) | exact far_no2 (by assumption) (hdn.2 hc.2) | exact absurd hc.1 (by simp [*]))
        refine OL.q (Q1.assign rfl) rfl rfl ?_
        refine OL.nil ?_
        refine r_seq ?_
        refine r_region ?_
        refine OL.q (Q1.move rfl) rfl rfl ?_
        obtain ⟨g3, f10, hl5, k3⟩ := hS14.accK (i := 4) rfl
        refine OL.q (Q1.lenSl Try.underlying70 (f10.sl) rfl) rfl rfl ?_
        refine OL.q (Q1.subI ((((z.x.2.length : Nat) : Int) - 1)) rfl rfl (by omega)) rfl rfl ?_
        refine OL.q (Q1.assign rfl) rfl rfl ?_
        refine OL.nil ?_
        refine r_block ?_
        have hS16 : St (fun _ => False) F w0 w7 [accR encPW 96 3 v2 ((ps.take ((ps.length - 1)))), slR encPos V, bkR b4 [.int .i64 ((z.n : Int)), sh1.val, strV z.word] 96, accR encE 91 2 v3 z.x.2, A sk] := hS14.sel [0, 1, 3, 4, 2] (by rfl) (by decide)
        refine r_loop (I := fun m E W => ∃ (v_ps2 : Value) (ps2 : List PW) (i : Int) (zs2 : List PZ) (V2 : List (Value × List Pos)), E = [(0, v_g), (1, v_q), (2, .int .i64 d), (3, .func (.func ky) first.toArray cap.toArray), (8, v_ps2), (9, ptr b4 0), (12, v3), (13, .int .i64 i)] ∧ m = (i + 1).toNat ∧ St (fun _ => False) F w0 W [accR encPW 96 3 v_ps2 ps2, slR encPos V2, bkR b4 [.int .i64 ((z.n : Int)), sh1.val, strV z.word] 96, accR encE 91 2 v3 z.x.2, A sk] ∧ (All2 (PWR q d s V2) ps2 zs2) ∧ (∀ x ∈ V, x ∈ V2) ∧ (todoZ q d zs2 = eFrom q d z (i + 1).toNat ++ todoZ q d zs1) ∧ (wgtS zs2 ≤ wgtS zs1 + wgtFrom (groups (dropE z.x.1)) (i + 1).toNat) ∧ (-1 ≤ i ∧ i < (z.x.2.length : Int))) ?_ ?_
        · refine ⟨_, _, ⟨(v2 : Value), ((ps.take ((ps.length - 1))) : List PW), ((((z.x.2.length : Nat) : Int) - 1) : Int), (zs1 : List PZ), (V : List (Value × List Pos)), rfl, rfl, hS16, (by exact hz1), (by exact fun x hx => hx), (by (rw [eFrom_end (by have := grp_len hzc; omega)]; rfl)), (by omega), (by omega)⟩, ⟨rfl, rfl, rfl, rfl, rfl, rfl, rfl, rfl, trivial⟩⟩
        · rintro _ _ w8 ⟨v_ps2, ps2, i, zs2, V2, rfl, rfl, hS15, hzs2, hVm, htd, hwg2, hi1⟩ ih2
          refine r_seq ?_
          refine r_seq ?_
          refine r_region ?_
          refine OL.q (Q1.move rfl) rfl rfl ?_
          refine OL.qb (Q1.ge rfl rfl) rfl rfl ?_
          intro b6 hb5
          refine OL.nil ?_
          cases b6 with
          | true =>
            replace hb5 := of_decide_eq_true hb5.symm
            refine r_cond_t rfl ?_
            refine r_skip ?_
            refine r_seq ?_
            refine r_block ?_
            refine r_seq ?_
            refine r_region ?_
            refine OL.q (Q1.move rfl) rfl rfl ?_
            refine OL.q (Q1.move rfl) rfl rfl ?_
            obtain ⟨g4, f11, hl6, k4⟩ := hS15.accK (i := 3) rfl
            obtain ⟨x2, b7, o2, hx2, hr3, hl7, hw2⟩ := Sl.atF (P := Try.prog) f11.sl Try.underlying70 ti91 encE_len (k := .i64) (n := i) ((i).toNat) (by omega) (by first | assumption | omega)
            refine OL.q (Q1.indexAddr rfl rfl hr3) rfl rfl ?_
            obtain ⟨gg, jn, es1, hgk, hru, hto, hjs, hgd, hgne⟩ := edge_at hzc hzg hx2
            obtain ⟨de, rfl, hde⟩ := deep_edge hzg hzd hgk
            have henc : encR x2.rune = encL gg.1 := by rw [hru]; exact encR_L hgd
            have hlya := encL_len4 gg.1
            have hlyb : (encR x2.rune).length ≤ 4 := by rw [henc]; exact hlya
            have hgr1 : 0 ≤ x2.rune ∧ x2.rune ≤ 1114111 := by rw [hru]; have := hgd.1; omega
            have hst1 := eFrom_step (q := q) (d := d) hgk
            have hst2 := wgtFrom_step hgk
            have hgw := wgt_pos gg.2
            have hwgb := wgt_len hzs2
            have hwgc := wgtFrom_le (groups (dropE z.x.1)) (i + 1).toNat
            refine OL.q (Q1.loadN ti91 rfl (fun _ e => e ▸ hw2) rfl) rfl rfl ?_
            refine OL.act rfl rfl (AW.alloc ti91 ?_)
            intro w9 b8 hm7 hb6 hz4 hk4
            have hS17 := hS15.ext hm7
            have hS18 : St (fun _ => False) F w0 w9 [accR encPW 96 3 v_ps2 ps2, slR encPos V2, bkR b4 [.int .i64 ((z.n : Int)), sh1.val, strV z.word] 96, accR encE 91 2 v3 z.x.2, A sk, bkR b8 [.int .i32 0, .int .i64 0] 91] := hS15.newBk hm7 hb6 hk4
            have f12 := hS18.bk (i := 5) rfl
            refine OL.act rfl rfl (AW.store ti91 rfl rfl rfl rfl rfl f12 (Nat.le_of_ble_eq_true rfl) ?_)
            intro w10 hm8 hz5 hk5
            have hS19 : St (fun _ => False) F w0 w10 [accR encPW 96 3 v_ps2 ps2, slR encPos V2, bkR b4 [.int .i64 ((z.n : Int)), sh1.val, strV z.word] 96, accR encE 91 2 v3 z.x.2, A sk, bkR b8 [.int .i32 x2.rune, .int .i64 x2.to] 91] := hS18.bkK (i := 5) rfl hm8 hk5
            refine OL.nil ?_
            refine r_seq ?_
            refine r_region ?_
            refine OL.q (Q1.move rfl) rfl rfl ?_
            refine OL.q (Q1.move rfl) rfl rfl ?_
            refine OL.q (Q1.fieldAddr fl96_1 rfl) rfl rfl ?_
            have f13 := hS19.bk (i := 2) rfl
            refine OL.q (Q1.load1 ti93 rfl (fun _ e => e ▸ (f13.cell 1 _ rfl))) rfl rfl ?_
            refine OL.q (Q1.fieldAddr fl91_0 rfl) rfl rfl ?_
            have f14 := hS19.bk (i := 5) rfl
            refine OL.q (Q1.load1 ti21 rfl (fun _ e => e ▸ (f14.cell 0 _ rfl))) rfl rfl ?_
            have f15 := hS19.out hq hG
            have f16 := hS19.slMem (i := 1) rfl (hVm _ hzm)
            refine OL.act rfl rfl (AW.callF cl58 rfl (astep_c (w0 := w10) (q := q) (s := (stateP q d (runesI z.word))) (d) (x2.rune) (f15.mono (fun b hb => ⟨Nat.zero_le _, Nat.lt_of_lt_of_le (hGl b hb) hS19.mod.size⟩)) (by first | omega | assumption) f16 (by first | omega | assumption) (by first | assumption | omega) (by first | assumption | omega) (by first | assumption | omega)) ?_)
            rintro v4 w11 ⟨⟨gr2, h3, hg2⟩, hm9⟩
            have hS20 := hS19.ext hm9
            have hS21 : St (fun _ => False) F w0 w11 [accR encPW 96 3 v_ps2 ps2, slR encPos V2, bkR b4 [.int .i64 ((z.n : Int)), sh1.val, strV z.word] 96, accR encE 91 2 v3 z.x.2, A sk, bkR b8 [.int .i32 x2.rune, .int .i64 x2.to] 91, accR encPos 121 2 v4 ((stateF (q.length + 1) d (cstepF d q (spreadF q.length d ((stateP q d (runesI z.word)))) x2.rune)))] := hS19.newAcc hm9 h3 hg2
            clear hg2
            have hle_3 := h3.le
            refine OL.q (Q1.assign rfl) rfl rfl ?_
            refine OL.nil ?_
            refine r_seq ?_
            refine r_region ?_
            refine OL.q (Q1.move rfl) rfl rfl ?_
            obtain ⟨g5, f17, hl8, k5⟩ := hS21.accK (i := 6) rfl
            refine OL.act rfl rfl (AW.callF cl59 rfl (adead_c (w0 := w11) (s := (stateF (q.length + 1) d (cstepF d q (spreadF q.length d ((stateP q d (runesI z.word)))) x2.rune)))  (f17.sl.iv (Nat.zero_le _) f17.lt)) ?_)
            rintro _ w12 ⟨⟨b9, hb7, rfl⟩, hm10⟩
            have hS22 := hS21.ext hm10
            cases b9 with
            | true =>
              replace hb7 := hb7.symm
              refine OL.q (Q1.not rfl) rfl rfl ?_
              refine OL.nil ?_
              refine r_cond_f rfl ?_
              refine r_skip ?_
              refine r_inBlock ?_
              refine r_region ?_
              refine OL.q (Q1.move rfl) rfl rfl ?_
              refine OL.q (Q1.subI ((i - 1)) rfl rfl (by omega)) rfl rfl ?_
              refine OL.q (Q1.assign rfl) rfl rfl ?_
              refine OL.nil ?_
              have hS23 : St (fun _ => False) F w0 w12 [accR encPW 96 3 v_ps2 ps2, slR encPos V2, bkR b4 [.int .i64 ((z.n : Int)), sh1.val, strV z.word] 96, accR encE 91 2 v3 z.x.2, A sk] := hS22.sel [0, 1, 2, 3, 4] (by rfl) (by decide)
              exact (ih2 _ _ _ ⟨(v_ps2 : Value), (ps2 : List PW), ((i - 1) : Int), (zs2 : List PZ), (V2 : List (Value × List Pos)), rfl, rfl, hS23, (by first | exact hpush | exact hzs2 | (exfalso; omega)), (by first | exact hVm | exact fun x hx => List.mem_append_left _ (hVm x hx) | (exfalso; omega)), (by first | (rw [todo_push rfl rfl, htd, eFrom_to (by omega) hst1]; simp) | (rw [htd, eFrom_to (by omega) hst1, eNear_dead hd.1 hzf hru hgd hjs hnode rfl (by assumption)]; rfl) | (exfalso; omega)), (by first | (rw [wgtS_snoc]; rw [wgtFrom_to (by omega) hst2]; simp only; omega) | (rw [wgtFrom_to (by omega) hst2]; omega) | (exfalso; omega)), (by first | omega | (exfalso; omega))⟩ (by omega)).sub ⟨rfl, rfl, rfl, rfl, rfl, rfl, rfl, rfl, trivial⟩
            | false =>
              replace hb7 := hb7.symm
              refine OL.q (Q1.not rfl) rfl rfl ?_
              refine OL.nil ?_
              refine r_cond_t rfl ?_
              refine r_region ?_
              refine OL.q (Q1.move rfl) rfl rfl ?_
              refine OL.q (Q1.fieldAddr fl91_1 rfl) rfl rfl ?_
              have f18 := hS22.bk (i := 5) rfl
              refine OL.q (Q1.load1 ti3 rfl (fun _ e => e ▸ (f18.cell 1 _ rfl))) rfl rfl ?_
              refine OL.q (Q1.move rfl) rfl rfl ?_
              refine OL.q (Q1.fieldAddr fl96_2 rfl) rfl rfl ?_
              have f19 := hS22.bk (i := 2) rfl
              refine OL.q (Q1.load1 ti9 rfl (fun _ e => e ▸ (f19.cell 2 _ rfl))) rfl rfl ?_
              refine OL.q (Q1.fieldAddr fl91_0 rfl) rfl rfl ?_
              refine OL.q (Q1.load1 ti21 rfl (fun _ e => e ▸ (f18.cell 0 _ rfl))) rfl rfl ?_
              refine OL.q (Q1.convRS (by kernel_rfl) Try.underlying9 rfl) rfl rfl ?_
              refine OL.q (Q1.catS rfl rfl (by first | omega | (simp only [List.length_append]; omega) | (simp only [List.length_append, List.length_cons, List.length_nil]; omega))) rfl rfl ?_
              obtain ⟨g6, f20, hl9, k6⟩ := hS22.accK (i := 6) rfl
              obtain ⟨ad2, cp2, hv2⟩ := f20.shape
              subst hv2
              refine OL.q (Q1.build (vs := #[(0, (.int .i64 x2.to : Value)), (1, (.slice ad2 ((stateF (q.length + 1) d (cstepF d q (spreadF q.length d ((stateP q d (runesI z.word)))) x2.rune))).length cp2)), (2, strV ((z.word ++ (encR x2.rune))))]) (v := .agg #[.int .i64 x2.to, (.slice ad2 ((stateF (q.length + 1) d (cstepF d q (spreadF q.length d ((stateP q d (runesI z.word)))) x2.rune))).length cp2), strV ((z.word ++ (encR x2.rune)))]) rfl (fun _ => by kernel_rfl)) rfl rfl ?_
              refine OL.act rfl rfl (AW.buildSlice [(.agg #[.int .i64 x2.to, (.slice ad2 ((stateF (q.length + 1) d (cstepF d q (spreadF q.length d ((stateP q d (runesI z.word)))) x2.rune))).length cp2), strV ((z.word ++ (encR x2.rune)))] : Value)] Try.underlying97 ti96 rfl rfl rfl (by decide) ?_)
              intro w13 b10 hm11 hb8 hz6 hk6
              have hS23 := hS22.ext hm11
              have hl10 := Sl.of_blk (enc := encPW) hk6 ([(PW.mk x2.to (SH.mk ad2 ((stateF (q.length + 1) d (cstepF d q (spreadF q.length d ((stateP q d (runesI z.word)))) x2.rune))).length cp2) ((z.word ++ (encR x2.rune))))] : List PW) 1 rfl rfl (by unfold maxLen; omega)
              have hS24 : St (fun _ => False) F w0 w13 [accR encPW 96 3 v_ps2 ps2, slR encPos V2, bkR b4 [.int .i64 ((z.n : Int)), sh1.val, strV z.word] 96, accR encE 91 2 v3 z.x.2, A sk, bkR b8 [.int .i32 x2.rune, .int .i64 x2.to] 91, accR encPos 121 2 ((.slice ad2 ((stateF (q.length + 1) d (cstepF d q (spreadF q.length d ((stateP q d (runesI z.word)))) x2.rune))).length cp2)) ((stateF (q.length + 1) d (cstepF d q (spreadF q.length d ((stateP q d (runesI z.word)))) x2.rune))), slR encPW [((.slice (some ⟨b10, 0, none⟩) 1 1), [(PW.mk x2.to (SH.mk ad2 ((stateF (q.length + 1) d (cstepF d q (spreadF q.length d ((stateP q d (runesI z.word)))) x2.rune))).length cp2) ((z.word ++ (encR x2.rune))))])]] := hS22.newSlB hm11 hb8 hz6 hl10
              obtain ⟨g8, f21, hl11, k7⟩ := hS24.accK (i := 0) rfl
              have f22 := hS24.sl (i := 7) (k := 0) rfl rfl
              refine OL.act rfl rfl (AW.append f21 Try.underlying97 ti96 rfl encPW_len encPW_one rfl rfl (f22) (by first | omega | (simp only [List.length_append, List.length_cons, List.length_nil]; omega) | (simp; omega)) (by unfold maxLen; first | omega | (simp only [List.length_append, List.length_cons, List.length_nil]; omega) | (simp; omega)) ?_)
              intro v5 g7 w14 ha2 hm12 hg3 hz7
              have hS25 : St (fun _ => False) F w0 w14 [accR encPW 96 3 v5 ((ps2 ++ [(PW.mk x2.to (SH.mk ad2 ((stateF (q.length + 1) d (cstepF d q (spreadF q.length d ((stateP q d (runesI z.word)))) x2.rune))).length cp2) ((z.word ++ (encR x2.rune))))])), slR encPos V2, bkR b4 [.int .i64 ((z.n : Int)), sh1.val, strV z.word] 96, accR encE 91 2 v3 z.x.2, A sk, bkR b8 [.int .i32 x2.rune, .int .i64 x2.to] 91, accR encPos 121 2 ((.slice ad2 ((stateF (q.length + 1) d (cstepF d q (spreadF q.length d ((stateP q d (runesI z.word)))) x2.rune))).length cp2)) ((stateF (q.length + 1) d (cstepF d q (spreadF q.length d ((stateP q d (runesI z.word)))) x2.rune))), slR encPW [((.slice (some ⟨b10, 0, none⟩) 1 1), [(PW.mk x2.to (SH.mk ad2 ((stateF (q.length + 1) d (cstepF d q (spreadF q.length d ((stateP q d (runesI z.word)))) x2.rune))).length cp2) ((z.word ++ (encR x2.rune))))])]] := k7 _ _ _ _ hm12 ha2 hg3
              clear hg3
              refine OL.q (Q1.assign rfl) rfl rfl ?_
              have hS26 : St (fun _ => False) F w0 w14 [accR encPW 96 3 v5 ((ps2 ++ [(PW.mk x2.to (SH.mk ad2 ((stateF (q.length + 1) d (cstepF d q (spreadF q.length d ((stateP q d (runesI z.word)))) x2.rune))).length cp2) ((z.word ++ (encR x2.rune))))])), slR encPos V2, bkR b4 [.int .i64 ((z.n : Int)), sh1.val, strV z.word] 96, accR encE 91 2 v3 z.x.2, A sk, bkR b8 [.int .i32 x2.rune, .int .i64 x2.to] 91, slR encPos [((.slice ad2 ((stateF (q.length + 1) d (cstepF d q (spreadF q.length d ((stateP q d (runesI z.word)))) x2.rune))).length cp2), (stateF (q.length + 1) d (cstepF d q (spreadF q.length d ((stateP q d (runesI z.word)))) x2.rune)))], slR encPW [((.slice (some ⟨b10, 0, none⟩) 1 1), [(PW.mk x2.to (SH.mk ad2 ((stateF (q.length + 1) d (cstepF d q (spreadF q.length d ((stateP q d (runesI z.word)))) x2.rune))).length cp2) ((z.word ++ (encR x2.rune))))])]] := hS25.freeze (i := 6) rfl
              have hS27 : St (fun _ => False) F w0 w14 [accR encPW 96 3 v5 ((ps2 ++ [(PW.mk x2.to (SH.mk ad2 ((stateF (q.length + 1) d (cstepF d q (spreadF q.length d ((stateP q d (runesI z.word)))) x2.rune))).length cp2) ((z.word ++ (encR x2.rune))))])), bkR b4 [.int .i64 ((z.n : Int)), sh1.val, strV z.word] 96, accR encE 91 2 v3 z.x.2, A sk, bkR b8 [.int .i32 x2.rune, .int .i64 x2.to] 91, slR encPW [((.slice (some ⟨b10, 0, none⟩) 1 1), [(PW.mk x2.to (SH.mk ad2 ((stateF (q.length + 1) d (cstepF d q (spreadF q.length d ((stateP q d (runesI z.word)))) x2.rune))).length cp2) ((z.word ++ (encR x2.rune))))])], slR encPos V2, slR encPos [((.slice ad2 ((stateF (q.length + 1) d (cstepF d q (spreadF q.length d ((stateP q d (runesI z.word)))) x2.rune))).length cp2), (stateF (q.length + 1) d (cstepF d q (spreadF q.length d ((stateP q d (runesI z.word)))) x2.rune)))]] := hS26.sel [0, 2, 3, 4, 5, 7, 1, 6] (by rfl) (by decide)
              have hS28 : St (fun _ => False) F w0 w14 [accR encPW 96 3 v5 ((ps2 ++ [(PW.mk x2.to (SH.mk ad2 ((stateF (q.length + 1) d (cstepF d q (spreadF q.length d ((stateP q d (runesI z.word)))) x2.rune))).length cp2) ((z.word ++ (encR x2.rune))))])), bkR b4 [.int .i64 ((z.n : Int)), sh1.val, strV z.word] 96, accR encE 91 2 v3 z.x.2, A sk, bkR b8 [.int .i32 x2.rune, .int .i64 x2.to] 91, slR encPW [((.slice (some ⟨b10, 0, none⟩) 1 1), [(PW.mk x2.to (SH.mk ad2 ((stateF (q.length + 1) d (cstepF d q (spreadF q.length d ((stateP q d (runesI z.word)))) x2.rune))).length cp2) ((z.word ++ (encR x2.rune))))])], boxR [slR encPos V2, slR encPos [((.slice ad2 ((stateF (q.length + 1) d (cstepF d q (spreadF q.length d ((stateP q d (runesI z.word)))) x2.rune))).length cp2), (stateF (q.length + 1) d (cstepF d q (spreadF q.length d ((stateP q d (runesI z.word)))) x2.rune)))]]] := St.close (L1 := [accR encPW 96 3 v5 ((ps2 ++ [(PW.mk x2.to (SH.mk ad2 ((stateF (q.length + 1) d (cstepF d q (spreadF q.length d ((stateP q d (runesI z.word)))) x2.rune))).length cp2) ((z.word ++ (encR x2.rune))))])), bkR b4 [.int .i64 ((z.n : Int)), sh1.val, strV z.word] 96, accR encE 91 2 v3 z.x.2, A sk, bkR b8 [.int .i32 x2.rune, .int .i64 x2.to] 91, slR encPW [((.slice (some ⟨b10, 0, none⟩) 1 1), [(PW.mk x2.to (SH.mk ad2 ((stateF (q.length + 1) d (cstepF d q (spreadF q.length d ((stateP q d (runesI z.word)))) x2.rune))).length cp2) ((z.word ++ (encR x2.rune))))])]]) hS27
              have hS29 : St (fun _ => False) F w0 w14 [accR encPW 96 3 v5 ((ps2 ++ [(PW.mk x2.to (SH.mk ad2 ((stateF (q.length + 1) d (cstepF d q (spreadF q.length d ((stateP q d (runesI z.word)))) x2.rune))).length cp2) ((z.word ++ (encR x2.rune))))])), bkR b4 [.int .i64 ((z.n : Int)), sh1.val, strV z.word] 96, accR encE 91 2 v3 z.x.2, A sk, bkR b8 [.int .i32 x2.rune, .int .i64 x2.to] 91, slR encPW [((.slice (some ⟨b10, 0, none⟩) 1 1), [(PW.mk x2.to (SH.mk ad2 ((stateF (q.length + 1) d (cstepF d q (spreadF q.length d ((stateP q d (runesI z.word)))) x2.rune))).length cp2) ((z.word ++ (encR x2.rune))))])], slR encPos (V2 ++ [((.slice ad2 ((stateF (q.length + 1) d (cstepF d q (spreadF q.length d ((stateP q d (runesI z.word)))) x2.rune))).length cp2), (stateF (q.length + 1) d (cstepF d q (spreadF q.length d ((stateP q d (runesI z.word)))) x2.rune)))])] := hS28.imp (i := 6) rfl (fun F_ h_ => sl_app h_)
              have hpush := PWR.push hd.1 hzs2 hsz hnode hzf (sh := SH.mk ad2 ((stateF (q.length + 1) d (cstepF d q (spreadF q.length d ((stateP q d (runesI z.word)))) x2.rune))).length cp2) (L := (stateF (q.length + 1) d (cstepF d q (spreadF q.length d ((stateP q d (runesI z.word)))) x2.rune))) (wd := z.word ++ encR x2.rune) hru hjs hgd rfl (by rw [henc]) hde hzl hto
              refine OL.nil ?_
              refine r_inBlock ?_
              refine r_region ?_
              refine OL.q (Q1.move rfl) rfl rfl ?_
              refine OL.q (Q1.subI ((i - 1)) rfl rfl (by omega)) rfl rfl ?_
              refine OL.q (Q1.assign rfl) rfl rfl ?_
              refine OL.nil ?_
              have hS30 : St (fun _ => False) F w0 w14 [accR encPW 96 3 v5 ((ps2 ++ [(PW.mk x2.to (SH.mk ad2 ((stateF (q.length + 1) d (cstepF d q (spreadF q.length d ((stateP q d (runesI z.word)))) x2.rune))).length cp2) ((z.word ++ (encR x2.rune))))])), slR encPos (V2 ++ [((.slice ad2 ((stateF (q.length + 1) d (cstepF d q (spreadF q.length d ((stateP q d (runesI z.word)))) x2.rune))).length cp2), (stateF (q.length + 1) d (cstepF d q (spreadF q.length d ((stateP q d (runesI z.word)))) x2.rune)))]), bkR b4 [.int .i64 ((z.n : Int)), sh1.val, strV z.word] 96, accR encE 91 2 v3 z.x.2, A sk] := hS29.sel [0, 6, 1, 2, 3] (by rfl) (by decide)
              exact (ih2 _ _ _ ⟨(v5 : Value), ((ps2 ++ [(PW.mk x2.to (SH.mk ad2 ((stateF (q.length + 1) d (cstepF d q (spreadF q.length d ((stateP q d (runesI z.word)))) x2.rune))).length cp2) ((z.word ++ (encR x2.rune))))]) : List PW), ((i - 1) : Int), ((zs2 ++ [PZ.mk jn (gg.2, es1) (z.word ++ encL gg.1)]) : List PZ), ((V2 ++ [((.slice ad2 ((stateF (q.length + 1) d (cstepF d q (spreadF q.length d ((stateP q d (runesI z.word)))) x2.rune))).length cp2), (stateF (q.length + 1) d (cstepF d q (spreadF q.length d ((stateP q d (runesI z.word)))) x2.rune)))]) : List (Value × List Pos)), rfl, rfl, hS30, (by first | exact hpush | exact hzs2 | (exfalso; omega)), (by first | exact hVm | exact fun x hx => List.mem_append_left _ (hVm x hx) | (exfalso; omega)), (by first | (rw [todo_push rfl rfl, htd, eFrom_to (by omega) hst1]; simp) | (rw [htd, eFrom_to (by omega) hst1, eNear_dead hd.1 hzf hru hgd hjs hnode rfl (by assumption)]; rfl) | (exfalso; omega)), (by first | (rw [wgtS_snoc]; rw [wgtFrom_to (by omega) hst2]; simp only; omega) | (rw [wgtFrom_to (by omega) hst2]; omega) | (exfalso; omega)), (by first | omega | (exfalso; omega))⟩ (by omega)).sub ⟨rfl, rfl, rfl, rfl, rfl, rfl, rfl, rfl, trivial⟩
          | false =>
            replace hb5 := of_decide_eq_false hb5.symm
            refine r_cond_f rfl ?_
            refine r_exit rfl ?_
            refine r_inBlock ?_
            have hS17 : St (fun _ => False) F w0 w8 [accR encPW 96 3 v_ps2 ps2, slR encPos V2, A sk] := hS15.sel [0, 1, 4] (by rfl) (by decide)
            exact (ih1 _ _ _ ⟨(v_ps2 : Value), (ps2 : List PW), (zs2 : List PZ), (V2 : List (Value × List Pos)), (sk : σ), rfl, rfl, hS17, (by first | exact hzs2 | (exfalso; omega)), (by first | rw [hE2, htd, eFrom_at (by omega)] | (exfalso; omega)), (by first | rw [htd, eFrom_at (by omega)]; exact hE3 | (exfalso; omega)), (by first | rw [wgtFrom_at (by omega)] at hwg2; omega | (exfalso; omega)), (by first | have := wgt_len hzs2; rw [wgtFrom_at (by omega)] at hwg2; omega | (exfalso; omega))⟩ (by rw [wgtFrom_at (by omega)] at hwg2; omega)).sub ⟨rfl, rfl, rfl, rfl, rfl, trivial⟩
    | false =>
      replace hb2 := of_decide_eq_false hb2.symm
      refine r_cond_f rfl ?_
      refine r_exit rfl ?_
      refine r_end0 Try.func36 rfl ?_
      have hS7 : St (fun _ => False) F w0 w3 [A sk] := hS5.sel [2] (by rfl) (by decide)
      have hres : (eachF f s0 (distsM words q d)).1 = sk := by first | (rw [yz_stop hall ⟨hfin, hdn.1 (far_yes (by assumption) (by assumption))⟩ (by assumption)]; done) | (rw [hall, zs_nil hzs (by omega)]; rfl)
      obtain ⟨hmF, F2r, hAr, hFr⟩ := hS7.fin
      exact Ret.mk ⟨rfl, hmF, F2r, hres ▸ hAr, hFr⟩
end Go.Proofs
