/-
  What the law WorkerOnce needs, part 6 of 7: theory, and walks through the code.
-/
import Derived.Test.YtjideiielmlccaaGreatSWorkerOnceE
set_option linter.unusedVariables false
set_option linter.unusedSimpArgs false
namespace Go.Proofs
open Go.Ik Go.Ml
theorem q100_1 {p : Prop} (h : p := by first | (rw [todo_push rfl rfl, htd, eFrom_to (by omega) hst1]; simp) | (rw [htd, eFrom_to (by omega) hst1, eNear_dead hd.1 hzf hru hgd hjs hnode rfl (by assumption)]; rfl) | (exfalso; omega)) : p := h
theorem q100_2 {p : Prop} (h : p := by first | (rw [wgtS_snoc]; rw [wgtFrom_to (by omega) hst2]; simp only; omega) | (rw [wgtFrom_to (by omega) hst2]; omega) | (exfalso; omega)) : p := h
theorem q100_3 {p : Prop} (h : p := by omega) : p := h
theorem q100_4 {p : Prop} (h : p := by first | exact hVm | exact fun x hx => List.mem_append_left _ (hVm x hx) | (exfalso; omega)) : p := h
theorem q100_5 {p : Prop} (h : p := by assumption) : p := h
theorem q100_6 {p : Prop} (h : p := by first | exact hpush | exact hzs2 | (exfalso; omega)) : p := h
theorem q100_7 {p : Prop} (h : p := by first | have := wgt_len hzs2; rw [wgtFrom_at (by omega)] at hwg2; omega | (exfalso; omega)) : p := h
theorem q100_8 {p : Prop} (h : p := by decide) : p := h
theorem q100_9 {p : Prop} (h : p := by first | omega | (exfalso; omega)) : p := h
theorem q100_10 {p : Prop} (h : p := by first | rw [wgtFrom_at (by omega)] at hwg2; omega | (exfalso; omega)) : p := h
theorem q100_11 {p : Prop} (h : p := by first | rw [htd, eFrom_at (by omega)]; exact hE3 | (exfalso; omega)) : p := h
theorem q100_12 {p : Prop} (h : p := by first | rw [hE2, htd, eFrom_at (by omega)] | (exfalso; omega)) : p := h
theorem q100_13 {p : Prop} (h : p := by (rw [eFrom_end (by have := grp_len hzc; omega)]; rfl)) : p := h
theorem q100_14 {p : Prop} (h : p := by first | assumption | omega | (simp; done)) : p := h
theorem q100_15 {p : Prop} (h : p := by rw [wgtFrom_at (by omega)] at hwg2; omega) : p := h
theorem q100_16 {p : Prop} (h : p := by first | exact hzs2 | (exfalso; omega)) : p := h
set_option maxRecDepth 20000 in
set_option maxHeartbeats 2000000 in
theorem weach_c {w0 : World} {F G : Nat → Prop} {σ : Type} {A : σ → Res (fun _ => False)} {ky : FuncId} {first cap : List Value} {ok : σ → Str → Prop} {f : σ → Str → σ × Bool} {v_g v_q : Value} {lo_g hi_g : Nat} {s : GS} {words : List Str} {es0 : List Ed} {q : List Int} (d : Int) (s0 : σ) (hy : YieldS Tryz.prog ky first cap A ok f) (hA : (A s0).p F w0) (hF : ∀ b, F b → b < w0.heap.size) (hgr : Gr 0 w0 lo_g hi_g v_g (gnOf s)) (hhi : hi_g ≤ w0.heap.size) (hgF : ∀ b, lo_g ≤ b → b < hi_g → ¬ F b) (hq : Sl encRn w0 G v_q q) (hG : ∀ b, G b → ¬ F b) (hGl : ∀ b, G b → b < w0.heap.size) (hd : 0 ≤ d ∧ d ≤ 4) (hql : q.length ≤ 999) (hna0 : nodeAt (gnOf s) 0 = (finB words, es0)) (hc0 : Corr s (words, es0)) (hg0 : GoodR words) (hd0 : Deep 12 words) (hnode : ∀ y ∈ s, Corr s y ∧ GoodR y.1 ∧ Deep 12 y.1) (hsz : s.length ≤ 1000000) (hel : ∀ x ∈ gnOf s, x.2.length ≤ 1000000) (hwg : wgt words ≤ 500000) (hok : OkAll ok f s0 (distsM words q d)) :
    Calls Tryz.prog 100 #[v_g, v_q, .int .i64 d, .func (.func ky) first.toArray cap.toArray] w0 (Ret fun rv w1 => rv = .tuple #[] ∧ Mod F w0 w1 ∧ ∃ F2, (A (eachF f s0 (distsM words q d)).1).p F2 w1 ∧ ∀ b, F2 b → b < w1.heap.size ∧ (F b ∨ w0.heap.size ≤ b)) := by
  have hS00 := St.start1 (R := fun _ => False) hA (fun b hb => ⟨hF b hb, id⟩) (fun _ h => h.elim)
  have hle1 := hq.le
  have hgl : (gnOf s).length ≤ 1000000 := by rw [gnOf_len]; exact hsz
  refine calls_enter Tryz.func100 rfl Tryz.ntmps100 rfl ?_
  refine .go 4 rfl ?_
  refine .ac (.callF cl142 rfl (astart_c (w0 := w0) (q := q) (d) (hq.mono (fun b hb => ⟨Nat.zero_le _, Nat.lt_of_lt_of_le (hGl b hb) hS00.mod.size⟩)) oa ao) ?_)
  rintro v1 w1 ⟨h1, hm1⟩
  have hS2 := (hS00.newSl hm1 h1).n2
  have hle_1 := h1.le
  have f1 := hS2.sl (i := 1) (k := 0) rfl rfl
  obtain ⟨ad1, cp1, hv1⟩ := f1.shape
  subst hv1
  refine .z (.build (vs := #[(0, (.int .i64 0 : Value)), (1, (.slice ad1 (([Pos.mk 0 0])).length cp1)), (2, strV (([] : Str)))]) (v := .agg #[.int .i64 0, (.slice ad1 (([Pos.mk 0 0])).length cp1), strV (([] : Str))]) rfl (fun _ => by kernel_rfl)) ?_
  refine .ac (.buildSlice [(.agg #[.int .i64 0, (.slice ad1 (([Pos.mk 0 0])).length cp1), strV (([] : Str))] : Value)] Tryz.underlying229 ti228 rfl rfl rfl q100_8 fun w2 b1 hm2 hb1 hz1 hk1 => ?_)
  have hl1 := Acc.of_blk (enc := encPW) hk1 ([(PW.mk 0 (SH.mk ad1 (([Pos.mk 0 0])).length cp1) (([] : Str)))] : List PW) 1 rfl encPW_len rfl (by unfold maxLen; omega)
  have hS4 := (hS2.newAcc hm2 hl1 (.inr (by omega))).n3
  have hS6 := (hS4.sel [2, 1, 0] (by rfl) (by decide)).n3
  refine .gi 3 rfl ?_
  refine r_loop (I := fun m E W => ∃ (v_ps : Value) (ps : List PW) (zs : List PZ) (V : List (Value × List Pos)) (sk : σ), E = [(0, v_g), (1, v_q), (2, .int .i64 d), (3, .func (.func ky) first.toArray cap.toArray), (8, v_ps)] ∧ m = wgtS zs ∧ St (fun _ => False) F w0 W [accR encPW 228 3 v_ps ps, slR encPos V, A sk] ∧ (All2 (PWR q d s V) ps zs) ∧ (eachF f s0 (distsM words q d) = eachF f sk (todoZ q d zs)) ∧ (OkAll ok f sk (todoZ q d zs)) ∧ (wgtS zs ≤ 500000) ∧ (ps.length ≤ 500000)) ?_ ?_
  · refine ⟨_, _, ⟨((.slice (some ⟨b1, 0, none⟩) 1 1) : Value), ([(PW.mk 0 (SH.mk ad1 (([Pos.mk 0 0])).length cp1) (([] : Str)))] : List PW), ([PZ.mk 0 (words, es0) []] : List PZ), ([((.slice ad1 (([Pos.mk 0 0])).length cp1), ([Pos.mk 0 0]))] : List (Value × List Pos)), (s0 : σ), rfl, rfl, hS6, (by exact PWR.start hd.1 rfl hna0 hc0 hg0 hd0), (by rw [todo_root]), (by rw [todo_root]; exact hok), (by simpa [wgtS] using hwg), (by simp)⟩, ⟨rfl, rfl, rfl, rfl, rfl, trivial⟩⟩
  · rintro _ _ w3 ⟨v_ps, ps, zs, V, sk, rfl, rfl, hS5, hzs, hall, hok2, hwz, hpl⟩ ih1
    obtain ⟨g1, f2, hl2, k1⟩ := hS5.accK (i := 0) rfl
    refine .go 4 rfl ?_
    refine .z (.lenSl Tryz.underlying229 (f2.sl) rfl) ?_
    refine .zb (.gt rfl rfl) fun b2 hb2 => ?_
    refine .gi 1 rfl ?_
    cases b2
    case true =>
      replace hb2 := dt hb2
      refine .go 7 rfl ?_
      refine .z (.lenSl Tryz.underlying229 (f2.sl) rfl) ?_
      refine .z (.subI ((((ps.length : Nat) : Int) - 1)) rfl rfl q100_3) ?_
      obtain ⟨x1, b3, o1, hx1, hr1, hl3, hw1⟩ := Sl.atF (P := Tryz.prog) f2.sl Tryz.underlying229 ti228 encPW_len (k := .i64) (n := (((ps.length : Nat) : Int) - 1)) ((ps.length - 1)) q100_3 ao
      refine .z (.indexAddr rfl rfl hr1) ?_
      refine .z (.loadN ti228 rfl (fun _ e => e ▸ hw1) rfl) ?_
      obtain ⟨zs1, z, sh1, rfl, rfl, hz1, hzm, hna, hzc, hzg, hzf, hzk, ez, hzd, hzl⟩ := PWR.pop hzs hx1 q100_3
      rw [todo_pop, zNear_eq hzg, ← eFrom_zero] at hall hok2
      have hwsn := wgtS_snoc zs1 z
      have hwe := wgt_edges hzg
      have hwga := wgt_len hz1
      have hdn := dist_near (q := q) (w := z.word) hd.1 (D := spreadF q.length d (stateP q d (runesI z.word)) q.length) rfl
      have hstl := stF_len (q.length + 1) d (rowF q (runesI z.word))
      change (stateP q d (runesI z.word)).length ≤ _ at hstl
      refine .ac (.alloc ti228 fun w4 b4 hm3 hb3 hz2 hk2 => ?_)
      have hS8 := (hS5.newBk hm3 hb3 hk2).n4
      have f3 := hS8.bk (i := 3) rfl
      refine .ac (.store ti228 rfl rfl rfl rfl rfl f3 (Nat.le_of_ble_eq_true rfl) fun w5 hm4 hz3 hk3 => ?_)
      have hS9 := (hS8.bkK (cs' := [.int .i64 ((z.n : Int)), sh1.val, strV z.word]) (i := 3) rfl hm4 hk3).n4
      obtain ⟨g2, f4, hl4, k2⟩ := hS9.accK (i := 0) rfl
      refine .go 5 rfl ?_
      refine .z (.lenSl Tryz.underlying229 (f4.sl) rfl) ?_
      refine .z (.subI ((((ps.length : Nat) : Int) - 1)) rfl rfl q100_3) ?_
      obtain ⟨v2, hr2, ha1⟩ := Acc.cut (P := Tryz.prog) f4 Tryz.underlying229 ti228 encPW_len (k := .i64) (n := (((ps.length : Nat) : Int) - 1)) ((ps.length - 1)) q100_3 q100_3
      refine .z (.sliceV rfl rfl rfl rfl hr2) ?_
      have hS10 := (k2 _ _ _ _ (Mod.refl _ _) ha1 (.inl rfl)).n4
      refine .go 7 rfl ?_
      refine .z (.fieldAddr fl228_1 rfl) ?_
      have f5 := hS10.bk (i := 3) rfl
      refine .z (.l1 ti225 f5) ?_
      have f6 := hS10.out hq hG
      have f7 := hS10.slMem (i := 1) rfl hzm
      refine .ac (.callF cl143 rfl (adist_c (w0 := w5) (q := q) (s := (stateP q d (runesI z.word))) (d) (f6.mono (fun b hb => ⟨Nat.zero_le _, Nat.lt_of_lt_of_le (hGl b hb) hS10.mod.size⟩)) oa f7 ao ao ao) ?_)
      rintro _ w6 ⟨_, _, rfl, rfl, ⟨b5, hb4, rfl⟩, hm5⟩
      have hS11 := hS10.ext hm5
      refine .go 10 rfl ?_
      cases b5
      case true =>
        replace hb4 := hb4.symm
        refine .go 2 rfl ?_
        refine .zb (.eq rfl rfl) fun b6 hb5 => ?_
        refine .go 2 rfl ?_
        cases b6
        case true =>
          replace hb5 := eq_of_beq hb5.symm
          refine .go 1 rfl ?_
          refine .z (.fieldAddr fl228_0 rfl) ?_
          have f8 := hS11.bk (i := 3) rfl
          refine .z (.l1 ti3 f8) ?_
          have f9 := Gr.keepM hgr hS11.mod hgF
          refine .ac (.callF cl144 rfl (final_c (w0 := w6)  ((z.n : Int)) f9 (Nat.le_trans hhi hS11.mod.size) oa q100_14) ?_)
          rintro _ w7 ⟨⟨b7, hb6, rfl⟩, hm6⟩
          have hS12 := hS11.ext hm6
          rw [hna] at hb6
          dsimp only at hb6
          refine .go 2 rfl ?_
          cases b7
          case true =>
            replace hb6 := hb6.symm
            refine .go 1 rfl ?_
            refine .z (.fieldAddr fl228_2 rfl) ?_
            have f10 := hS12.bk (i := 3) rfl
            refine .z (.l1 ti9 f10) ?_
            have hfin : finB z.x.1 = true := by assumption
            obtain ⟨Fy1, hAy1, hFy1, hky1⟩ := hS12.act (i := 2) rfl
            refine .ac (.call (first := first) (cap := cap) hy.cl rfl rfl (hy.call _ _ _ _ hAy1 (fun b hb => (hFy1 b hb).2) (yz_ok hok2 ⟨hfin, hdn.1 (far_yes q100_5 q100_5)⟩)) ?_)
            rintro _ w8 ⟨rfl, hm7, F1, hB1, hF1⟩
            have hS13 : St (fun _ => False) F w0 w8 [accR encPW 228 3 v2 ((ps.take ((ps.length - 1)))), slR encPos V, A (f sk z.word).1, bkR b4 [.int .i64 ((z.n : Int)), sh1.val, strV z.word] 228] := hky1 _ _ _ hm7 hB1 hF1
            clear hAy1 hFy1 hky1 hB1 hF1
            generalize hb7 : (f sk z.word).2 = b8
            replace hb7 := hb7.symm
            cases b8
            case true =>
              replace hb7 := hb7.symm
              refine .z (.not rfl) ?_
              refine .go 7 rfl ?_
              refine .z (.fieldAddr fl228_0 rfl) ?_
              have f11 := hS13.bk (i := 3) rfl
              refine .z (.l1 ti3 f11) ?_
              have f12 := Gr.keepM hgr hS13.mod hgF
              refine .ac (.callF cl145 rfl (edges_c (w0 := w8)  ((z.n : Int)) f12 (Nat.le_trans hhi hS13.mod.size) oa q100_14 (by first | assumption | (simp; done))) ?_)
              rintro v3 w9 ⟨⟨gr1, h2, hg1⟩, hm8⟩
              have hS15 := (hS13.newAcc hm8 h2 hg1).n5
              clear hg1
              have hle_2 := h2.le
              have hne1 : (nodeAt (gnOf s) (z.n : Int)).2 = z.x.2 := by rw [hna]
              have hel1 := nodeAt_len hel (z.n : Int)
              rw [hne1] at hel1
              have hS16 : St (fun _ => False) F w0 w9 [accR encPW 228 3 v2 ((ps.take ((ps.length - 1)))), slR encPos V, A (f sk z.word).1, bkR b4 [.int .i64 ((z.n : Int)), sh1.val, strV z.word] 228, accR encE 233 2 v3 z.x.2] := (by rw [← hne1]; exact hS15)
              have hE2 : eachF f s0 (distsM words q d) = eachF f (f sk z.word).1 (eFrom q d z 0 ++ todoZ q d zs1) := yz_yes hall ⟨hfin, hdn.1 (far_yes q100_5 q100_5)⟩ q100_5
              have hE3 : OkAll ok f (f sk z.word).1 (eFrom q d z 0 ++ todoZ q d zs1) := yz_okyes hok2 ⟨hfin, hdn.1 (far_yes q100_5 q100_5)⟩ q100_5
              obtain ⟨g3, f13, hl5, k3⟩ := hS16.accK (i := 4) rfl
              refine .go 5 rfl ?_
              refine .z (.lenSl Tryz.underlying219 (f13.sl) rfl) ?_
              refine .z (.subI ((((z.x.2.length : Nat) : Int) - 1)) rfl rfl q100_3) ?_
              have hS18 := (hS16.sel [0, 1, 3, 4, 2] (by rfl) q100_8).n5
              refine .gi 3 rfl ?_
              refine r_loop (I := fun m E W => ∃ (v_ps2 : Value) (ps2 : List PW) (i : Int) (zs2 : List PZ) (V2 : List (Value × List Pos)), E = [(0, v_g), (1, v_q), (2, .int .i64 d), (3, .func (.func ky) first.toArray cap.toArray), (8, v_ps2), (9, ptr b4 0), (12, v3), (13, .int .i64 i)] ∧ m = (i + 1).toNat ∧ St (fun _ => False) F w0 W [accR encPW 228 3 v_ps2 ps2, slR encPos V2, bkR b4 [.int .i64 ((z.n : Int)), sh1.val, strV z.word] 228, accR encE 233 2 v3 z.x.2, A (f sk z.word).1] ∧ (All2 (PWR q d s V2) ps2 zs2) ∧ (∀ x ∈ V, x ∈ V2) ∧ (todoZ q d zs2 = eFrom q d z (i + 1).toNat ++ todoZ q d zs1) ∧ (wgtS zs2 ≤ wgtS zs1 + wgtFrom (groups (dropE z.x.1)) (i + 1).toNat) ∧ (-1 ≤ i ∧ i < (z.x.2.length : Int))) ?_ ?_
              · refine ⟨_, _, ⟨(v2 : Value), ((ps.take ((ps.length - 1))) : List PW), ((((z.x.2.length : Nat) : Int) - 1) : Int), (zs1 : List PZ), (V : List (Value × List Pos)), rfl, rfl, hS18, (by exact hz1), (by exact fun x hx => hx), q100_13, q100_3, q100_3⟩, ⟨rfl, rfl, rfl, rfl, rfl, rfl, rfl, rfl, trivial⟩⟩
              · rintro _ _ w10 ⟨v_ps2, ps2, i, zs2, V2, rfl, rfl, hS17, hzs2, hVm, htd, hwg2, hi1⟩ ih2
                refine .go 4 rfl ?_
                refine .zb (.ge rfl rfl) fun b9 hb8 => ?_
                refine .gi 1 rfl ?_
                cases b9
                case true =>
                  replace hb8 := dt hb8
                  obtain ⟨g4, f14, hl6, k4⟩ := hS17.accK (i := 3) rfl
                  obtain ⟨x2, b10, o2, hx2, hr3, hl7, hw2⟩ := Sl.atF (P := Tryz.prog) f14.sl Tryz.underlying219 ti233 encE_len (k := .i64) (n := i) ((i).toNat) q100_3 ao
                  refine .go 8 rfl ?_
                  refine .z (.indexAddr rfl rfl hr3) ?_
                  obtain ⟨gg, jn, es1, hgk, hru, hto, hjs, hgd, hgne⟩ := edge_at hzc hzg hx2
                  obtain ⟨de, rfl, hde⟩ := deep_edge hzg hzd hgk
                  have henc : encR x2.rune = encL gg.1 := by rw [hru]; exact encR_L hgd
                  have hlya := encL_len4 gg.1
                  have hlyb : (encR x2.rune).length ≤ 4 := by rw [henc]; exact hlya
                  have hgr1 : 0 ≤ x2.rune ∧ x2.rune ≤ 1114111 := by rw [hru]; have := hgd.1; omega
                  have hst1 := eFrom_step (q := q) (d := d) hgk
                  have hst2 := wgtFrom_step hgk
                  have hgw := wgt_pos gg.2
                  have hwgb := wgt_len hzs2
                  have hwgc := wgtFrom_le (groups (dropE z.x.1)) (i + 1).toNat
                  refine .z (.loadN ti233 rfl (fun _ e => e ▸ hw2) rfl) ?_
                  refine .ac (.alloc ti233 fun w11 b11 hm9 hb9 hz4 hk4 => ?_)
                  have hS20 := (hS17.newBk hm9 hb9 hk4).n6
                  have f15 := hS20.bk (i := 5) rfl
                  refine .ac (.store ti233 rfl rfl rfl rfl rfl f15 (Nat.le_of_ble_eq_true rfl) fun w12 hm10 hz5 hk5 => ?_)
                  have hS21 := (hS20.bkK (cs' := [.int .i32 x2.rune, .int .i64 x2.to]) (i := 5) rfl hm10 hk5).n6
                  refine .go 5 rfl ?_
                  refine .z (.fieldAddr fl228_1 rfl) ?_
                  have f16 := hS21.bk (i := 2) rfl
                  refine .z (.l1 ti225 f16) ?_
                  refine .z (.fieldAddr fl233_0 rfl) ?_
                  have f17 := hS21.bk (i := 5) rfl
                  refine .z (.l1 ti21 f17) ?_
                  have f18 := hS21.out hq hG
                  have f19 := hS21.slMem (i := 1) rfl (hVm _ hzm)
                  refine .ac (.callF cl146 rfl (astep_c (w0 := w12) (q := q) (s := (stateP q d (runesI z.word))) (d) (x2.rune) (f18.mono (fun b hb => ⟨Nat.zero_le _, Nat.lt_of_lt_of_le (hGl b hb) hS21.mod.size⟩)) oa f19 oa ao ao ao) ?_)
                  rintro v4 w13 ⟨⟨gr2, h3, hg2⟩, hm11⟩
                  have hS23 := (hS21.newAcc hm11 h3 hg2).n7
                  clear hg2
                  have hle_3 := h3.le
                  obtain ⟨g5, f20, hl8, k5⟩ := hS23.accK (i := 6) rfl
                  refine .go 5 rfl ?_
                  refine .ac (.callF cl147 rfl (adead_c (w0 := w13) (s := (stateF (q.length + 1) d (cstepF d q (spreadF q.length d ((stateP q d (runesI z.word)))) x2.rune)))  (f20.sl.iv (Nat.zero_le _) f20.lt)) ?_)
                  rintro _ w14 ⟨⟨b12, hb10, rfl⟩, hm12⟩
                  have hS24 := hS23.ext hm12
                  cases b12
                  case true =>
                    replace hb10 := hb10.symm
                    refine .z (.not rfl) ?_
                    refine .go 6 rfl ?_
                    refine .z (.subI ((i - 1)) rfl rfl q100_3) ?_
                    have hS25 := (hS24.sel [0, 1, 2, 3, 4] (by rfl) q100_8).n5
                    refine .gi 2 rfl ?_
                    exact (ih2 _ _ _ ⟨(v_ps2 : Value), (ps2 : List PW), ((i - 1) : Int), (zs2 : List PZ), (V2 : List (Value × List Pos)), rfl, rfl, hS25, q100_6, q100_4, q100_1, q100_2, q100_9⟩ q100_3).sub ⟨rfl, rfl, rfl, rfl, rfl, rfl, rfl, rfl, trivial⟩
                  replace hb10 := hb10.symm
                  refine .z (.not rfl) ?_
                  refine .go 4 rfl ?_
                  refine .z (.fieldAddr fl233_1 rfl) ?_
                  have f21 := hS24.bk (i := 5) rfl
                  refine .z (.l1 ti3 f21) ?_
                  refine .go 1 rfl ?_
                  refine .z (.fieldAddr fl228_2 rfl) ?_
                  have f22 := hS24.bk (i := 2) rfl
                  refine .z (.l1 ti9 f22) ?_
                  refine .z (.fieldAddr fl233_0 rfl) ?_
                  refine .z (.l1 ti21 f21) ?_
                  refine .z (.convRS (by kernel_rfl) Tryz.underlying9 rfl) ?_
                  refine .z (.catS rfl rfl (by first | omega | (simp only [List.length_append]; omega) | (simp only [List.length_append, List.length_cons, List.length_nil]; omega))) ?_
                  obtain ⟨g6, f23, hl9, k6⟩ := hS24.accK (i := 6) rfl
                  obtain ⟨ad2, cp2, hv2⟩ := f23.shape
                  subst hv2
                  refine .z (.build (vs := #[(0, (.int .i64 x2.to : Value)), (1, (.slice ad2 ((stateF (q.length + 1) d (cstepF d q (spreadF q.length d ((stateP q d (runesI z.word)))) x2.rune))).length cp2)), (2, strV ((z.word ++ (encR x2.rune))))]) (v := .agg #[.int .i64 x2.to, (.slice ad2 ((stateF (q.length + 1) d (cstepF d q (spreadF q.length d ((stateP q d (runesI z.word)))) x2.rune))).length cp2), strV ((z.word ++ (encR x2.rune)))]) rfl (fun _ => by kernel_rfl)) ?_
                  refine .ac (.buildSlice [(.agg #[.int .i64 x2.to, (.slice ad2 ((stateF (q.length + 1) d (cstepF d q (spreadF q.length d ((stateP q d (runesI z.word)))) x2.rune))).length cp2), strV ((z.word ++ (encR x2.rune)))] : Value)] Tryz.underlying229 ti228 rfl rfl rfl q100_8 fun w15 b13 hm13 hb11 hz6 hk6 => ?_)
                  have hl10 := Sl.of_blk (enc := encPW) hk6 ([(PW.mk x2.to (SH.mk ad2 ((stateF (q.length + 1) d (cstepF d q (spreadF q.length d ((stateP q d (runesI z.word)))) x2.rune))).length cp2) ((z.word ++ (encR x2.rune))))] : List PW) 1 rfl rfl (by unfold maxLen; omega)
                  have hS26 := (hS24.newSlB hm13 hb11 hz6 hl10).n8
                  obtain ⟨g8, f24, hl11, k7⟩ := hS26.accK (i := 0) rfl
                  have f25 := hS26.sl (i := 7) (k := 0) rfl rfl
                  refine .ac (.append f24 Tryz.underlying229 ti228 rfl encPW_len encPW_one rfl rfl (f25) ol ox fun v5 g7 w16 ha2 hm14 hg3 hz7 => ?_)
                  have hS27 := (k7 _ _ _ _ hm14 ha2 hg3).n8
                  clear hg3
                  have hS28 := (hS27.freeze (i := 6) rfl).n8
                  have hS29 := (hS28.b2 [0, 2, 3, 4, 5, 7] 1 6 (by rfl) q100_8).n7
                  have hS30 := (hS29.ty (slR encPos (V2 ++ [((.slice ad2 ((stateF (q.length + 1) d (cstepF d q (spreadF q.length d ((stateP q d (runesI z.word)))) x2.rune))).length cp2), (stateF (q.length + 1) d (cstepF d q (spreadF q.length d ((stateP q d (runesI z.word)))) x2.rune)))])) 6 rfl (fun F_ h_ => sl_app h_)).n7
                  have hpush := PWR.push hd.1 hzs2 hsz hnode hzf (sh := SH.mk ad2 ((stateF (q.length + 1) d (cstepF d q (spreadF q.length d ((stateP q d (runesI z.word)))) x2.rune))).length cp2) (L := (stateF (q.length + 1) d (cstepF d q (spreadF q.length d ((stateP q d (runesI z.word)))) x2.rune))) (wd := z.word ++ encR x2.rune) hru hjs hgd rfl (by rw [henc]) hde hzl hto
                  refine .go 5 rfl ?_
                  refine .z (.subI ((i - 1)) rfl rfl q100_3) ?_
                  have hS31 := (hS30.sel [0, 6, 1, 2, 3] (by rfl) q100_8).n5
                  refine .gi 2 rfl ?_
                  exact (ih2 _ _ _ ⟨(v5 : Value), ((ps2 ++ [(PW.mk x2.to (SH.mk ad2 ((stateF (q.length + 1) d (cstepF d q (spreadF q.length d ((stateP q d (runesI z.word)))) x2.rune))).length cp2) ((z.word ++ (encR x2.rune))))]) : List PW), ((i - 1) : Int), ((zs2 ++ [PZ.mk jn (gg.2, es1) (z.word ++ encL gg.1)]) : List PZ), ((V2 ++ [((.slice ad2 ((stateF (q.length + 1) d (cstepF d q (spreadF q.length d ((stateP q d (runesI z.word)))) x2.rune))).length cp2), (stateF (q.length + 1) d (cstepF d q (spreadF q.length d ((stateP q d (runesI z.word)))) x2.rune)))]) : List (Value × List Pos)), rfl, rfl, hS31, q100_6, q100_4, q100_1, q100_2, q100_9⟩ q100_3).sub ⟨rfl, rfl, rfl, rfl, rfl, rfl, rfl, rfl, trivial⟩
                replace hb8 := df hb8
                have hS19 := (hS17.sel [0, 1, 4] (by rfl) q100_8).n3
                refine .gi 3 rfl ?_
                exact (ih1 _ _ _ ⟨(v_ps2 : Value), (ps2 : List PW), (zs2 : List PZ), (V2 : List (Value × List Pos)), ((f sk z.word).1 : σ), rfl, rfl, hS19, q100_16, q100_12, q100_11, q100_10, q100_7⟩ q100_15).sub ⟨rfl, rfl, rfl, rfl, rfl, trivial⟩
            replace hb7 := hb7.symm
            refine .z (.not rfl) ?_
            refine .gi 3 rfl ?_
            refine r_ret0 Tryz.func100 rfl ?_
            have hS14 := (hS13.sel [2] (by rfl) q100_8).n1
            have hres : (eachF f s0 (distsM words q d)).1 = (f sk z.word).1 := by first | (rw [yz_stop hall ⟨hfin, hdn.1 (far_yes q100_5 q100_5)⟩ q100_5]; done) | (rw [hall, zs_nil hzs q100_3]; rfl)
            obtain ⟨hmF, F2r, hAr, hFr⟩ := hS14.fin
            exact Ret.mk ⟨rfl, hmF, F2r, hres ▸ hAr, hFr⟩
          replace hb6 := hb6.symm
          refine .go 12 rfl ?_
          refine .z (.fieldAddr fl228_0 rfl) ?_
          have f10 := hS12.bk (i := 3) rfl
          refine .z (.l1 ti3 f10) ?_
          have f11 := Gr.keepM hgr hS12.mod hgF
          refine .ac (.callF cl145 rfl (edges_c (w0 := w7)  ((z.n : Int)) f11 (Nat.le_trans hhi hS12.mod.size) oa q100_14 (by first | assumption | (simp; done))) ?_)
          rintro v3 w8 ⟨⟨gr1, h2, hg1⟩, hm7⟩
          have hS14 := (hS12.newAcc hm7 h2 hg1).n5
          clear hg1
          have hle_2 := h2.le
          have hne1 : (nodeAt (gnOf s) (z.n : Int)).2 = z.x.2 := by rw [hna]
          have hel1 := nodeAt_len hel (z.n : Int)
          rw [hne1] at hel1
          have hS15 : St (fun _ => False) F w0 w8 [accR encPW 228 3 v2 ((ps.take ((ps.length - 1)))), slR encPos V, A sk, bkR b4 [.int .i64 ((z.n : Int)), sh1.val, strV z.word] 228, accR encE 233 2 v3 z.x.2] := (by rw [← hne1]; exact hS14)
          have hE2 : eachF f s0 (distsM words q d) = eachF f sk (eFrom q d z 0 ++ todoZ q d zs1) := yz_no hall (fun hc => by first | exact far_no q100_5 (hdn.2 hc.2) | exact far_no2 q100_5 (hdn.2 hc.2) | exact absurd hc.1 (by simp [*]))
          have hE3 : OkAll ok f sk (eFrom q d z 0 ++ todoZ q d zs1) := yz_okno hok2 (fun hc => by first | exact far_no q100_5 (hdn.2 hc.2) | exact far_no2 q100_5 (hdn.2 hc.2) | exact absurd hc.1 (by simp [*]))
          obtain ⟨g3, f12, hl5, k3⟩ := hS15.accK (i := 4) rfl
          refine .go 5 rfl ?_
          refine .z (.lenSl Tryz.underlying219 (f12.sl) rfl) ?_
          refine .z (.subI ((((z.x.2.length : Nat) : Int) - 1)) rfl rfl q100_3) ?_
          have hS17 := (hS15.sel [0, 1, 3, 4, 2] (by rfl) q100_8).n5
          refine .gi 3 rfl ?_
          refine r_loop (I := fun m E W => ∃ (v_ps2 : Value) (ps2 : List PW) (i : Int) (zs2 : List PZ) (V2 : List (Value × List Pos)), E = [(0, v_g), (1, v_q), (2, .int .i64 d), (3, .func (.func ky) first.toArray cap.toArray), (8, v_ps2), (9, ptr b4 0), (12, v3), (13, .int .i64 i)] ∧ m = (i + 1).toNat ∧ St (fun _ => False) F w0 W [accR encPW 228 3 v_ps2 ps2, slR encPos V2, bkR b4 [.int .i64 ((z.n : Int)), sh1.val, strV z.word] 228, accR encE 233 2 v3 z.x.2, A sk] ∧ (All2 (PWR q d s V2) ps2 zs2) ∧ (∀ x ∈ V, x ∈ V2) ∧ (todoZ q d zs2 = eFrom q d z (i + 1).toNat ++ todoZ q d zs1) ∧ (wgtS zs2 ≤ wgtS zs1 + wgtFrom (groups (dropE z.x.1)) (i + 1).toNat) ∧ (-1 ≤ i ∧ i < (z.x.2.length : Int))) ?_ ?_
          · refine ⟨_, _, ⟨(v2 : Value), ((ps.take ((ps.length - 1))) : List PW), ((((z.x.2.length : Nat) : Int) - 1) : Int), (zs1 : List PZ), (V : List (Value × List Pos)), rfl, rfl, hS17, (by exact hz1), (by exact fun x hx => hx), q100_13, q100_3, q100_3⟩, ⟨rfl, rfl, rfl, rfl, rfl, rfl, rfl, rfl, trivial⟩⟩
          · rintro _ _ w9 ⟨v_ps2, ps2, i, zs2, V2, rfl, rfl, hS16, hzs2, hVm, htd, hwg2, hi1⟩ ih2
            refine .go 4 rfl ?_
            refine .zb (.ge rfl rfl) fun b8 hb7 => ?_
            refine .gi 1 rfl ?_
            cases b8
            case true =>
              replace hb7 := dt hb7
              obtain ⟨g4, f13, hl6, k4⟩ := hS16.accK (i := 3) rfl
              obtain ⟨x2, b9, o2, hx2, hr3, hl7, hw2⟩ := Sl.atF (P := Tryz.prog) f13.sl Tryz.underlying219 ti233 encE_len (k := .i64) (n := i) ((i).toNat) q100_3 ao
              refine .go 8 rfl ?_
              refine .z (.indexAddr rfl rfl hr3) ?_
              obtain ⟨gg, jn, es1, hgk, hru, hto, hjs, hgd, hgne⟩ := edge_at hzc hzg hx2
              obtain ⟨de, rfl, hde⟩ := deep_edge hzg hzd hgk
              have henc : encR x2.rune = encL gg.1 := by rw [hru]; exact encR_L hgd
              have hlya := encL_len4 gg.1
              have hlyb : (encR x2.rune).length ≤ 4 := by rw [henc]; exact hlya
              have hgr1 : 0 ≤ x2.rune ∧ x2.rune ≤ 1114111 := by rw [hru]; have := hgd.1; omega
              have hst1 := eFrom_step (q := q) (d := d) hgk
              have hst2 := wgtFrom_step hgk
              have hgw := wgt_pos gg.2
              have hwgb := wgt_len hzs2
              have hwgc := wgtFrom_le (groups (dropE z.x.1)) (i + 1).toNat
              refine .z (.loadN ti233 rfl (fun _ e => e ▸ hw2) rfl) ?_
              refine .ac (.alloc ti233 fun w10 b10 hm8 hb8 hz4 hk4 => ?_)
              have hS19 := (hS16.newBk hm8 hb8 hk4).n6
              have f14 := hS19.bk (i := 5) rfl
              refine .ac (.store ti233 rfl rfl rfl rfl rfl f14 (Nat.le_of_ble_eq_true rfl) fun w11 hm9 hz5 hk5 => ?_)
              have hS20 := (hS19.bkK (cs' := [.int .i32 x2.rune, .int .i64 x2.to]) (i := 5) rfl hm9 hk5).n6
              refine .go 5 rfl ?_
              refine .z (.fieldAddr fl228_1 rfl) ?_
              have f15 := hS20.bk (i := 2) rfl
              refine .z (.l1 ti225 f15) ?_
              refine .z (.fieldAddr fl233_0 rfl) ?_
              have f16 := hS20.bk (i := 5) rfl
              refine .z (.l1 ti21 f16) ?_
              have f17 := hS20.out hq hG
              have f18 := hS20.slMem (i := 1) rfl (hVm _ hzm)
              refine .ac (.callF cl146 rfl (astep_c (w0 := w11) (q := q) (s := (stateP q d (runesI z.word))) (d) (x2.rune) (f17.mono (fun b hb => ⟨Nat.zero_le _, Nat.lt_of_lt_of_le (hGl b hb) hS20.mod.size⟩)) oa f18 oa ao ao ao) ?_)
              rintro v4 w12 ⟨⟨gr2, h3, hg2⟩, hm10⟩
              have hS22 := (hS20.newAcc hm10 h3 hg2).n7
              clear hg2
              have hle_3 := h3.le
              obtain ⟨g5, f19, hl8, k5⟩ := hS22.accK (i := 6) rfl
              refine .go 5 rfl ?_
              refine .ac (.callF cl147 rfl (adead_c (w0 := w12) (s := (stateF (q.length + 1) d (cstepF d q (spreadF q.length d ((stateP q d (runesI z.word)))) x2.rune)))  (f19.sl.iv (Nat.zero_le _) f19.lt)) ?_)
              rintro _ w13 ⟨⟨b11, hb9, rfl⟩, hm11⟩
              have hS23 := hS22.ext hm11
              cases b11
              case true =>
                replace hb9 := hb9.symm
                refine .z (.not rfl) ?_
                refine .go 6 rfl ?_
                refine .z (.subI ((i - 1)) rfl rfl q100_3) ?_
                have hS24 := (hS23.sel [0, 1, 2, 3, 4] (by rfl) q100_8).n5
                refine .gi 2 rfl ?_
                exact (ih2 _ _ _ ⟨(v_ps2 : Value), (ps2 : List PW), ((i - 1) : Int), (zs2 : List PZ), (V2 : List (Value × List Pos)), rfl, rfl, hS24, q100_6, q100_4, q100_1, q100_2, q100_9⟩ q100_3).sub ⟨rfl, rfl, rfl, rfl, rfl, rfl, rfl, rfl, trivial⟩
              replace hb9 := hb9.symm
              refine .z (.not rfl) ?_
              refine .go 4 rfl ?_
              refine .z (.fieldAddr fl233_1 rfl) ?_
              have f20 := hS23.bk (i := 5) rfl
              refine .z (.l1 ti3 f20) ?_
              refine .go 1 rfl ?_
              refine .z (.fieldAddr fl228_2 rfl) ?_
              have f21 := hS23.bk (i := 2) rfl
              refine .z (.l1 ti9 f21) ?_
              refine .z (.fieldAddr fl233_0 rfl) ?_
              refine .z (.l1 ti21 f20) ?_
              refine .z (.convRS (by kernel_rfl) Tryz.underlying9 rfl) ?_
              refine .z (.catS rfl rfl (by first | omega | (simp only [List.length_append]; omega) | (simp only [List.length_append, List.length_cons, List.length_nil]; omega))) ?_
              obtain ⟨g6, f22, hl9, k6⟩ := hS23.accK (i := 6) rfl
              obtain ⟨ad2, cp2, hv2⟩ := f22.shape
              subst hv2
              refine .z (.build (vs := #[(0, (.int .i64 x2.to : Value)), (1, (.slice ad2 ((stateF (q.length + 1) d (cstepF d q (spreadF q.length d ((stateP q d (runesI z.word)))) x2.rune))).length cp2)), (2, strV ((z.word ++ (encR x2.rune))))]) (v := .agg #[.int .i64 x2.to, (.slice ad2 ((stateF (q.length + 1) d (cstepF d q (spreadF q.length d ((stateP q d (runesI z.word)))) x2.rune))).length cp2), strV ((z.word ++ (encR x2.rune)))]) rfl (fun _ => by kernel_rfl)) ?_
              refine .ac (.buildSlice [(.agg #[.int .i64 x2.to, (.slice ad2 ((stateF (q.length + 1) d (cstepF d q (spreadF q.length d ((stateP q d (runesI z.word)))) x2.rune))).length cp2), strV ((z.word ++ (encR x2.rune)))] : Value)] Tryz.underlying229 ti228 rfl rfl rfl q100_8 fun w14 b12 hm12 hb10 hz6 hk6 => ?_)
              have hl10 := Sl.of_blk (enc := encPW) hk6 ([(PW.mk x2.to (SH.mk ad2 ((stateF (q.length + 1) d (cstepF d q (spreadF q.length d ((stateP q d (runesI z.word)))) x2.rune))).length cp2) ((z.word ++ (encR x2.rune))))] : List PW) 1 rfl rfl (by unfold maxLen; omega)
              have hS25 := (hS23.newSlB hm12 hb10 hz6 hl10).n8
              obtain ⟨g8, f23, hl11, k7⟩ := hS25.accK (i := 0) rfl
              have f24 := hS25.sl (i := 7) (k := 0) rfl rfl
              refine .ac (.append f23 Tryz.underlying229 ti228 rfl encPW_len encPW_one rfl rfl (f24) ol ox fun v5 g7 w15 ha2 hm13 hg3 hz7 => ?_)
              have hS26 := (k7 _ _ _ _ hm13 ha2 hg3).n8
              clear hg3
              have hS27 := (hS26.freeze (i := 6) rfl).n8
              have hS28 := (hS27.b2 [0, 2, 3, 4, 5, 7] 1 6 (by rfl) q100_8).n7
              have hS29 := (hS28.ty (slR encPos (V2 ++ [((.slice ad2 ((stateF (q.length + 1) d (cstepF d q (spreadF q.length d ((stateP q d (runesI z.word)))) x2.rune))).length cp2), (stateF (q.length + 1) d (cstepF d q (spreadF q.length d ((stateP q d (runesI z.word)))) x2.rune)))])) 6 rfl (fun F_ h_ => sl_app h_)).n7
              have hpush := PWR.push hd.1 hzs2 hsz hnode hzf (sh := SH.mk ad2 ((stateF (q.length + 1) d (cstepF d q (spreadF q.length d ((stateP q d (runesI z.word)))) x2.rune))).length cp2) (L := (stateF (q.length + 1) d (cstepF d q (spreadF q.length d ((stateP q d (runesI z.word)))) x2.rune))) (wd := z.word ++ encR x2.rune) hru hjs hgd rfl (by rw [henc]) hde hzl hto
              refine .go 5 rfl ?_
              refine .z (.subI ((i - 1)) rfl rfl q100_3) ?_
              have hS30 := (hS29.sel [0, 6, 1, 2, 3] (by rfl) q100_8).n5
              refine .gi 2 rfl ?_
              exact (ih2 _ _ _ ⟨(v5 : Value), ((ps2 ++ [(PW.mk x2.to (SH.mk ad2 ((stateF (q.length + 1) d (cstepF d q (spreadF q.length d ((stateP q d (runesI z.word)))) x2.rune))).length cp2) ((z.word ++ (encR x2.rune))))]) : List PW), ((i - 1) : Int), ((zs2 ++ [PZ.mk jn (gg.2, es1) (z.word ++ encL gg.1)]) : List PZ), ((V2 ++ [((.slice ad2 ((stateF (q.length + 1) d (cstepF d q (spreadF q.length d ((stateP q d (runesI z.word)))) x2.rune))).length cp2), (stateF (q.length + 1) d (cstepF d q (spreadF q.length d ((stateP q d (runesI z.word)))) x2.rune)))]) : List (Value × List Pos)), rfl, rfl, hS30, q100_6, q100_4, q100_1, q100_2, q100_9⟩ q100_3).sub ⟨rfl, rfl, rfl, rfl, rfl, rfl, rfl, rfl, trivial⟩
            replace hb7 := df hb7
            have hS18 := (hS16.sel [0, 1, 4] (by rfl) q100_8).n3
            refine .gi 3 rfl ?_
            exact (ih1 _ _ _ ⟨(v_ps2 : Value), (ps2 : List PW), (zs2 : List PZ), (V2 : List (Value × List Pos)), (sk : σ), rfl, rfl, hS18, q100_16, q100_12, q100_11, q100_10, q100_7⟩ q100_15).sub ⟨rfl, rfl, rfl, rfl, rfl, trivial⟩
        replace hb5 := ne_of_beq_false hb5.symm
        refine .go 18 rfl ?_
        refine .z (.fieldAddr fl228_0 rfl) ?_
        have f8 := hS11.bk (i := 3) rfl
        refine .z (.l1 ti3 f8) ?_
        have f9 := Gr.keepM hgr hS11.mod hgF
        refine .ac (.callF cl145 rfl (edges_c (w0 := w6)  ((z.n : Int)) f9 (Nat.le_trans hhi hS11.mod.size) oa q100_14 (by first | assumption | (simp; done))) ?_)
        rintro v3 w7 ⟨⟨gr1, h2, hg1⟩, hm6⟩
        have hS13 := (hS11.newAcc hm6 h2 hg1).n5
        clear hg1
        have hle_2 := h2.le
        have hne1 : (nodeAt (gnOf s) (z.n : Int)).2 = z.x.2 := by rw [hna]
        have hel1 := nodeAt_len hel (z.n : Int)
        rw [hne1] at hel1
        have hS14 : St (fun _ => False) F w0 w7 [accR encPW 228 3 v2 ((ps.take ((ps.length - 1)))), slR encPos V, A sk, bkR b4 [.int .i64 ((z.n : Int)), sh1.val, strV z.word] 228, accR encE 233 2 v3 z.x.2] := (by rw [← hne1]; exact hS13)
        have hE2 : eachF f s0 (distsM words q d) = eachF f sk (eFrom q d z 0 ++ todoZ q d zs1) := yz_no hall (fun hc => by first | exact far_no q100_5 (hdn.2 hc.2) | exact far_no2 q100_5 (hdn.2 hc.2) | exact absurd hc.1 (by simp [*]))
        have hE3 : OkAll ok f sk (eFrom q d z 0 ++ todoZ q d zs1) := yz_okno hok2 (fun hc => by first | exact far_no q100_5 (hdn.2 hc.2) | exact far_no2 q100_5 (hdn.2 hc.2) | exact absurd hc.1 (by simp [*]))
        obtain ⟨g3, f10, hl5, k3⟩ := hS14.accK (i := 4) rfl
        refine .go 5 rfl ?_
        refine .z (.lenSl Tryz.underlying219 (f10.sl) rfl) ?_
        refine .z (.subI ((((z.x.2.length : Nat) : Int) - 1)) rfl rfl q100_3) ?_
        have hS16 := (hS14.sel [0, 1, 3, 4, 2] (by rfl) q100_8).n5
        refine .gi 3 rfl ?_
        refine r_loop (I := fun m E W => ∃ (v_ps2 : Value) (ps2 : List PW) (i : Int) (zs2 : List PZ) (V2 : List (Value × List Pos)), E = [(0, v_g), (1, v_q), (2, .int .i64 d), (3, .func (.func ky) first.toArray cap.toArray), (8, v_ps2), (9, ptr b4 0), (12, v3), (13, .int .i64 i)] ∧ m = (i + 1).toNat ∧ St (fun _ => False) F w0 W [accR encPW 228 3 v_ps2 ps2, slR encPos V2, bkR b4 [.int .i64 ((z.n : Int)), sh1.val, strV z.word] 228, accR encE 233 2 v3 z.x.2, A sk] ∧ (All2 (PWR q d s V2) ps2 zs2) ∧ (∀ x ∈ V, x ∈ V2) ∧ (todoZ q d zs2 = eFrom q d z (i + 1).toNat ++ todoZ q d zs1) ∧ (wgtS zs2 ≤ wgtS zs1 + wgtFrom (groups (dropE z.x.1)) (i + 1).toNat) ∧ (-1 ≤ i ∧ i < (z.x.2.length : Int))) ?_ ?_
        · refine ⟨_, _, ⟨(v2 : Value), ((ps.take ((ps.length - 1))) : List PW), ((((z.x.2.length : Nat) : Int) - 1) : Int), (zs1 : List PZ), (V : List (Value × List Pos)), rfl, rfl, hS16, (by exact hz1), (by exact fun x hx => hx), q100_13, q100_3, q100_3⟩, ⟨rfl, rfl, rfl, rfl, rfl, rfl, rfl, rfl, trivial⟩⟩
        · rintro _ _ w8 ⟨v_ps2, ps2, i, zs2, V2, rfl, rfl, hS15, hzs2, hVm, htd, hwg2, hi1⟩ ih2
          refine .go 4 rfl ?_
          refine .zb (.ge rfl rfl) fun b7 hb6 => ?_
          refine .gi 1 rfl ?_
          cases b7
          case true =>
            replace hb6 := dt hb6
            obtain ⟨g4, f11, hl6, k4⟩ := hS15.accK (i := 3) rfl
            obtain ⟨x2, b8, o2, hx2, hr3, hl7, hw2⟩ := Sl.atF (P := Tryz.prog) f11.sl Tryz.underlying219 ti233 encE_len (k := .i64) (n := i) ((i).toNat) q100_3 ao
            refine .go 8 rfl ?_
            refine .z (.indexAddr rfl rfl hr3) ?_
            obtain ⟨gg, jn, es1, hgk, hru, hto, hjs, hgd, hgne⟩ := edge_at hzc hzg hx2
            obtain ⟨de, rfl, hde⟩ := deep_edge hzg hzd hgk
            have henc : encR x2.rune = encL gg.1 := by rw [hru]; exact encR_L hgd
            have hlya := encL_len4 gg.1
            have hlyb : (encR x2.rune).length ≤ 4 := by rw [henc]; exact hlya
            have hgr1 : 0 ≤ x2.rune ∧ x2.rune ≤ 1114111 := by rw [hru]; have := hgd.1; omega
            have hst1 := eFrom_step (q := q) (d := d) hgk
            have hst2 := wgtFrom_step hgk
            have hgw := wgt_pos gg.2
            have hwgb := wgt_len hzs2
            have hwgc := wgtFrom_le (groups (dropE z.x.1)) (i + 1).toNat
            refine .z (.loadN ti233 rfl (fun _ e => e ▸ hw2) rfl) ?_
            refine .ac (.alloc ti233 fun w9 b9 hm7 hb7 hz4 hk4 => ?_)
            have hS18 := (hS15.newBk hm7 hb7 hk4).n6
            have f12 := hS18.bk (i := 5) rfl
            refine .ac (.store ti233 rfl rfl rfl rfl rfl f12 (Nat.le_of_ble_eq_true rfl) fun w10 hm8 hz5 hk5 => ?_)
            have hS19 := (hS18.bkK (cs' := [.int .i32 x2.rune, .int .i64 x2.to]) (i := 5) rfl hm8 hk5).n6
            refine .go 5 rfl ?_
            refine .z (.fieldAddr fl228_1 rfl) ?_
            have f13 := hS19.bk (i := 2) rfl
            refine .z (.l1 ti225 f13) ?_
            refine .z (.fieldAddr fl233_0 rfl) ?_
            have f14 := hS19.bk (i := 5) rfl
            refine .z (.l1 ti21 f14) ?_
            have f15 := hS19.out hq hG
            have f16 := hS19.slMem (i := 1) rfl (hVm _ hzm)
            refine .ac (.callF cl146 rfl (astep_c (w0 := w10) (q := q) (s := (stateP q d (runesI z.word))) (d) (x2.rune) (f15.mono (fun b hb => ⟨Nat.zero_le _, Nat.lt_of_lt_of_le (hGl b hb) hS19.mod.size⟩)) oa f16 oa ao ao ao) ?_)
            rintro v4 w11 ⟨⟨gr2, h3, hg2⟩, hm9⟩
            have hS21 := (hS19.newAcc hm9 h3 hg2).n7
            clear hg2
            have hle_3 := h3.le
            obtain ⟨g5, f17, hl8, k5⟩ := hS21.accK (i := 6) rfl
            refine .go 5 rfl ?_
            refine .ac (.callF cl147 rfl (adead_c (w0 := w11) (s := (stateF (q.length + 1) d (cstepF d q (spreadF q.length d ((stateP q d (runesI z.word)))) x2.rune)))  (f17.sl.iv (Nat.zero_le _) f17.lt)) ?_)
            rintro _ w12 ⟨⟨b10, hb8, rfl⟩, hm10⟩
            have hS22 := hS21.ext hm10
            cases b10
            case true =>
              replace hb8 := hb8.symm
              refine .z (.not rfl) ?_
              refine .go 6 rfl ?_
              refine .z (.subI ((i - 1)) rfl rfl q100_3) ?_
              have hS23 := (hS22.sel [0, 1, 2, 3, 4] (by rfl) q100_8).n5
              refine .gi 2 rfl ?_
              exact (ih2 _ _ _ ⟨(v_ps2 : Value), (ps2 : List PW), ((i - 1) : Int), (zs2 : List PZ), (V2 : List (Value × List Pos)), rfl, rfl, hS23, q100_6, q100_4, q100_1, q100_2, q100_9⟩ q100_3).sub ⟨rfl, rfl, rfl, rfl, rfl, rfl, rfl, rfl, trivial⟩
            replace hb8 := hb8.symm
            refine .z (.not rfl) ?_
            refine .go 4 rfl ?_
            refine .z (.fieldAddr fl233_1 rfl) ?_
            have f18 := hS22.bk (i := 5) rfl
            refine .z (.l1 ti3 f18) ?_
            refine .go 1 rfl ?_
            refine .z (.fieldAddr fl228_2 rfl) ?_
            have f19 := hS22.bk (i := 2) rfl
            refine .z (.l1 ti9 f19) ?_
            refine .z (.fieldAddr fl233_0 rfl) ?_
            refine .z (.l1 ti21 f18) ?_
            refine .z (.convRS (by kernel_rfl) Tryz.underlying9 rfl) ?_
            refine .z (.catS rfl rfl (by first | omega | (simp only [List.length_append]; omega) | (simp only [List.length_append, List.length_cons, List.length_nil]; omega))) ?_
            obtain ⟨g6, f20, hl9, k6⟩ := hS22.accK (i := 6) rfl
            obtain ⟨ad2, cp2, hv2⟩ := f20.shape
            subst hv2
            refine .z (.build (vs := #[(0, (.int .i64 x2.to : Value)), (1, (.slice ad2 ((stateF (q.length + 1) d (cstepF d q (spreadF q.length d ((stateP q d (runesI z.word)))) x2.rune))).length cp2)), (2, strV ((z.word ++ (encR x2.rune))))]) (v := .agg #[.int .i64 x2.to, (.slice ad2 ((stateF (q.length + 1) d (cstepF d q (spreadF q.length d ((stateP q d (runesI z.word)))) x2.rune))).length cp2), strV ((z.word ++ (encR x2.rune)))]) rfl (fun _ => by kernel_rfl)) ?_
            refine .ac (.buildSlice [(.agg #[.int .i64 x2.to, (.slice ad2 ((stateF (q.length + 1) d (cstepF d q (spreadF q.length d ((stateP q d (runesI z.word)))) x2.rune))).length cp2), strV ((z.word ++ (encR x2.rune)))] : Value)] Tryz.underlying229 ti228 rfl rfl rfl q100_8 fun w13 b11 hm11 hb9 hz6 hk6 => ?_)
            have hl10 := Sl.of_blk (enc := encPW) hk6 ([(PW.mk x2.to (SH.mk ad2 ((stateF (q.length + 1) d (cstepF d q (spreadF q.length d ((stateP q d (runesI z.word)))) x2.rune))).length cp2) ((z.word ++ (encR x2.rune))))] : List PW) 1 rfl rfl (by unfold maxLen; omega)
            have hS24 := (hS22.newSlB hm11 hb9 hz6 hl10).n8
            obtain ⟨g8, f21, hl11, k7⟩ := hS24.accK (i := 0) rfl
            have f22 := hS24.sl (i := 7) (k := 0) rfl rfl
            refine .ac (.append f21 Tryz.underlying229 ti228 rfl encPW_len encPW_one rfl rfl (f22) ol ox fun v5 g7 w14 ha2 hm12 hg3 hz7 => ?_)
            have hS25 := (k7 _ _ _ _ hm12 ha2 hg3).n8
            clear hg3
            have hS26 := (hS25.freeze (i := 6) rfl).n8
            have hS27 := (hS26.b2 [0, 2, 3, 4, 5, 7] 1 6 (by rfl) q100_8).n7
            have hS28 := (hS27.ty (slR encPos (V2 ++ [((.slice ad2 ((stateF (q.length + 1) d (cstepF d q (spreadF q.length d ((stateP q d (runesI z.word)))) x2.rune))).length cp2), (stateF (q.length + 1) d (cstepF d q (spreadF q.length d ((stateP q d (runesI z.word)))) x2.rune)))])) 6 rfl (fun F_ h_ => sl_app h_)).n7
            have hpush := PWR.push hd.1 hzs2 hsz hnode hzf (sh := SH.mk ad2 ((stateF (q.length + 1) d (cstepF d q (spreadF q.length d ((stateP q d (runesI z.word)))) x2.rune))).length cp2) (L := (stateF (q.length + 1) d (cstepF d q (spreadF q.length d ((stateP q d (runesI z.word)))) x2.rune))) (wd := z.word ++ encR x2.rune) hru hjs hgd rfl (by rw [henc]) hde hzl hto
            refine .go 5 rfl ?_
            refine .z (.subI ((i - 1)) rfl rfl q100_3) ?_
            have hS29 := (hS28.sel [0, 6, 1, 2, 3] (by rfl) q100_8).n5
            refine .gi 2 rfl ?_
            exact (ih2 _ _ _ ⟨(v5 : Value), ((ps2 ++ [(PW.mk x2.to (SH.mk ad2 ((stateF (q.length + 1) d (cstepF d q (spreadF q.length d ((stateP q d (runesI z.word)))) x2.rune))).length cp2) ((z.word ++ (encR x2.rune))))]) : List PW), ((i - 1) : Int), ((zs2 ++ [PZ.mk jn (gg.2, es1) (z.word ++ encL gg.1)]) : List PZ), ((V2 ++ [((.slice ad2 ((stateF (q.length + 1) d (cstepF d q (spreadF q.length d ((stateP q d (runesI z.word)))) x2.rune))).length cp2), (stateF (q.length + 1) d (cstepF d q (spreadF q.length d ((stateP q d (runesI z.word)))) x2.rune)))]) : List (Value × List Pos)), rfl, rfl, hS29, q100_6, q100_4, q100_1, q100_2, q100_9⟩ q100_3).sub ⟨rfl, rfl, rfl, rfl, rfl, rfl, rfl, rfl, trivial⟩
          replace hb6 := df hb6
          have hS17 := (hS15.sel [0, 1, 4] (by rfl) q100_8).n3
          refine .gi 3 rfl ?_
          exact (ih1 _ _ _ ⟨(v_ps2 : Value), (ps2 : List PW), (zs2 : List PZ), (V2 : List (Value × List Pos)), (sk : σ), rfl, rfl, hS17, q100_16, q100_12, q100_11, q100_10, q100_7⟩ q100_15).sub ⟨rfl, rfl, rfl, rfl, rfl, trivial⟩
      replace hb4 := hb4.symm
      refine .go 23 rfl ?_
      refine .z (.fieldAddr fl228_0 rfl) ?_
      have f8 := hS11.bk (i := 3) rfl
      refine .z (.l1 ti3 f8) ?_
      have f9 := Gr.keepM hgr hS11.mod hgF
      refine .ac (.callF cl145 rfl (edges_c (w0 := w6)  ((z.n : Int)) f9 (Nat.le_trans hhi hS11.mod.size) oa q100_14 (by first | assumption | (simp; done))) ?_)
      rintro v3 w7 ⟨⟨gr1, h2, hg1⟩, hm6⟩
      have hS13 := (hS11.newAcc hm6 h2 hg1).n5
      clear hg1
      have hle_2 := h2.le
      have hne1 : (nodeAt (gnOf s) (z.n : Int)).2 = z.x.2 := by rw [hna]
      have hel1 := nodeAt_len hel (z.n : Int)
      rw [hne1] at hel1
      have hS14 : St (fun _ => False) F w0 w7 [accR encPW 228 3 v2 ((ps.take ((ps.length - 1)))), slR encPos V, A sk, bkR b4 [.int .i64 ((z.n : Int)), sh1.val, strV z.word] 228, accR encE 233 2 v3 z.x.2] := (by rw [← hne1]; exact hS13)
      have hE2 : eachF f s0 (distsM words q d) = eachF f sk (eFrom q d z 0 ++ todoZ q d zs1) := yz_no hall (fun hc => by first | exact far_no q100_5 (hdn.2 hc.2) | exact far_no2 q100_5 (hdn.2 hc.2) | exact absurd hc.1 (by simp [*]))
      have hE3 : OkAll ok f sk (eFrom q d z 0 ++ todoZ q d zs1) := yz_okno hok2 (fun hc => by first | exact far_no q100_5 (hdn.2 hc.2) | exact far_no2 q100_5 (hdn.2 hc.2) | exact absurd hc.1 (by simp [*]))
      obtain ⟨g3, f10, hl5, k3⟩ := hS14.accK (i := 4) rfl
      refine .go 5 rfl ?_
      refine .z (.lenSl Tryz.underlying219 (f10.sl) rfl) ?_
      refine .z (.subI ((((z.x.2.length : Nat) : Int) - 1)) rfl rfl q100_3) ?_
      have hS16 := (hS14.sel [0, 1, 3, 4, 2] (by rfl) q100_8).n5
      refine .gi 3 rfl ?_
      refine r_loop (I := fun m E W => ∃ (v_ps2 : Value) (ps2 : List PW) (i : Int) (zs2 : List PZ) (V2 : List (Value × List Pos)), E = [(0, v_g), (1, v_q), (2, .int .i64 d), (3, .func (.func ky) first.toArray cap.toArray), (8, v_ps2), (9, ptr b4 0), (12, v3), (13, .int .i64 i)] ∧ m = (i + 1).toNat ∧ St (fun _ => False) F w0 W [accR encPW 228 3 v_ps2 ps2, slR encPos V2, bkR b4 [.int .i64 ((z.n : Int)), sh1.val, strV z.word] 228, accR encE 233 2 v3 z.x.2, A sk] ∧ (All2 (PWR q d s V2) ps2 zs2) ∧ (∀ x ∈ V, x ∈ V2) ∧ (todoZ q d zs2 = eFrom q d z (i + 1).toNat ++ todoZ q d zs1) ∧ (wgtS zs2 ≤ wgtS zs1 + wgtFrom (groups (dropE z.x.1)) (i + 1).toNat) ∧ (-1 ≤ i ∧ i < (z.x.2.length : Int))) ?_ ?_
      · refine ⟨_, _, ⟨(v2 : Value), ((ps.take ((ps.length - 1))) : List PW), ((((z.x.2.length : Nat) : Int) - 1) : Int), (zs1 : List PZ), (V : List (Value × List Pos)), rfl, rfl, hS16, (by exact hz1), (by exact fun x hx => hx), q100_13, q100_3, q100_3⟩, ⟨rfl, rfl, rfl, rfl, rfl, rfl, rfl, rfl, trivial⟩⟩
      · rintro _ _ w8 ⟨v_ps2, ps2, i, zs2, V2, rfl, rfl, hS15, hzs2, hVm, htd, hwg2, hi1⟩ ih2
        refine .go 4 rfl ?_
        refine .zb (.ge rfl rfl) fun b6 hb5 => ?_
        refine .gi 1 rfl ?_
        cases b6
        case true =>
          replace hb5 := dt hb5
          obtain ⟨g4, f11, hl6, k4⟩ := hS15.accK (i := 3) rfl
          obtain ⟨x2, b7, o2, hx2, hr3, hl7, hw2⟩ := Sl.atF (P := Tryz.prog) f11.sl Tryz.underlying219 ti233 encE_len (k := .i64) (n := i) ((i).toNat) q100_3 ao
          refine .go 8 rfl ?_
          refine .z (.indexAddr rfl rfl hr3) ?_
          obtain ⟨gg, jn, es1, hgk, hru, hto, hjs, hgd, hgne⟩ := edge_at hzc hzg hx2
          obtain ⟨de, rfl, hde⟩ := deep_edge hzg hzd hgk
          have henc : encR x2.rune = encL gg.1 := by rw [hru]; exact encR_L hgd
          have hlya := encL_len4 gg.1
          have hlyb : (encR x2.rune).length ≤ 4 := by rw [henc]; exact hlya
          have hgr1 : 0 ≤ x2.rune ∧ x2.rune ≤ 1114111 := by rw [hru]; have := hgd.1; omega
          have hst1 := eFrom_step (q := q) (d := d) hgk
          have hst2 := wgtFrom_step hgk
          have hgw := wgt_pos gg.2
          have hwgb := wgt_len hzs2
          have hwgc := wgtFrom_le (groups (dropE z.x.1)) (i + 1).toNat
          refine .z (.loadN ti233 rfl (fun _ e => e ▸ hw2) rfl) ?_
          refine .ac (.alloc ti233 fun w9 b8 hm7 hb6 hz4 hk4 => ?_)
          have hS18 := (hS15.newBk hm7 hb6 hk4).n6
          have f12 := hS18.bk (i := 5) rfl
          refine .ac (.store ti233 rfl rfl rfl rfl rfl f12 (Nat.le_of_ble_eq_true rfl) fun w10 hm8 hz5 hk5 => ?_)
          have hS19 := (hS18.bkK (cs' := [.int .i32 x2.rune, .int .i64 x2.to]) (i := 5) rfl hm8 hk5).n6
          refine .go 5 rfl ?_
          refine .z (.fieldAddr fl228_1 rfl) ?_
          have f13 := hS19.bk (i := 2) rfl
          refine .z (.l1 ti225 f13) ?_
          refine .z (.fieldAddr fl233_0 rfl) ?_
          have f14 := hS19.bk (i := 5) rfl
          refine .z (.l1 ti21 f14) ?_
          have f15 := hS19.out hq hG
          have f16 := hS19.slMem (i := 1) rfl (hVm _ hzm)
          refine .ac (.callF cl146 rfl (astep_c (w0 := w10) (q := q) (s := (stateP q d (runesI z.word))) (d) (x2.rune) (f15.mono (fun b hb => ⟨Nat.zero_le _, Nat.lt_of_lt_of_le (hGl b hb) hS19.mod.size⟩)) oa f16 oa ao ao ao) ?_)
          rintro v4 w11 ⟨⟨gr2, h3, hg2⟩, hm9⟩
          have hS21 := (hS19.newAcc hm9 h3 hg2).n7
          clear hg2
          have hle_3 := h3.le
          obtain ⟨g5, f17, hl8, k5⟩ := hS21.accK (i := 6) rfl
          refine .go 5 rfl ?_
          refine .ac (.callF cl147 rfl (adead_c (w0 := w11) (s := (stateF (q.length + 1) d (cstepF d q (spreadF q.length d ((stateP q d (runesI z.word)))) x2.rune)))  (f17.sl.iv (Nat.zero_le _) f17.lt)) ?_)
          rintro _ w12 ⟨⟨b9, hb7, rfl⟩, hm10⟩
          have hS22 := hS21.ext hm10
          cases b9
          case true =>
            replace hb7 := hb7.symm
            refine .z (.not rfl) ?_
            refine .go 6 rfl ?_
            refine .z (.subI ((i - 1)) rfl rfl q100_3) ?_
            have hS23 := (hS22.sel [0, 1, 2, 3, 4] (by rfl) q100_8).n5
            refine .gi 2 rfl ?_
            exact (ih2 _ _ _ ⟨(v_ps2 : Value), (ps2 : List PW), ((i - 1) : Int), (zs2 : List PZ), (V2 : List (Value × List Pos)), rfl, rfl, hS23, q100_6, q100_4, q100_1, q100_2, q100_9⟩ q100_3).sub ⟨rfl, rfl, rfl, rfl, rfl, rfl, rfl, rfl, trivial⟩
          replace hb7 := hb7.symm
          refine .z (.not rfl) ?_
          refine .go 4 rfl ?_
          refine .z (.fieldAddr fl233_1 rfl) ?_
          have f18 := hS22.bk (i := 5) rfl
          refine .z (.l1 ti3 f18) ?_
          refine .go 1 rfl ?_
          refine .z (.fieldAddr fl228_2 rfl) ?_
          have f19 := hS22.bk (i := 2) rfl
          refine .z (.l1 ti9 f19) ?_
          refine .z (.fieldAddr fl233_0 rfl) ?_
          refine .z (.l1 ti21 f18) ?_
          refine .z (.convRS (by kernel_rfl) Tryz.underlying9 rfl) ?_
          refine .z (.catS rfl rfl (by first | omega | (simp only [List.length_append]; omega) | (simp only [List.length_append, List.length_cons, List.length_nil]; omega))) ?_
          obtain ⟨g6, f20, hl9, k6⟩ := hS22.accK (i := 6) rfl
          obtain ⟨ad2, cp2, hv2⟩ := f20.shape
          subst hv2
          refine .z (.build (vs := #[(0, (.int .i64 x2.to : Value)), (1, (.slice ad2 ((stateF (q.length + 1) d (cstepF d q (spreadF q.length d ((stateP q d (runesI z.word)))) x2.rune))).length cp2)), (2, strV ((z.word ++ (encR x2.rune))))]) (v := .agg #[.int .i64 x2.to, (.slice ad2 ((stateF (q.length + 1) d (cstepF d q (spreadF q.length d ((stateP q d (runesI z.word)))) x2.rune))).length cp2), strV ((z.word ++ (encR x2.rune)))]) rfl (fun _ => by kernel_rfl)) ?_
          refine .ac (.buildSlice [(.agg #[.int .i64 x2.to, (.slice ad2 ((stateF (q.length + 1) d (cstepF d q (spreadF q.length d ((stateP q d (runesI z.word)))) x2.rune))).length cp2), strV ((z.word ++ (encR x2.rune)))] : Value)] Tryz.underlying229 ti228 rfl rfl rfl q100_8 fun w13 b10 hm11 hb8 hz6 hk6 => ?_)
          have hl10 := Sl.of_blk (enc := encPW) hk6 ([(PW.mk x2.to (SH.mk ad2 ((stateF (q.length + 1) d (cstepF d q (spreadF q.length d ((stateP q d (runesI z.word)))) x2.rune))).length cp2) ((z.word ++ (encR x2.rune))))] : List PW) 1 rfl rfl (by unfold maxLen; omega)
          have hS24 := (hS22.newSlB hm11 hb8 hz6 hl10).n8
          obtain ⟨g8, f21, hl11, k7⟩ := hS24.accK (i := 0) rfl
          have f22 := hS24.sl (i := 7) (k := 0) rfl rfl
          refine .ac (.append f21 Tryz.underlying229 ti228 rfl encPW_len encPW_one rfl rfl (f22) ol ox fun v5 g7 w14 ha2 hm12 hg3 hz7 => ?_)
          have hS25 := (k7 _ _ _ _ hm12 ha2 hg3).n8
          clear hg3
          have hS26 := (hS25.freeze (i := 6) rfl).n8
          have hS27 := (hS26.b2 [0, 2, 3, 4, 5, 7] 1 6 (by rfl) q100_8).n7
          have hS28 := (hS27.ty (slR encPos (V2 ++ [((.slice ad2 ((stateF (q.length + 1) d (cstepF d q (spreadF q.length d ((stateP q d (runesI z.word)))) x2.rune))).length cp2), (stateF (q.length + 1) d (cstepF d q (spreadF q.length d ((stateP q d (runesI z.word)))) x2.rune)))])) 6 rfl (fun F_ h_ => sl_app h_)).n7
          have hpush := PWR.push hd.1 hzs2 hsz hnode hzf (sh := SH.mk ad2 ((stateF (q.length + 1) d (cstepF d q (spreadF q.length d ((stateP q d (runesI z.word)))) x2.rune))).length cp2) (L := (stateF (q.length + 1) d (cstepF d q (spreadF q.length d ((stateP q d (runesI z.word)))) x2.rune))) (wd := z.word ++ encR x2.rune) hru hjs hgd rfl (by rw [henc]) hde hzl hto
          refine .go 5 rfl ?_
          refine .z (.subI ((i - 1)) rfl rfl (by omega)) ?_
          have hS29 := (hS28.sel [0, 6, 1, 2, 3] (by rfl) q100_8).n5
          refine .gi 2 rfl ?_
          exact (ih2 _ _ _ ⟨(v5 : Value), ((ps2 ++ [(PW.mk x2.to (SH.mk ad2 ((stateF (q.length + 1) d (cstepF d q (spreadF q.length d ((stateP q d (runesI z.word)))) x2.rune))).length cp2) ((z.word ++ (encR x2.rune))))]) : List PW), ((i - 1) : Int), ((zs2 ++ [PZ.mk jn (gg.2, es1) (z.word ++ encL gg.1)]) : List PZ), ((V2 ++ [((.slice ad2 ((stateF (q.length + 1) d (cstepF d q (spreadF q.length d ((stateP q d (runesI z.word)))) x2.rune))).length cp2), (stateF (q.length + 1) d (cstepF d q (spreadF q.length d ((stateP q d (runesI z.word)))) x2.rune)))]) : List (Value × List Pos)), rfl, rfl, hS29, q100_6, q100_4, q100_1, q100_2, q100_9⟩ q100_3).sub ⟨rfl, rfl, rfl, rfl, rfl, rfl, rfl, rfl, trivial⟩
        replace hb5 := df hb5
        have hS17 := (hS15.sel [0, 1, 4] (by rfl) q100_8).n3
        refine .gi 3 rfl ?_
        exact (ih1 _ _ _ ⟨(v_ps2 : Value), (ps2 : List PW), (zs2 : List PZ), (V2 : List (Value × List Pos)), (sk : σ), rfl, rfl, hS17, q100_16, q100_12, q100_11, q100_10, q100_7⟩ q100_15).sub ⟨rfl, rfl, rfl, rfl, rfl, trivial⟩
    replace hb2 := df hb2
    refine .gi 2 rfl ?_
    refine r_end0 Tryz.func100 rfl ?_
    have hS7 := (hS5.sel [2] (by rfl) (by decide)).n1
    have hres : (eachF f s0 (distsM words q d)).1 = sk := by first | (rw [yz_stop hall ⟨hfin, hdn.1 (far_yes q100_5 q100_5)⟩ q100_5]; done) | (rw [hall, zs_nil hzs q100_3]; rfl)
    obtain ⟨hmF, F2r, hAr, hFr⟩ := hS7.fin
    exact Ret.mk ⟨rfl, hmF, F2r, hres ▸ hAr, hFr⟩
end Go.Proofs
namespace Go.Proofs
open Go.Ik Go.Ml
set_option maxRecDepth 20000 in
set_option maxHeartbeats 4000000 in
theorem icmp_c {w0 : World}  {a : Itm} {b : Itm}  :
    Calls Tryz.prog 90 #[.agg #[.int .i64 a.dist, strV a.word], .agg #[.int .i64 b.dist, strV b.word]] w0 (Ret fun rv w1 => rv = .int .i64 (Ml.itmCmp a b) ∧ Ext w0 w1) := by
  have hE0 : Ext w0 w0 := Mod.refl _ _
  refine calls_enter Tryz.func90 rfl Tryz.ntmps90 rfl ?_
  refine .go 2 rfl ?_
  refine .ac (.box [.int .i64 a.dist, strV a.word] rfl rfl fun w1 b1 hm1 hb1 hz1 hk1 => ?_)
  have hE1 := hE0.ext hm1
  have hs1 := hm1.size
  refine .ac (.box [.int .i64 b.dist, strV b.word] rfl rfl fun w2 b2 hm2 hb2 hz2 hk2 => ?_)
  have f1 := hk1.ext hm2
  have hE2 := hE1.ext hm2
  have hs2 := hm2.size
  refine .gi 3 rfl ?_
  refine r_draw1 (fun i => Nat.beq i 4 || Nat.beq i 9 || Nat.beq i 10 || Nat.beq i 11) 13 (fun w' => Mod (Mg 0) w2 w') mixed (by kernel_rfl) fun w3 hm3 => ?_
  have hE3 := hE2.ext hm3
  have hs3 := hm3.size
  have hCw3 : Mod (Mg 0) w2 w3 := Mod.ofExt hm3
  refine ⟨hCw3, ?_⟩
  rw [show List.range' 0 (Array.size _) = [0, 1, 2, 3, 4, 5, 6, 7, 8, 9, 10, 11, 12] from rfl]
  refine .z rfl (.fieldAddr fl33_0 rfl) ?_
  refine .z rfl (.load1 ti3 rfl (fun _ hc => (f1.cell 0 _ rfl).keepG hc (by omega))) ?_
  refine .z rfl (.fieldAddr fl33_0 rfl) ?_
  refine .z rfl (.load1 ti3 rfl (fun _ hc => (hk2.cell 0 _ rfl).keepG hc (by omega))) ?_
  refine .ac rfl (.callF cl134 rfl (cmpc_c (w0 := w3)  (a.dist) (b.dist) ) ?_)
  rintro _ w4 ⟨rfl, hm4⟩
  have hE4 := hE3.ext hm4
  have hs4 := hm4.size
  have hCw4 := hCw3.ext hm4
  refine ⟨.inr hCw4, ?_⟩
  refine .z rfl (.fieldAddr fl33_1 rfl) ?_
  refine .z rfl (.load1 ti9 rfl (fun _ hc => (f1.cell 1 _ rfl).keepG hc (by omega))) ?_
  refine .z rfl (.fieldAddr fl33_1 rfl) ?_
  refine .z rfl (.load1 ti9 rfl (fun _ hc => (hk2.cell 1 _ rfl).keepG hc (by omega))) ?_
  refine .ac rfl (.callF cl103 rfl (tcmp_c (w0 := w4)  a.word b.word ) ?_)
  rintro _ w5 ⟨rfl, hm5, hp1⟩
  have hE5 := hE4.ext hm5
  have hs5 := hm5.size
  have hCw5 := hCw4.ext hm5
  refine ⟨.inr hCw5, ?_⟩
  refine .ac rfl (.buildSlice [(.int .i64 ((Ml.cmpI a.dist b.dist)) : Value), (.int .i64 ((Lib.compareBytes a.word b.word)) : Value)] Tryz.underlying57 ti3 rfl rfl rfl (by decide) fun w6 b3 hm6 hb3 hz3 hk3 => ?_)
  have hE6 := hE5.ext hm6
  have hs6 := hm6.size
  have hCw6 := hCw5.ext hm6
  refine ⟨.inr hCw6, ?_⟩
  have hl1 := Sl.of_blk (enc := Ik.encI) hk3 ([(Ml.cmpI a.dist b.dist), (Lib.compareBytes a.word b.word)] : List Int) 2 rfl rfl (by unfold maxLen; omega)
  refine .ac rfl (.callF cl133 rfl (cmpor_c (w0 := w6) (vals := [(Ml.cmpI a.dist b.dist), (Lib.compareBytes a.word b.word)])  ((hl1).iv (Nat.zero_le _) (by omega))) ?_)
  rintro _ w7 ⟨rfl, hm7⟩
  have hE7 := hE6.ext hm7
  have hs7 := hm7.size
  have hCw7 := hCw6.ext hm7
  refine ⟨.inr hCw7, ?_⟩
  refine .gd 1 rfl ?_
  refine .nil ?_
  refine r_ret1 Tryz.func90 rfl rfl ?_
  exact Ret.mk ⟨(congrArg (Value.int .i64) (by rfl)), hE7⟩
set_option maxRecDepth 20000 in
set_option maxHeartbeats 4000000 in
theorem iless_c {w0 : World}  {a : Itm} {b : Itm}  :
    Calls Tryz.prog 44 #[.agg #[.int .i64 a.dist, strV a.word], .agg #[.int .i64 b.dist, strV b.word]] w0 (Ret fun rv w1 => (∃ rb : Bool, rb = (Ml.itmLess a b) ∧ rv = .bool rb) ∧ Ext w0 w1) := by
  have hE0 : Ext w0 w0 := Mod.refl _ _
  refine calls_enter Tryz.func44 rfl Tryz.ntmps44 rfl ?_
  refine .go 2 rfl ?_
  refine .ac (.box [.int .i64 a.dist, strV a.word] rfl rfl fun w1 b1 hm1 hb1 hz1 hk1 => ?_)
  have hE1 := hE0.ext hm1
  have hs1 := hm1.size
  refine .ac (.box [.int .i64 b.dist, strV b.word] rfl rfl fun w2 b2 hm2 hb2 hz2 hk2 => ?_)
  have f1 := hk1.ext hm2
  have hE2 := hE1.ext hm2
  have hs2 := hm2.size
  refine .go 4 rfl ?_
  refine .z (.loadN ti33 rfl (fun _ e => e ▸ f1.row) rfl) ?_
  refine .z (.loadN ti33 rfl (fun _ e => e ▸ hk2.row) rfl) ?_
  refine .ac (.callF cl90 rfl (icmp_c (w0 := w2) (a := a) (b := b)  ) ?_)
  rintro _ w3 ⟨rfl, hm3⟩
  have hE3 := hE2.ext hm3
  have hs3 := hm3.size
  refine .zb (.lt rfl rfl) fun b3 hb3 => ?_
  refine .gi 2 rfl ?_
  refine r_ret1 Tryz.func44 rfl rfl ?_
  exact Ret.mk ⟨⟨_, (by first | simp only [Ml.itmLess, *] | (exfalso; omega)), rfl⟩, hE3⟩
end Go.Proofs
namespace Go.Proofs
open Go.Ik Go.Ml
theorem q99_1 {p : Prop} (h : p := by first | exact qM_no (by first | exact mayA_g | exact mayA_k (by omega) | exact mayA_s (by assumption)) | (symm; exact (by first | exact mayA_g | exact mayA_k (by omega) | exact mayA_s (by assumption))) | exact qM_yes (mayA_yes (by assumption) (by omega) (by assumption)) | (rw [(mayA_yes (by assumption) (by omega) (by assumption)), ← asked_fine (s := s) (by assumption)]; assumption) | (exfalso; omega)) : p := h
theorem q99_4 {p : Prop} (h : p := by omega) : p := h
set_option maxRecDepth 20000 in
set_option maxHeartbeats 4000000 in
theorem wasked_c {w0 : World}  {v_g : Value} {lo_g hi_g : Nat} {g : List GN} (s : Str) (k : Int) (h_g : Gr 0 w0 lo_g hi_g v_g g) (hhi_g : hi_g ≤ w0.heap.size) (h_k : I64 k) (hs : s.length ≤ 1000000) :
    Calls Tryz.prog 99 #[v_g, strV s, .int .i64 k] w0 (Ret fun rv w1 => ∃ u0 u1, rv = .tuple #[u0, u1] ∧ Sl encRn w1 (Iv w0.heap.size w1.heap.size) u0 (qM g s k) ∧ (∃ rb : Bool, rb = (mayA g s k) ∧ u1 = .bool rb) ∧ Ext w0 w1) := by
  have hE0 : Ext w0 w0 := Mod.refl _ _
  refine calls_enter Tryz.func99 rfl Tryz.ntmps99 rfl ?_
  have hgr1 := h_g
  refine .go 9 rfl ?_
  rcases h_g with ⟨hv1, hN1⟩ | ⟨b1, vn1, nds1, hv1, hN1, hrw1, hsl1, hrel1⟩
  · subst hv1
    try subst hN1
    refine .z (.eqNil Tryz.underlying99 rfl rfl) ?_
    refine .gi 20 rfl ?_
    refine r_ret2 Tryz.func99 rfl rfl rfl ?_
    exact Ret.mk ⟨_, _, rfl, (Sl.cast Sl.nil q99_1), ⟨_, q99_1, rfl⟩, hE0⟩
  · subst hv1
    have hnl1 := (All2.get hrel1).1
    refine .z (.eqNil Tryz.underlying99 rfl rfl) ?_
    refine .go 2 rfl ?_
    refine .zb (.lt rfl rfl) fun b2 hb1 => ?_
    refine .go 2 rfl ?_
    cases b2
    case true =>
      replace hb1 := dt hb1
      refine .gi 15 rfl ?_
      refine r_ret2 Tryz.func99 rfl rfl rfl ?_
      exact Ret.mk ⟨_, _, rfl, (Sl.cast Sl.nil q99_1), ⟨_, q99_1, rfl⟩, hE0⟩
    replace hb1 := df hb1
    refine .go 1 rfl ?_
    refine .zb (.gt rfl rfl) fun b3 hb2 => ?_
    refine .go 2 rfl ?_
    cases b3
    case true =>
      replace hb2 := dt hb2
      refine .gi 11 rfl ?_
      refine r_ret2 Tryz.func99 rfl rfl rfl ?_
      exact Ret.mk ⟨_, _, rfl, (Sl.cast Sl.nil q99_1), ⟨_, q99_1, rfl⟩, hE0⟩
    replace hb2 := df hb2
    refine .go 1 rfl ?_
    refine .ac (.callF cl126 rfl (tasked_c (w0 := w0)  s ao) ?_)
    rintro _ w1 ⟨⟨b4, hb3, rfl⟩, hm1⟩
    have hE1 := hE0.ext hm1
    have hs1 := hm1.size
    cases b4
    case true =>
      replace hb3 := hb3.symm
      refine .z (.not rfl) ?_
      refine .go 7 rfl ?_
      refine .ac (.callF cl127 rfl (trunes_c (w0 := w1)  s (by first | assumption | omega | (simp; done))) ?_)
      rintro _ w2 ⟨v1, _, rfl, h1, ⟨b5, hb4, rfl⟩, hm2⟩
      have hE2 := hE1.ext hm2
      have hs2 := hm2.size
      have hle_1 := h1.le
      have := Ml.runesM_len s
      refine .gi 5 rfl ?_
      refine r_ret2 Tryz.func99 rfl rfl rfl ?_
      exact Ret.mk ⟨_, _, rfl, (Sl.cast (h1.iv q99_4 q99_4) q99_1), ⟨_, q99_1, rfl⟩, hE2⟩
    replace hb3 := hb3.symm
    refine .z (.not rfl) ?_
    refine .gi 8 rfl ?_
    refine r_ret2 Tryz.func99 rfl rfl rfl ?_
    exact Ret.mk ⟨_, _, rfl, (Sl.cast Sl.nil q99_1), ⟨_, q99_1, rfl⟩, hE1⟩
theorem q101_1 {p : Prop} (h : p := by first | exact .inl rfl | exact .inr (by assumption)) : p := h
theorem q101_2 {p : Prop} (h : p := by assumption) : p := h
theorem q101_3 {p : Prop} (h : p := by decide) : p := h
set_option maxRecDepth 20000 in
set_option maxHeartbeats 4000000 in
theorem wnext1_c {w0 : World} {F : Nat → Prop} {bl bm bd bf ba bb : Nat} {l : List Itm} {more : Bool} (x : Str) (d batch : Int) (first : Bool) (after : Itm) (hd : I64 d) (hbt : I64 batch) (had : I64 after.dist) (haw : after.word.length ≤ 1000000) (hA : (boxR (R := fun _ => False) [nb0R (R := fun _ => False) 47 33 4 bl bm ((l, more)), bkR bd [.int .i64 d] 3, bkR bf [.bool first] 4, bkR ba [.int .i64 after.dist, strV after.word] 33, bkR bb [.int .i64 batch] 3]).p F w0) (hF : ∀ b, F b → b < w0.heap.size) (hln : l.length ≤ 1000000) :
    Calls Tryz.prog 101 #[strV x, ptr bd 0, ptr bf 0, ptr ba 0, ptr bl 0, ptr bb 0, ptr bm 0] w0 (Ret fun rv w1 => rv = .bool (nextF first after batch d (l, more) x).2 ∧ Mod F w0 w1 ∧ ∃ F2, (boxR (R := fun _ => False) [nb0R (R := fun _ => False) 47 33 4 bl bm ((nextF first after batch d (l, more) x).1), bkR bd [.int .i64 d] 3, bkR bf [.bool first] 4, bkR ba [.int .i64 after.dist, strV after.word] 33, bkR bb [.int .i64 batch] 3]).p F2 w1 ∧ ∀ b, F2 b → b < w1.heap.size ∧ (F b ∨ w0.heap.size ≤ b)) := by
  have hS00 := St.start1 hA (fun b hb => ⟨hF b hb, id⟩) (fun _ h => h.elim)
  have hS1 := (hS00.un 0 rfl [] (by rfl) (by decide)).n5
  obtain ⟨vb1, hS2⟩ := hS1.exo (i := 0) rfl
  change St (fun _ => False) F w0 w0 [boxR [bkR bl [vb1] 47, accR encItm 33 2 vb1 (((l, more)).1), bkR bm [.bool ((l, more)).2] 4], bkR bd [.int .i64 d] 3, bkR bf [.bool first] 4, bkR ba [.int .i64 after.dist, strV after.word] 33, bkR bb [.int .i64 batch] 3] at hS2
  have hS3 := (hS2.un 0 rfl [1, 2, 3, 4] (by rfl) q101_3).n7
  have hS4 : St (fun _ => False) F w0 w0 [bkR bd [.int .i64 d] 3, bkR bf [.bool first] 4, bkR ba [.int .i64 after.dist, strV after.word] 33, bkR bb [.int .i64 batch] 3, bkR bl [vb1] 47, accR encItm 33 2 vb1 l, bkR bm [.bool more] 4] := hS3
  refine calls_enter Tryz.func101 rfl Tryz.ntmps101 rfl ?_
  have f1 := hS4.bk (i := 0) rfl
  refine .go 6 rfl ?_
  refine .z (.l1 ti3 f1) ?_
  refine .go 1 rfl ?_
  refine .z (.build (vs := #[(0, (.int .i64 d : Value)), (1, strV x)]) (v := .agg #[.int .i64 d, strV x]) rfl (fun _ => by kernel_rfl)) ?_
  refine .ac (.alloc ti33 fun w1 b1 hm1 hb1 hz1 hk1 => ?_)
  have hS6 := (hS4.newBk hm1 hb1 hk1).n8
  have f2 := hS6.bk (i := 7) rfl
  refine .ac (.store ti33 rfl rfl rfl rfl rfl f2 (Nat.le_of_ble_eq_true rfl) fun w2 hm2 hz2 hk2 => ?_)
  have hS7 := (hS6.bkK (cs' := [.int .i64 d, strV x]) (i := 7) rfl hm2 hk2).n8
  have f3 := hS7.bk (i := 1) rfl
  refine .go 5 rfl ?_
  refine .z (.l1 ti4 f3) ?_
  cases first
  case true =>
    refine .z (.not rfl) ?_
    have f4 := hS7.bk (i := 4) rfl
    refine .go 11 rfl ?_
    refine .z (.l1 ti47 f4) ?_
    obtain ⟨g1, f5, hl1, k1⟩ := hS7.accK (i := 5) rfl
    refine .z (.lenSl Tryz.underlying47 (f5.sl) rfl) ?_
    have f6 := hS7.bk (i := 3) rfl
    refine .z (.l1 ti3 f6) ?_
    refine .zb (.eq rfl rfl) fun b2 hb2 => ?_
    refine .gi 2 rfl ?_
    cases b2
    case true =>
      replace hb2 := eq_of_beq hb2.symm
      have f7 := hS7.bk (i := 6) rfl
      refine .go 2 rfl ?_
      refine .ac (.store ti4 rfl rfl rfl rfl rfl f7 (Nat.le_of_ble_eq_true rfl) fun w3 hm3 hz3 hk3 => ?_)
      have hS8 := (hS7.bkK (cs' := [.bool true]) (i := 6) rfl hm3 hk3).n8
      have f8 := hS8.bk (i := 6) rfl
      refine .go 4 rfl ?_
      refine .z (.l1 ti4 f8) ?_
      refine .z (.not rfl) ?_
      refine .gi 2 rfl ?_
      refine r_ret1 Tryz.func101 rfl rfl ?_
      have hS9 := (hS8.b3 [0, 1, 2, 3, 7] 4 5 6 (by rfl) q101_3).n6
      have hS10 : St (fun _ => False) F w0 w3 [bkR bd [.int .i64 d] 3, bkR bf [.bool true] 4, bkR ba [.int .i64 after.dist, strV after.word] 33, bkR bb [.int .i64 batch] 3, bkR b1 [.int .i64 d, strV x] 33, nb0R 47 33 4 bl bm ((l, true))] := hS9.exi vb1 (i := 5) rfl
      have hS11 := (hS10.b5 [4] 5 0 1 2 3 (by rfl) q101_3).n2
      have hS12 := (hS11.sel [1] (by rfl) (by decide)).n1
      obtain ⟨hmF, F2r, hAr, hFr⟩ := hS12.fin
      have hnf : nextF true after batch d (l, more) x = ((l, true), false) := by first | exact nextF_skip q101_2 | exact nextF_full q101_1 q101_2 | exact nextF_add q101_1 q101_2
      exact Ret.mk ⟨by rw [hnf]; rfl, hmF, F2r, by rw [hnf]; exact hAr, hFr⟩
    replace hb2 := ne_of_beq_false hb2.symm
    refine .go 2 rfl ?_
    refine .z (.l1 ti47 f4) ?_
    have f7 := hS7.bk (i := 7) rfl
    refine .z (.loadN ti33 rfl (fun _ e => e ▸ f7.row) rfl) ?_
    refine .ac (.buildSlice [(.agg #[.int .i64 d, strV x] : Value)] Tryz.underlying47 ti33 rfl rfl rfl q101_3 fun w3 b3 hm3 hb3 hz3 hk3 => ?_)
    have hl2 := Sl.of_blk (enc := encItm) hk3 ([(Itm.mk d x)] : List Itm) 1 rfl rfl (by unfold maxLen; omega)
    have hS9 := (hS7.newSlB hm3 hb3 hz3 hl2).n9
    obtain ⟨g3, f8, hl3, k2⟩ := hS9.accK (i := 5) rfl
    have f9 := hS9.sl (i := 8) (k := 0) rfl rfl
    refine .ac (.append f8 Tryz.underlying47 ti33 rfl encItm_len encItm_one rfl rfl (f9) ol ox fun v1 g2 w4 ha1 hm4 hg1 hz4 => ?_)
    have hS10 := (k2 _ _ _ _ hm4 ha1 hg1).n9
    clear hg1
    obtain ⟨g4, f10, hl4, k3⟩ := hS10.accK (i := 5) rfl
    obtain ⟨ad1, cp1, hv1⟩ := f10.shape
    subst hv1
    have f11 := hS10.bk (i := 4) rfl
    refine .ac (.store ti47 rfl rfl rfl rfl rfl f11 (Nat.le_of_ble_eq_true rfl) fun w5 hm5 hz5 hk4 => ?_)
    have hS11 := (hS10.bkK (cs' := [(.slice ad1 ((l ++ [(Itm.mk d x)])).length cp1)]) (i := 4) rfl hm5 hk4).n9
    have f12 := hS11.bk (i := 6) rfl
    refine .go 4 rfl ?_
    refine .z (.l1 ti4 f12) ?_
    cases more
    case true =>
      refine .z (.not rfl) ?_
      refine .gi 2 rfl ?_
      refine r_ret1 Tryz.func101 rfl rfl ?_
      have hS12 := (hS11.b3 [0, 1, 2, 3, 7, 8] 4 5 6 (by rfl) q101_3).n7
      have hS13 : St (fun _ => False) F w0 w5 [bkR bd [.int .i64 d] 3, bkR bf [.bool true] 4, bkR ba [.int .i64 after.dist, strV after.word] 33, bkR bb [.int .i64 batch] 3, bkR b1 [.int .i64 d, strV x] 33, slR encItm [((.slice (some ⟨b3, 0, none⟩) 1 1), [(Itm.mk d x)])], nb0R 47 33 4 bl bm (((l ++ [(Itm.mk d x)]), true))] := hS12.exi (.slice ad1 ((l ++ [(Itm.mk d x)])).length cp1) (i := 6) rfl
      have hS14 := (hS13.b5 [4, 5] 6 0 1 2 3 (by rfl) q101_3).n3
      have hS15 := (hS14.sel [2] (by rfl) (by decide)).n1
      obtain ⟨hmF, F2r, hAr, hFr⟩ := hS15.fin
      have hnf : nextF true after batch d (l, true) x = (((l ++ [(Itm.mk d x)]), true), false) := by first | exact nextF_skip q101_2 | exact nextF_full q101_1 q101_2 | exact nextF_add q101_1 q101_2
      exact Ret.mk ⟨by rw [hnf]; rfl, hmF, F2r, by rw [hnf]; exact hAr, hFr⟩
    refine .z (.not rfl) ?_
    refine .gi 2 rfl ?_
    refine r_ret1 Tryz.func101 rfl rfl ?_
    have hS12 := (hS11.b3 [0, 1, 2, 3, 7, 8] 4 5 6 (by rfl) q101_3).n7
    have hS13 : St (fun _ => False) F w0 w5 [bkR bd [.int .i64 d] 3, bkR bf [.bool true] 4, bkR ba [.int .i64 after.dist, strV after.word] 33, bkR bb [.int .i64 batch] 3, bkR b1 [.int .i64 d, strV x] 33, slR encItm [((.slice (some ⟨b3, 0, none⟩) 1 1), [(Itm.mk d x)])], nb0R 47 33 4 bl bm (((l ++ [(Itm.mk d x)]), false))] := hS12.exi (.slice ad1 ((l ++ [(Itm.mk d x)])).length cp1) (i := 6) rfl
    have hS14 := (hS13.b5 [4, 5] 6 0 1 2 3 (by rfl) q101_3).n3
    have hS15 := (hS14.sel [2] (by rfl) (by decide)).n1
    obtain ⟨hmF, F2r, hAr, hFr⟩ := hS15.fin
    have hnf : nextF true after batch d (l, false) x = (((l ++ [(Itm.mk d x)]), false), true) := by first | exact nextF_skip q101_2 | exact nextF_full q101_1 q101_2 | exact nextF_add q101_1 q101_2
    exact Ret.mk ⟨by rw [hnf]; rfl, hmF, F2r, by rw [hnf]; exact hAr, hFr⟩
  refine .z (.not rfl) ?_
  have f4 := hS7.bk (i := 2) rfl
  refine .go 1 rfl ?_
  refine .z (.loadN ti33 rfl (fun _ e => e ▸ f4.row) rfl) ?_
  have f5 := hS7.bk (i := 7) rfl
  refine .z (.loadN ti33 rfl (fun _ e => e ▸ f5.row) rfl) ?_
  refine .ac (.callF cl44 rfl (iless_c (w0 := w2) (a := (Itm.mk after.dist after.word)) (b := (Itm.mk d x))  ) ?_)
  rintro _ w3 ⟨⟨b2, hb2, rfl⟩, hm3⟩
  have hS8 := hS7.ext hm3
  cases b2
  case true =>
    replace hb2 := hb2.symm
    refine .z (.not rfl) ?_
    have f6 := hS8.bk (i := 4) rfl
    refine .go 6 rfl ?_
    refine .z (.l1 ti47 f6) ?_
    obtain ⟨g1, f7, hl1, k1⟩ := hS8.accK (i := 5) rfl
    refine .z (.lenSl Tryz.underlying47 (f7.sl) rfl) ?_
    have f8 := hS8.bk (i := 3) rfl
    refine .z (.l1 ti3 f8) ?_
    refine .zb (.eq rfl rfl) fun b3 hb3 => ?_
    refine .gi 2 rfl ?_
    cases b3
    case true =>
      replace hb3 := eq_of_beq hb3.symm
      have f9 := hS8.bk (i := 6) rfl
      refine .go 2 rfl ?_
      refine .ac (.store ti4 rfl rfl rfl rfl rfl f9 (Nat.le_of_ble_eq_true rfl) fun w4 hm4 hz3 hk3 => ?_)
      have hS9 := (hS8.bkK (cs' := [.bool true]) (i := 6) rfl hm4 hk3).n8
      have f10 := hS9.bk (i := 6) rfl
      refine .go 4 rfl ?_
      refine .z (.l1 ti4 f10) ?_
      refine .z (.not rfl) ?_
      refine .gi 2 rfl ?_
      refine r_ret1 Tryz.func101 rfl rfl ?_
      have hS10 := (hS9.b3 [0, 1, 2, 3, 7] 4 5 6 (by rfl) q101_3).n6
      have hS11 : St (fun _ => False) F w0 w4 [bkR bd [.int .i64 d] 3, bkR bf [.bool false] 4, bkR ba [.int .i64 after.dist, strV after.word] 33, bkR bb [.int .i64 batch] 3, bkR b1 [.int .i64 d, strV x] 33, nb0R 47 33 4 bl bm ((l, true))] := hS10.exi vb1 (i := 5) rfl
      have hS12 := (hS11.b5 [4] 5 0 1 2 3 (by rfl) q101_3).n2
      have hS13 := (hS12.sel [1] (by rfl) (by decide)).n1
      obtain ⟨hmF, F2r, hAr, hFr⟩ := hS13.fin
      have hnf : nextF false after batch d (l, more) x = ((l, true), false) := by first | exact nextF_skip q101_2 | exact nextF_full q101_1 q101_2 | exact nextF_add q101_1 q101_2
      exact Ret.mk ⟨by rw [hnf]; rfl, hmF, F2r, by rw [hnf]; exact hAr, hFr⟩
    replace hb3 := ne_of_beq_false hb3.symm
    refine .go 2 rfl ?_
    refine .z (.l1 ti47 f6) ?_
    have f9 := hS8.bk (i := 7) rfl
    refine .z (.loadN ti33 rfl (fun _ e => e ▸ f9.row) rfl) ?_
    refine .ac (.buildSlice [(.agg #[.int .i64 d, strV x] : Value)] Tryz.underlying47 ti33 rfl rfl rfl q101_3 fun w4 b4 hm4 hb4 hz3 hk3 => ?_)
    have hl2 := Sl.of_blk (enc := encItm) hk3 ([(Itm.mk d x)] : List Itm) 1 rfl rfl (by unfold maxLen; omega)
    have hS10 := (hS8.newSlB hm4 hb4 hz3 hl2).n9
    obtain ⟨g3, f10, hl3, k2⟩ := hS10.accK (i := 5) rfl
    have f11 := hS10.sl (i := 8) (k := 0) rfl rfl
    refine .ac (.append f10 Tryz.underlying47 ti33 rfl encItm_len encItm_one rfl rfl (f11) ol ox fun v1 g2 w5 ha1 hm5 hg1 hz4 => ?_)
    have hS11 := (k2 _ _ _ _ hm5 ha1 hg1).n9
    clear hg1
    obtain ⟨g4, f12, hl4, k3⟩ := hS11.accK (i := 5) rfl
    obtain ⟨ad1, cp1, hv1⟩ := f12.shape
    subst hv1
    have f13 := hS11.bk (i := 4) rfl
    refine .ac (.store ti47 rfl rfl rfl rfl rfl f13 (Nat.le_of_ble_eq_true rfl) fun w6 hm6 hz5 hk4 => ?_)
    have hS12 := (hS11.bkK (cs' := [(.slice ad1 ((l ++ [(Itm.mk d x)])).length cp1)]) (i := 4) rfl hm6 hk4).n9
    have f14 := hS12.bk (i := 6) rfl
    refine .go 4 rfl ?_
    refine .z (.l1 ti4 f14) ?_
    cases more
    case true =>
      refine .z (.not rfl) ?_
      refine .gi 2 rfl ?_
      refine r_ret1 Tryz.func101 rfl rfl ?_
      have hS13 := (hS12.b3 [0, 1, 2, 3, 7, 8] 4 5 6 (by rfl) q101_3).n7
      have hS14 : St (fun _ => False) F w0 w6 [bkR bd [.int .i64 d] 3, bkR bf [.bool false] 4, bkR ba [.int .i64 after.dist, strV after.word] 33, bkR bb [.int .i64 batch] 3, bkR b1 [.int .i64 d, strV x] 33, slR encItm [((.slice (some ⟨b4, 0, none⟩) 1 1), [(Itm.mk d x)])], nb0R 47 33 4 bl bm (((l ++ [(Itm.mk d x)]), true))] := hS13.exi (.slice ad1 ((l ++ [(Itm.mk d x)])).length cp1) (i := 6) rfl
      have hS15 := (hS14.b5 [4, 5] 6 0 1 2 3 (by rfl) q101_3).n3
      have hS16 := (hS15.sel [2] (by rfl) (by decide)).n1
      obtain ⟨hmF, F2r, hAr, hFr⟩ := hS16.fin
      have hnf : nextF false after batch d (l, true) x = (((l ++ [(Itm.mk d x)]), true), false) := by first | exact nextF_skip q101_2 | exact nextF_full q101_1 q101_2 | exact nextF_add q101_1 q101_2
      exact Ret.mk ⟨by rw [hnf]; rfl, hmF, F2r, by rw [hnf]; exact hAr, hFr⟩
    refine .z (.not rfl) ?_
    refine .gi 2 rfl ?_
    refine r_ret1 Tryz.func101 rfl rfl ?_
    have hS13 := (hS12.b3 [0, 1, 2, 3, 7, 8] 4 5 6 (by rfl) q101_3).n7
    have hS14 : St (fun _ => False) F w0 w6 [bkR bd [.int .i64 d] 3, bkR bf [.bool false] 4, bkR ba [.int .i64 after.dist, strV after.word] 33, bkR bb [.int .i64 batch] 3, bkR b1 [.int .i64 d, strV x] 33, slR encItm [((.slice (some ⟨b4, 0, none⟩) 1 1), [(Itm.mk d x)])], nb0R 47 33 4 bl bm (((l ++ [(Itm.mk d x)]), false))] := hS13.exi (.slice ad1 ((l ++ [(Itm.mk d x)])).length cp1) (i := 6) rfl
    have hS15 := (hS14.b5 [4, 5] 6 0 1 2 3 (by rfl) q101_3).n3
    have hS16 := (hS15.sel [2] (by rfl) (by decide)).n1
    obtain ⟨hmF, F2r, hAr, hFr⟩ := hS16.fin
    have hnf : nextF false after batch d (l, false) x = (((l ++ [(Itm.mk d x)]), false), true) := by first | exact nextF_skip q101_2 | exact nextF_full q101_1 q101_2 | exact nextF_add q101_1 q101_2
    exact Ret.mk ⟨by rw [hnf]; rfl, hmF, F2r, by rw [hnf]; exact hAr, hFr⟩
  replace hb2 := hb2.symm
  refine .z (.not rfl) ?_
  have f6 := hS8.bk (i := 6) rfl
  refine .go 8 rfl ?_
  refine .z (.l1 ti4 f6) ?_
  cases more
  case true =>
    refine .z (.not rfl) ?_
    refine .gi 2 rfl ?_
    refine r_ret1 Tryz.func101 rfl rfl ?_
    have hS9 := (hS8.b3 [0, 1, 2, 3, 7] 4 5 6 (by rfl) q101_3).n6
    have hS10 : St (fun _ => False) F w0 w3 [bkR bd [.int .i64 d] 3, bkR bf [.bool false] 4, bkR ba [.int .i64 after.dist, strV after.word] 33, bkR bb [.int .i64 batch] 3, bkR b1 [.int .i64 d, strV x] 33, nb0R 47 33 4 bl bm ((l, true))] := hS9.exi vb1 (i := 5) rfl
    have hS11 := (hS10.b5 [4] 5 0 1 2 3 (by rfl) q101_3).n2
    have hS12 := (hS11.sel [1] (by rfl) (by decide)).n1
    obtain ⟨hmF, F2r, hAr, hFr⟩ := hS12.fin
    have hnf : nextF false after batch d (l, true) x = ((l, true), false) := by first | exact nextF_skip q101_2 | exact nextF_full q101_1 q101_2 | exact nextF_add q101_1 q101_2
    exact Ret.mk ⟨by rw [hnf]; rfl, hmF, F2r, by rw [hnf]; exact hAr, hFr⟩
  refine .z (.not rfl) ?_
  refine .gi 2 rfl ?_
  refine r_ret1 Tryz.func101 rfl rfl ?_
  have hS9 := (hS8.b3 [0, 1, 2, 3, 7] 4 5 6 (by rfl) q101_3).n6
  have hS10 : St (fun _ => False) F w0 w3 [bkR bd [.int .i64 d] 3, bkR bf [.bool false] 4, bkR ba [.int .i64 after.dist, strV after.word] 33, bkR bb [.int .i64 batch] 3, bkR b1 [.int .i64 d, strV x] 33, nb0R 47 33 4 bl bm ((l, false))] := hS9.exi vb1 (i := 5) rfl
  have hS11 := (hS10.b5 [4] 5 0 1 2 3 (by rfl) q101_3).n2
  have hS12 := (hS11.sel [1] (by rfl) (by decide)).n1
  obtain ⟨hmF, F2r, hAr, hFr⟩ := hS12.fin
  have hnf : nextF false after batch d (l, false) x = ((l, false), true) := by first | exact nextF_skip q101_2 | exact nextF_full q101_1 q101_2 | exact nextF_add q101_1 q101_2
  exact Ret.mk ⟨by rw [hnf]; rfl, hmF, F2r, by rw [hnf]; exact hAr, hFr⟩
theorem wnext_yield (bl bm bd bf ba bb : Nat) (d batch : Int) (first : Bool) (after : Itm) (hd : I64 d) (hbt : I64 batch) (had : I64 after.dist) (haw : after.word.length ≤ 1000000) : YieldS Tryz.prog 101 [] [ptr bd 0, ptr bf 0, ptr ba 0, ptr bl 0, ptr bb 0, ptr bm 0] (fun s : List Itm × Bool => boxR [nb0R 47 33 4 bl bm s, bkR bd [.int .i64 d] 3, bkR bf [.bool first] 4, bkR ba [.int .i64 after.dist, strV after.word] 33, bkR bb [.int .i64 batch] 3]) (fun s _ => s.1.length ≤ 1000000) (nextF first after batch d) where
  cl := by kernel_rfl
  call := fun s F w x h hF hok => wnext1_c (l := s.1) (more := s.2) x d batch first after hd hbt had haw h hF hok
theorem q51_1 {p : Prop} (h : p := by first | (rw [nextA_no (by assumption)]; done) | (rw [nextA_no (by assumption)]) | exact nextA_end2 hmy (n := dd + 1) (.inl ⟨by assumption, by omega⟩) (by assumption) | exact nextA_end2 hmy (n := dd) (.inr (by omega)) (by assumption) | (rw [nextA_end hmy (n := dd + 1) (.inl ⟨by assumption, by omega⟩)]) | (rw [nextA_end hmy (n := dd) (.inr (by omega))]) | (exfalso; omega)) : p := h
theorem q51_3 {p : Prop} (h : p := by omega) : p := h
set_option maxRecDepth 20000 in
set_option maxHeartbeats 2000000 in
theorem wnext_c {w0 : World} {s : GS} {g_words : List Str} {v_g : Value} {lo_g hi_g : Nat} {g : List GN} (sx : Str) (k : Int) (first : Bool) {after : Itm} (batch : Int) (h_g : Gr 0 w0 lo_g hi_g v_g g) (hhi_g : hi_g ≤ w0.heap.size) (h_k : I64 k) (h_batch : I64 batch) (hok : GOk g s g_words) (hwl : g_words.length ≤ 1000) (hs : sx.length ≤ 1000000) (had : I64 after.dist) (haw : after.word.length ≤ 1000000) :
    Calls Tryz.prog 51 #[v_g, strV sx, .int .i64 k, .bool first, .agg #[.int .i64 after.dist, strV after.word], .int .i64 batch] w0 (Ret fun rv w1 => ∃ u0 u1, rv = .tuple #[u0, u1] ∧ (∃ gr, Acc encItm 33 2 w1 gr u0 ((nextA g g_words sx k first after batch).1) ∧ (gr = 0 ∨ w0.heap.size < gr)) ∧ (∃ rb : Bool, rb = ((nextA g g_words sx k first after batch).2) ∧ u1 = .bool rb) ∧ Ext w0 w1) := by
  have hok2 := hok
  obtain ⟨hgs, ⟨es0, hna, hc⟩, hgood, hdeep, hnode, hsz, hel0⟩ := hok
  obtain ⟨hI, hgl, hel⟩ := hok2.edges
  have hgs2 : gnOf s = g := hgs.symm
  have hS0 := St.start0 w0
  refine calls_enter Tryz.func51 rfl Tryz.ntmps51 rfl ?_
  refine .go 2 rfl ?_
  refine .ac (.box [.bool first] rfl rfl fun w1 b1 hm1 hb1 hz1 hk1 => ?_)
  have hS2 := (hS0.newBk hm1 hb1 hk1).n1
  refine .ac (.box [.int .i64 after.dist, strV after.word] rfl rfl fun w2 b2 hm2 hb2 hz2 hk2 => ?_)
  have hS4 := (hS2.newBk hm2 hb2 hk2).n2
  refine .ac (.box [.int .i64 batch] rfl rfl fun w3 b3 hm3 hb3 hz3 hk3 => ?_)
  have hS6 := (hS4.newBk hm3 hb3 hk3).n3
  have f1 := Gr.keepM h_g hS6.mod (fun _ _ _ h => h)
  refine .go 8 rfl ?_
  refine .ac (.callF cl99 rfl (wasked_c (w0 := w3)  sx (k) f1 (Nat.le_trans hhi_g hS6.mod.size) oa ao) ?_)
  rintro _ w4 ⟨v1, _, rfl, h1, ⟨b4, hb4, rfl⟩, hm4⟩
  have hS8 := (hS6.newSl hm4 h1).n4
  have hle_1 := h1.le
  have := qM_len g sx k
  refine .go 10 rfl ?_
  cases b4
  case true =>
    replace hb4 := hb4.symm
    refine .z (.not rfl) ?_
    refine .go 5 rfl ?_
    refine .ac (.alloc ti47 fun w5 b5 hm5 hb5 hz4 hk4 => ?_)
    have hS10 := (hS8.newBk hm5 hb5 hk4).n5
    have f2 := hS10.bk (i := 2) rfl
    refine .go 3 rfl ?_
    refine .z (.l1 ti3 f2) ?_
    refine .z (.max rfl rfl) ?_
    refine .ac (.store ti3 rfl rfl rfl rfl rfl f2 (Nat.le_of_ble_eq_true rfl) fun w6 hm6 hz5 hk5 => ?_)
    have hS11 := (hS10.bkK (cs' := [.int .i64 ((max batch 0))]) (i := 2) rfl hm6 hk5).n5
    refine .go 3 rfl ?_
    refine .ac (.alloc ti4 fun w7 b6 hm7 hb6 hz6 hk6 => ?_)
    have hS13 := (hS11.newBk hm7 hb6 hk6).n6
    have f3 := hS13.bk (i := 5) rfl
    refine .ac (.store ti4 rfl rfl rfl rfl rfl f3 (Nat.le_of_ble_eq_true rfl) fun w8 hm8 hz7 hk7 => ?_)
    have hS14 := (hS13.bkK (cs' := [.bool false]) (i := 5) rfl hm8 hk7).n6
    have hS15 : St (fun _ => False) (fun _ => False) w0 w8 [bkR b1 [.bool first] 4, bkR b2 [.int .i64 after.dist, strV after.word] 33, bkR b3 [.int .i64 ((max batch 0))] 3, slR encRn [(v1, (qM g sx k))], bkR b5 [.slice none 0 0] 47, bkR b6 [.bool false] 4, accR encItm 33 2 (.slice none 0 0) []] := hS14.newAcc (Mod.refl _ _) Acc.nil (.inl rfl)
    have hS16 := (hS15.b3 [0, 1, 2, 3] 4 6 5 (by rfl) (by decide)).n5
    have hS17 : St (fun _ => False) (fun _ => False) w0 w8 [bkR b1 [.bool first] 4, bkR b2 [.int .i64 after.dist, strV after.word] 33, bkR b3 [.int .i64 ((max batch 0))] 3, slR encRn [(v1, (qM g sx k))], nb0R 47 33 4 b5 b6 ((nextS g_words (qM g sx k) first after (max batch 0) 0))] := hS16.exi (.slice none 0 0) (i := 4) rfl
    have hmy : mayA g sx k = true := by assumption
    have hdk := (mayA_iff.1 hmy).2.1
    have hql := qM_len g sx k
    refine .go 5 rfl ?_
    refine .z (.addI ((k + 1)) rfl rfl (by omega)) ?_
    refine .gi 3 rfl ?_
    refine r_loop (I := fun m E W => ∃ (dd : Nat), E = [(0, v_g), (9, ptr b1 0), (10, ptr b2 0), (11, ptr b3 0), (14, v1), (16, ptr b5 0), (17, ptr b6 0), (31, .int .i64 ((k + 1))), (32, .int .i64 (((dd : Nat) : Int)))] ∧ m = (k + 1).toNat - dd ∧ St (fun _ => False) (fun _ => False) w0 W [bkR b1 [.bool first] 4, bkR b2 [.int .i64 after.dist, strV after.word] 33, bkR b3 [.int .i64 ((max batch 0))] 3, slR encRn [(v1, (qM g sx k))], nb0R 47 33 4 b5 b6 ((nextS g_words (qM g sx k) first after (max batch 0) dd))] ∧ (false = (nextS g_words (qM g sx k) first after (max batch 0) dd).2) ∧ ((dd : Int) ≤ k + 1)) ?_ ?_
    · refine ⟨_, _, ⟨(0 : Nat), rfl, rfl, hS17, (by rfl), q51_3⟩, ⟨rfl, rfl, rfl, rfl, rfl, rfl, rfl, rfl, rfl, trivial⟩⟩
    · rintro _ _ w9 ⟨dd, rfl, rfl, hS18, hnm, hdl⟩ ih1
      refine .go 2 rfl ?_
      refine .zb (.lt rfl rfl) fun b7 hb7 => ?_
      refine .gi 2 rfl ?_
      cases b7
      case true =>
        replace hb7 := dt hb7
        refine .go 7 rfl ?_
        refine .ac (.alloc ti3 fun w10 b8 hm9 hb8 hz8 hk8 => ?_)
        have hS19 := hS18.ext hm9
        have hS20 := (hS18.newBk hm9 hb8 hk8).n6
        have f4 := hS20.bk (i := 5) rfl
        refine .ac (.store ti3 rfl rfl rfl rfl rfl f4 (Nat.le_of_ble_eq_true rfl) fun w11 hm10 hz9 hk9 => ?_)
        have hS21 := (hS20.bkK (cs' := [.int .i64 (((dd : Nat) : Int))]) (i := 5) rfl hm10 hk9).n6
        have f5 := hS21.bk (i := 5) rfl
        refine .go 5 rfl ?_
        refine .z (.l1 ti3 f5) ?_
        refine .z (.makeFunc (first := []) (cap := [ptr b8 0, ptr b1 0, ptr b2 0, ptr b5 0, ptr b3 0, ptr b6 0]) rfl rfl) ?_
        have hS22 := (hS21.b5 [3] 4 5 0 1 2 (by rfl) (by decide)).n2
        have f6 := Gr.keepM h_g hS22.mod (fun _ _ _ h => h)
        obtain ⟨Fy1, Gq1, hAy1, hBq1, hGF1, hFy1, hGq1, hky1⟩ := hS22.act2 (i := 1) (j := 0) rfl rfl (by decide)
        have hnsl := nextS_len g_words (qM g sx k) first after (max batch 0) dd
        have hnsl2 : dd * g_words.length ≤ 5 * g_words.length := Nat.mul_le_mul_right _ q51_3
        refine .ac (.callF cl100 rfl (weach_c (s := s) (words := g_words) (w0 := w11) (((dd : Nat) : Int)) (nextS g_words (qM g sx k) first after (max batch 0) dd) (wnext_yield b5 b6 b8 b1 b2 b3 (((dd : Nat) : Int)) (max batch 0) first after q51_3 q51_3 had haw) hAy1 (fun b hb => (hFy1 b hb).2) (hgs ▸ f6) (Nat.le_trans hhi_g hS22.mod.size) (far_gr hFy1 (fun _ h => h) hhi_g) (slR_no hBq1) hGF1 hGq1 q51_3 q51_3 (hgs ▸ hna) hc hgood hdeep hnode hsz (hgs ▸ hel) (wgt_short hdeep hwl) (okAll_next first after (max batch 0) _ 1000000 _ _ (by have := distsM_len g_words (qM g sx k) (((dd : Nat) : Int)); omega))) ?_)
        rintro _ w12 ⟨rfl, hm11, F1, hB1, hF1⟩
        have hS23 : St (fun _ => False) (fun _ => False) w0 w12 [slR encRn [(v1, (qM g sx k))], boxR [nb0R 47 33 4 b5 b6 ((nextS g_words (qM g sx k) first after (max batch 0) (dd + 1))), bkR b8 [.int .i64 (((dd : Nat) : Int))] 3, bkR b1 [.bool first] 4, bkR b2 [.int .i64 after.dist, strV after.word] 33, bkR b3 [.int .i64 (max batch 0)] 3]] := hky1 _ _ _ hm11 (nextS_go hnm ▸ hB1) hF1
        clear hAy1 hBq1 hGF1 hFy1 hGq1 hky1
        have hS24 := (hS23.un 1 rfl [0] (by rfl) (by decide)).n6
        have hS25 : St (fun _ => False) (fun _ => False) w0 w12 [slR encRn [(v1, (qM g sx k))], nb0R 47 33 4 b5 b6 ((nextS g_words (qM g sx k) first after (max batch 0) (dd + 1))), bkR b8 [.int .i64 (((dd : Nat) : Int))] 3, bkR b1 [.bool first] 4, bkR b2 [.int .i64 after.dist, strV after.word] 33, bkR b3 [.int .i64 (max batch 0)] 3] := hS24
        obtain ⟨b9, hb9⟩ : ∃ b, b = ((nextS g_words (qM g sx k) first after (max batch 0) (dd + 1))).2 := ⟨_, rfl⟩
        obtain ⟨vb1, hS26⟩ := hS25.exo (i := 1) rfl
        change St (fun _ => False) (fun _ => False) w0 w12 [slR encRn [(v1, (qM g sx k))], boxR [bkR b5 [vb1] 47, accR encItm 33 2 vb1 (((nextS g_words (qM g sx k) first after (max batch 0) (dd + 1))).1), bkR b6 [.bool ((nextS g_words (qM g sx k) first after (max batch 0) (dd + 1))).2] 4], bkR b8 [.int .i64 (((dd : Nat) : Int))] 3, bkR b1 [.bool first] 4, bkR b2 [.int .i64 after.dist, strV after.word] 33, bkR b3 [.int .i64 (max batch 0)] 3] at hS26
        rw [← hb9] at hS26
        have hS27 := (hS26.un 1 rfl [0, 2, 3, 4, 5] (by rfl) (by decide)).n8
        have hnl2 := nextS_len g_words (qM g sx k) first after (max batch 0) (dd + 1)
        have hnl3 : (dd + 1) * g_words.length ≤ 5 * g_words.length := Nat.mul_le_mul_right _ q51_3
        have f7 := hS27.bk (i := 7) rfl
        refine .go 3 rfl ?_
        refine .z (.l1 ti4 f7) ?_
        refine .gi 1 rfl ?_
        cases b9
        case true =>
          replace hb9 := hb9.symm
          refine .gi 3 rfl ?_
          refine r_draw1 (fun i => false) 5 (fun w' => Mod (Mg 0) w12 w') mixed (by kernel_rfl) fun w13 hm12 => ?_
          have hS28 := hS27.ext hm12
          have hCw13 : Mod (Mg 0) w12 w13 := Mod.ofExt hm12
          refine ⟨hCw13, ?_⟩
          rw [show List.range' 0 (Array.size _) = [0, 1, 2, 3, 4] from rfl]
          have f8 := hS27.bk (i := 5) rfl
          refine .z rfl (.load1 ti47 rfl (fun _ hc => (f8.cell 0 _ rfl).keepG hc (Nat.succ_ne_zero _))) ?_
          refine .z rfl (.load1 ti4 rfl (fun _ hc => (f7.cell 0 _ rfl).keepG hc (Nat.succ_ne_zero _))) ?_
          refine .z rfl (.not rfl) ?_
          refine .gd 2 rfl ?_
          refine .nil ?_
          refine r_ret2 Tryz.func51 rfl rfl rfl ?_
          obtain ⟨g1, ha1, hg1⟩ := hS28.accOut (i := 6) rfl
          exact Ret.mk ⟨_, _, rfl, ⟨_, Acc.cast ha1 q51_1, hg1⟩, ⟨_, q51_1, rfl⟩, hS28.mod⟩
        replace hb9 := hb9.symm
        have hS28 := (hS27.b3 [0, 1, 2, 3, 4] 5 6 7 (by rfl) (by decide)).n6
        have hS29 : St (fun _ => False) (fun _ => False) w0 w12 [slR encRn [(v1, (qM g sx k))], bkR b8 [.int .i64 (((dd : Nat) : Int))] 3, bkR b1 [.bool first] 4, bkR b2 [.int .i64 after.dist, strV after.word] 33, bkR b3 [.int .i64 (max batch 0)] 3, nb0R 47 33 4 b5 b6 ((((nextS g_words (qM g sx k) first after (max batch 0) (dd + 1))).1, false))] := hS28.exi vb1 (i := 5) rfl
        have hS30 := (hS29.ty (nb0R 47 33 4 b5 b6 ((nextS g_words (qM g sx k) first after (max batch 0) (dd + 1)))) 5 rfl (fun F_ h_ => by rw [show (nextS g_words (qM g sx k) first after (max batch 0) (dd + 1)) = ((nextS g_words (qM g sx k) first after (max batch 0) (dd + 1)).1, false) from Prod.ext rfl (by show _ = false; assumption)]; exact h_)).n6
        refine .go 4 rfl ?_
        refine .z (.addI (((dd + 1 : Nat) : Int)) rfl rfl q51_3) ?_
        have hS31 := (hS30.sel [2, 3, 4, 0, 5] (by rfl) (by decide)).n5
        refine .gi 2 rfl ?_
        exact (ih1 _ _ _ ⟨(dd + 1 : Nat), rfl, rfl, hS31, (by first | exact (by assumption : _ = (nextS g_words (qM g sx k) first after (max batch 0) (dd + 1)).2) | (symm; assumption) | (exfalso; omega)), (by first | omega | (exfalso; omega))⟩ q51_3).sub ⟨rfl, rfl, rfl, rfl, rfl, rfl, rfl, rfl, rfl, trivial⟩
      replace hb7 := df hb7
      obtain ⟨b8, hb8⟩ : ∃ b, b = ((nextS g_words (qM g sx k) first after (max batch 0) dd)).2 := ⟨_, rfl⟩
      obtain ⟨vb1, hS19⟩ := hS18.exo (i := 4) rfl
      change St (fun _ => False) (fun _ => False) w0 w9 [bkR b1 [.bool first] 4, bkR b2 [.int .i64 after.dist, strV after.word] 33, bkR b3 [.int .i64 ((max batch 0))] 3, slR encRn [(v1, (qM g sx k))], boxR [bkR b5 [vb1] 47, accR encItm 33 2 vb1 (((nextS g_words (qM g sx k) first after (max batch 0) dd)).1), bkR b6 [.bool ((nextS g_words (qM g sx k) first after (max batch 0) dd)).2] 4]] at hS19
      rw [← hb8] at hS19
      have hS20 := (hS19.un 4 rfl [0, 1, 2, 3] (by rfl) (by decide)).n7
      have hnl2 := nextS_len g_words (qM g sx k) first after (max batch 0) dd
      have hnl3 : dd * g_words.length ≤ 5 * g_words.length := Nat.mul_le_mul_right _ q51_3
      refine .gi 3 rfl ?_
      refine r_draw1 (fun i => false) 5 (fun w' => Mod (Mg 0) w9 w') mixed (by kernel_rfl) fun w10 hm9 => ?_
      have hS21 := hS20.ext hm9
      have hCw10 : Mod (Mg 0) w9 w10 := Mod.ofExt hm9
      refine ⟨hCw10, ?_⟩
      rw [show List.range' 0 (Array.size _) = [0, 1, 2, 3, 4] from rfl]
      have f4 := hS20.bk (i := 4) rfl
      refine .z rfl (.load1 ti47 rfl (fun _ hc => (f4.cell 0 _ rfl).keepG hc (Nat.succ_ne_zero _))) ?_
      have f5 := hS20.bk (i := 6) rfl
      refine .z rfl (.load1 ti4 rfl (fun _ hc => (f5.cell 0 _ rfl).keepG hc (Nat.succ_ne_zero _))) ?_
      cases b8
      case true =>
        replace hb8 := hb8.symm
        refine .z rfl (.not rfl) ?_
        refine .gd 2 rfl ?_
        refine .nil ?_
        refine r_ret2 Tryz.func51 rfl rfl rfl ?_
        obtain ⟨g1, ha1, hg1⟩ := hS21.accOut (i := 5) rfl
        exact Ret.mk ⟨_, _, rfl, ⟨_, Acc.cast ha1 q51_1, hg1⟩, ⟨_, q51_1, rfl⟩, hS21.mod⟩
      replace hb8 := hb8.symm
      refine .z rfl (.not rfl) ?_
      refine .gd 2 rfl ?_
      refine .nil ?_
      refine r_ret2 Tryz.func51 rfl rfl rfl ?_
      obtain ⟨g1, ha1, hg1⟩ := hS21.accOut (i := 5) rfl
      exact Ret.mk ⟨_, _, rfl, ⟨_, Acc.cast ha1 q51_1, hg1⟩, ⟨_, q51_1, rfl⟩, hS21.mod⟩
  replace hb4 := hb4.symm
  refine .z (.not rfl) ?_
  refine .gi 7 rfl ?_
  refine r_ret2 Tryz.func51 rfl rfl rfl ?_
  exact Ret.mk ⟨_, _, rfl, ⟨0, Acc.cast Acc.nil q51_1, .inl rfl⟩, ⟨_, q51_1, rfl⟩, hS8.mod⟩
end Go.Proofs
namespace Go.Ml
open Go.Ik
theorem dkRead_len {K : List DE} (h : DkOk K) (s : Int) : (dkRead K s).length ≤ 4000000 := by
  unfold dkRead
  split
  · exact Nat.zero_le _
  · rename_i x hx
    have := h.2 _ (dkGet_key hx).2
    omega
end Go.Ml
namespace Go.Ik
open Go
theorem eqF_true {P : Program} {d : Nat} {xs ys : Array Value} (gs : List Field) : ∀ (fs : List Field) (w w' : World), (Op.eqFields d xs ys fs).run P w = .ok true w' → (Op.eqFields d xs ys (fs ++ gs)).run P w = (Op.eqFields d xs ys gs).run P w'
  | [], w, w', h => by
    simp only [Op.eqFields, Sem.run_pure, Result.ok.injEq, true_and] at h
    subst h; rfl
  | f :: fs, w, w', h => by
    rw [List.cons_append]
    simp only [Op.eqFields] at h ⊢
    split at h
    · rename_i hn
      rw [if_pos hn]
      simp only [Sem.run_bind] at h ⊢
      generalize (part f.type xs f.offset).run P w = r1 at h ⊢
      cases r1 with
      | ok a w1 =>
        simp only [Result.andThen_ok] at h ⊢
        generalize (part f.type ys f.offset).run P w1 = r2 at h ⊢
        cases r2 with
        | ok b w2 =>
          simp only [Result.andThen_ok] at h ⊢
          generalize (Op.equalIn d f.type a b).run P w2 = r3 at h ⊢
          cases r3 with
          | ok r w3 =>
            simp only [Result.andThen_ok] at h ⊢
            cases r
            · simp at h
            · simp only [Bool.not_true, Bool.false_eq_true, if_false] at h ⊢
              exact eqF_true gs fs w3 w' h
          | _ => cases h
        | _ => cases h
      | _ => cases h
    · rename_i hn
      rw [if_neg hn]
      exact eqF_true gs fs w w' h
theorem eqF_false {P : Program} {d : Nat} {xs ys : Array Value} (gs : List Field) : ∀ (fs : List Field) (w w' : World), (Op.eqFields d xs ys fs).run P w = .ok false w' → (Op.eqFields d xs ys (fs ++ gs)).run P w = .ok false w'
  | [], w, w', h => by simp [Op.eqFields] at h
  | f :: fs, w, w', h => by
    rw [List.cons_append]
    simp only [Op.eqFields] at h ⊢
    split at h
    · rename_i hn
      rw [if_pos hn]
      simp only [Sem.run_bind] at h ⊢
      generalize (part f.type xs f.offset).run P w = r1 at h ⊢
      cases r1 with
      | ok a w1 =>
        simp only [Result.andThen_ok] at h ⊢
        generalize (part f.type ys f.offset).run P w1 = r2 at h ⊢
        cases r2 with
        | ok b w2 =>
          simp only [Result.andThen_ok] at h ⊢
          generalize (Op.equalIn d f.type a b).run P w2 = r3 at h ⊢
          cases r3 with
          | ok r w3 =>
            simp only [Result.andThen_ok] at h ⊢
            cases r
            · simpa using h
            · simp only [Bool.not_true, Bool.false_eq_true, if_false] at h ⊢
              exact eqF_false gs fs w3 w' h
          | _ => cases h
        | _ => cases h
      | _ => cases h
    · rename_i hn
      rw [if_neg hn]
      exact eqF_false gs fs w w' h
theorem run_eq_tail {P : Program} {t t2 : TypeId} {xs ys x2 y2 : Array Value} {ks ks2 : List (Nat × FK)} {q q2 : Bool} {k o n by_ : Nat} {z : List Value} (hf : P.underlying t = some (.struct (P.fieldsOf t))) (hp : P.stoodInHeld t = false)
    (hk : fksOf P ((P.fieldsOf t).toList.take k) = some ks) (hg : (((P.fieldsOf t).toList.drop k).map fun f => (f.name != "_", f.type, f.offset)) = [(true, t2, o)])
    (hf2 : P.underlying t2 = some (.struct (P.fieldsOf t2))) (hp2 : P.stoodInHeld t2 = false) (hk2 : fksOf P (P.fieldsOf t2).toList = some ks2) (ht2 : tyI P t2 = some (true, n, by_, z))
    (hq : eqCells ks xs ys = some q) (hx : xs.extract o (o + n) = x2) (hy : ys.extract o (o + n) = y2) (hq2 : eqCells ks2 x2 y2 = some q2) (w : World) :
    (Op.equalIn 10000 t (.agg xs) (.agg ys)).run P w = .ok (q && q2) w := by
  refine (run_equalIn_agg w 9999 t xs ys hf hp).trans ?_
  have h1 := run_eqFields (P := P) (xs := xs) (ys := ys) (n := 9998) w _ ks q hk hq
  have hl : (P.fieldsOf t).toList = (P.fieldsOf t).toList.take k ++ (P.fieldsOf t).toList.drop k := (List.take_append_drop _ _).symm
  rw [hl]
  cases q with
  | false =>
    show _ = Result.ok false w
    exact eqF_false _ _ w w h1
  | true =>
    rw [eqF_true _ _ w w h1]
    obtain ⟨f, hf1, hf3⟩ := List.map_eq_singleton_iff.1 hg
    rw [hf1]
    simp only [Prod.mk.injEq, bne_iff_ne, ne_eq] at hf3
    obtain ⟨hn, e1, e2⟩ := hf3
    have hpx : ∀ cs : Array Value, (part f.type cs f.offset).run P w = .ok (.agg (cs.extract o (o + n))) w := by
      intro cs
      unfold part
      rw [e1, e2]
      simp [Sem.run_bind, run_isAgg ht2, Ik.run_sizeOf ht2]
    have he : (Op.equalIn 9999 t2 (.agg x2) (.agg y2)).run P w = .ok q2 w := (run_equalIn_agg w 9998 t2 x2 y2 hf2 hp2).trans (run_eqFields (n := 9997) w _ ks2 q2 hk2 hq2)
    have hpx1 := hpx xs
    have hpy1 := hpx ys
    rw [hx] at hpx1
    rw [hy] at hpy1
    rw [← e1] at he
    simp only [Op.eqFields]
    rw [if_pos hn]
    simp only [Sem.run_bind, hpx1, hpy1, Result.andThen_ok, he]
    cases q2 <;> simp
/-- such structs, one step deeper: behind an interface -/
theorem run_eq_flat8 {P : Program} {t : TypeId} {xs ys : Array Value} {ks : List (Nat × FK)} {q : Bool} (hf : P.underlying t = some (.struct (P.fieldsOf t))) (hp : P.stoodInHeld t = false) (hk : fksOf P (P.fieldsOf t).toList = some ks) (hq : eqCells ks xs ys = some q) (w : World) :
    (Op.equalIn 9999 t (.agg xs) (.agg ys)).run P w = .ok q w :=
  (run_equalIn_agg w 9998 t xs ys hf hp).trans (run_eqFields (n := 9997) w _ ks q hk hq)
section
variable {P : Program} {E : Env} {C : World → Prop} {d : Option Tmp} {ty : TypeId} {pos : String} {af : Array Edge} {gd : Option (Nat × Bool)}
def cmpI_ (P : Program) (t : TypeId) : Bool := match P.info? t with
  | some i => i.comparable
  | none => false
theorem Q1.neIf {xt yt t : TypeId} {x y : Operand} {ms : _} {u v : Value} {b : Bool} (hu : P.underlying xt = some (.interface ms)) (hc : cmpI_ P t = true) (hx : ev E x = some (.iface t u)) (hy : ev E y = some (.iface t v)) (he : ∀ w, (Op.equalIn 9999 t u v).run P w = .ok b w) : Q1 P ⟨d, .binOp .neq xt x y yt, ty, pos, af, gd⟩ E C (.bool !b) := fun a ha w _ => by
  obtain ⟨i, hi, hci⟩ : ∃ i, (typeInfo t).run P w = .ok i w ∧ i.comparable = true := by
    unfold cmpI_ at hc
    cases hq : P.info? t with
    | none => rw [hq] at hc; cases hc
    | some i => rw [hq] at hc; exact ⟨i, by unfold typeInfo; simp [Sem.run_bind, hq], hc⟩
  have h : (Op.equal xt (.iface t u) (.iface t v)).run P w = .ok b w := by
    have key : ∀ n, (∀ w, (Op.equalIn n t u v).run P w = .ok b w) → (Op.equalIn (n + 1) xt (.iface t u) (.iface t v)).run P w = .ok b w := fun n hn => by simp [Op.equalIn, run_underlying hu, hi, hci, hn w]
    exact key 9999 he
  have hg : (eqGuard .neq xt x y (.iface t u) (.iface t v)).run P w = .ok () w := by
    unfold eqGuard; simp
  simp [execOp, ha.ev hx, ha.ev hy, hg, Go.binOp, h]
end
end Go.Ik
namespace Go.Ml
open Go.Ik
/-- a worker as it stands: its epoch, is it up, its disk's lives, the disk, the disk as it was when it began, its queue -/
structure WSt where
  ep : Int
  up : Bool
  life : Int
  K : List DE
  B : List DE
  q : List AskM
/-- a shard's graph and error -/
def shN (B : List DE) (k : Int) : List GN := (decG (dkRead B k)).1
def shE (B : List DE) (k : Int) : Int := (decG (dkRead B k)).2
def shM (ks : List Int) (vs : List Value) (B : List DE) : List (Int × (Value × Int)) := (ks.zip vs).map fun p => (p.1, (p.2, shE B p.1))
def shV (p : Value × Int) : Value := .agg #[p.1, .int .i64 p.2]
theorem shM_snoc {ks : List Int} {vs : List Value} {B : List DE} {i : Nat} {k : Int} {v : Value} (hv : vs.length = i) (hk : ks[i]? = some k) (hn : ks.Nodup) : setM (shM (ks.take i) vs B) k (v, shE B k) = shM (ks.take (i + 1)) (vs ++ [v]) B := by
  have hi := (List.getElem?_eq_some_iff.1 hk).1
  have hl : (ks.take i).length = vs.length := by rw [List.length_take]; omega
  have e : shM (ks.take (i + 1)) (vs ++ [v]) B = shM (ks.take i) vs B ++ [(k, (v, shE B k))] := by
    unfold shM
    rw [List.take_add_one, hk]
    rw [List.zip_append hl, List.map_append]; rfl
  rw [e]
  have hno : ∀ p ∈ shM (ks.take i) vs B, p.1 ≠ k := by
    intro p hp
    unfold shM at hp
    obtain ⟨x, hx, rfl⟩ := List.mem_map.1 hp
    have hx1 := (List.of_mem_zip (a := x.1) (b := x.2) hx).1
    intro e
    obtain ⟨j, hj, he⟩ := List.mem_iff_getElem.1 hx1
    rw [List.length_take] at hj
    rw [List.getElem_take] at he
    have h2 := List.getElem_of_getElem? hk
    exact (List.pairwise_iff_getElem.1 hn) j i (by omega) hi (by omega) (by rw [he, e]; exact ((List.getElem?_eq_some_iff.1 hk).2).symm)
  have : ∀ (m : List (Int × (Value × Int))), (∀ p ∈ m, p.1 ≠ k) → setM m k (v, shE B k) = m ++ [(k, (v, shE B k))] := by
    intro m
    induction m with
    | nil => intro _; rfl
    | cons p m ih =>
      intro h
      unfold setM
      rw [if_neg (h p (by simp)), ih fun q hq => h q (by simp [hq])]; rfl
  exact this _ hno
theorem shM_at {ks : List Int} {vs : List Value} {B : List DE} (hl : vs.length = ks.length) (s : Int) :
    (s ∉ ks ∧ asc (shM ks vs B) s = none) ∨ ∃ (i : Nat) (v : Value), ks[i]? = some s ∧ vs[i]? = some v ∧ asc (shM ks vs B) s = some (v, shE B s) := by
  induction ks generalizing vs with
  | nil => exact .inl ⟨by simp, rfl⟩
  | cons k ks ih =>
    cases vs with
    | nil => simp at hl
    | cons v vs =>
      have hh : shM (k :: ks) (v :: vs) B = (k, (v, shE B k)) :: shM ks vs B := rfl
      rw [hh]
      by_cases hk : k = s
      · subst hk
        exact .inr ⟨0, v, rfl, rfl, by rw [asc_cons, if_pos rfl]⟩
      · rcases ih (vs := vs) (by simpa using hl) with ⟨h1, h2⟩ | ⟨i, u, h1, h2, h3⟩
        · exact .inl ⟨by simp [h1]; exact fun e => hk e.symm, by rw [asc_cons, if_neg hk, h2]⟩
        · exact .inr ⟨i + 1, u, by simpa using h1, by simpa using h2, by rw [asc_cons, if_neg hk, h3]⟩
structure ReplyM where
  slot : Int
  query : Int
  shard : Int
  seq : Int
  worker : Int
  epoch : Int
  items : List Itm
  fin : Bool
  deriving DecidableEq
inductive MsgM where
  | hello (a b : Int)
  | grant (a b c : Int)
  | ask (a : AskM)
  | reply (r : ReplyM)
  | stop (a b : Int)
  deriving DecidableEq
/-- does a shard have a graph? -/
def hasG (ks : List Int) (B : List DE) (k : Int) : Bool := decide (k ∈ ks) && decide (shN B k ≠ [])
def takeA (ks : List Int) (s : WSt) (a : AskM) : Bool := mayAsk a && decide (a.epoch = s.ep) && decide (0 < a.epoch) && hasG ks s.B a.shard
def takeG (id : Int) (s : WSt) (a b c : Int) : Bool := decide (a = id) && decide (b = s.life) && decide (s.ep < c)
def takeW (id : Int) (ks : List Int) (s : WSt) (m : MsgM) : WSt :=
  if s.up = false then s else match m with
  | .grant a b c => if takeG id s a b c = true then { s with ep := c } else s
  | .ask a => if takeA ks s a = true then { s with q := pushQ s.q a } else s
  | .stop a b => { s with q := stopQ s.q a b }
  | _ => s
def shW (B : List DE) (k : Int) : List Str := (decP (dkRead B k)).1
def answer (id : Int) (s : WSt) (a : AskM) : ReplyM :=
  let r := nextA (shN s.B a.shard) (shW s.B a.shard) a.text a.k a.first a.after a.batch
  ⟨a.slot, a.query, a.shard, a.seq, id, s.ep, r.1, r.2⟩
def wakeW (id : Int) (s : WSt) : WSt × List MsgM :=
  if s.up = false then (s, []) else
  if 0 < s.ep then match s.q with
    | a :: q => ({ s with q := q }, [.reply (answer id s a)])
    | [] => (s, [.hello id s.life])
  else (s, [.hello id s.life])
def newW (c : Cfg) (id : Int) : WSt := ⟨0, true, 1, dkNew c id, dkNew c id, []⟩
def waitW (s : WSt) : List AskM := if s.up = true then s.q else []
structure KsOk (ks : List Int) : Prop where
  nd : ks.Nodup
  i64 : ∀ k ∈ ks, I64 k
  len : ks.length ≤ 1000
structure AskOk (ks : List Int) (B : List DE) (a : AskM) : Prop where
  ok : a.Ok
  tl : a.text.length ≤ 1000000
  al : a.after.word.length ≤ 1000000
  sh : a.shard ∈ ks
  gr : shN B a.shard ≠ []
structure WOk (ks : List Int) (n : Nat) (s : WSt) : Prop where
  life : 0 ≤ s.life ∧ s.life ≤ (n : Int)
  K : DkOk s.K
  ep : I64 s.ep
  ql : s.q.length ≤ n
  q : ∀ a ∈ s.q, AskOk ks s.B a
  kw : ∀ k, (shW s.K k).length ≤ 1000
  bw : ∀ k, (shW s.B k).length ≤ 1000
theorem WOk.more {ks : List Int} {n m : Nat} {s : WSt} (h : WOk ks n s) (hm : n ≤ m) : WOk ks m s := ⟨⟨h.life.1, by have := h.life.2; omega⟩, h.K, h.ep, by have := h.ql; omega, h.q, h.kw, h.bw⟩
theorem takeA_yes {ks : List Int} {s : WSt} {a : AskM} (h : takeA ks s a = true) : mayAsk a = true ∧ a.epoch = s.ep ∧ 0 < a.epoch ∧ a.shard ∈ ks ∧ shN s.B a.shard ≠ [] := by
  unfold takeA hasG at h
  simp only [Bool.and_eq_true, decide_eq_true_eq] at h
  exact ⟨h.1.1.1, h.1.1.2, h.1.2, h.2.1, h.2.2⟩
theorem push_mem {q : List AskM} {a x : AskM} (h : x ∈ pushQ q a) : x ∈ q ∨ x = a := by
  unfold pushQ at h
  split at h
  · split at h
    · obtain ⟨y, hy, e⟩ := List.mem_map.1 h
      split at e
      · exact .inr e.symm
      · exact .inl (e ▸ hy)
    · rcases List.mem_append.1 h with h | h
      · exact .inl h
      · exact .inr (List.mem_singleton.1 h)
  · exact .inl h
theorem push_len1 (q : List AskM) (a : AskM) : (pushQ q a).length ≤ q.length + 1 := by
  unfold pushQ
  split
  · split
    · rw [List.length_map]; omega
    · rw [List.length_append]; simp
  · omega
/-- what may be of a message that is taken -/
def MsgM.Ok : MsgM → Prop
  | .hello a b => I64 a ∧ I64 b
  | .grant a b c => I64 a ∧ I64 b ∧ I64 c
  | .ask a => a.Ok ∧ a.text.length ≤ 1000000 ∧ a.after.word.length ≤ 1000000
  | .reply _ => True
  | .stop a b => I64 a ∧ I64 b
theorem WOk.take {ks : List Int} {n : Nat} {s : WSt} {id : Int} {m : MsgM} (h : WOk ks n s) (hm : m.Ok) : WOk ks (n + 1) (takeW id ks s m) := by
  have h' := h.more (Nat.le_succ n)
  unfold takeW
  split
  · exact h'
  · cases m with
    | hello a b => exact h'
    | reply r => exact h'
    | grant a b c =>
      dsimp only
      split
      · exact ⟨h'.life, h.K, hm.2.2, h'.ql, h.q, h.kw, h.bw⟩
      · exact h'
    | ask a =>
      dsimp only
      split
      · rename_i ht
        obtain ⟨_, _, _, h4, h5⟩ := takeA_yes ht
        refine ⟨h'.life, h.K, h.ep, ?_, fun x hx => ?_, h.kw, h.bw⟩
        · have := push_len1 s.q a; have := h.ql; show (pushQ s.q a).length ≤ n + 1; omega
        · rcases push_mem hx with hx | rfl
          · exact h.q x hx
          · exact ⟨hm.1, hm.2.1, hm.2.2, h4, h5⟩
      · exact h'
    | stop a b =>
      refine ⟨h'.life, h.K, h.ep, ?_, fun x hx => h.q x ((List.mem_filter.1 hx).1), h.kw, h.bw⟩
      have : (stopQ s.q a b).length ≤ s.q.length := List.length_filter_le ..
      have := h.ql; show (stopQ s.q a b).length ≤ n + 1; omega
theorem shN_gok {B : List DE} {k : Int} (h : shN B k ≠ []) : GOk (shN B k) (graphB (shW B k)) (shW B k) := by
  obtain ⟨h1, h2⟩ := read_words h
  have e : shN B k = gnodes (shW B k) := h2
  rw [e]
  exact gok_of h1
theorem hasG_yes {ks : List Int} {B : List DE} {k : Int} (h1 : k ∈ ks) (h2 : shN B k ≠ []) : hasG ks B k = true := by unfold hasG; rw [decide_eq_true h1, decide_eq_true h2]; rfl
theorem hasG_no {ks : List Int} {B : List DE} {k : Int} (h : k ∉ ks ∨ shN B k = []) : hasG ks B k = false := by
  unfold hasG
  rcases h with h | h
  · rw [decide_eq_false h]; rfl
  · rw [h]; simp
theorem keeps_i64 {c : Cfg} {w k : Int} (h : k ∈ keepsM c w) : I64 k := by
  have h1 := keeps_range h
  have h2 := shards_le c
  unfold I64; omega
theorem takeA_1 {ks : List Int} {s : WSt} {a : AskM} (h : mayAsk a = false) : takeA ks s a = false := by unfold takeA; rw [h]; rfl
theorem takeA_2 {ks : List Int} {s : WSt} {a : AskM} (h : a.epoch ≠ s.ep) : takeA ks s a = false := by unfold takeA; rw [decide_eq_false h]; simp
theorem takeA_3 {ks : List Int} {s : WSt} {a : AskM} (h : ¬ a.epoch > 0) : takeA ks s a = false := by unfold takeA; rw [decide_eq_false (p := 0 < a.epoch) h]; simp
theorem takeA_4 {ks : List Int} {s : WSt} {a : AskM} (h : a.shard ∉ ks ∨ shN s.B a.shard = []) : takeA ks s a = false := by unfold takeA; rw [hasG_no h]; simp
theorem takeA_5 {ks : List Int} {s : WSt} {a : AskM} (h1 : mayAsk a = true) (h2 : a.epoch = s.ep) (h3 : a.epoch > 0) (h4 : a.shard ∈ ks) (h5 : shN s.B a.shard ≠ []) : takeA ks s a = true := by
  unfold takeA; rw [h1, decide_eq_true h2, decide_eq_true (p := 0 < a.epoch) h3, hasG_yes h4 h5]; rfl
theorem takeG_1 {id : Int} {s : WSt} {a b c : Int} (h : a ≠ id) : takeG id s a b c = false := by unfold takeG; rw [decide_eq_false h]; simp
theorem takeG_2 {id : Int} {s : WSt} {a b c : Int} (h : b ≠ s.life) : takeG id s a b c = false := by unfold takeG; rw [decide_eq_false h]; simp
theorem takeG_3 {id : Int} {s : WSt} {a b c : Int} (h : ¬ c > s.ep) : takeG id s a b c = false := by unfold takeG; rw [decide_eq_false (p := s.ep < c) h]; simp
theorem takeG_4 {id : Int} {s : WSt} {a b c : Int} (h1 : a = id) (h2 : b = s.life) (h3 : c > s.ep) : takeG id s a b c = true := by
  unfold takeG; rw [decide_eq_true h1, decide_eq_true h2, decide_eq_true (p := s.ep < c) h3]; rfl
section
variable {id : Int} {ks : List Int} {ep life : Int} {K B : List DE} {q : List AskM}
theorem takeW_dn {m : MsgM} : takeW id ks ⟨ep, false, life, K, B, q⟩ m = ⟨ep, false, life, K, B, q⟩ := rfl
theorem takeW_a0 {a : AskM} (h : takeA ks ⟨ep, true, life, K, B, q⟩ a = false) : takeW id ks ⟨ep, true, life, K, B, q⟩ (.ask a) = ⟨ep, true, life, K, B, q⟩ := by unfold takeW; simp [h]
theorem takeW_a1 {a : AskM} (h : takeA ks ⟨ep, true, life, K, B, q⟩ a = true) : takeW id ks ⟨ep, true, life, K, B, q⟩ (.ask a) = ⟨ep, true, life, K, B, pushQ q a⟩ := by unfold takeW; simp [h]
theorem takeW_g0 {a b c : Int} (h : takeG id ⟨ep, true, life, K, B, q⟩ a b c = false) : takeW id ks ⟨ep, true, life, K, B, q⟩ (.grant a b c) = ⟨ep, true, life, K, B, q⟩ := by unfold takeW; simp [h]
theorem takeW_g1 {a b c : Int} (h : takeG id ⟨ep, true, life, K, B, q⟩ a b c = true) : takeW id ks ⟨ep, true, life, K, B, q⟩ (.grant a b c) = ⟨c, true, life, K, B, q⟩ := by unfold takeW; simp [h]
theorem wakeW_dn : wakeW id ⟨ep, false, life, K, B, q⟩ = (⟨ep, false, life, K, B, q⟩, []) := rfl
theorem wakeW_lo (h : ¬ ep > 0) : wakeW id ⟨ep, true, life, K, B, q⟩ = (⟨ep, true, life, K, B, q⟩, [.hello id life]) := by
  unfold wakeW; simp only [Bool.true_eq_false, if_false]; rw [if_neg (show ¬ 0 < ep from h)]
theorem wakeW_no (h : ep > 0) : wakeW id ⟨ep, true, life, K, B, []⟩ = (⟨ep, true, life, K, B, []⟩, [.hello id life]) := by
  unfold wakeW; simp only [Bool.true_eq_false, if_false]; rw [if_pos (show 0 < ep from h)]
theorem wakeW_yes {a : AskM} (h : ep > 0) : wakeW id ⟨ep, true, life, K, B, a :: q⟩ = (⟨ep, true, life, K, B, q⟩, [.reply (answer id ⟨ep, true, life, K, B, a :: q⟩ a)]) := by
  unfold wakeW; simp only [Bool.true_eq_false, if_false]; rw [if_pos (show 0 < ep from h)]
end
structure HelloM where
  a : Int
  b : Int
  deriving DecidableEq
structure GrantM where
  a : Int
  b : Int
  c : Int
  deriving DecidableEq
theorem rep_last {r t : ReplyM} {b : Bool} (h0 : r.slot = t.slot) (h1 : r.query = t.query) (h2 : r.shard = t.shard) (h3 : r.seq = t.seq) (h4 : r.worker = t.worker) (h5 : r.epoch = t.epoch) (h6 : r.fin = t.fin) (hb : b = decide (r.items = t.items)) : b = decide (r = t) := by
  rw [hb]
  obtain ⟨a0, a1, a2, a3, a4, a5, a6, a7⟩ := r
  obtain ⟨c0, c1, c2, c3, c4, c5, c6, c7⟩ := t
  simp only at h0 h1 h2 h3 h4 h5 h6
  subst h0; subst h1; subst h2; subst h3; subst h4; subst h5; subst h6
  exact decide_eq_decide.2 (by simp)
theorem hel_eq {a b c d : Int} {p : Bool} (h : p = decide (HelloM.mk a b = HelloM.mk c d)) : p = decide (MsgM.hello a b = MsgM.hello c d) := by rw [h]; exact decide_eq_decide.2 (by simp)
theorem stp_eq {a b c d : Int} {p : Bool} (h : p = decide (HelloM.mk a b = HelloM.mk c d)) : p = decide (MsgM.stop a b = MsgM.stop c d) := by rw [h]; exact decide_eq_decide.2 (by simp)
theorem gra_eq {a b c d e f : Int} {p : Bool} (h : p = decide (GrantM.mk a b c = GrantM.mk d e f)) : p = decide (MsgM.grant a b c = MsgM.grant d e f) := by rw [h]; exact decide_eq_decide.2 (by simp)
theorem ask_eq {a b : AskM} {p : Bool} (h : p = decide (a = b)) : p = decide (MsgM.ask a = MsgM.ask b) := by rw [h]; exact decide_eq_decide.2 (by simp)
theorem rep_eq {a b : ReplyM} {p : Bool} (h : p = decide (a = b)) : p = decide (MsgM.reply a = MsgM.reply b) := by rw [h]; exact decide_eq_decide.2 (by simp)
end Go.Ml
namespace Go.Ik
open Go Go.Ml
def grsR {R : Nat → Prop} (vs : List Value) (Ns : List (List GN)) : Res R := ⟨fun F w => All2 (fun v n => (grR (R := R) v n).p F w) vs Ns, fun h hm hF hR => All2.imp (fun _ _ k => (grR _ _).keep k hm hF hR) h⟩
def wkR {R : Nat → Prop} (nT wT eD eI u8 qT plT : TypeId) (bw : Nat) (id : Int) (ks : List Int) (s : WSt) : Res R := exR fun x : Value × Nat × Nat × List Value × Nat =>
  boxR [bkR bw [.int .i64 id, .int .i64 s.ep, .bool s.up, x.1, ptr x.2.1 0, .map (some x.2.2.1), ptr x.2.2.2.2 0] wT, accR encI nT 1 x.1 ks, dkK eD eI u8 x.2.1 s.life s.K, mpR intV shV x.2.2.1 (shM ks x.2.2.2.1 s.B), grsR x.2.2.2.1 (ks.map (shN s.B)), qR qT plT x.2.2.2.2 s.q]
theorem Gr.isP {gt : TypeId} {w : World} {lo hi : Nat} {v : Value} {N : List GN} (h : Gr gt w lo hi v N) : ∃ a, v = .pointer a ∧ (a = none ↔ N = []) := by
  rcases h with ⟨h1, h2⟩ | ⟨b, vn, nds, h1, h2, _⟩
  · exact ⟨none, h1, by simp [h2]⟩
  · exact ⟨some ⟨b, 0, none⟩, h1, by simp [h2]⟩
theorem St.wkI {R F0 : Nat → Prop} {w0 w : World} {L : List (Res R)} {nT wT eD eI u8 qT plT : TypeId} {bw bd mb qb : Nat} {id : Int} {ks : List Int} {s : WSt} {kv : Value} {vs : List Value} (h : St R F0 w0 w L) (i : Nat)
    (hi : L[i]? = some (boxR [bkR bw [.int .i64 id, .int .i64 s.ep, .bool s.up, kv, ptr bd 0, .map (some mb), ptr qb 0] wT, accR encI nT 1 kv ks, dkK eD eI u8 bd s.life s.K, mpR intV shV mb (shM ks vs s.B), grsR vs (ks.map (shN s.B)), qR qT plT qb s.q])) : St R F0 w0 w (L.set i (wkR nT wT eD eI u8 qT plT bw id ks s)) :=
  h.imp hi fun F x => ⟨(kv, bd, mb, vs, qb), x⟩
theorem grs_app {R : Nat → Prop} {vs : List Value} {Ns : List (List GN)} {v : Value} {n : List GN} {F : Nat → Prop} {w : World} (h : (boxR [grsR (R := R) vs Ns, grR v n]).p F w) : (grsR (R := R) (vs ++ [v]) (Ns ++ [n])).p F w := by
  obtain ⟨Fs, h1, h2, h3⟩ := h
  have a := h1 0 _ rfl
  obtain ⟨lo, hi, q1, q2, q3⟩ := h1 1 _ rfl
  have f0 : ∀ b, Fs 0 b → F b := fun b hb => (h2 0 b hb).1.1
  have f1 : ∀ b, Fs 1 b → F b := fun b hb => (h2 1 b hb).1.1
  have a' : All2 (fun v n => (grR (R := R) v n).p F w) vs Ns := All2.imp (fun _ _ ⟨lo, hi, k1, k2, k3⟩ => ⟨lo, hi, k1, k2, fun b q1 q2 => f0 b (k3 b q1 q2)⟩) a
  exact All2.snoc a' ⟨lo, hi, q1, q2, fun b k1 k2 => f1 b (q3 b k1 k2)⟩
theorem St.grsAt {R F0 : Nat → Prop} {w0 w : World} {L : List (Res R)} {i k : Nat} {vs : List Value} {Ns : List (List GN)} {v : Value} {n : List GN} (h : St R F0 w0 w L) (hi : L[i]? = some (grsR vs Ns)) (hv : vs[k]? = some v) (hn : Ns[k]? = some n) : ∃ lo up, Gr 0 w lo up v n ∧ up ≤ w.heap.size := by
  obtain ⟨F, h1, _⟩ := h.get hi
  obtain ⟨lo, up, h2, h3, _⟩ := (All2.get h1).2 k v n hv hn
  exact ⟨lo, up, h2, h3⟩
/-- what is read of a worker -/
theorem wk_in {R : Nat → Prop} {nT wT eD eI u8 qT plT : TypeId} {bw : Nat} {id : Int} {ks : List Int} {s : WSt} {F : Nat → Prop} {w : World} (h : (wkR (R := R) nT wT eD eI u8 qT plT bw id ks s).p F w) :
    ∃ (kv : Value) (bd mb : Nat) (vs : List Value) (qb : Nat), Bk w bw [.int .i64 id, .int .i64 s.ep, .bool s.up, kv, ptr bd 0, .map (some mb), ptr qb 0] wT ∧ (∃ F1, (dkK (R := R) eD eI u8 bd s.life s.K).p F1 w ∧ ∀ b, F1 b → F b) ∧ MapS intV shV w mb (shM ks vs s.B) ∧ (∃ F1, (grsR (R := R) vs (ks.map (shN s.B))).p F1 w ∧ ∀ b, F1 b → F b) ∧ ∃ F1, (qR (R := R) qT plT qb s.q).p F1 w ∧ ∀ b, F1 b → F b := by
  obtain ⟨⟨kv, bd, mb, vs, qb⟩, Fs, h1, h2, _⟩ := h
  exact ⟨kv, bd, mb, vs, qb, (h1 0 _ rfl).1, ⟨_, h1 2 _ rfl, fun b hb => (h2 2 b hb).1.1⟩, (h1 3 _ rfl).1, ⟨_, h1 4 _ rfl, fun b hb => (h2 4 b hb).1.1⟩, ⟨_, h1 5 _ rfl, fun b hb => (h2 5 b hb).1.1⟩⟩
theorem grs_len {R : Nat → Prop} {vs : List Value} {Ns : List (List GN)} {F : Nat → Prop} {w : World} (h : (grsR (R := R) vs Ns).p F w) : vs.length = Ns.length := (All2.get h).1
/-- a message as a value: 'vi' stands for what a reply holds -/
def tagM (tH tG tA tR tS : TypeId) : MsgM → TypeId
  | .hello _ _ => tH
  | .grant _ _ _ => tG
  | .ask _ => tA
  | .reply _ => tR
  | .stop _ _ => tS
def bodyM (vi : Value) : MsgM → Value
  | .hello a b => .agg #[.int .i64 a, .int .i64 b]
  | .grant a b c => .agg #[.int .i64 a, .int .i64 b, .int .i64 c]
  | .ask a => .agg #[.int .i64 a.slot, .int .i64 a.query, .int .i64 a.shard, .int .i64 a.seq, .int .i64 a.epoch, strV a.text, .int .i64 a.k, .int .i64 a.batch, .bool a.first, .int .i64 a.after.dist, strV a.after.word]
  | .reply r => .agg #[.int .i64 r.slot, .int .i64 r.query, .int .i64 r.shard, .int .i64 r.seq, .int .i64 r.worker, .int .i64 r.epoch, vi, .bool r.fin]
  | .stop a b => .agg #[.int .i64 a, .int .i64 b]
def msgV (tH tG tA tR tS : TypeId) (vi : Value) (m : MsgM) : Value := .iface (tagM tH tG tA tR tS m) (bodyM vi m)
def msgIts : MsgM → List Itm
  | .reply r => r.items
  | _ => []
def encLet (x : Int × Value) : List Value := [.int .i64 x.1, x.2]
theorem encLet_len (x : Int × Value) : (encLet x).length = 2 := rfl
/-- letters, one or none: to the coordinator -/
def letR {R : Nat → Prop} (tH tG tA tR tS tL tI : TypeId) (v : Value) (ms : List MsgM) : Res R := exR fun vis : List Value => boxR [accR encLet tL 2 v ((vis.zip ms).map fun x => ((0 : Int), msgV tH tG tA tR tS x.1 x.2)), andR (vis.length = ms.length) (boxR ((vis.zip ms).map fun x => accR encItm tI 2 x.1 (msgIts x.2)))]
theorem let_none {R : Nat → Prop} {tH tG tA tR tS tL tI : TypeId} {w : World} : (letR (R := R) tH tG tA tR tS tL tI (.slice none 0 0) []).p (fun _ => False) w :=
  ⟨[], fun _ _ => False, fun i r hi => by
    match i, hi with
    | 0, hi => cases hi; exact ⟨0, Acc.nil, fun b hb => by omega⟩
    | 1, hi => cases hi; exact ⟨rfl, fun _ _ => False, ⟨fun i r hi => by simp at hi, ⟨fun _ _ h => False.elim h, fun _ _ _ _ h _ => False.elim h⟩⟩⟩, fun _ _ h => h.elim, fun _ _ _ _ h _ => h.elim⟩
theorem let_one {R : Nat → Prop} {tH tG tA tR tS tL tI : TypeId} {F : Nat → Prop} {w : World} {v vi : Value} {m : MsgM} (h : (boxR [accR (R := R) encLet tL 2 v [((0 : Int), msgV tH tG tA tR tS vi m)], boxR [accR encItm tI 2 vi (msgIts m)]]).p F w) : (letR (R := R) tH tG tA tR tS tL tI v [m]).p F w := by
  obtain ⟨Fs, h1, h2, h3⟩ := h
  refine ⟨[vi], Fs, fun i r hi => ?_, h2, h3⟩
  match i, hi with
  | 0, hi => cases hi; exact h1 0 _ rfl
  | 1, hi => cases hi; exact ⟨rfl, h1 1 _ rfl⟩
section
variable {tH tG tA tR tS : TypeId} {m : MsgM}
theorem tag_h (hd : [tH, tG, tA, tR, tS].Nodup) (h : tagM tH tG tA tR tS m = tH) : ∃ a b, m = .hello a b := by
  cases m <;> simp_all [tagM]
theorem tag_g (hd : [tH, tG, tA, tR, tS].Nodup) (h : tagM tH tG tA tR tS m = tG) : ∃ a b c, m = .grant a b c := by
  cases m <;> simp_all [tagM]
theorem tag_a (hd : [tH, tG, tA, tR, tS].Nodup) (h : tagM tH tG tA tR tS m = tA) : ∃ a, m = .ask a := by
  cases m <;> simp_all [tagM]
theorem tag_r (hd : [tH, tG, tA, tR, tS].Nodup) (h : tagM tH tG tA tR tS m = tR) : ∃ a, m = .reply a := by
  cases m <;> simp_all [tagM]
theorem tag_s (hd : [tH, tG, tA, tR, tS].Nodup) (h : tagM tH tG tA tR tS m = tS) : ∃ a b, m = .stop a b := by
  cases m <;> simp_all [tagM]
end
/-- a letter's value is this letter -/
def LetIs (tH tG tA tR tS : TypeId) (w : World) (x : Int × Value) (m : Int × MsgM) : Prop := x.1 = m.1 ∧ ∃ vi, x.2 = msgV tH tG tA tR tS vi m.2 ∧ Sl encItm w (Iv 0 w.heap.size) vi (msgIts m.2)
def to0 (ms : List MsgM) : List (Int × MsgM) := ms.map fun m => ((0 : Int), m)
theorem all2_at {α β : Type} {R : α → β → Prop} {l : List α} {m : List β} (h : All2 R l m) {i : Nat} {a : α} (ha : l[i]? = some a) : ∃ b, m[i]? = some b ∧ R a b := by
  obtain ⟨h1, h2⟩ := All2.get h
  obtain ⟨hi, _⟩ := List.getElem?_eq_some_iff.1 ha
  have hb : m[i]? = some m[i] := List.getElem?_eq_getElem (by omega)
  exact ⟨_, hb, h2 i a _ ha hb⟩
theorem let_in {R : Nat → Prop} {tH tG tA tR tS tL tI : TypeId} {F : Nat → Prop} {w : World} {v : Value} {ms : List MsgM} (h : (letR (R := R) tH tG tA tR tS tL tI v ms).p F w) :
    ∃ xs, Sl encLet w (Iv 0 w.heap.size) v xs ∧ All2 (LetIs tH tG tA tR tS w) xs (to0 ms) := by
  obtain ⟨vis, Fs, h1, h2, _⟩ := h
  obtain ⟨g, ha, _⟩ := h1 0 _ rfl
  obtain ⟨hl, Fs2, k1, k2, _⟩ := h1 1 _ rfl
  refine ⟨_, ha.sl.iv (Nat.zero_le _) ha.lt, ?_⟩
  have key : ∀ (vis : List Value) (ms : List MsgM), vis.length = ms.length → (∀ (i : Nat) (x : Value × MsgM), (vis.zip ms)[i]? = some x → ∃ g, Acc encItm tI 2 w g x.1 (msgIts x.2)) →
      All2 (LetIs tH tG tA tR tS w) ((vis.zip ms).map fun x => ((0 : Int), msgV tH tG tA tR tS x.1 x.2)) (to0 ms) := by
    intro vis
    induction vis with
    | nil => intro ms hl _; cases ms with
      | nil => exact .nil
      | cons _ _ => simp at hl
    | cons vi vis ih =>
      intro ms hl hk
      cases ms with
      | nil => simp at hl
      | cons m ms =>
        obtain ⟨g, hg⟩ := hk 0 (vi, m) rfl
        exact .cons ⟨rfl, vi, rfl, hg.sl.iv (Nat.zero_le _) hg.lt⟩ (ih ms (by simpa using hl) fun i x hx => hk (i + 1) x hx)
  refine key vis ms hl fun i x hx => ?_
  obtain ⟨g, h, _⟩ := k1 i _ (by rw [List.getElem?_map, hx]; rfl)
  exact ⟨g, h⟩
/-- one letter, laid open -/
theorem St.letO {R F0 : Nat → Prop} {w0 w : World} {L : List (Res R)} {tH tG tA tR tS tL tI : TypeId} {v : Value} {m : MsgM} (h : St R F0 w0 w L) (i : Nat) (hi : L[i]? = some (letR tH tG tA tR tS tL tI v [m])) : ∃ vi, St R F0 w0 w (L.set i (boxR [accR encLet tL 2 v [((0 : Int), msgV tH tG tA tR tS vi m)], boxR [accR encItm tI 2 vi (msgIts m)]])) := by
  obtain ⟨vis, h1⟩ := h.exo hi
  have hl : vis.length = 1 := by
    obtain ⟨F, ⟨Fs, k1, _⟩, _⟩ := h1.get (i := i) (by rw [List.getElem?_set_self (List.getElem?_eq_some_iff.1 hi).1])
    exact (k1 1 _ rfl).1
  match vis, hl with
  | [vi], _ =>
    refine ⟨vi, ?_⟩
    have h2 := h1.imp (A' := boxR [accR encLet tL 2 v [((0 : Int), msgV tH tG tA tR tS vi m)], boxR [accR encItm tI 2 vi (msgIts m)]]) (List.getElem?_set_self (List.getElem?_eq_some_iff.1 hi).1) fun F k => by
      obtain ⟨Fs, k1, k2, k3⟩ := k
      refine ⟨Fs, fun i r hi => ?_, k2, k3⟩
      match i, hi with
      | 0, hi => cases hi; exact k1 0 _ rfl
      | 1, hi => cases hi; exact (k1 1 _ rfl).2
    rwa [List.set_set] at h2
theorem wk_eq {R : Nat → Prop} {nT wT eD eI u8 qT plT : TypeId} {bw : Nat} {id : Int} {ks : List Int} {s t : WSt} {F : Nat → Prop} {w : World} (h : s = t) (x : (wkR (R := R) nT wT eD eI u8 qT plT bw id ks s).p F w) : (wkR (R := R) nT wT eD eI u8 qT plT bw id ks t).p F w := h ▸ x
theorem wkl_eq {R : Nat → Prop} {nT wT eD eI u8 qT plT tH tG tA tR tS tL tI : TypeId} {bw : Nat} {id : Int} {ks : List Int} {v : Value} {p : WSt × List MsgM} {t : WSt} {ms : List MsgM} {F : Nat → Prop} {w : World} (h : p = (t, ms)) (x : (boxR [wkR (R := R) nT wT eD eI u8 qT plT bw id ks p.1, letR tH tG tA tR tS tL tI v p.2]).p F w) : (boxR [wkR (R := R) nT wT eD eI u8 qT plT bw id ks t, letR tH tG tA tR tS tL tI v ms]).p F w := by
  subst h; exact x
end Go.Ik
namespace Go.Ml
open Go.Ik
theorem good_fineT {words : List Str} (h : goodL words = 0) : ∀ w ∈ words, fineT w = true := fun w hw => by
  have := (good_words h).2.1 w hw
  unfold word at this
  simp only [Bool.and_eq_true, decide_eq_true_eq] at this
  have h1 := this.1
  unfold lenT at h1
  unfold fineT
  split at h1
  · omega
  · exact decide_eq_true (by assumption)
end Go.Ml
namespace Go.Ml
open Go.Ik
/-- a disk of a configuration, whatever rots -/
structure DkC (c : Cfg) (w : Int) (K : List DE) : Prop where
  ok : DkOk K
  no : ∀ k, k ∉ keepsM c w → dkGet K k = none
  yes : ∀ k, k ∈ keepsM c w → ∃ b, dkGet K k = some (k, imgC c k, b) ∧ (b = imgC c k ∨ ∃ a x, b = turnB (imgC c k) a x)
theorem DkC.new {c : Cfg} (h : may c = true) (w : Int) : DkC c w (dkNew c w) := ⟨dkNew_ok h w, fun k hk => dkNew_none hk, fun k hk => ⟨_, dkNew_get hk, .inl rfl⟩⟩
theorem DkC.read {c : Cfg} {w : Int} {K : List DE} (h : DkC c w K) (k : Int) : (k ∉ keepsM c w ∧ dkRead K k = []) ∨ (k ∈ keepsM c w ∧ dkRead K k = imgC c k) ∨ (k ∈ keepsM c w ∧ ∃ a x, dkRead K k = turnB (imgC c k) a x) := by
  by_cases hk : k ∈ keepsM c w
  · obtain ⟨b, h1, h2⟩ := h.yes k hk
    have h3 := (get_err h1).2.1
    rcases h2 with rfl | ⟨a, x, rfl⟩
    · exact .inr (.inl ⟨hk, h3⟩)
    · exact .inr (.inr ⟨hk, a, x, h3⟩)
  · exact .inl ⟨hk, (get_no (h.no k hk)).2.1⟩
theorem keeps_img {c : Cfg} (hm : may c = true) {w k : Int} (hk : k ∈ keepsM c w) : imgC c k = imgM (wordsM c k) ∧ goodL (wordsM c k) = 0 := ⟨(shard_img hm (keeps_range hk).1 (keeps_range hk).2).1, shard_good hm k⟩
theorem sh_good {c : Cfg} (hm : may c = true) {w k : Int} (hk : k ∈ keepsM c w) {K : List DE} (h : dkRead K k = imgC c k) : shN K k = gnodes (wordsM c k) ∧ shE K k = 0 ∧ shW K k = wordsM c k := by
  obtain ⟨h1, h2⟩ := keeps_img hm hk
  unfold shN shE shW
  rw [h, h1, dec_img h2, decP_img h2]
  exact ⟨rfl, rfl, rfl⟩
theorem decP_err {b : List UInt8} (h : (decG b).2 ≠ 0) : (decP b).1 = [] := by
  rcases decP_range b with ⟨h1, _⟩ | ⟨h1, _⟩ | ⟨_, h1, _⟩
  · rw [h1]
  · rw [h1]
  · exact absurd ((reads_same b).1.trans h1) h
theorem sh_turn {c : Cfg} (hm : may c = true) {w k : Int} (hk : k ∈ keepsM c w) {K : List DE} {a x : Int} (h : dkRead K k = turnB (imgC c k) a x) : shN K k = [] ∧ shE K k = 9 ∧ shW K k = [] := by
  obtain ⟨h1, h2⟩ := keeps_img hm hk
  have hd := dec_turnB h2 a x
  unfold shN shE shW
  rw [h, h1, hd]
  exact ⟨rfl, rfl, decP_err (by rw [hd]; decide)⟩
theorem sh_none {K : List DE} {k : Int} (h : dkRead K k = []) : shN K k = [] ∧ shE K k ≠ 0 ∧ shW K k = [] := by
  unfold shN shE shW
  rw [h]
  exact ⟨by decide +kernel, by decide +kernel, by decide +kernel⟩
theorem DkC.wl {c : Cfg} {w : Int} {K : List DE} (hm : may c = true) (h : DkC c w K) (hl : c.words.length ≤ 1000) (k : Int) : (shW K k).length ≤ 1000 := by
  rcases h.read k with ⟨_, h1⟩ | ⟨h0, h1⟩ | ⟨h0, a, x, h1⟩
  · rw [(sh_none h1).2.2]; exact Nat.zero_le _
  · rw [(sh_good hm h0 h1).2.2]; exact Nat.le_trans (shard_words_le k) hl
  · rw [(sh_turn hm h0 h1).2.2]; exact Nat.zero_le _
theorem keeps_ok (c : Cfg) (w : Int) : KsOk (keepsM c w) := ⟨keeps_nodup c w, fun k hk => keeps_i64 hk, Nat.le_trans (keeps_len c w) (by decide)⟩
theorem newW_ok {c : Cfg} (hm : may c = true) (w : Int) (hl : c.words.length ≤ 1000) : WOk (keepsM c w) 1 (newW c w) :=
  ⟨⟨(by decide : (0 : Int) ≤ 1), Int.le_refl _⟩, dkNew_ok hm w, (by show I64 0; unfold I64; decide), Nat.zero_le _, (fun a ha => nomatch ha), (DkC.new hm w).wl hm hl, (DkC.new hm w).wl hm hl⟩
def awA : AskM := ⟨0, 0, 0, 0, 1, [97], 1, 2, true, ⟨0, []⟩⟩
def awW : List Str := [[97], [98]]
def awR : ReplyM := ⟨0, 0, 0, 0, 1, 1, [⟨0, [97]⟩, ⟨1, [98]⟩], true⟩
def aw1 : WSt := newW smallC 1
def aw2 : WSt := { aw1 with ep := 1 }
def aw3 : WSt := { aw2 with q := [awA] }
theorem aw_in : (0 : Int) ∈ keepsM smallC 1 := by rw [smallC_keeps]; simp
theorem aw_may : may smallC = true := (mayD_may smallC_may).1
theorem aw_sh : shN (dkNew smallC 1) 0 = gnodes awW ∧ shW (dkNew smallC 1) 0 = awW := by
  obtain ⟨h1, _, h3⟩ := sh_good (K := dkNew smallC 1) aw_may aw_in (new_read aw_in).2.1
  have e : wordsM smallC 0 = awW := by decide +kernel
  rw [e] at h1 h3
  exact ⟨h1, h3⟩
theorem aw_e1 : wakeW 1 aw1 = (aw1, [.hello 1 1]) := wakeW_lo (by decide)
theorem aw_e2 : takeW 1 (keepsM smallC 1) aw1 (.grant 1 1 1) = aw2 := takeW_g1 (takeG_4 rfl rfl (by decide))
theorem aw_e3 : takeW 1 (keepsM smallC 1) aw2 (.ask awA) = aw3 :=
  takeW_a1 (takeA_5 (by decide +kernel) rfl (by decide) aw_in (by show shN (dkNew smallC 1) 0 ≠ []; rw [aw_sh.1]; decide +kernel))
theorem aw_e4 : wakeW 1 aw3 = (aw2, [.reply awR]) := by
  refine (wakeW_yes (by decide)).trans ?_
  have h : answer 1 aw3 awA = awR := by
    unfold answer
    show (let r := nextA (shN (dkNew smallC 1) 0) (shW (dkNew smallC 1) 0) [97] 1 true ⟨0, []⟩ 2; (⟨0, 0, 0, 0, 1, 1, r.1, r.2⟩ : ReplyM)) = awR
    rw [aw_sh.1, aw_sh.2]
    decide +kernel
  exact congrArg (fun r => (aw2, [MsgM.reply r])) h
theorem aw1_ok : WOk (keepsM smallC 1) 1 aw1 := newW_ok aw_may 1 (by decide)
theorem awA_ok : awA.Ok := ⟨by unfold I64; decide, by unfold I64; decide, by unfold I64; decide, by unfold I64; decide, by unfold I64; decide, by unfold I64; decide, by unfold I64; decide, by unfold I64; decide⟩
theorem aw2_ok : WOk (keepsM smallC 1) 2 aw2 := aw_e2 ▸ aw1_ok.take (id := 1) (m := .grant 1 1 1) ⟨by unfold I64; decide, by unfold I64; decide, by unfold I64; decide⟩
theorem aw3_ok : WOk (keepsM smallC 1) 3 aw3 := aw_e3 ▸ aw2_ok.take (id := 1) (m := .ask awA) ⟨awA_ok, by decide, by decide⟩
def onC : Cfg := ⟨[[97], [97, 98], [97, 98, 99], [98], [98, 195, 169], [195, 169]], [], 1, 1, 1, 2, 5, 5, 1, 1, 0, 8⟩
theorem onC_may : mayD onC 1 = true := by decide +kernel
theorem on_may : may onC = true := (mayD_may onC_may).1
def on1 : WSt := newW onC 1
def on2 : WSt := { on1 with ep := 1 }
def on3 (a : AskM) : WSt := { on2 with q := [a] }
def onA (t : Str) (k b : Int) : AskM := ⟨0, 3, 0, 0, 1, t, k, b, true, ⟨0, []⟩⟩
def onT (a : AskM) : WSt := takeW 1 (keepsM onC 1) on2 (.ask a)
theorem on_e2 : takeW 1 (keepsM onC 1) on1 (.grant 1 1 1) = on2 := takeW_g1 (takeG_4 rfl rfl (by decide))
theorem onT_no {a : AskM} (h : takeA (keepsM onC 1) on2 a = false) : onT a = on2 := takeW_a0 h
theorem onT_yes {t : Str} {k b : Int} (h : takeA (keepsM onC 1) on2 (onA t k b) = true) : onT (onA t k b) = on3 (onA t k b) := (takeW_a1 h).trans rfl
theorem onT_again (t : Str) (k b : Int) : takeW 1 (keepsM onC 1) (onT (onA t k b)) (.ask (onA t k b)) = onT (onA t k b) := by
  cases h : takeA (keepsM onC 1) on2 (onA t k b) with
  | false => rw [onT_no h]; exact onT_no h
  | true =>
    rw [onT_yes h]
    exact (takeW_a1 (q := [onA t k b]) h).trans rfl
theorem on_w0 : wakeW 1 on2 = (on2, [.hello 1 1]) := wakeW_no (by decide)
theorem on_w1 (a : AskM) : wakeW 1 (on3 a) = (on2, [.reply (answer 1 (on3 a) a)]) := wakeW_yes (by decide)
theorem on1_ok : WOk (keepsM onC 1) 1 on1 := newW_ok on_may 1 (by decide)
theorem on2_ok : WOk (keepsM onC 1) 2 on2 := on_e2 ▸ on1_ok.take (id := 1) (m := .grant 1 1 1) ⟨by unfold I64; decide, by unfold I64; decide, by unfold I64; decide⟩
theorem onA_ok {t : Str} {k b : Int} (hk : I64 k) (hb : I64 b) : (onA t k b).Ok := by
  have : ∀ n : Int, 0 ≤ n ∧ n ≤ 3 → I64 n := fun n h => by unfold I64; omega
  exact ⟨this 0 (by omega), this 3 (by omega), this 0 (by omega), this 0 (by omega), this 1 (by omega), hk, hb, this 0 (by omega)⟩
theorem on3_ok {t : Str} {k b : Int} (h : takeA (keepsM onC 1) on2 (onA t k b) = true) (hk : I64 k) (hb : I64 b) (ht : t.length ≤ 1000000) : WOk (keepsM onC 1) 3 (on3 (onA t k b)) :=
  onT_yes h ▸ on2_ok.take (id := 1) (m := .ask (onA t k b)) ⟨onA_ok hk hb, ht, Nat.zero_le _⟩
theorem answer_good {id : Int} {s : WSt} {a : AskM} (hg : shN s.B a.shard ≠ []) : (answer id s a).items = (nextR (shW s.B a.shard) a.text a.k a.first a.after a.batch).1 ∧ (answer id s a).fin = (nextR (shW s.B a.shard) a.text a.k a.first a.after a.batch).2 := by
  obtain ⟨h1, h2⟩ := read_words hg
  have e := nextA_R (s := a.text) (k := a.k) (first := a.first) (after := a.after) (batch := a.batch) hg (good_sorted h1) (good_fineT h1)
  exact ⟨congrArg (·.1) e, congrArg (·.2) e⟩
theorem nextR_fit (words : List Str) (s : Str) (k : Int) (first : Bool) (after : Itm) {batch : Int} (hb : 1 ≤ batch) : ((nextR words s k first after batch).1.length : Int) ≤ batch ∧ (0 < (nextR words s k first after batch).1.length ∨ (nextR words s k first after batch).2 = true) := by
  unfold nextR
  split
  · dsimp only
    generalize (refAll words s k).filter (okI first after) = rest
    rw [List.length_take]
    constructor
    · omega
    · by_cases h : rest.length = 0
      · right; exact decide_eq_true (by omega)
      · left; omega
  · simp; omega
theorem on_fit {t : Str} {k b : Int} (h : takeA (keepsM onC 1) on2 (onA t k b) = true) (hb : 1 ≤ b) : ((answer 1 (on3 (onA t k b)) (onA t k b)).items.length : Int) ≤ b ∧ (0 < (answer 1 (on3 (onA t k b)) (onA t k b)).items.length ∨ (answer 1 (on3 (onA t k b)) (onA t k b)).fin = true) := by
  obtain ⟨h1, h2⟩ := answer_good (id := 1) (s := on3 (onA t k b)) (a := onA t k b) (takeA_yes h).2.2.2.2
  rw [h1, h2]
  exact nextR_fit _ _ _ _ _ hb
end Go.Ml
namespace Go.Proofs
open Go.Ik Go.Ml
theorem ti20 : tyI Tryz.prog 20 = some (false, 1, 16, [.nilIface]) := by kernel_rfl
theorem ti38 : tyI Tryz.prog 38 = some (true, 3, 24, [.int .i64 0, .int .i64 0, .int .i64 0]) := by kernel_rfl
theorem ti44 : tyI Tryz.prog 44 = some (true, 2, 24, [.int .i64 0, .nilIface]) := by kernel_rfl
theorem ti46 : tyI Tryz.prog 46 = some (true, 2, 16, [.int .i64 0, .int .i64 0]) := by kernel_rfl
theorem ti49 : tyI Tryz.prog 49 = some (true, 8, 80, [.int .i64 0, .int .i64 0, .int .i64 0, .int .i64 0, .int .i64 0, .int .i64 0, .slice none 0 0, .bool false]) := by kernel_rfl
theorem ti62 : tyI Tryz.prog 62 = some (false, 1, 8, [.pointer none]) := by kernel_rfl
theorem ti92 : tyI Tryz.prog 92 = some (false, 1, 8, [.map none]) := by kernel_rfl
theorem ti104 : tyI Tryz.prog 104 = some (true, 2, 16, [.int .i64 0, .int .i64 0]) := by kernel_rfl
theorem fl38_0 : fldI Tryz.prog 38 0 = some 0 := by kernel_rfl
theorem fl38_1 : fldI Tryz.prog 38 1 = some 1 := by kernel_rfl
theorem fl38_2 : fldI Tryz.prog 38 2 = some 2 := by kernel_rfl
theorem fl44_0 : fldI Tryz.prog 44 0 = some 0 := by kernel_rfl
theorem fl44_1 : fldI Tryz.prog 44 1 = some 1 := by kernel_rfl
theorem fl49_0 : fldI Tryz.prog 49 0 = some 0 := by kernel_rfl
theorem fl49_1 : fldI Tryz.prog 49 1 = some 1 := by kernel_rfl
theorem fl49_2 : fldI Tryz.prog 49 2 = some 2 := by kernel_rfl
theorem fl49_3 : fldI Tryz.prog 49 3 = some 3 := by kernel_rfl
theorem fl49_4 : fldI Tryz.prog 49 4 = some 4 := by kernel_rfl
theorem fl49_5 : fldI Tryz.prog 49 5 = some 5 := by kernel_rfl
theorem fl49_6 : fldI Tryz.prog 49 6 = some 6 := by kernel_rfl
theorem fl49_7 : fldI Tryz.prog 49 7 = some 7 := by kernel_rfl
theorem fl95_0 : fldI Tryz.prog 95 0 = some 0 := by kernel_rfl
theorem fl95_1 : fldI Tryz.prog 95 1 = some 1 := by kernel_rfl
theorem fl95_2 : fldI Tryz.prog 95 2 = some 2 := by kernel_rfl
theorem fl95_3 : fldI Tryz.prog 95 3 = some 3 := by kernel_rfl
theorem fl95_4 : fldI Tryz.prog 95 4 = some 4 := by kernel_rfl
theorem fl95_5 : fldI Tryz.prog 95 5 = some 5 := by kernel_rfl
theorem fl95_6 : fldI Tryz.prog 95 6 = some 6 := by kernel_rfl
theorem ti33_ : tyI Tryz.prog 33 = some (true, 2, 24, [.int .i64 0, strV []]) := by kernel_rfl
theorem eqS35 (a b : AskM) (w : World) : (Op.equalIn 10000 35 (.agg #[.int .i64 a.slot, .int .i64 a.query, .int .i64 a.shard, .int .i64 a.seq, .int .i64 a.epoch, strV a.text, .int .i64 a.k, .int .i64 a.batch, .bool a.first, .int .i64 a.after.dist, strV a.after.word]) (.agg #[.int .i64 b.slot, .int .i64 b.query, .int .i64 b.shard, .int .i64 b.seq, .int .i64 b.epoch, strV b.text, .int .i64 b.k, .int .i64 b.batch, .bool b.first, .int .i64 b.after.dist, strV b.after.word])).run Tryz.prog w = .ok (decide (a = b)) w := by
  obtain ⟨a0, a1, a2, a3, a4, a5, a6, a7, a8, ⟨a9, a10⟩⟩ := a
  obtain ⟨b0, b1, b2, b3, b4, b5, b6, b7, b8, ⟨b9, b10⟩⟩ := b
  refine (run_eq_tail (P := Tryz.prog) (t := 35) (t2 := 33) (k := 9) (o := 9) (ks := [(0, .int .i64), (1, .int .i64), (2, .int .i64), (3, .int .i64), (4, .int .i64), (5, .str), (6, .int .i64), (7, .int .i64), (8, .bool)]) (ks2 := [(0, .int .i64), (1, .str)]) (q := (a0 == b0) && (a1 == b1) && (a2 == b2) && (a3 == b3) && (a4 == b4) && (a5 == b5) && (a6 == b6) && (a7 == b7) && (a8 == b8)) (q2 := (a9 == b9) && (a10 == b10)) (x2 := #[.int .i64 a9, strV a10]) (y2 := #[.int .i64 b9, strV b10]) (by kernel_rfl) (by kernel_rfl) (by kernel_rfl) (by kernel_rfl) (by kernel_rfl) (by kernel_rfl) (by kernel_rfl) ti33_ ?_ rfl rfl ?_ w).trans ?_
  · skip
    by_cases h0 : a0 = b0
    case neg => (have g0 := beq_eq_false_iff_ne.2 h0); simp [eqCells, cellEq, strV, toList_mk, h0, g0]
    subst h0
    by_cases h1 : a1 = b1
    case neg => (have g1 := beq_eq_false_iff_ne.2 h1); simp [eqCells, cellEq, strV, toList_mk, h1, g1]
    subst h1
    by_cases h2 : a2 = b2
    case neg => (have g2 := beq_eq_false_iff_ne.2 h2); simp [eqCells, cellEq, strV, toList_mk, h2, g2]
    subst h2
    by_cases h3 : a3 = b3
    case neg => (have g3 := beq_eq_false_iff_ne.2 h3); simp [eqCells, cellEq, strV, toList_mk, h3, g3]
    subst h3
    by_cases h4 : a4 = b4
    case neg => (have g4 := beq_eq_false_iff_ne.2 h4); simp [eqCells, cellEq, strV, toList_mk, h4, g4]
    subst h4
    by_cases h5 : a5 = b5
    case neg => (have g5 := beq_eq_false_iff_ne.2 h5); simp [eqCells, cellEq, strV, toList_mk, h5, g5]
    subst h5
    by_cases h6 : a6 = b6
    case neg => (have g6 := beq_eq_false_iff_ne.2 h6); simp [eqCells, cellEq, strV, toList_mk, h6, g6]
    subst h6
    by_cases h7 : a7 = b7
    case neg => (have g7 := beq_eq_false_iff_ne.2 h7); simp [eqCells, cellEq, strV, toList_mk, h7, g7]
    subst h7
    by_cases h8 : a8 = b8
    case neg => (have g8 := beq_eq_false_iff_ne.2 h8); simp [eqCells, cellEq, strV, toList_mk, h8, g8]
    subst h8
    simp [eqCells, cellEq, strV, toList_mk]
  · skip
    by_cases h9 : a9 = b9
    case neg => (have g9 := beq_eq_false_iff_ne.2 h9); simp [eqCells, cellEq, strV, toList_mk, h9, g9]
    subst h9
    by_cases h10 : a10 = b10
    case neg => (have g10 := beq_eq_false_iff_ne.2 h10); simp [eqCells, cellEq, strV, toList_mk, h10, g10]
    subst h10
    simp [eqCells, cellEq, strV, toList_mk]
  · congr 1
    by_cases h0 : a0 = b0
    case neg => (have g0 := beq_eq_false_iff_ne.2 h0); simp [h0, g0]
    subst h0
    by_cases h1 : a1 = b1
    case neg => (have g1 := beq_eq_false_iff_ne.2 h1); simp [h1, g1]
    subst h1
    by_cases h2 : a2 = b2
    case neg => (have g2 := beq_eq_false_iff_ne.2 h2); simp [h2, g2]
    subst h2
    by_cases h3 : a3 = b3
    case neg => (have g3 := beq_eq_false_iff_ne.2 h3); simp [h3, g3]
    subst h3
    by_cases h4 : a4 = b4
    case neg => (have g4 := beq_eq_false_iff_ne.2 h4); simp [h4, g4]
    subst h4
    by_cases h5 : a5 = b5
    case neg => (have g5 := beq_eq_false_iff_ne.2 h5); simp [h5, g5]
    subst h5
    by_cases h6 : a6 = b6
    case neg => (have g6 := beq_eq_false_iff_ne.2 h6); simp [h6, g6]
    subst h6
    by_cases h7 : a7 = b7
    case neg => (have g7 := beq_eq_false_iff_ne.2 h7); simp [h7, g7]
    subst h7
    by_cases h8 : a8 = b8
    case neg => (have g8 := beq_eq_false_iff_ne.2 h8); simp [h8, g8]
    subst h8
    by_cases h9 : a9 = b9
    case neg => (have g9 := beq_eq_false_iff_ne.2 h9); simp [h9, g9]
    subst h9
    by_cases h10 : a10 = b10
    case neg => (have g10 := beq_eq_false_iff_ne.2 h10); simp [h10, g10]
    subst h10
    simp
theorem eqS38 (a b : GrantM) (w : World) : (Op.equalIn 10000 38 (.agg #[.int .i64 a.a, .int .i64 a.b, .int .i64 a.c]) (.agg #[.int .i64 b.a, .int .i64 b.b, .int .i64 b.c])).run Tryz.prog w = .ok (decide (a = b)) w :=
  run_eq_flat (ks := [(0, .int .i64), (1, .int .i64), (2, .int .i64)]) (by kernel_rfl) (by kernel_rfl) (by kernel_rfl) (by
    obtain ⟨a0, a1, a2⟩ := a
    obtain ⟨b0, b1, b2⟩ := b
    (by_cases h0 : a0 = b0) <;> (first | (have g0 := beq_eq_false_iff_ne.2 h0) | (have g0 := beq_iff_eq.2 h0)) <;> (by_cases h1 : a1 = b1) <;> (first | (have g1 := beq_eq_false_iff_ne.2 h1) | (have g1 := beq_iff_eq.2 h1)) <;> (by_cases h2 : a2 = b2) <;> (first | (have g2 := beq_eq_false_iff_ne.2 h2) | (have g2 := beq_iff_eq.2 h2)) <;> simp [eqCells, cellEq, strV, toList_mk, h0, h1, h2, g0, g1, g2]) w
theorem eqS46 (a b : HelloM) (w : World) : (Op.equalIn 10000 46 (.agg #[.int .i64 a.a, .int .i64 a.b]) (.agg #[.int .i64 b.a, .int .i64 b.b])).run Tryz.prog w = .ok (decide (a = b)) w :=
  run_eq_flat (ks := [(0, .int .i64), (1, .int .i64)]) (by kernel_rfl) (by kernel_rfl) (by kernel_rfl) (by
    obtain ⟨a0, a1⟩ := a
    obtain ⟨b0, b1⟩ := b
    (by_cases h0 : a0 = b0) <;> (first | (have g0 := beq_eq_false_iff_ne.2 h0) | (have g0 := beq_iff_eq.2 h0)) <;> (by_cases h1 : a1 = b1) <;> (first | (have g1 := beq_eq_false_iff_ne.2 h1) | (have g1 := beq_iff_eq.2 h1)) <;> simp [eqCells, cellEq, strV, toList_mk, h0, h1, g0, g1]) w
theorem eqS104 (a b : HelloM) (w : World) : (Op.equalIn 10000 104 (.agg #[.int .i64 a.a, .int .i64 a.b]) (.agg #[.int .i64 b.a, .int .i64 b.b])).run Tryz.prog w = .ok (decide (a = b)) w :=
  run_eq_flat (ks := [(0, .int .i64), (1, .int .i64)]) (by kernel_rfl) (by kernel_rfl) (by kernel_rfl) (by
    obtain ⟨a0, a1⟩ := a
    obtain ⟨b0, b1⟩ := b
    (by_cases h0 : a0 = b0) <;> (first | (have g0 := beq_eq_false_iff_ne.2 h0) | (have g0 := beq_iff_eq.2 h0)) <;> (by_cases h1 : a1 = b1) <;> (first | (have g1 := beq_eq_false_iff_ne.2 h1) | (have g1 := beq_iff_eq.2 h1)) <;> simp [eqCells, cellEq, strV, toList_mk, h0, h1, g0, g1]) w
theorem nif35 : notIf (Tryz.prog.underlying 35) = true := by kernel_rfl
theorem nif38 : notIf (Tryz.prog.underlying 38) = true := by kernel_rfl
theorem nif46 : notIf (Tryz.prog.underlying 46) = true := by kernel_rfl
theorem nif49 : notIf (Tryz.prog.underlying 49) = true := by kernel_rfl
theorem nif104 : notIf (Tryz.prog.underlying 104) = true := by kernel_rfl
theorem cl11 : clB Tryz.prog 11 = true := by kernel_rfl
theorem cl12 : clB Tryz.prog 12 = true := by kernel_rfl
theorem cl13 : clB Tryz.prog 13 = true := by kernel_rfl
theorem cl14 : clB Tryz.prog 14 = true := by kernel_rfl
theorem cl15 : clB Tryz.prog 15 = true := by kernel_rfl
theorem cl16 : clB Tryz.prog 16 = true := by kernel_rfl
theorem cl17 : clB Tryz.prog 17 = true := by kernel_rfl
theorem cl21 : clB Tryz.prog 21 = true := by kernel_rfl
theorem cl26 : clB Tryz.prog 26 = true := by kernel_rfl
theorem cl30 : clB Tryz.prog 30 = true := by kernel_rfl
theorem cl32 : clB Tryz.prog 32 = true := by kernel_rfl
theorem cl41 : clB Tryz.prog 41 = true := by kernel_rfl
theorem cl45 : clB Tryz.prog 45 = true := by kernel_rfl
theorem cl46 : clB Tryz.prog 46 = true := by kernel_rfl
theorem cl47 : clB Tryz.prog 47 = true := by kernel_rfl
theorem cl49 : clB Tryz.prog 49 = true := by kernel_rfl
theorem cl50 : clB Tryz.prog 50 = true := by kernel_rfl
theorem cl51 : clB Tryz.prog 51 = true := by kernel_rfl
theorem cl52 : clB Tryz.prog 52 = true := by kernel_rfl
theorem cl63 : clB Tryz.prog 63 = true := by kernel_rfl
theorem cl83 : clB Tryz.prog 83 = true := by kernel_rfl
theorem cl92 : clB Tryz.prog 92 = true := by kernel_rfl
theorem cl93 : clB Tryz.prog 93 = true := by kernel_rfl
theorem cl94 : clB Tryz.prog 94 = true := by kernel_rfl
theorem cl95 : clB Tryz.prog 95 = true := by kernel_rfl
theorem cl109 : clB Tryz.prog 109 = true := by kernel_rfl
theorem cl151 : clB Tryz.prog 151 = true := by kernel_rfl
end Go.Proofs
namespace Go.Proofs
open Go.Ik Go.Ml
set_option maxRecDepth 20000 in
set_option maxHeartbeats 8000000 in
theorem wbegin_c {w0 : World} {F : Nat → Prop} {bw bd : Nat} {wid ep0 : Int} {up0 : Bool} {kv X Y : Value} {ks : List Int} {life : Int} {K : List DE} (hA : (boxR (R := fun _ => False) [bkR bw [.int .i64 wid, .int .i64 ep0, .bool up0, kv, ptr bd 0, X, Y] 95, accR Ik.encI 3 1 kv ks, dkK 164 123 5 bd life K]).p F w0) (hF : ∀ b, F b → b < w0.heap.size) (hlf : 0 ≤ life ∧ life ≤ 1000000) (hK : DkOk K) (hks : ks.Nodup) (hki : ∀ k ∈ ks, I64 k) (hkl : ks.length ≤ 1000) :
    Calls Tryz.prog 46 #[ptr bw 0] w0 (Ret fun rv w1 => rv = .tuple #[] ∧ Mod F w0 w1 ∧ ∃ F2, (wkR (R := fun _ => False) 3 95 164 123 5 176 172 bw wid ks (⟨0, true, life + 1, K, K, []⟩)).p F2 w1 ∧ ∀ b, F2 b → b < w1.heap.size ∧ (F b ∨ w0.heap.size ≤ b)) := by
  have hS00 := St.start1 (R := fun _ => False) hA (fun b hb => ⟨hF b hb, id⟩) (fun _ h => h.elim)
  have hS1 := (hS00.un 0 rfl [] (by rfl) (by decide)).n3
  have hle := (hS1.accK (i := 1) rfl).choose_spec.1.le
  refine calls_enter Tryz.func46 rfl Tryz.ntmps46 rfl ?_
  refine .go 4 rfl ?_
  refine .z (.fieldAddr fl95_4 rfl) ?_
  have f1 := hS1.bk (i := 0) rfl
  refine .z (.l1 ti62 f1) ?_
  obtain ⟨Fy1, hAy1, hFy1, hky1⟩ := hS1.act (i := 2) rfl
  refine .ac (.callF cl92 rfl (dborn_c (w0 := w0) (by omega) hAy1 (fun b hb => (hFy1 b hb).2)) ?_)
  rintro _ w1 ⟨rfl, hm1, F1, hA1, hF1⟩
  have hS2 : St (fun _ => False) F w0 w1 [bkR bw [.int .i64 wid, .int .i64 ep0, .bool up0, kv, ptr bd 0, X, Y] 95, accR Ik.encI 3 1 kv ks, dkK 164 123 5 bd ((life + 1)) K] := hky1 _ _ _ hm1 hA1 hF1
  clear hky1 hA1
  refine .go 6 rfl ?_
  refine .ac (.callF cl93 rfl (qnew_c (w0 := w1)) ?_)
  rintro _ w2 ⟨qb1, F2, rfl, hm2, hA2, hF2⟩
  have hS4 : St (fun _ => False) F w0 w2 [bkR bw [.int .i64 wid, .int .i64 ep0, .bool up0, kv, ptr bd 0, X, Y] 95, accR Ik.encI 3 1 kv ks, dkK 164 123 5 bd ((life + 1)) K, qR 176 172 qb1 []] := hS2.new hm2 hA2 (fun b hb => ⟨(hF2 b hb).2, (hF2 b hb).1⟩)
  refine .go 1 rfl ?_
  refine .z (.fieldAddr fl95_2 rfl) ?_
  have f2 := hS4.bk (i := 0) rfl
  refine .ac (.store ti4 rfl rfl rfl rfl rfl f2 (Nat.le_of_ble_eq_true rfl) fun w3 hm3 hz1 hk1 => ?_)
  have hS5 := (hS4.bkK (cs' := [.int .i64 wid, .int .i64 ep0, .bool true, kv, ptr bd 0, X, Y]) (i := 0) rfl hm3 hk1).n4
  refine .go 1 rfl ?_
  refine .z (.fieldAddr fl95_1 rfl) ?_
  have f3 := hS5.bk (i := 0) rfl
  refine .ac (.store ti3 rfl rfl rfl rfl rfl f3 (Nat.le_of_ble_eq_true rfl) fun w4 hm4 hz2 hk2 => ?_)
  have hS6 := (hS5.bkK (cs' := [.int .i64 wid, .int .i64 0, .bool true, kv, ptr bd 0, X, Y]) (i := 0) rfl hm4 hk2).n4
  refine .go 1 rfl ?_
  refine .z (.fieldAddr fl95_6 rfl) ?_
  have f4 := hS6.bk (i := 0) rfl
  refine .ac (.store ti93 rfl rfl rfl rfl rfl f4 (Nat.le_of_ble_eq_true rfl) fun w5 hm5 hz3 hk3 => ?_)
  have hS7 := (hS6.bkK (cs' := [.int .i64 wid, .int .i64 0, .bool true, kv, ptr bd 0, X, ptr qb1 0]) (i := 0) rfl hm5 hk3).n4
  refine .go 4 rfl ?_
  refine .ac (.makeMapS (key := intV) (val := shV) fun w6 b1 hm6 hb1 hz4 hk4 => ?_)
  have hS9 := (hS7.newMp hm6 hb1 hk4).n5
  have hS10 : St (fun _ => False) F w0 w6 [bkR bw [.int .i64 wid, .int .i64 0, .bool true, kv, ptr bd 0, X, ptr qb1 0] 95, accR Ik.encI 3 1 kv ks, dkK 164 123 5 bd ((life + 1)) K, qR 176 172 qb1 [], mpR intV shV b1 [], grsR [] []] := hS9.new (Mod.refl _ _) (F := fun _ => False) (A := grsR [] []) (All2.nil) (fun _ h => h.elim)
  refine .go 1 rfl ?_
  refine .z (.fieldAddr fl95_5 rfl) ?_
  have f5 := hS10.bk (i := 0) rfl
  refine .ac (.store ti92 rfl rfl rfl rfl rfl f5 (Nat.le_of_ble_eq_true rfl) fun w7 hm7 hz5 hk5 => ?_)
  have hS11 := (hS10.bkK (cs' := [.int .i64 wid, .int .i64 0, .bool true, kv, ptr bd 0, .map (some b1), ptr qb1 0]) (i := 0) rfl hm7 hk5).n6
  refine .go 5 rfl ?_
  refine .z (.fieldAddr fl95_3 rfl) ?_
  have f6 := hS11.bk (i := 0) rfl
  refine .z (.l1 ti57 f6) ?_
  obtain ⟨g1, f7, hl1, k1⟩ := hS11.accK (i := 1) rfl
  refine .z (.lenSl Tryz.underlying57 (f7.sl) rfl) ?_
  have hS13 := (hS11.sel [1, 4, 0, 5, 2, 3] (by rfl) (by decide)).n6
  refine .gi 3 rfl ?_
  refine r_loop (I := fun m E W => ∃ (i : Nat) (vs : List Value), E = [(0, ptr bw 0), (30, kv), (31, .int .i64 (((ks.length : Nat) : Int))), (32, .int .i64 (((i : Nat) : Int)))] ∧ m = ks.length - i ∧ St (fun _ => False) F w0 W [accR Ik.encI 3 1 kv ks, mpR intV shV b1 ((shM (ks.take i) vs K)), bkR bw [.int .i64 wid, .int .i64 0, .bool true, kv, ptr bd 0, .map (some b1), ptr qb1 0] 95, grsR vs ((ks.take i).map (shN K)), dkK 164 123 5 bd ((life + 1)) K, qR 176 172 qb1 []] ∧ (vs.length = i) ∧ (i ≤ ks.length)) ?_ ?_
  · refine ⟨_, _, ⟨(0 : Nat), ([] : List Value), rfl, rfl, hS13, (by rfl), (by omega)⟩, ⟨rfl, rfl, rfl, rfl, trivial⟩⟩
  · rintro _ _ w8 ⟨i, vs, rfl, rfl, hS12, hvl, hil⟩ ih1
    refine .go 2 rfl ?_
    refine .zb (.lt rfl rfl) fun b2 hb2 => ?_
    refine .gi 2 rfl ?_
    cases b2
    case true =>
      replace hb2 := dt hb2
      obtain ⟨g2, f8, hl2, k2⟩ := hS12.accK (i := 0) rfl
      obtain ⟨x1, b3, o1, hx1, hr1, hl3, hw1⟩ := Sl.atF (P := Tryz.prog) f8.sl Tryz.underlying57 ti3 Ik.encI_len (k := .i64) (n := ((i : Nat) : Int)) (i) (by omega) ao
      refine .go 6 rfl ?_
      refine .z (.indexAddr rfl rfl hr1) ?_
      refine .z (.lr ti3 hw1) ?_
      have hx1i := hki _ (List.mem_of_getElem? hx1)
      refine .go 6 rfl ?_
      refine .z (.fieldAddr fl95_4 rfl) ?_
      have f9 := hS12.bk (i := 2) rfl
      refine .z (.l1 ti62 f9) ?_
      obtain ⟨Fy2, hAy2, hFy2, hky2⟩ := hS12.act (i := 4) rfl
      refine .go 1 rfl ?_
      refine .ac (.callF cl94 rfl (dread_c (w0 := w8) (x1) (by first | assumption | (unfold I64; omega) | (unfold I64; decide)) hAy2 (fun b hb => (hFy2 b hb).2) hK) ?_)
      rintro _ w9 ⟨v1, rfl, ⟨g3, ha1, hg1⟩, hm8⟩
      have hS15 := (hS12.newAcc hm8 ha1 hg1).n7
      clear hg1
      have hle_1 := ha1.le
      obtain ⟨g4, f10, hl4, k3⟩ := hS15.accK (i := 6) rfl
      refine .go 9 rfl ?_
      refine .ac (.callF cl95 rfl (decode_c (w0 := w9) (b := (dkRead K x1)) (f10.sl.iv (Nat.zero_le _) f10.lt) (dkRead_len hK _)) ?_)
      rintro _ w10 ⟨vg1, _, rfl, ⟨lo1, hi1, hgr1, hlo1, hhi1⟩, rfl, hm9⟩
      obtain ⟨pa1, rfl, hpa1⟩ := hgr1.isP
      have hS17 : St (fun _ => False) F w0 w10 [accR Ik.encI 3 1 kv ks, mpR intV shV b1 ((shM (ks.take i) vs K)), bkR bw [.int .i64 wid, .int .i64 0, .bool true, kv, ptr bd 0, .map (some b1), ptr qb1 0] 95, grsR vs ((ks.take i).map (shN K)), dkK 164 123 5 bd ((life + 1)) K, qR 176 172 qb1 [], accR encB 5 1 v1 ((dkRead K x1)), grR (.pointer pa1) (shN K x1)] := hS15.newGr hm9 hgr1 hlo1 hhi1
      refine .go 9 rfl ?_
      refine .z (.fieldAddr fl95_5 rfl) ?_
      have f11 := hS17.bk (i := 2) rfl
      refine .z (.l1 ti92 f11) ?_
      refine .go 3 rfl ?_
      refine .z (.build (vs := #[(0, (.pointer pa1)), (1, (.int .i64 ((shE K x1)) : Value))]) (v := .agg #[(.pointer pa1), .int .i64 (shE K x1)]) rfl (fun _ => by kernel_rfl)) ?_
      have f12 := hS17.mp (i := 1) rfl
      refine .ac (.mapSet (x1 : Int) (((.pointer pa1), shE K x1) : Value × Int) (keyS_int Tryz.underlying3) Tryz.underlying92 rfl rfl rfl f12 fun w11 hm10 hz6 hk6 => ?_)
      rw [shM_snoc hvl hx1 hks] at hk6
      have hS18 := (hS17.mpK (i := 1) rfl hm10 hk6).n8
      have hS19 := (hS18.b2 [0, 1, 2, 4, 5, 6] 3 7 (by rfl) (by decide)).n7
      have hS20 := (hS19.ty (grsR (vs ++ [(.pointer pa1)]) ((ks.take (i + 1)).map (shN K))) 6 rfl (fun F_ h_ => (by rw [List.take_add_one, hx1, List.map_append]; exact grs_app h_))).n7
      refine .go 3 rfl ?_
      refine .z (.addI (((i + 1 : Nat) : Int)) rfl rfl (by omega)) ?_
      have hS21 := (hS20.sel [0, 1, 2, 6, 3, 4] (by rfl) (by decide)).n6
      refine .gi 2 rfl ?_
      exact (ih1 _ _ _ ⟨(i + 1 : Nat), (vs ++ [(.pointer pa1)] : List Value), rfl, rfl, hS21, (by first | (simp only [List.length_append, List.length_cons, List.length_nil]; omega) | (exfalso; omega)), (by first | omega | (exfalso; omega))⟩ (by omega)).sub ⟨rfl, rfl, rfl, rfl, trivial⟩
    replace hb2 := df hb2
    refine .gi 2 rfl ?_
    refine r_end0 Tryz.func46 rfl ?_
    have hie : ks.take i = ks := List.take_of_length_le (by omega)
    have hS14 := (hS12.ty (grsR vs (ks.map (shN K))) 3 rfl (fun F_ h_ => (by rw [hie] at h_; exact h_))).n6
    have hS15 := (hS14.ty (mpR intV shV b1 ((shM ks vs K))) 1 rfl (fun F_ h_ => (by rw [hie] at h_; exact h_))).n6
    have hS16 := (hS15.b6 [] 2 0 4 1 3 5 (by rfl) (by decide)).n1
    have hS17 := (hS16.wkI (s := ⟨0, true, life + 1, K, K, []⟩) 0 rfl).n1
    exact hS17.rt 0 rfl rfl
set_option maxRecDepth 20000 in
set_option maxHeartbeats 4000000 in
theorem wup_c {w0 : World} {bw : Nat} {c0 c1 c3 c4 c5 c6 : Value} {up : Bool} (hb : Bk w0 bw [c0, c1, .bool up, c3, c4, c5, c6] 95) :
    Calls Tryz.prog 32 #[ptr bw 0] w0 (Ret fun rv w1 => rv = .bool up ∧ Ext w0 w1) := by
  have hS0 := St.start0 w0
  refine calls_enter Tryz.func32 rfl Tryz.ntmps32 rfl ?_
  refine .go 7 rfl ?_
  refine .z (.neNil Tryz.underlying27 rfl rfl) ?_
  refine .go 3 rfl ?_
  refine .z (.fieldAddr fl95_2 rfl) ?_
  have hr1 := hb.row.sub 2 1 (Nat.le_of_ble_eq_true rfl)
  refine .z (.lr ti4 hr1) ?_
  refine .gi 3 rfl ?_
  refine r_ret1 Tryz.func32 rfl rfl ?_
  exact Ret.mk ⟨rfl, hS0.mod⟩
set_option maxRecDepth 20000 in
set_option maxHeartbeats 4000000 in
theorem wdisk_c {w0 : World} {bw bd : Nat} {c0 c1 c2 c3 c5 c6 : Value} (hb : Bk w0 bw [c0, c1, c2, c3, ptr bd 0, c5, c6] 95) :
    Calls Tryz.prog 26 #[ptr bw 0] w0 (Ret fun rv w1 => rv = ptr bd 0 ∧ Ext w0 w1) := by
  have hS0 := St.start0 w0
  refine calls_enter Tryz.func26 rfl Tryz.ntmps26 rfl ?_
  refine .go 8 rfl ?_
  refine .z (.eqNil Tryz.underlying27 rfl rfl) ?_
  refine .go 7 rfl ?_
  refine .z (.fieldAddr fl95_4 rfl) ?_
  have hr1 := hb.row.sub 4 1 (Nat.le_of_ble_eq_true rfl)
  refine .z (.lr ti62 hr1) ?_
  refine .gi 2 rfl ?_
  refine r_ret1 Tryz.func26 rfl rfl ?_
  exact Ret.mk ⟨rfl, hS0.mod⟩
set_option maxRecDepth 20000 in
set_option maxHeartbeats 4000000 in
theorem wlife_c {w0 : World} {F : Nat → Prop} {bw bd : Nat} {c0 c1 c2 c3 c5 c6 : Value} {life : Int} {K : List DE} (hb : Bk w0 bw [c0, c1, c2, c3, ptr bd 0, c5, c6] 95) (hd : (dkK (R := fun _ => False) 164 123 5 bd life K).p F w0) :
    Calls Tryz.prog 21 #[ptr bw 0] w0 (Ret fun rv w1 => rv = .int .i64 life ∧ Ext w0 w1) := by
  have hS0 := St.start0 w0
  refine calls_enter Tryz.func21 rfl Tryz.ntmps21 rfl ?_
  refine .go 7 rfl ?_
  refine .ac (.callF cl26 rfl (wdisk_c (w0 := w0) (hb.ext hS0.mod)) ?_)
  rintro _ w1 ⟨rfl, hm1⟩
  have hS1 := hS0.ext hm1
  refine .ac (.callF cl52 rfl (dlife_c (w0 := w1) ((dkK (R := fun _ => False) 164 123 5 bd life K).keep hd hS1.mod (fun _ _ h => h) (fun _ h => h.elim))) ?_)
  rintro _ w2 ⟨rfl, hm2⟩
  have hS2 := hS1.ext hm2
  refine .gi 2 rfl ?_
  refine r_ret1 Tryz.func21 rfl rfl ?_
  exact Ret.mk ⟨rfl, hS2.mod⟩
set_option maxRecDepth 20000 in
set_option maxHeartbeats 4000000 in
theorem wwait_c {w0 : World} {F : Nat → Prop} {bw : Nat} {wid : Int} {ks : List Int} {ep life : Int} {up : Bool} {K B : List DE} {q : List AskM} {n : Nat} (hA : (wkR (R := fun _ => False) 3 95 164 123 5 176 172 bw wid ks (⟨ep, up, life, K, B, q⟩)).p F w0) (hF : ∀ b, F b → b < w0.heap.size) (hks : KsOk ks) (hok : WOk ks n (⟨ep, up, life, K, B, q⟩ : WSt)) (hn : n ≤ 100000) :
    Calls Tryz.prog 15 #[ptr bw 0] w0 (Ret fun rv w1 => (∃ g, Acc encAsk 35 11 w1 g rv (waitW ⟨ep, up, life, K, B, q⟩) ∧ (g = 0 ∨ w0.heap.size < g)) ∧ Ext w0 w1) := by
  have hS0 := St.start0 w0
  obtain ⟨kv, bd, mb, vs, qb, hb, ⟨Fd, hd, hd1⟩, hmp, ⟨Fg, hgs, hgs1⟩, Fq, hq, hq1⟩ := wk_in hA
  have hvl : vs.length = ks.length := (grs_len hgs).trans (List.length_map ..)
  dsimp only at hb hd hmp hgs hq
  refine calls_enter Tryz.func15 rfl Tryz.ntmps15 rfl ?_
  refine .go 8 rfl ?_
  refine .ac (.callF cl32 rfl (wup_c (w0 := w0) (hb.ext hS0.mod)) ?_)
  rintro _ w1 ⟨rfl, hm1⟩
  have hS1 := hS0.ext hm1
  cases up
  case true =>
    refine .z (.not rfl) ?_
    refine .go 7 rfl ?_
    refine .z (.fieldAddr fl95_6 rfl) ?_
    have f1 := hb.row.keep hS1.mod (fun h => h)
    have hr1 := f1.sub 6 1 (Nat.le_of_ble_eq_true rfl)
    refine .z (.lr ti93 hr1) ?_
    refine .ac (.callF cl49 rfl (qall_c (w0 := w1) ((qR (R := fun _ => False) 176 172 qb q).keep hq hS1.mod (fun _ _ h => h) (fun _ h => h.elim)) (fun b hb => Nat.lt_of_lt_of_le (hF b (hq1 b hb)) hS1.mod.size) (Nat.le_trans hok.ql hn)) ?_)
    rintro v1 w2 ⟨⟨gr1, ha1, hg1⟩, hm2⟩
    have hS3 := (hS1.newAcc hm2 ha1 hg1).n1
    clear hg1
    refine .gi 2 rfl ?_
    refine r_ret1 Tryz.func15 rfl rfl ?_
    obtain ⟨ga, haq, hgq⟩ := hS3.accOut (i := 0) rfl
    exact Ret.mk ⟨⟨ga, haq, hgq⟩, hS3.mod⟩
  refine .z (.not rfl) ?_
  refine .gi 6 rfl ?_
  refine r_ret1 Tryz.func15 rfl rfl ?_
  exact Ret.mk ⟨⟨0, Acc.nil, .inl rfl⟩, hS1.mod⟩
end Go.Proofs
namespace Go.Proofs
open Go.Ik Go.Ml
set_option maxRecDepth 20000 in
set_option maxHeartbeats 4000000 in
theorem mmay_a {w0 : World} {m : AskM} (hm : m.Ok) (hmt : m.text.length ≤ 1000000) (hma : m.after.word.length ≤ 1000000) :
    Calls Tryz.prog 41 #[.iface 35 (.agg #[.int .i64 m.slot, .int .i64 m.query, .int .i64 m.shard, .int .i64 m.seq, .int .i64 m.epoch, strV m.text, .int .i64 m.k, .int .i64 m.batch, .bool m.first, .int .i64 m.after.dist, strV m.after.word])] w0 (Ret fun rv w1 => (∃ rb : Bool, rb = mayAsk m ∧ rv = .bool rb) ∧ Ext w0 w1) := by
  have hS0 := St.start0 w0
  refine calls_enter Tryz.func41 rfl Tryz.ntmps41 rfl ?_
  refine .go 12 rfl ?_
  refine .z (.asNo nif46 rfl (by decide) Tryz.zeroValue46) ?_
  refine .go 6 rfl ?_
  refine .z (.asNo nif38 rfl (by decide) Tryz.zeroValue38) ?_
  refine .go 6 rfl ?_
  refine .z (.asYes nif35 rfl) ?_
  refine .go 6 rfl ?_
  refine .ac (.alloc ti35 fun w1 b1 hm1 hb1 hz1 hk1 => ?_)
  have hS2 := (hS0.newBk hm1 hb1 hk1).n1
  have f1 := hS2.bk (i := 0) rfl
  refine .ac (.store ti35 rfl rfl rfl rfl rfl f1 (Nat.le_of_ble_eq_true rfl) fun w2 hm2 hz2 hk2 => ?_)
  have hS3 := (hS2.bkK (cs' := (encAsk m)) (i := 0) rfl hm2 hk2).n1
  have f2 := hS3.bk (i := 0) rfl
  refine .go 3 rfl ?_
  refine .z (.loadN ti35 rfl (fun _ e => e ▸ f2.row) rfl) ?_
  refine .ac (.callF cl83 rfl (mask_c (w0 := w2) (m := m)  (by first | assumption | assumption) ao ao) ?_)
  rintro _ w3 ⟨⟨b2, hb2, rfl⟩, hm3⟩
  have hS4 := hS3.ext hm3
  refine .gi 2 rfl ?_
  refine r_ret1 Tryz.func41 rfl rfl ?_
  exact Ret.mk ⟨⟨_, (by assumption), rfl⟩, hS4.mod⟩
theorem q_wtake_g_1 {p : Prop} (h : p := by first | exact takeG_1 (by assumption) | exact takeG_2 (by assumption) | exact takeG_3 (by assumption)) : p := h
theorem q_wtake_g_2 {p : Prop} (h : p := by assumption) : p := h
set_option maxRecDepth 20000 in
set_option maxHeartbeats 8000000 in
theorem wtake_g {w0 : World} {F : Nat → Prop} {bw : Nat} {wid : Int} {ks : List Int} {ep life : Int} {up : Bool} {K B : List DE} {q : List AskM} {n : Nat} {ga gb gc : Int} (hA : (wkR (R := fun _ => False) 3 95 164 123 5 176 172 bw wid ks (⟨ep, up, life, K, B, q⟩)).p F w0) (hF : ∀ b, F b → b < w0.heap.size) (hks : KsOk ks) (hok : WOk ks n (⟨ep, up, life, K, B, q⟩ : WSt)) (hn : n ≤ 100000) (hm : I64 ga ∧ I64 gb ∧ I64 gc) :
    Calls Tryz.prog 14 #[ptr bw 0, .iface 38 (.agg #[.int .i64 ga, .int .i64 gb, .int .i64 gc])] w0 (Ret fun rv w1 => rv = .tuple #[] ∧ Mod F w0 w1 ∧ ∃ F2, (wkR (R := fun _ => False) 3 95 164 123 5 176 172 bw wid ks ((takeW wid ks ⟨ep, up, life, K, B, q⟩ (.grant ga gb gc)))).p F2 w1 ∧ ∀ b, F2 b → b < w1.heap.size ∧ (F b ∨ w0.heap.size ≤ b)) := by
  have hoq := hok.ql
  have hol := hok.life
  have hoe := hok.ep
  dsimp only at hoq hol hoe
  obtain ⟨hma, hmb, hmc⟩ := hm
  have hS00 := St.start1 (R := fun _ => False) hA (fun b hb => ⟨hF b hb, id⟩) (fun _ h => h.elim)
  obtain ⟨⟨kv1, bd1, mb1, vs1, qb1⟩, hS1⟩ := hS00.exo (i := 0) rfl
  change St (fun _ => False) F w0 w0 [boxR [bkR bw [.int .i64 wid, .int .i64 ep, .bool up, kv1, ptr bd1 0, .map (some mb1), ptr qb1 0] 95, accR Ik.encI 3 1 kv1 ks, dkK 164 123 5 bd1 life K, mpR intV shV mb1 (shM ks vs1 B), grsR vs1 (ks.map (shN B)), qR 176 172 qb1 q]] at hS1
  have hS2 := (hS1.un 0 rfl [] (by rfl) (by decide)).n6
  have hle1 := (hS2.accK (i := 1) rfl).choose_spec.1.le
  refine calls_enter Tryz.func14 rfl Tryz.ntmps14 rfl ?_
  have f1 := hS2.bk (i := 0) rfl
  refine .go 4 rfl ?_
  refine .ac (.callF cl32 rfl (wup_c (w0 := w0) f1) ?_)
  rintro _ w1 ⟨rfl, hm1⟩
  have hS3 := hS2.ext hm1
  cases up
  case true =>
    refine .z (.not rfl) ?_
    refine .go 7 rfl ?_
    refine .z (.asYes nif38 rfl) ?_
    refine .go 3 rfl ?_
    refine .ac (.alloc ti38 fun w2 b1 hm2 hb1 hz1 hk1 => ?_)
    have hS5 := (hS3.newBk hm2 hb1 hk1).n7
    have f2 := hS5.bk (i := 6) rfl
    refine .ac (.store ti38 rfl rfl rfl rfl rfl f2 (Nat.le_of_ble_eq_true rfl) fun w3 hm3 hz2 hk2 => ?_)
    have hS6 := (hS5.bkK (cs' := [.int .i64 ga, .int .i64 gb, .int .i64 gc]) (i := 6) rfl hm3 hk2).n7
    refine .gi 3 rfl ?_
    refine r_draw1 (fun i => Nat.beq i 14) 26 (fun w' => Mod (Mg 0) w3 w') mixed (by kernel_rfl) fun w4 hm4 => ?_
    have hS7 := hS6.ext hm4
    have hCw4 : Mod (Mg 0) w3 w4 := Mod.ofExt hm4
    refine ⟨hCw4, ?_⟩
    rw [show List.range' 0 (Array.size _) = [0, 1, 2, 3, 4, 5, 6, 7, 8, 9, 10, 11, 12, 13, 14, 15, 16, 17, 18, 19, 20, 21, 22, 23, 24, 25] from rfl]
    refine .gd 2 rfl ?_
    refine .z rfl (.fieldAddr fl38_0 rfl) ?_
    have f3 := hS6.bk (i := 6) rfl
    refine .z rfl (.load1 ti3 rfl (fun _ hc => (f3.cell 0 _ rfl).keepG hc (Nat.succ_ne_zero _))) ?_
    refine .gd 2 rfl ?_
    refine .z rfl (.fieldAddr fl95_0 rfl) ?_
    have f4 := hS6.bk (i := 0) rfl
    refine .z rfl (.load1 ti3 rfl (fun _ hc => (f4.cell 0 _ rfl).keepG hc (Nat.succ_ne_zero _))) ?_
    refine .zb rfl (.eq rfl rfl) fun b2 hb2 => ?_
    refine .gd 2 rfl ?_
    cases b2
    case true =>
      replace hb2 := eq_of_beq hb2.symm
      refine .z rfl (.fieldAddr fl38_1 rfl) ?_
      refine .z rfl (.load1 ti3 rfl (fun _ hc => (f3.cell 1 _ rfl).keepG hc (Nat.succ_ne_zero _))) ?_
      have f5 := hS7.bk (i := 0) rfl
      obtain ⟨Fd1, hd1, hFd1, hkd1⟩ := hS7.act (i := 2) rfl
      refine .gd 1 rfl ?_
      refine .ac rfl (.callF cl21 rfl (wlife_c (w0 := w4) f5 hd1) ?_)
      rintro _ w5 ⟨rfl, hm5⟩
      have hS8 := hS7.ext hm5
      have hCw5 := hCw4.ext hm5
      refine ⟨.inr hCw5, ?_⟩
      refine .zb rfl (.eq rfl rfl) fun b3 hb3 => ?_
      refine .gd 2 rfl ?_
      cases b3
      case true =>
        replace hb3 := eq_of_beq hb3.symm
        refine .z rfl (.fieldAddr fl38_2 rfl) ?_
        have f6 := hS6.bk (i := 6) rfl
        refine .z rfl (.load1 ti3 rfl (fun _ hc => (f6.cell 2 _ rfl).keepG hc (Nat.succ_ne_zero _))) ?_
        refine .gd 2 rfl ?_
        refine .z rfl (.fieldAddr fl95_1 rfl) ?_
        have f7 := hS6.bk (i := 0) rfl
        refine .z rfl (.load1 ti3 rfl (fun _ hc => (f7.cell 1 _ rfl).keepG hc (Nat.succ_ne_zero _))) ?_
        refine .zb rfl (.gt rfl rfl) fun b4 hb4 => ?_
        refine .gd 1 rfl ?_
        refine .nil ?_
        cases b4
        case true =>
          replace hb4 := dt hb4
          refine .go 3 rfl ?_
          refine .z (.fieldAddr fl38_2 rfl) ?_
          have f8 := hS8.bk (i := 6) rfl
          refine .z (.l1 ti3 f8) ?_
          refine .go 1 rfl ?_
          refine .z (.fieldAddr fl95_1 rfl) ?_
          have f9 := hS8.bk (i := 0) rfl
          refine .ac (.store ti3 rfl rfl rfl rfl rfl f9 (Nat.le_of_ble_eq_true rfl) fun w6 hm6 hz3 hk3 => ?_)
          have hS9 := (hS8.bkK (cs' := [.int .i64 wid, .int .i64 gc, .bool true, kv1, ptr bd1 0, .map (some mb1), ptr qb1 0]) (i := 0) rfl hm6 hk3).n7
          refine .go 5 rfl ?_
          refine .z (.asNo nif35 rfl (by decide) Tryz.zeroValue35) ?_
          refine .go 3 rfl ?_
          refine .ac (.alloc ti35 fun w7 b5 hm7 hb5 hz4 hk4 => ?_)
          have hS11 := (hS9.newBk hm7 hb5 hk4).n8
          have f10 := hS11.bk (i := 7) rfl
          refine .ac (.store ti35 rfl rfl rfl rfl rfl f10 (Nat.le_of_ble_eq_true rfl) fun w8 hm8 hz5 hk5 => ?_)
          have hS12 := (hS11.bkK (cs' := [.int .i64 0, .int .i64 0, .int .i64 0, .int .i64 0, .int .i64 0, strV [], .int .i64 0, .int .i64 0, .bool false, .int .i64 0, strV []]) (i := 7) rfl hm8 hk5).n8
          refine .gi 3 rfl ?_
          refine r_draw1 (fun i => Nat.beq i 4) 31 (fun w' => Mod (Mg 0) w8 w') mixed (by kernel_rfl) fun w9 hm9 => ?_
          have hS13 := hS12.ext hm9
          have hCw9 : Mod (Mg 0) w8 w9 := Mod.ofExt hm9
          refine ⟨hCw9, ?_⟩
          rw [show List.range' 0 (Array.size _) = [0, 1, 2, 3, 4, 5, 6, 7, 8, 9, 10, 11, 12, 13, 14, 15, 16, 17, 18, 19, 20, 21, 22, 23, 24, 25, 26, 27, 28, 29, 30] from rfl]
          refine .gd 31 rfl ?_
          refine .nil ?_
          refine .go 5 rfl ?_
          refine .z (.asNo nif104 rfl (by decide) Tryz.zeroValue104) ?_
          refine .go 3 rfl ?_
          refine .ac (.alloc ti104 fun w10 b6 hm10 hb6 hz6 hk6 => ?_)
          have hS15 := (hS13.newBk hm10 hb6 hk6).n9
          have f11 := hS15.bk (i := 8) rfl
          refine .ac (.store ti104 rfl rfl rfl rfl rfl f11 (Nat.le_of_ble_eq_true rfl) fun w11 hm11 hz7 hk7 => ?_)
          have hS16 := (hS15.bkK (cs' := [.int .i64 0, .int .i64 0]) (i := 8) rfl hm11 hk7).n9
          refine .gi 8 rfl ?_
          refine r_end0 Tryz.func14 rfl ?_
          have hS17 := (hS16.b6 [6, 7, 8] 0 1 2 3 4 5 (by rfl) (by decide)).n4
          have hS18 := (hS17.wkI (s := ⟨gc, true, life, K, B, q⟩) 3 rfl).n4
          rw [takeW_g1 (ep := ep) (life := life) (K := K) (B := B) (q := q) (id := wid) (a := ga) (b := gb) (c := gc) (takeG_4 q_wtake_g_2 q_wtake_g_2 q_wtake_g_2)]
          exact hS18.rt 3 rfl rfl
        replace hb4 := df hb4
        refine .go 6 rfl ?_
        refine .z (.asNo nif35 rfl (by decide) Tryz.zeroValue35) ?_
        refine .go 3 rfl ?_
        refine .ac (.alloc ti35 fun w6 b5 hm6 hb5 hz3 hk3 => ?_)
        have hS10 := (hS8.newBk hm6 hb5 hk3).n8
        have f8 := hS10.bk (i := 7) rfl
        refine .ac (.store ti35 rfl rfl rfl rfl rfl f8 (Nat.le_of_ble_eq_true rfl) fun w7 hm7 hz4 hk4 => ?_)
        have hS11 := (hS10.bkK (cs' := [.int .i64 0, .int .i64 0, .int .i64 0, .int .i64 0, .int .i64 0, strV [], .int .i64 0, .int .i64 0, .bool false, .int .i64 0, strV []]) (i := 7) rfl hm7 hk4).n8
        refine .gi 3 rfl ?_
        refine r_draw1 (fun i => Nat.beq i 4) 31 (fun w' => Mod (Mg 0) w7 w') mixed (by kernel_rfl) fun w8 hm8 => ?_
        have hS12 := hS11.ext hm8
        have hCw8 : Mod (Mg 0) w7 w8 := Mod.ofExt hm8
        refine ⟨hCw8, ?_⟩
        rw [show List.range' 0 (Array.size _) = [0, 1, 2, 3, 4, 5, 6, 7, 8, 9, 10, 11, 12, 13, 14, 15, 16, 17, 18, 19, 20, 21, 22, 23, 24, 25, 26, 27, 28, 29, 30] from rfl]
        refine .gd 31 rfl ?_
        refine .nil ?_
        refine .go 5 rfl ?_
        refine .z (.asNo nif104 rfl (by decide) Tryz.zeroValue104) ?_
        refine .go 3 rfl ?_
        refine .ac (.alloc ti104 fun w9 b6 hm9 hb6 hz5 hk5 => ?_)
        have hS14 := (hS12.newBk hm9 hb6 hk5).n9
        have f9 := hS14.bk (i := 8) rfl
        refine .ac (.store ti104 rfl rfl rfl rfl rfl f9 (Nat.le_of_ble_eq_true rfl) fun w10 hm10 hz6 hk6 => ?_)
        have hS15 := (hS14.bkK (cs' := [.int .i64 0, .int .i64 0]) (i := 8) rfl hm10 hk6).n9
        refine .gi 8 rfl ?_
        refine r_end0 Tryz.func14 rfl ?_
        have hS16 := (hS15.b6 [6, 7, 8] 0 1 2 3 4 5 (by rfl) (by decide)).n4
        have hS17 := (hS16.wkI (s := ⟨ep, true, life, K, B, q⟩) 3 rfl).n4
        rw [takeW_g0 (ep := ep) (life := life) (K := K) (B := B) (q := q) (id := wid) (a := ga) (b := gb) (c := gc) q_wtake_g_1]
        exact hS17.rt 3 rfl rfl
      replace hb3 := ne_of_beq_false hb3.symm
      refine .gd 8 rfl ?_
      refine .nil ?_
      refine .go 6 rfl ?_
      refine .z (.asNo nif35 rfl (by decide) Tryz.zeroValue35) ?_
      refine .go 3 rfl ?_
      refine .ac (.alloc ti35 fun w6 b4 hm6 hb4 hz3 hk3 => ?_)
      have hS10 := (hS8.newBk hm6 hb4 hk3).n8
      have f6 := hS10.bk (i := 7) rfl
      refine .ac (.store ti35 rfl rfl rfl rfl rfl f6 (Nat.le_of_ble_eq_true rfl) fun w7 hm7 hz4 hk4 => ?_)
      have hS11 := (hS10.bkK (cs' := [.int .i64 0, .int .i64 0, .int .i64 0, .int .i64 0, .int .i64 0, strV [], .int .i64 0, .int .i64 0, .bool false, .int .i64 0, strV []]) (i := 7) rfl hm7 hk4).n8
      refine .gi 3 rfl ?_
      refine r_draw1 (fun i => Nat.beq i 4) 31 (fun w' => Mod (Mg 0) w7 w') mixed (by kernel_rfl) fun w8 hm8 => ?_
      have hS12 := hS11.ext hm8
      have hCw8 : Mod (Mg 0) w7 w8 := Mod.ofExt hm8
      refine ⟨hCw8, ?_⟩
      rw [show List.range' 0 (Array.size _) = [0, 1, 2, 3, 4, 5, 6, 7, 8, 9, 10, 11, 12, 13, 14, 15, 16, 17, 18, 19, 20, 21, 22, 23, 24, 25, 26, 27, 28, 29, 30] from rfl]
      refine .gd 31 rfl ?_
      refine .nil ?_
      refine .go 5 rfl ?_
      refine .z (.asNo nif104 rfl (by decide) Tryz.zeroValue104) ?_
      refine .go 3 rfl ?_
      refine .ac (.alloc ti104 fun w9 b5 hm9 hb5 hz5 hk5 => ?_)
      have hS14 := (hS12.newBk hm9 hb5 hk5).n9
      have f7 := hS14.bk (i := 8) rfl
      refine .ac (.store ti104 rfl rfl rfl rfl rfl f7 (Nat.le_of_ble_eq_true rfl) fun w10 hm10 hz6 hk6 => ?_)
      have hS15 := (hS14.bkK (cs' := [.int .i64 0, .int .i64 0]) (i := 8) rfl hm10 hk6).n9
      refine .gi 8 rfl ?_
      refine r_end0 Tryz.func14 rfl ?_
      have hS16 := (hS15.b6 [6, 7, 8] 0 1 2 3 4 5 (by rfl) (by decide)).n4
      have hS17 := (hS16.wkI (s := ⟨ep, true, life, K, B, q⟩) 3 rfl).n4
      rw [takeW_g0 (ep := ep) (life := life) (K := K) (B := B) (q := q) (id := wid) (a := ga) (b := gb) (c := gc) q_wtake_g_1]
      exact hS17.rt 3 rfl rfl
    replace hb2 := ne_of_beq_false hb2.symm
    refine .gd 15 rfl ?_
    refine .nil ?_
    refine .go 6 rfl ?_
    refine .z (.asNo nif35 rfl (by decide) Tryz.zeroValue35) ?_
    refine .go 3 rfl ?_
    refine .ac (.alloc ti35 fun w5 b3 hm5 hb3 hz3 hk3 => ?_)
    have hS9 := (hS7.newBk hm5 hb3 hk3).n8
    have f5 := hS9.bk (i := 7) rfl
    refine .ac (.store ti35 rfl rfl rfl rfl rfl f5 (Nat.le_of_ble_eq_true rfl) fun w6 hm6 hz4 hk4 => ?_)
    have hS10 := (hS9.bkK (cs' := [.int .i64 0, .int .i64 0, .int .i64 0, .int .i64 0, .int .i64 0, strV [], .int .i64 0, .int .i64 0, .bool false, .int .i64 0, strV []]) (i := 7) rfl hm6 hk4).n8
    refine .gi 3 rfl ?_
    refine r_draw1 (fun i => Nat.beq i 4) 31 (fun w' => Mod (Mg 0) w6 w') mixed (by kernel_rfl) fun w7 hm7 => ?_
    have hS11 := hS10.ext hm7
    have hCw7 : Mod (Mg 0) w6 w7 := Mod.ofExt hm7
    refine ⟨hCw7, ?_⟩
    rw [show List.range' 0 (Array.size _) = [0, 1, 2, 3, 4, 5, 6, 7, 8, 9, 10, 11, 12, 13, 14, 15, 16, 17, 18, 19, 20, 21, 22, 23, 24, 25, 26, 27, 28, 29, 30] from rfl]
    refine .gd 31 rfl ?_
    refine .nil ?_
    refine .go 5 rfl ?_
    refine .z (.asNo nif104 rfl (by decide) Tryz.zeroValue104) ?_
    refine .go 3 rfl ?_
    refine .ac (.alloc ti104 fun w8 b4 hm8 hb4 hz5 hk5 => ?_)
    have hS13 := (hS11.newBk hm8 hb4 hk5).n9
    have f6 := hS13.bk (i := 8) rfl
    refine .ac (.store ti104 rfl rfl rfl rfl rfl f6 (Nat.le_of_ble_eq_true rfl) fun w9 hm9 hz6 hk6 => ?_)
    have hS14 := (hS13.bkK (cs' := [.int .i64 0, .int .i64 0]) (i := 8) rfl hm9 hk6).n9
    refine .gi 8 rfl ?_
    refine r_end0 Tryz.func14 rfl ?_
    have hS15 := (hS14.b6 [6, 7, 8] 0 1 2 3 4 5 (by rfl) (by decide)).n4
    have hS16 := (hS15.wkI (s := ⟨ep, true, life, K, B, q⟩) 3 rfl).n4
    rw [takeW_g0 (ep := ep) (life := life) (K := K) (B := B) (q := q) (id := wid) (a := ga) (b := gb) (c := gc) q_wtake_g_1]
    exact hS16.rt 3 rfl rfl
  refine .z (.not rfl) ?_
  refine .gi 2 rfl ?_
  refine r_ret0 Tryz.func14 rfl ?_
  have hS4 := (hS3.b6 [] 0 1 2 3 4 5 (by rfl) (by decide)).n1
  have hS5 := (hS4.wkI (s := ⟨ep, false, life, K, B, q⟩) 0 rfl).n1
  rw [takeW_dn]
  exact hS5.rt 0 rfl rfl
theorem q_wtake_a_1 {p : Prop} (h : p := by first | exact takeA_1 (by assumption) | exact takeA_2 (by assumption) | exact takeA_3 (by assumption) | exact takeA_4 (.inl (by assumption)) | exact takeA_4 (.inr (by assumption))) : p := h
theorem q_wtake_a_2 {p : Prop} (h : p := by assumption) : p := h
set_option maxRecDepth 20000 in
set_option maxHeartbeats 8000000 in
theorem wtake_a {w0 : World} {F : Nat → Prop} {bw : Nat} {wid : Int} {ks : List Int} {ep life : Int} {up : Bool} {K B : List DE} {q : List AskM} {n : Nat} {a : AskM} (hA : (wkR (R := fun _ => False) 3 95 164 123 5 176 172 bw wid ks (⟨ep, up, life, K, B, q⟩)).p F w0) (hF : ∀ b, F b → b < w0.heap.size) (hks : KsOk ks) (hok : WOk ks n (⟨ep, up, life, K, B, q⟩ : WSt)) (hn : n ≤ 100000) (hm : a.Ok ∧ a.text.length ≤ 1000000 ∧ a.after.word.length ≤ 1000000) :
    Calls Tryz.prog 14 #[ptr bw 0, .iface 35 (.agg #[.int .i64 a.slot, .int .i64 a.query, .int .i64 a.shard, .int .i64 a.seq, .int .i64 a.epoch, strV a.text, .int .i64 a.k, .int .i64 a.batch, .bool a.first, .int .i64 a.after.dist, strV a.after.word])] w0 (Ret fun rv w1 => rv = .tuple #[] ∧ Mod F w0 w1 ∧ ∃ F2, (wkR (R := fun _ => False) 3 95 164 123 5 176 172 bw wid ks ((takeW wid ks ⟨ep, up, life, K, B, q⟩ (.ask a)))).p F2 w1 ∧ ∀ b, F2 b → b < w1.heap.size ∧ (F b ∨ w0.heap.size ≤ b)) := by
  have hoq := hok.ql
  have hol := hok.life
  have hoe := hok.ep
  dsimp only at hoq hol hoe
  obtain ⟨hoa, hmt, hml⟩ := hm
  have hok1 := hoa.slot
  have hok2 := hoa.query
  have hok3 := hoa.shard
  have hok4 := hoa.seq
  have hok5 := hoa.epoch
  have hok6 := hoa.k
  have hok7 := hoa.batch
  have hok8 := hoa.dist
  have hS00 := St.start1 (R := fun _ => False) hA (fun b hb => ⟨hF b hb, id⟩) (fun _ h => h.elim)
  obtain ⟨⟨kv1, bd1, mb1, vs1, qb1⟩, hS1⟩ := hS00.exo (i := 0) rfl
  change St (fun _ => False) F w0 w0 [boxR [bkR bw [.int .i64 wid, .int .i64 ep, .bool up, kv1, ptr bd1 0, .map (some mb1), ptr qb1 0] 95, accR Ik.encI 3 1 kv1 ks, dkK 164 123 5 bd1 life K, mpR intV shV mb1 (shM ks vs1 B), grsR vs1 (ks.map (shN B)), qR 176 172 qb1 q]] at hS1
  have hS2 := (hS1.un 0 rfl [] (by rfl) (by decide)).n6
  have hle1 := (hS2.accK (i := 1) rfl).choose_spec.1.le
  refine calls_enter Tryz.func14 rfl Tryz.ntmps14 rfl ?_
  have f1 := hS2.bk (i := 0) rfl
  refine .go 4 rfl ?_
  refine .ac (.callF cl32 rfl (wup_c (w0 := w0) f1) ?_)
  rintro _ w1 ⟨rfl, hm1⟩
  have hS3 := hS2.ext hm1
  cases up
  case true =>
    refine .z (.not rfl) ?_
    refine .go 7 rfl ?_
    refine .z (.asNo nif38 rfl (by decide) Tryz.zeroValue38) ?_
    refine .go 3 rfl ?_
    refine .ac (.alloc ti38 fun w2 b1 hm2 hb1 hz1 hk1 => ?_)
    have hS5 := (hS3.newBk hm2 hb1 hk1).n7
    have f2 := hS5.bk (i := 6) rfl
    refine .ac (.store ti38 rfl rfl rfl rfl rfl f2 (Nat.le_of_ble_eq_true rfl) fun w3 hm3 hz2 hk2 => ?_)
    have hS6 := (hS5.bkK (cs' := [.int .i64 0, .int .i64 0, .int .i64 0]) (i := 6) rfl hm3 hk2).n7
    refine .gi 3 rfl ?_
    refine r_draw1 (fun i => Nat.beq i 14) 26 (fun w' => Mod (Mg 0) w3 w') mixed (by kernel_rfl) fun w4 hm4 => ?_
    have hS7 := hS6.ext hm4
    have hCw4 : Mod (Mg 0) w3 w4 := Mod.ofExt hm4
    refine ⟨hCw4, ?_⟩
    rw [show List.range' 0 (Array.size _) = [0, 1, 2, 3, 4, 5, 6, 7, 8, 9, 10, 11, 12, 13, 14, 15, 16, 17, 18, 19, 20, 21, 22, 23, 24, 25] from rfl]
    refine .gd 26 rfl ?_
    refine .nil ?_
    refine .go 6 rfl ?_
    refine .z (.asYes nif35 rfl) ?_
    refine .go 3 rfl ?_
    refine .ac (.alloc ti35 fun w5 b2 hm5 hb2 hz3 hk3 => ?_)
    have hS9 := (hS7.newBk hm5 hb2 hk3).n8
    have f3 := hS9.bk (i := 7) rfl
    refine .ac (.store ti35 rfl rfl rfl rfl rfl f3 (Nat.le_of_ble_eq_true rfl) fun w6 hm6 hz4 hk4 => ?_)
    have hS10 := (hS9.bkK (cs' := (encAsk a)) (i := 7) rfl hm6 hk4).n8
    refine .gi 3 rfl ?_
    refine r_draw1 (fun i => Nat.beq i 4) 31 (fun w' => Mod (Mg 0) w6 w') mixed (by kernel_rfl) fun w7 hm7 => ?_
    have hS11 := hS10.ext hm7
    have hCw7 : Mod (Mg 0) w6 w7 := Mod.ofExt hm7
    refine ⟨hCw7, ?_⟩
    rw [show List.range' 0 (Array.size _) = [0, 1, 2, 3, 4, 5, 6, 7, 8, 9, 10, 11, 12, 13, 14, 15, 16, 17, 18, 19, 20, 21, 22, 23, 24, 25, 26, 27, 28, 29, 30] from rfl]
    have f4 := hS10.bk (i := 7) rfl
    refine .gd 2 rfl ?_
    refine .z rfl (.loadN ti35 rfl (fun _ hc => f4.row.keepG hc (Nat.succ_ne_zero _)) rfl) ?_
    refine .z rfl (.mkIf nif35 rfl) ?_
    refine .ac rfl (.callF cl41 rfl (mmay_a (w0 := w7) (m := a) q_wtake_a_2 q_wtake_a_2 q_wtake_a_2) ?_)
    rintro _ w8 ⟨⟨b3, hb3, rfl⟩, hm8⟩
    have hS12 := hS11.ext hm8
    have hCw8 := hCw7.ext hm8
    refine ⟨.inr hCw8, ?_⟩
    refine .gd 2 rfl ?_
    cases b3
    case true =>
      replace hb3 := hb3.symm
      refine .z rfl (.fieldAddr fl35_4 rfl) ?_
      have f5 := hS10.bk (i := 7) rfl
      refine .z rfl (.load1 ti3 rfl (fun _ hc => (f5.cell 4 _ rfl).keepG hc (Nat.succ_ne_zero _))) ?_
      refine .gd 2 rfl ?_
      refine .z rfl (.fieldAddr fl95_1 rfl) ?_
      have f6 := hS10.bk (i := 0) rfl
      refine .z rfl (.load1 ti3 rfl (fun _ hc => (f6.cell 1 _ rfl).keepG hc (Nat.succ_ne_zero _))) ?_
      refine .zb rfl (.eq rfl rfl) fun b4 hb4 => ?_
      refine .gd 2 rfl ?_
      cases b4
      case true =>
        replace hb4 := eq_of_beq hb4.symm
        refine .z rfl (.fieldAddr fl35_4 rfl) ?_
        refine .z rfl (.load1 ti3 rfl (fun _ hc => (f5.cell 4 _ rfl).keepG hc (Nat.succ_ne_zero _))) ?_
        refine .zb rfl (.gt rfl rfl) fun b5 hb5 => ?_
        refine .gd 2 rfl ?_
        cases b5
        case true =>
          replace hb5 := dt hb5
          refine .gd 2 rfl ?_
          refine .z rfl (.fieldAddr fl95_5 rfl) ?_
          refine .z rfl (.load1 ti92 rfl (fun _ hc => (f6.cell 5 _ rfl).keepG hc (Nat.succ_ne_zero _))) ?_
          refine .z rfl (.fieldAddr fl35_2 rfl) ?_
          refine .z rfl (.load1 ti3 rfl (fun _ hc => (f5.cell 2 _ rfl).keepG hc (Nat.succ_ne_zero _))) ?_
          have f7 := hS10.mp (i := 3) rfl
          have hvl : vs1.length = ks.length := (grs_len (hS12.get (i := 4) rfl).choose_spec.1).trans (List.length_map ..)
          rcases shM_at (B := B) hvl a.shard with ⟨hkn, hasc⟩ | ⟨j, vg, hkj, hvj, hasc⟩
          · skip
            refine .z rfl (.lookMiss (key := intV) (val := shV) (keyOk_int Tryz.underlying3) Tryz.underlying92 Tryz.zeroValue101 rfl rfl (fun _ hc => (MapS.keep f7 hc (Nat.succ_ne_zero _)).o) hasc) ?_
            refine .z rfl (.field (v := (.pointer none : Value)) rfl (fun _ => by kernel_rfl)) ?_
            refine .z rfl (.neNil Tryz.underlying99 rfl rfl) ?_
            refine .gd 1 rfl ?_
            refine .nil ?_
            refine .go 5 rfl ?_
            refine .z (.asNo nif104 rfl (by decide) Tryz.zeroValue104) ?_
            refine .go 3 rfl ?_
            refine .ac (.alloc ti104 fun w9 b6 hm9 hb6 hz5 hk5 => ?_)
            have hS14 := (hS12.newBk hm9 hb6 hk5).n9
            have f8 := hS14.bk (i := 8) rfl
            refine .ac (.store ti104 rfl rfl rfl rfl rfl f8 (Nat.le_of_ble_eq_true rfl) fun w10 hm10 hz6 hk6 => ?_)
            have hS15 := (hS14.bkK (cs' := [.int .i64 0, .int .i64 0]) (i := 8) rfl hm10 hk6).n9
            refine .gi 8 rfl ?_
            refine r_end0 Tryz.func14 rfl ?_
            have hS16 := (hS15.b6 [6, 7, 8] 0 1 2 3 4 5 (by rfl) (by decide)).n4
            have hS17 := (hS16.wkI (s := ⟨ep, true, life, K, B, q⟩) 3 rfl).n4
            rw [takeW_a0 (ep := ep) (life := life) (K := K) (B := B) (q := q) (ks := ks) (a := a) q_wtake_a_1]
            exact hS17.rt 3 rfl rfl
          · skip
            have hnj : (ks.map (shN B))[j]? = some (shN B a.shard) := by rw [List.getElem?_map, hkj]; rfl
            have hkm := List.mem_of_getElem? hkj
            obtain ⟨lg, ug, hgz, hgu⟩ := hS12.grsAt (i := 4) rfl hvj hnj
            rcases hgz with ⟨hv, hN⟩ | ⟨bg, _, _, hv, hN, _⟩
            · subst hv
              refine .z rfl (.lookHit (key := intV) (val := shV) (keyOk_int Tryz.underlying3) Tryz.underlying92 Tryz.zeroValue101 rfl rfl (fun _ hc => (MapS.keep f7 hc (Nat.succ_ne_zero _)).o) hasc) ?_
              refine .z rfl (.field (v := (.pointer none : Value)) rfl (fun _ => by kernel_rfl)) ?_
              refine .z rfl (.neNil Tryz.underlying99 rfl rfl) ?_
              refine .gd 1 rfl ?_
              refine .nil ?_
              refine .go 5 rfl ?_
              refine .z (.asNo nif104 rfl (by decide) Tryz.zeroValue104) ?_
              refine .go 3 rfl ?_
              refine .ac (.alloc ti104 fun w9 b6 hm9 hb6 hz5 hk5 => ?_)
              have hS14 := (hS12.newBk hm9 hb6 hk5).n9
              have f8 := hS14.bk (i := 8) rfl
              refine .ac (.store ti104 rfl rfl rfl rfl rfl f8 (Nat.le_of_ble_eq_true rfl) fun w10 hm10 hz6 hk6 => ?_)
              have hS15 := (hS14.bkK (cs' := [.int .i64 0, .int .i64 0]) (i := 8) rfl hm10 hk6).n9
              refine .gi 8 rfl ?_
              refine r_end0 Tryz.func14 rfl ?_
              have hS16 := (hS15.b6 [6, 7, 8] 0 1 2 3 4 5 (by rfl) (by decide)).n4
              have hS17 := (hS16.wkI (s := ⟨ep, true, life, K, B, q⟩) 3 rfl).n4
              rw [takeW_a0 (ep := ep) (life := life) (K := K) (B := B) (q := q) (ks := ks) (a := a) q_wtake_a_1]
              exact hS17.rt 3 rfl rfl
            · subst hv
              refine .z rfl (.lookHit (key := intV) (val := shV) (keyOk_int Tryz.underlying3) Tryz.underlying92 Tryz.zeroValue101 rfl rfl (fun _ hc => (MapS.keep f7 hc (Nat.succ_ne_zero _)).o) hasc) ?_
              refine .z rfl (.field (v := ptr bg 0) rfl (fun _ => by kernel_rfl)) ?_
              refine .z rfl (.neNil Tryz.underlying99 rfl rfl) ?_
              refine .gd 1 rfl ?_
              refine .nil ?_
              refine .gi 1 rfl ?_
              refine r_draw1 (fun i => Nat.beq i 5) 6 (fun w' => Bk w' bw [.int .i64 wid, .int .i64 ep, .bool true, kv1, ptr bd1 0, .map (some mb1), ptr qb1 0] 95 ∧ Bk w' b2 (encAsk a) 35) mixed (by kernel_rfl) fun w9 hm9 => ?_
              have hS13 := hS12.ext hm9
              have f8 := hS13.bk (i := 0) rfl
              have f9 := hS13.bk (i := 7) rfl
              refine ⟨⟨f8, f9⟩, ?_⟩
              rw [show List.range' 0 (Array.size _) = [0, 1, 2, 3, 4, 5] from rfl]
              refine .gd 2 rfl ?_
              refine .z rfl (.fieldAddr fl95_6 rfl) ?_
              refine .z rfl (.load1 ti93 rfl (fun _ hc => (hc.1.cell 6 _ rfl))) ?_
              refine .z rfl (.loadN ti35 rfl (fun _ hc => hc.2.row) rfl) ?_
              obtain ⟨Fy1, hAy1, hFy1, hky1⟩ := hS13.act (i := 5) rfl
              refine .ac rfl (.callF cl47 rfl (qpush_c (w0 := w9) (a := a) hAy1 (fun b hb => (hFy1 b hb).2) q_wtake_a_2 (by omega)) ?_)
              rintro _ w10 ⟨rfl, hm10, F1, hA1, hF1⟩
              have hS14 : St (fun _ => False) F w0 w10 [bkR bw [.int .i64 wid, .int .i64 ep, .bool true, kv1, ptr bd1 0, .map (some mb1), ptr qb1 0] 95, accR Ik.encI 3 1 kv1 ks, dkK 164 123 5 bd1 life K, mpR intV shV mb1 ((shM ks vs1 B)), grsR vs1 (ks.map (shN B)), qR 176 172 qb1 ((pushQ q a)), bkR b1 [.int .i64 0, .int .i64 0, .int .i64 0] 38, bkR b2 (encAsk a) 35] := hky1 _ _ _ hm10 hA1 hF1
              clear hky1 hA1
              have f12 := hS14.bk (i := 0) rfl
              have f13 := hS14.bk (i := 7) rfl
              refine ⟨.inr ⟨f12, f13⟩, ?_⟩
              refine .nil ?_
              refine .go 3 rfl ?_
              refine .z (.asNo nif104 rfl (by decide) Tryz.zeroValue104) ?_
              refine .go 3 rfl ?_
              refine .ac (.alloc ti104 fun w11 b6 hm11 hb6 hz5 hk5 => ?_)
              have hS16 := (hS14.newBk hm11 hb6 hk5).n9
              have f14 := hS16.bk (i := 8) rfl
              refine .ac (.store ti104 rfl rfl rfl rfl rfl f14 (Nat.le_of_ble_eq_true rfl) fun w12 hm12 hz6 hk6 => ?_)
              have hS17 := (hS16.bkK (cs' := [.int .i64 0, .int .i64 0]) (i := 8) rfl hm12 hk6).n9
              refine .gi 8 rfl ?_
              refine r_end0 Tryz.func14 rfl ?_
              have hS18 := (hS17.b6 [6, 7, 8] 0 1 2 3 4 5 (by rfl) (by decide)).n4
              have hS19 := (hS18.wkI (s := ⟨ep, true, life, K, B, (pushQ q a)⟩) 3 rfl).n4
              rw [takeW_a1 (ep := ep) (life := life) (K := K) (B := B) (q := q) (ks := ks) (a := a) (takeA_5 q_wtake_a_2 q_wtake_a_2 q_wtake_a_2 hkm hN)]
              exact hS19.rt 3 rfl rfl
        replace hb5 := df hb5
        refine .gd 10 rfl ?_
        refine .nil ?_
        refine .go 5 rfl ?_
        refine .z (.asNo nif104 rfl (by decide) Tryz.zeroValue104) ?_
        refine .go 3 rfl ?_
        refine .ac (.alloc ti104 fun w9 b6 hm9 hb6 hz5 hk5 => ?_)
        have hS14 := (hS12.newBk hm9 hb6 hk5).n9
        have f7 := hS14.bk (i := 8) rfl
        refine .ac (.store ti104 rfl rfl rfl rfl rfl f7 (Nat.le_of_ble_eq_true rfl) fun w10 hm10 hz6 hk6 => ?_)
        have hS15 := (hS14.bkK (cs' := [.int .i64 0, .int .i64 0]) (i := 8) rfl hm10 hk6).n9
        refine .gi 8 rfl ?_
        refine r_end0 Tryz.func14 rfl ?_
        have hS16 := (hS15.b6 [6, 7, 8] 0 1 2 3 4 5 (by rfl) (by decide)).n4
        have hS17 := (hS16.wkI (s := ⟨ep, true, life, K, B, q⟩) 3 rfl).n4
        rw [takeW_a0 (ep := ep) (life := life) (K := K) (B := B) (q := q) (ks := ks) (a := a) q_wtake_a_1]
        exact hS17.rt 3 rfl rfl
      replace hb4 := ne_of_beq_false hb4.symm
      refine .gd 15 rfl ?_
      refine .nil ?_
      refine .go 5 rfl ?_
      refine .z (.asNo nif104 rfl (by decide) Tryz.zeroValue104) ?_
      refine .go 3 rfl ?_
      refine .ac (.alloc ti104 fun w9 b5 hm9 hb5 hz5 hk5 => ?_)
      have hS14 := (hS12.newBk hm9 hb5 hk5).n9
      have f7 := hS14.bk (i := 8) rfl
      refine .ac (.store ti104 rfl rfl rfl rfl rfl f7 (Nat.le_of_ble_eq_true rfl) fun w10 hm10 hz6 hk6 => ?_)
      have hS15 := (hS14.bkK (cs' := [.int .i64 0, .int .i64 0]) (i := 8) rfl hm10 hk6).n9
      refine .gi 8 rfl ?_
      refine r_end0 Tryz.func14 rfl ?_
      have hS16 := (hS15.b6 [6, 7, 8] 0 1 2 3 4 5 (by rfl) (by decide)).n4
      have hS17 := (hS16.wkI (s := ⟨ep, true, life, K, B, q⟩) 3 rfl).n4
      rw [takeW_a0 (ep := ep) (life := life) (K := K) (B := B) (q := q) (ks := ks) (a := a) q_wtake_a_1]
      exact hS17.rt 3 rfl rfl
    replace hb3 := hb3.symm
    refine .gd 24 rfl ?_
    refine .nil ?_
    refine .go 5 rfl ?_
    refine .z (.asNo nif104 rfl (by decide) Tryz.zeroValue104) ?_
    refine .go 3 rfl ?_
    refine .ac (.alloc ti104 fun w9 b4 hm9 hb4 hz5 hk5 => ?_)
    have hS14 := (hS12.newBk hm9 hb4 hk5).n9
    have f5 := hS14.bk (i := 8) rfl
    refine .ac (.store ti104 rfl rfl rfl rfl rfl f5 (Nat.le_of_ble_eq_true rfl) fun w10 hm10 hz6 hk6 => ?_)
    have hS15 := (hS14.bkK (cs' := [.int .i64 0, .int .i64 0]) (i := 8) rfl hm10 hk6).n9
    refine .gi 8 rfl ?_
    refine r_end0 Tryz.func14 rfl ?_
    have hS16 := (hS15.b6 [6, 7, 8] 0 1 2 3 4 5 (by rfl) (by decide)).n4
    have hS17 := (hS16.wkI (s := ⟨ep, true, life, K, B, q⟩) 3 rfl).n4
    rw [takeW_a0 (ep := ep) (life := life) (K := K) (B := B) (q := q) (ks := ks) (a := a) q_wtake_a_1]
    exact hS17.rt 3 rfl rfl
  refine .z (.not rfl) ?_
  refine .gi 2 rfl ?_
  refine r_ret0 Tryz.func14 rfl ?_
  have hS4 := (hS3.b6 [] 0 1 2 3 4 5 (by rfl) (by decide)).n1
  have hS5 := (hS4.wkI (s := ⟨ep, false, life, K, B, q⟩) 0 rfl).n1
  rw [takeW_dn]
  exact hS5.rt 0 rfl rfl
end Go.Proofs
namespace Go.Proofs
open Go.Ik Go.Ml
set_option maxRecDepth 20000 in
set_option maxHeartbeats 8000000 in
theorem wwake_c {w0 : World} {F : Nat → Prop} {bw : Nat} {wid : Int} {ks : List Int} {ep life : Int} {up : Bool} {K B : List DE} {q : List AskM} {n : Nat} (hA : (wkR (R := fun _ => False) 3 95 164 123 5 176 172 bw wid ks (⟨ep, up, life, K, B, q⟩)).p F w0) (hF : ∀ b, F b → b < w0.heap.size) (hks : KsOk ks) (hok : WOk ks n (⟨ep, up, life, K, B, q⟩ : WSt)) (hn : n ≤ 100000) :
    Calls Tryz.prog 16 #[ptr bw 0] w0 (Ret fun rv w1 => Mod F w0 w1 ∧ ∃ F2, (boxR (R := fun _ => False) [wkR 3 95 164 123 5 176 172 bw wid ks ((wakeW wid ⟨ep, up, life, K, B, q⟩).1), letR 46 38 35 49 104 44 33 rv ((wakeW wid ⟨ep, up, life, K, B, q⟩).2)]).p F2 w1 ∧ ∀ b, F2 b → b < w1.heap.size ∧ (F b ∨ w0.heap.size ≤ b)) := by
  have hoq := hok.ql
  have hol := hok.life
  have hoe := hok.ep
  dsimp only at hoq hol hoe
  have hS00 := St.start1 (R := fun _ => False) hA (fun b hb => ⟨hF b hb, id⟩) (fun _ h => h.elim)
  obtain ⟨⟨kv1, bd1, mb1, vs1, qb1⟩, hS1⟩ := hS00.exo (i := 0) rfl
  change St (fun _ => False) F w0 w0 [boxR [bkR bw [.int .i64 wid, .int .i64 ep, .bool up, kv1, ptr bd1 0, .map (some mb1), ptr qb1 0] 95, accR Ik.encI 3 1 kv1 ks, dkK 164 123 5 bd1 life K, mpR intV shV mb1 (shM ks vs1 B), grsR vs1 (ks.map (shN B)), qR 176 172 qb1 q]] at hS1
  have hS2 := (hS1.un 0 rfl [] (by rfl) (by decide)).n6
  have hle1 := (hS2.accK (i := 1) rfl).choose_spec.1.le
  refine calls_enter Tryz.func16 rfl Tryz.ntmps16 rfl ?_
  have f1 := hS2.bk (i := 0) rfl
  refine .go 8 rfl ?_
  refine .ac (.callF cl32 rfl (wup_c (w0 := w0) f1) ?_)
  rintro _ w1 ⟨rfl, hm1⟩
  have hS3 := hS2.ext hm1
  cases up
  case true =>
    refine .z (.not rfl) ?_
    refine .go 8 rfl ?_
    refine .z (.fieldAddr fl95_1 rfl) ?_
    have f2 := hS3.bk (i := 0) rfl
    refine .z (.l1 ti3 f2) ?_
    refine .zb (.gt rfl rfl) fun b1 hb1 => ?_
    refine .gi 1 rfl ?_
    cases b1
    case true =>
      replace hb1 := dt hb1
      refine .go 5 rfl ?_
      refine .z (.fieldAddr fl95_6 rfl) ?_
      refine .z (.l1 ti93 f2) ?_
      cases q with
      | nil =>
        obtain ⟨Fy1, hAy1, hFy1, hky1⟩ := hS3.act (i := 5) rfl
        refine .ac (.callF cl50 rfl (qpop0_c (w0 := w1) hAy1 (fun b hb => (hFy1 b hb).2)) ?_)
        rintro _ w2 ⟨rfl, hm2⟩
        have hS4 := hS3.ext hm2
        refine .go 3 rfl ?_
        refine .ac (.alloc ti35 fun w3 b2 hm3 hb2 hz1 hk1 => ?_)
        have hS6 := (hS4.newBk hm3 hb2 hk1).n7
        have f3 := hS6.bk (i := 6) rfl
        refine .ac (.store ti35 rfl rfl rfl rfl rfl f3 (Nat.le_of_ble_eq_true rfl) fun w4 hm4 hz2 hk2 => ?_)
        have hS7 := (hS6.bkK (cs' := (encAsk zeroAsk)) (i := 6) rfl hm4 hk2).n7
        refine .gi 9 rfl ?_
        refine r_draw1 (fun i => Nat.beq i 5 || Nat.beq i 9) 11 (fun w' => Mod (Mg 0) w4 w') mixed (by kernel_rfl) fun w5 hm5 => ?_
        have hS8 := hS7.ext hm5
        have hCw5 : Mod (Mg 0) w4 w5 := Mod.ofExt hm5
        refine ⟨hCw5, ?_⟩
        rw [show List.range' 0 (Array.size _) = [0, 1, 2, 3, 4, 5, 6, 7, 8, 9, 10] from rfl]
        refine .gd 2 rfl ?_
        refine .z rfl (.fieldAddr fl95_0 rfl) ?_
        have f4 := hS7.bk (i := 0) rfl
        refine .z rfl (.load1 ti3 rfl (fun _ hc => (f4.cell 0 _ rfl).keepG hc (Nat.succ_ne_zero _))) ?_
        have f5 := hS8.bk (i := 0) rfl
        obtain ⟨Fd1, hd1, hFd1, hkd1⟩ := hS8.act (i := 2) rfl
        refine .gd 1 rfl ?_
        refine .ac rfl (.callF cl21 rfl (wlife_c (w0 := w5) f5 hd1) ?_)
        rintro _ w6 ⟨rfl, hm6⟩
        have hS9 := hS8.ext hm6
        have hCw6 := hCw5.ext hm6
        refine ⟨.inr hCw6, ?_⟩
        refine .z rfl (.build (vs := #[(0, (.int .i64 wid : Value)), (1, (.int .i64 life : Value))]) (v := .agg #[.int .i64 wid, .int .i64 life]) rfl (fun _ => by kernel_rfl)) ?_
        refine .z rfl (.mkIf nif46 rfl) ?_
        refine .z rfl (.build (vs := #[(0, (.int .i64 0 : Value)), (1, (.iface 46 (.agg #[.int .i64 wid, .int .i64 life]) : Value))]) (v := .agg #[.int .i64 0, .iface 46 (.agg #[.int .i64 wid, .int .i64 life])]) rfl (fun _ => by kernel_rfl)) ?_
        refine .ac rfl (.buildSlice [(.agg #[.int .i64 0, .iface 46 (.agg #[.int .i64 wid, .int .i64 life])] : Value)] Tryz.underlying41 ti44 rfl rfl rfl (by decide) fun w7 b3 hm7 hb3 hz3 hk3 => ?_)
        have hl1 := Acc.of_blk (enc := encLet) hk3 ([((0 : Int), (.iface 46 (.agg #[.int .i64 wid, .int .i64 life]) : Value))] : List (Int × Value)) 1 rfl encLet_len rfl (by unfold maxLen; omega)
        have hS11 := (hS9.newAcc hm7 hl1 (.inr (by omega))).n8
        have hCw7 := hCw6.ext hm7
        refine ⟨.inr hCw7, ?_⟩
        refine .gd 1 rfl ?_
        refine .nil ?_
        refine r_ret1 Tryz.func16 rfl rfl ?_
        have hS12 : St (fun _ => False) F w0 w7 [bkR bw [.int .i64 wid, .int .i64 ep, .bool true, kv1, ptr bd1 0, .map (some mb1), ptr qb1 0] 95, accR Ik.encI 3 1 kv1 ks, dkK 164 123 5 bd1 life K, mpR intV shV mb1 ((shM ks vs1 B)), grsR vs1 (ks.map (shN B)), qR 176 172 qb1 [], bkR b2 (encAsk zeroAsk) 35, accR encLet 44 2 ((.slice (some ⟨b3, 0, none⟩) 1 1)) ([((0 : Int), (.iface 46 (.agg #[.int .i64 wid, .int .i64 life]) : Value))]), accR encItm 33 2 (.slice none 0 0) []] := hS11.new (Mod.refl _ _) (F := fun _ => False) (A := accR encItm 33 2 (.slice none 0 0) []) ⟨0, Acc.nil, fun b hb => (by omega)⟩ (fun _ h => h.elim)
        have hS13 := (hS12.b1 [0, 1, 2, 3, 4, 5, 6, 7] 8 (by rfl) (by decide)).n9
        have hS14 := (hS13.b2 [0, 1, 2, 3, 4, 5, 6] 7 8 (by rfl) (by decide)).n8
        have hS15 := (hS14.ty (letR 46 38 35 49 104 44 33 ((.slice (some ⟨b3, 0, none⟩) 1 1)) ([.hello wid life])) 7 rfl (fun F_ h_ => let_one (vi := (.slice none 0 0)) h_)).n8
        have hS16 := (hS15.b6 [6, 7] 0 1 2 3 4 5 (by rfl) (by decide)).n3
        have hS17 := (hS16.wkI (s := ⟨ep, true, life, K, B, []⟩) 2 rfl).n3
        have hS18 := (hS17.b2 [0] 2 1 (by rfl) (by decide)).n2
        have hW : wakeW wid (⟨ep, true, life, K, B, []⟩ : WSt) = _ := (by first | exact wakeW_lo (by assumption) | exact wakeW_no (by assumption))
        rw [hW]
        obtain ⟨hmF, F2r, hAr, hFr⟩ := hS18.finI 1 rfl
        exact Ret.mk ⟨hmF, F2r, hAr, hFr⟩
      | cons a q1 =>
        obtain ⟨Fy1, hAy1, hFy1, hky1⟩ := hS3.act (i := 5) rfl
        have hao : AskOk ks B a := hok.q a (List.mem_cons_self ..)
        simp only [List.length_cons] at hoq
        have hak := hao.ok.k
        have hab := hao.ok.batch
        refine .ac (.callF cl50 rfl (qpop_c (w0 := w1) hAy1 (fun b hb => (hFy1 b hb).2) (by omega)) ?_)
        rintro _ w2 ⟨rfl, hm2, F1, hA1, hF1⟩
        have hS4 : St (fun _ => False) F w0 w2 [bkR bw [.int .i64 wid, .int .i64 ep, .bool true, kv1, ptr bd1 0, .map (some mb1), ptr qb1 0] 95, accR Ik.encI 3 1 kv1 ks, dkK 164 123 5 bd1 life K, mpR intV shV mb1 ((shM ks vs1 B)), grsR vs1 (ks.map (shN B)), qR 176 172 qb1 q1] := hky1 _ _ _ hm2 hA1 hF1
        clear hky1 hA1
        refine .go 3 rfl ?_
        refine .ac (.alloc ti35 fun w3 b2 hm3 hb2 hz1 hk1 => ?_)
        have hS6 := (hS4.newBk hm3 hb2 hk1).n7
        have f3 := hS6.bk (i := 6) rfl
        refine .ac (.store ti35 rfl rfl rfl rfl rfl f3 (Nat.le_of_ble_eq_true rfl) fun w4 hm4 hz2 hk2 => ?_)
        have hS7 := (hS6.bkK (cs' := (encAsk a)) (i := 6) rfl hm4 hk2).n7
        refine .gi 8 rfl ?_
        refine r_draw1 (fun i => Nat.beq i 17 || Nat.beq i 18) 18 (fun w' => Mod (Mg 0) w4 w') mixed (by kernel_rfl) fun w5 hm5 => ?_
        have hS8 := hS7.ext hm5
        have hCw5 : Mod (Mg 0) w4 w5 := Mod.ofExt hm5
        refine ⟨hCw5, ?_⟩
        rw [show List.range' 0 (Array.size _) = [0, 1, 2, 3, 4, 5, 6, 7, 8, 9, 10, 11, 12, 13, 14, 15, 16, 17, 18] from rfl]
        refine .z rfl (.fieldAddr fl35_0 rfl) ?_
        have f4 := hS7.bk (i := 6) rfl
        refine .z rfl (.load1 ti3 rfl (fun _ hc => (f4.cell 0 _ rfl).keepG hc (Nat.succ_ne_zero _))) ?_
        refine .z rfl (.fieldAddr fl35_1 rfl) ?_
        refine .z rfl (.load1 ti3 rfl (fun _ hc => (f4.cell 1 _ rfl).keepG hc (Nat.succ_ne_zero _))) ?_
        refine .z rfl (.fieldAddr fl35_2 rfl) ?_
        refine .z rfl (.load1 ti3 rfl (fun _ hc => (f4.cell 2 _ rfl).keepG hc (Nat.succ_ne_zero _))) ?_
        refine .z rfl (.fieldAddr fl35_3 rfl) ?_
        refine .z rfl (.load1 ti3 rfl (fun _ hc => (f4.cell 3 _ rfl).keepG hc (Nat.succ_ne_zero _))) ?_
        refine .gd 2 rfl ?_
        refine .z rfl (.fieldAddr fl95_0 rfl) ?_
        have f5 := hS7.bk (i := 0) rfl
        refine .z rfl (.load1 ti3 rfl (fun _ hc => (f5.cell 0 _ rfl).keepG hc (Nat.succ_ne_zero _))) ?_
        refine .gd 2 rfl ?_
        refine .z rfl (.fieldAddr fl95_1 rfl) ?_
        refine .z rfl (.load1 ti3 rfl (fun _ hc => (f5.cell 1 _ rfl).keepG hc (Nat.succ_ne_zero _))) ?_
        refine .z rfl (.build (vs := #[(0, (.int .i64 a.slot : Value)), (1, (.int .i64 a.query : Value)), (2, (.int .i64 a.shard : Value)), (3, (.int .i64 a.seq : Value)), (4, (.int .i64 wid : Value)), (5, (.int .i64 ep : Value))]) (v := .agg #[.int .i64 a.slot, .int .i64 a.query, .int .i64 a.shard, .int .i64 a.seq, .int .i64 wid, .int .i64 ep, .slice none 0 0, .bool false]) rfl (fun _ => by kernel_rfl)) ?_
        refine .ac rfl (.alloc ti49 fun w6 b3 hm6 hb3 hz3 hk3 => ?_)
        have hS10 := (hS8.newBk hm6 hb3 hk3).n8
        have hCw6 := hCw5.ext hm6
        refine ⟨.inr hCw6, ?_⟩
        have f6 := hS10.bk (i := 7) rfl
        refine .ac rfl (.store ti49 rfl rfl rfl rfl rfl f6 (Nat.le_of_ble_eq_true rfl) fun w7 hm7 hz4 hk4 => ?_)
        have hS11 := (hS10.bkK (cs' := [.int .i64 a.slot, .int .i64 a.query, .int .i64 a.shard, .int .i64 a.seq, .int .i64 wid, .int .i64 ep, .slice none 0 0, .bool false]) (i := 7) rfl hm7 hk4).n8
        refine ⟨.inl rfl, ?_⟩
        refine .nil ?_
        refine .gi 1 rfl ?_
        refine IkN.r_drawN (fun i => Nat.beq i 18 || Nat.beq i 23 || Nat.beq i 25) (fun i => Nat.beq i 3 || Nat.beq i 5 || Nat.beq i 6 || Nat.beq i 9 || Nat.beq i 11 || Nat.beq i 13 || Nat.beq i 15 || Nat.beq i 17) 25 (fun _ => True) mixed (by kernel_rfl) (by kernel_rfl) fun w8 hm8 => ?_
        have hS12 := hS11.ext hm8
        refine ⟨trivial, ?_⟩
        rw [show List.range' 0 (Array.size _) = [0, 1, 2, 3, 4, 5, 6, 7, 8, 9, 10, 11, 12, 13, 14, 15, 16, 17, 18, 19, 20, 21, 22, 23, 24, 25] from rfl]
        refine .gd 2 rfl ?_
        refine .zc rfl (.fieldAddr fl95_5 rfl) ?_
        have f7 := hS12.bk (i := 0) rfl
        refine .zn rfl (.l1 ti92 f7) ?_
        refine .zc rfl (.fieldAddr fl35_2 rfl) ?_
        have f8 := hS12.bk (i := 6) rfl
        refine .zn rfl (.l1 ti3 f8) ?_
        have f9 := hS12.mp (i := 3) rfl
        have hvl : vs1.length = ks.length := (grs_len (hS12.get (i := 4) rfl).choose_spec.1).trans (List.length_map ..)
        rcases shM_at (B := B) hvl a.shard with ⟨hkn, hasc⟩ | ⟨j, vg, hkj, hvj, hasc⟩
        · skip
          exact absurd hao.sh hkn
        · skip
          have hnj : (ks.map (shN B))[j]? = some (shN B a.shard) := by rw [List.getElem?_map, hkj]; rfl
          have hkm := List.mem_of_getElem? hkj
          obtain ⟨lg, ug, hgz, hgu⟩ := hS12.grsAt (i := 4) rfl hvj hnj
          obtain ⟨pa, rfl, _⟩ := hgz.isP
          refine .zn rfl (.lookHit (key := intV) (val := shV) (keyOk_int Tryz.underlying3) Tryz.underlying92 Tryz.zeroValue101 rfl rfl (fun _ e => e ▸ f9.o) hasc) ?_
          refine .zc rfl (.field (v := (.pointer pa)) rfl (fun _ => by kernel_rfl)) ?_
          refine .zc rfl (.fieldAddr fl35_5 rfl) ?_
          refine .zn rfl (.l1 ti9 f8) ?_
          refine .zc rfl (.fieldAddr fl35_6 rfl) ?_
          refine .zn rfl (.l1 ti3 f8) ?_
          refine .zc rfl (.fieldAddr fl35_8 rfl) ?_
          refine .zn rfl (.l1 ti4 f8) ?_
          refine .zc rfl (.fieldAddr fl35_9 rfl) ?_
          refine .zn rfl (.loadN ti33 rfl (fun _ e => e ▸ (f8.part 9 2 (Nat.le_of_ble_eq_true rfl))) rfl) ?_
          refine .zc rfl (.fieldAddr fl35_7 rfl) ?_
          refine .zn rfl (.l1 ti3 f8) ?_
          obtain ⟨lg1, ug1, hgr1, hup1⟩ := hS12.grsAt (i := 4) rfl hvj hnj
          refine .ac rfl (.callF cl51 rfl (wnext_c (w0 := w8) a.text a.k a.first (after := a.after) a.batch hgr1 hup1 hak hab (shN_gok hao.gr) (hok.bw _) hao.tl hao.ok.dist hao.al) ?_)
          rintro _ w9 ⟨v1, _, rfl, ⟨gr1, ha1, hg1⟩, ⟨b4, hb4, rfl⟩, hm9⟩
          have hS14 := (hS12.newAcc hm9 ha1 hg1).n9
          clear hg1
          refine ⟨.inr trivial, ?_⟩
          refine .gd 3 rfl ?_
          refine .zc rfl (.fieldAddr fl49_6 rfl) ?_
          obtain ⟨g1, f10, hl1, k1⟩ := hS14.accK (i := 8) rfl
          obtain ⟨ad1, cp1, hv1⟩ := f10.shape
          subst hv1
          have f11 := hS14.bk (i := 7) rfl
          refine .ac rfl (.store ti47 rfl rfl rfl rfl rfl f11 (Nat.le_of_ble_eq_true rfl) fun w10 hm10 hz5 hk5 => ?_)
          have hS15 := (hS14.bkK (cs' := [.int .i64 a.slot, .int .i64 a.query, .int .i64 a.shard, .int .i64 a.seq, .int .i64 wid, .int .i64 ep, (.slice ad1 ((nextA (shN B a.shard) (shW B a.shard) a.text a.k a.first a.after a.batch).1).length cp1), .bool false]) (i := 7) rfl hm10 hk5).n9
          refine ⟨.inr trivial, ?_⟩
          refine .zc rfl (.fieldAddr fl49_7 rfl) ?_
          have f12 := hS15.bk (i := 7) rfl
          refine .ac rfl (.store ti4 rfl rfl rfl rfl rfl f12 (Nat.le_of_ble_eq_true rfl) fun w11 hm11 hz6 hk6 => ?_)
          have hS16 := (hS15.bkK (cs' := [.int .i64 a.slot, .int .i64 a.query, .int .i64 a.shard, .int .i64 a.seq, .int .i64 wid, .int .i64 ep, (.slice ad1 ((nextA (shN B a.shard) (shW B a.shard) a.text a.k a.first a.after a.batch).1).length cp1), .bool b4]) (i := 7) rfl hm11 hk6).n9
          refine ⟨.inl rfl, ?_⟩
          refine .nil ?_
          have f13 := hS16.bk (i := 7) rfl
          refine .go 2 rfl ?_
          refine .z (.loadN ti49 rfl (fun _ e => e ▸ f13.row) rfl) ?_
          refine .z (.mkIf nif49 rfl) ?_
          refine .z (.build (vs := #[(0, (.int .i64 0 : Value)), (1, (.iface 49 (.agg #[.int .i64 a.slot, .int .i64 a.query, .int .i64 a.shard, .int .i64 a.seq, .int .i64 wid, .int .i64 ep, (.slice ad1 ((nextA (shN B a.shard) (shW B a.shard) a.text a.k a.first a.after a.batch).1).length cp1), .bool b4]) : Value))]) (v := .agg #[.int .i64 0, .iface 49 (.agg #[.int .i64 a.slot, .int .i64 a.query, .int .i64 a.shard, .int .i64 a.seq, .int .i64 wid, .int .i64 ep, (.slice ad1 ((nextA (shN B a.shard) (shW B a.shard) a.text a.k a.first a.after a.batch).1).length cp1), .bool b4])]) rfl (fun _ => by kernel_rfl)) ?_
          refine .ac (.buildSlice [(.agg #[.int .i64 0, .iface 49 (.agg #[.int .i64 a.slot, .int .i64 a.query, .int .i64 a.shard, .int .i64 a.seq, .int .i64 wid, .int .i64 ep, (.slice ad1 ((nextA (shN B a.shard) (shW B a.shard) a.text a.k a.first a.after a.batch).1).length cp1), .bool b4])] : Value)] Tryz.underlying41 ti44 rfl rfl rfl (by decide) fun w12 b5 hm12 hb5 hz7 hk7 => ?_)
          have hl2 := Acc.of_blk (enc := encLet) hk7 ([((0 : Int), (.iface 49 (.agg #[.int .i64 a.slot, .int .i64 a.query, .int .i64 a.shard, .int .i64 a.seq, .int .i64 wid, .int .i64 ep, (.slice ad1 ((nextA (shN B a.shard) (shW B a.shard) a.text a.k a.first a.after a.batch).1).length cp1), .bool b4]) : Value))] : List (Int × Value)) 1 rfl encLet_len rfl (by unfold maxLen; omega)
          have hS18 := (hS16.newAcc hm12 hl2 (.inr (by omega))).n10
          refine .gi 2 rfl ?_
          refine r_ret1 Tryz.func16 rfl rfl ?_
          obtain rfl := hb4
          have hS19 := (hS18.b1 [0, 1, 2, 3, 4, 5, 6, 7, 9] 8 (by rfl) (by decide)).n10
          have hS20 := (hS19.b2 [0, 1, 2, 3, 4, 5, 6, 7] 8 9 (by rfl) (by decide)).n9
          have hS21 := (hS20.ty (letR 46 38 35 49 104 44 33 ((.slice (some ⟨b5, 0, none⟩) 1 1)) ([.reply (answer wid ⟨ep, true, life, K, B, a :: q1⟩ a)])) 8 rfl (fun F_ h_ => let_one (vi := ((.slice ad1 ((nextA (shN B a.shard) (shW B a.shard) a.text a.k a.first a.after a.batch).1).length cp1))) h_)).n9
          have hS22 := (hS21.b6 [6, 7, 8] 0 1 2 3 4 5 (by rfl) (by decide)).n4
          have hS23 := (hS22.wkI (s := ⟨ep, true, life, K, B, q1⟩) 3 rfl).n4
          have hS24 := (hS23.b2 [0, 1] 3 2 (by rfl) (by decide)).n3
          have hW : wakeW wid (⟨ep, true, life, K, B, a :: q1⟩ : WSt) = _ := wakeW_yes (by assumption)
          rw [hW]
          obtain ⟨hmF, F2r, hAr, hFr⟩ := hS24.finI 2 rfl
          exact Ret.mk ⟨hmF, F2r, hAr, hFr⟩
    replace hb1 := df hb1
    refine .gi 3 rfl ?_
    refine r_draw1 (fun i => Nat.beq i 5 || Nat.beq i 9) 11 (fun w' => Mod (Mg 0) w1 w') mixed (by kernel_rfl) fun w2 hm2 => ?_
    have hS4 := hS3.ext hm2
    have hCw2 : Mod (Mg 0) w1 w2 := Mod.ofExt hm2
    refine ⟨hCw2, ?_⟩
    rw [show List.range' 0 (Array.size _) = [0, 1, 2, 3, 4, 5, 6, 7, 8, 9, 10] from rfl]
    refine .gd 2 rfl ?_
    refine .z rfl (.fieldAddr fl95_0 rfl) ?_
    refine .z rfl (.load1 ti3 rfl (fun _ hc => (f2.cell 0 _ rfl).keepG hc (Nat.succ_ne_zero _))) ?_
    have f3 := hS4.bk (i := 0) rfl
    obtain ⟨Fd1, hd1, hFd1, hkd1⟩ := hS4.act (i := 2) rfl
    refine .gd 1 rfl ?_
    refine .ac rfl (.callF cl21 rfl (wlife_c (w0 := w2) f3 hd1) ?_)
    rintro _ w3 ⟨rfl, hm3⟩
    have hS5 := hS4.ext hm3
    have hCw3 := hCw2.ext hm3
    refine ⟨.inr hCw3, ?_⟩
    refine .z rfl (.build (vs := #[(0, (.int .i64 wid : Value)), (1, (.int .i64 life : Value))]) (v := .agg #[.int .i64 wid, .int .i64 life]) rfl (fun _ => by kernel_rfl)) ?_
    refine .z rfl (.mkIf nif46 rfl) ?_
    refine .z rfl (.build (vs := #[(0, (.int .i64 0 : Value)), (1, (.iface 46 (.agg #[.int .i64 wid, .int .i64 life]) : Value))]) (v := .agg #[.int .i64 0, .iface 46 (.agg #[.int .i64 wid, .int .i64 life])]) rfl (fun _ => by kernel_rfl)) ?_
    refine .ac rfl (.buildSlice [(.agg #[.int .i64 0, .iface 46 (.agg #[.int .i64 wid, .int .i64 life])] : Value)] Tryz.underlying41 ti44 rfl rfl rfl (by decide) fun w4 b2 hm4 hb2 hz1 hk1 => ?_)
    have hl1 := Acc.of_blk (enc := encLet) hk1 ([((0 : Int), (.iface 46 (.agg #[.int .i64 wid, .int .i64 life]) : Value))] : List (Int × Value)) 1 rfl encLet_len rfl (by unfold maxLen; omega)
    have hS7 := (hS5.newAcc hm4 hl1 (.inr (by omega))).n7
    have hCw4 := hCw3.ext hm4
    refine ⟨.inr hCw4, ?_⟩
    refine .gd 1 rfl ?_
    refine .nil ?_
    refine r_ret1 Tryz.func16 rfl rfl ?_
    have hS8 : St (fun _ => False) F w0 w4 [bkR bw [.int .i64 wid, .int .i64 ep, .bool true, kv1, ptr bd1 0, .map (some mb1), ptr qb1 0] 95, accR Ik.encI 3 1 kv1 ks, dkK 164 123 5 bd1 life K, mpR intV shV mb1 ((shM ks vs1 B)), grsR vs1 (ks.map (shN B)), qR 176 172 qb1 q, accR encLet 44 2 ((.slice (some ⟨b2, 0, none⟩) 1 1)) ([((0 : Int), (.iface 46 (.agg #[.int .i64 wid, .int .i64 life]) : Value))]), accR encItm 33 2 (.slice none 0 0) []] := hS7.new (Mod.refl _ _) (F := fun _ => False) (A := accR encItm 33 2 (.slice none 0 0) []) ⟨0, Acc.nil, fun b hb => (by omega)⟩ (fun _ h => h.elim)
    have hS9 := (hS8.b1 [0, 1, 2, 3, 4, 5, 6] 7 (by rfl) (by decide)).n8
    have hS10 := (hS9.b2 [0, 1, 2, 3, 4, 5] 6 7 (by rfl) (by decide)).n7
    have hS11 := (hS10.ty (letR 46 38 35 49 104 44 33 ((.slice (some ⟨b2, 0, none⟩) 1 1)) ([.hello wid life])) 6 rfl (fun F_ h_ => let_one (vi := (.slice none 0 0)) h_)).n7
    have hS12 := (hS11.b6 [6] 0 1 2 3 4 5 (by rfl) (by decide)).n2
    have hS13 := (hS12.wkI (s := ⟨ep, true, life, K, B, q⟩) 1 rfl).n2
    have hS14 := (hS13.b2 [] 1 0 (by rfl) (by decide)).n1
    have hW : wakeW wid (⟨ep, true, life, K, B, q⟩ : WSt) = _ := (by first | exact wakeW_lo (by assumption) | exact wakeW_no (by assumption))
    rw [hW]
    obtain ⟨hmF, F2r, hAr, hFr⟩ := hS14.finI 0 rfl
    exact Ret.mk ⟨hmF, F2r, hAr, hFr⟩
  refine .z (.not rfl) ?_
  refine .gi 6 rfl ?_
  refine r_ret1 Tryz.func16 rfl rfl ?_
  have hS4 := (hS3.b6 [] 0 1 2 3 4 5 (by rfl) (by decide)).n1
  have hS5 := (hS4.wkI (s := ⟨ep, false, life, K, B, q⟩) 0 rfl).n1
  have hS6 : St (fun _ => False) F w0 w1 [wkR 3 95 164 123 5 176 172 bw wid ks (⟨ep, false, life, K, B, q⟩), letR 46 38 35 49 104 44 33 (.slice none 0 0) []] := hS5.new (Mod.refl _ _) (F := fun _ => False) (A := letR 46 38 35 49 104 44 33 (.slice none 0 0) []) let_none (fun _ h => h.elim)
  have hS7 := (hS6.b2 [] 0 1 (by rfl) (by decide)).n1
  have hW : wakeW wid (⟨ep, false, life, K, B, q⟩ : WSt) = _ := wakeW_dn
  rw [hW]
  obtain ⟨hmF, F2r, hAr, hFr⟩ := hS7.finI 0 rfl
  exact Ret.mk ⟨hmF, F2r, hAr, hFr⟩
set_option maxRecDepth 20000 in
set_option maxHeartbeats 4000000 in
theorem wnew_c {w0 : World} {c : Cfg} {v_c_words : Value} {v_c_cuts : Value} (wid : Int) (h_c_words : Sl encS w0 (Iv 0 w0.heap.size) v_c_words c.words) (h_c_cuts : Sl encKey w0 (Iv 0 w0.heap.size) v_c_cuts c.cuts) (h_c : Cfg.Ok c) (hw : I64 wid) (hlen : c.words.length ≤ 1000000) :
    Calls Tryz.prog 12 #[(.agg #[v_c_words, v_c_cuts, .int .i64 c.workers, .int .i64 c.copies, .int .i64 c.slots, .int .i64 c.batch, .int .i64 c.lease, .int .i64 c.hedge, .int .i64 c.first, .int .i64 c.cap, .int .i64 c.jitter, .int .i64 c.net] : Value), .int .i64 wid] w0 (Ret fun rv w1 => Mod (fun _ => False) w0 w1 ∧ (mayD c wid = false ∧ rv = .tuple #[.pointer none, .int .i64 2] ∨ mayD c wid = true ∧ ∃ bw F2, rv = .tuple #[ptr bw 0, .int .i64 0] ∧ (wkR (R := fun _ => False) 3 95 164 123 5 176 172 bw wid ((keepsM c wid)) ((newW c wid))).p F2 w1 ∧ ∀ b, F2 b → b < w1.heap.size ∧ w0.heap.size ≤ b)) := by
  have hS0 := St.start0 w0
  have hle1 := h_c_words.le
  have hle2 := h_c_cuts.le
  have hc1 := h_c.workers
  have hc2 := h_c.copies
  have hc3 := h_c.slots
  have hc4 := h_c.batch
  have hc5 := h_c.lease
  have hc6 := h_c.hedge
  have hc7 := h_c.first
  have hc8 := h_c.cap
  have hc9 := h_c.jitter
  have hc10 := h_c.net
  refine calls_enter Tryz.func12 rfl Tryz.ntmps12 rfl ?_
  refine .go 2 rfl ?_
  refine .ac (.box [v_c_words, v_c_cuts, .int .i64 c.workers, .int .i64 c.copies, .int .i64 c.slots, .int .i64 c.batch, .int .i64 c.lease, .int .i64 c.hedge, .int .i64 c.first, .int .i64 c.cap, .int .i64 c.jitter, .int .i64 c.net] rfl rfl fun w1 b1 hm1 hb1 hz1 hk1 => ?_)
  have hS2 := (hS0.newBk hm1 hb1 hk1).n1
  have f1 := hS2.bk (i := 0) rfl
  refine .go 5 rfl ?_
  refine .z (.loadN ti26 rfl (fun _ e => e ▸ f1.row) rfl) ?_
  have f2 := hS2.out h_c_words (fun _ _ h => h)
  have f3 := hS2.out h_c_cuts (fun _ _ h => h)
  refine .go 1 rfl ?_
  refine .ac (.callF cl45 rfl (dnew_c (w0 := w1) (c := c) (wid) (f2.iv (Nat.zero_le _) hS2.mod.size) (f3.iv (Nat.zero_le _) hS2.mod.size) (by first | assumption | exact Ml.Cfg.ok_of (by decide +kernel)) (by first | assumption | (unfold I64; omega) | (unfold I64; decide)) (by first | assumption | omega | decide)) ?_)
  rintro _ w2 ⟨hm2, hd1⟩
  rcases hd1 with ⟨hmd1, rfl⟩ | ⟨hmd1, bd1, F1, rfl, hA1, hF1⟩
  · skip
    have hS3 := hS2.ext hm2
    refine .go 10 rfl ?_
    refine .zb (.ne rfl rfl) fun b2 hb2 => ?_
    obtain rfl : b2 = true := hb2.trans (by rfl)
    refine .gi 8 rfl ?_
    refine r_ret2 Tryz.func12 rfl rfl rfl ?_
    exact Ret.mk ⟨hS3.mod, .inl ⟨hmd1, rfl⟩⟩
  · skip
    have hS4 : St (fun _ => False) (fun _ => False) w0 w2 [bkR b1 [v_c_words, v_c_cuts, .int .i64 c.workers, .int .i64 c.copies, .int .i64 c.slots, .int .i64 c.batch, .int .i64 c.lease, .int .i64 c.hedge, .int .i64 c.first, .int .i64 c.cap, .int .i64 c.jitter, .int .i64 c.net] 26, dkK 164 123 5 bd1 0 ((dkNew c wid))] := hS2.new hm2 hA1 (fun b hb => ⟨(hF1 b hb).2, (hF1 b hb).1⟩)
    refine .go 10 rfl ?_
    refine .zb (.ne rfl rfl) fun b2 hb2 => ?_
    obtain rfl : b2 = false := hb2.trans (by rfl)
    have f4 := hS4.bk (i := 0) rfl
    refine .go 6 rfl ?_
    refine .z (.loadN ti26 rfl (fun _ e => e ▸ f4.row) rfl) ?_
    have f5 := hS4.out h_c_words (fun _ _ h => h)
    have f6 := hS4.out h_c_cuts (fun _ _ h => h)
    refine .go 1 rfl ?_
    refine .ac (.callF cl25 rfl (keeps_c (w0 := w2) (c := c) (wid) (f5.iv (Nat.zero_le _) hS4.mod.size) (f6.iv (Nat.zero_le _) hS4.mod.size) (by first | assumption | exact Ml.Cfg.ok_of (by decide +kernel)) oa) ?_)
    rintro v1 w3 ⟨⟨gr1, h1, hg1⟩, hm3⟩
    have hS6 := (hS4.newAcc hm3 h1 hg1).n3
    clear hg1
    have hle_1 := h1.le
    have := keeps_len c wid
    obtain ⟨g1, f7, hl1, k1⟩ := hS6.accK (i := 2) rfl
    obtain ⟨ad1, cp1, hv1⟩ := f7.shape
    refine .go 1 rfl ?_
    subst hv1
    refine .z (.build (vs := #[(0, (.int .i64 wid : Value)), (3, (.slice ad1 ((Ml.keepsM c wid)).length cp1)), (4, ptr bd1 0)]) (v := .agg #[.int .i64 wid, .int .i64 0, .bool false, (.slice ad1 ((Ml.keepsM c wid)).length cp1), ptr bd1 0, .map none, .pointer none]) rfl (fun _ => by kernel_rfl)) ?_
    refine .ac (.box [.int .i64 wid, .int .i64 0, .bool false, (.slice ad1 ((Ml.keepsM c wid)).length cp1), ptr bd1 0, .map none, .pointer none] rfl rfl fun w4 b3 hm4 hb3 hz2 hk2 => ?_)
    have hS8 := (hS6.newBk hm4 hb3 hk2).n4
    have hS9 := (hS8.b3 [0] 3 2 1 (by rfl) (by decide)).n2
    obtain ⟨Fy1, hAy1, hFy1, hky1⟩ := hS9.act (i := 1) rfl
    refine .go 5 rfl ?_
    refine .ac (.callF cl46 rfl (wbegin_c (w0 := w4) hAy1 (fun b hb => (hFy1 b hb).2) (by decide) (dkNew_ok (mayD_may hmd1).1 wid) (keeps_nodup c wid) (fun k hk => keeps_i64 hk) (Nat.le_trans (keeps_len c wid) (by decide))) ?_)
    rintro _ w5 ⟨rfl, hm5, F2, hA2, hF2⟩
    have hS10 : St (fun _ => False) (fun _ => False) w0 w5 [bkR b1 [v_c_words, v_c_cuts, .int .i64 c.workers, .int .i64 c.copies, .int .i64 c.slots, .int .i64 c.batch, .int .i64 c.lease, .int .i64 c.hedge, .int .i64 c.first, .int .i64 c.cap, .int .i64 c.jitter, .int .i64 c.net] 26, wkR 3 95 164 123 5 176 172 b3 wid (((Ml.keepsM c wid))) (⟨0, true, 0 + 1, (dkNew c wid), (dkNew c wid), []⟩)] := hky1 _ _ _ hm5 hA2 hF2
    clear hAy1 hky1 hA2 hF2
    refine .gi 7 rfl ?_
    refine r_ret2 Tryz.func12 rfl rfl rfl ?_
    obtain ⟨hmF, F2r, hAr, hFr⟩ := hS10.finI 1 rfl
    exact Ret.mk ⟨hmF, .inr ⟨hmd1, _, F2r, rfl, hAr, fun b hb => ⟨(hFr b hb).1, (hFr b hb).2.resolve_left id⟩⟩⟩
end Go.Proofs
