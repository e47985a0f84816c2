/-
  What the law WorkerOnce needs, part 5 of 7: theory, and walks through the code.
-/
import Derived.Test.YtjideiielmlccaaGreatSWorkerOnceD
set_option linter.unusedVariables false
set_option linter.unusedSimpArgs false
namespace Go.Proofs
open Go.Ik Go.Ml
theorem q197_1 {p : Prop} (h : p := by assumption) : p := h
theorem q197_2 {p : Prop} (h : p := by decide) : p := h
theorem q197_3 {p : Prop} (h : p := by omega) : p := h
theorem q197_4 {p : Prop} (h : p := by first | assumption | omega | (simp; done)) : p := h
theorem q197_5 {p : Prop} (h : p := by first | assumption | (symm; assumption)) : p := h
set_option maxRecDepth 20000 in
set_option maxHeartbeats 4000000 in
theorem whole1_c : ∀ (f : Nat) {w0 : World} {F G : Nat → Prop} {bga bst bfn : Nat} {vS : Value} {st : List Int} {bG : Nat} {vn : Value} {nds : List RNode} {N : List GN} (n : Nat) (d : Int) (hA : (whR (R := fun _ => False) 99 57 3 157 197 bga bst bfn bG vS st).p F w0) (hF : ∀ b, F b → b < w0.heap.size) (hrw : Row w0 bG 0 [vn]) (hGb : G bG) (hsl : Sl encN w0 G vn nds) (hrel : NRel w0 G nds N) (hG : ∀ b, G b → ¬ F b) (hGl : ∀ b, G b → b < w0.heap.size) (hNl : N.length ≤ 1000000) (hel : ∀ x ∈ N, x.2.length ≤ 1000000) (hed : ∀ x ∈ N, ∀ e ∈ x.2, 1 ≤ e.to ∧ e.to < (N.length : Int)) (hst : st.length = N.length) (hn : n < N.length) (hd : 0 ≤ d ∧ d ≤ 13 ∧ 13 ≤ d + f),
    Calls Tryz.prog 197 #[.int .i64 (n : Int), .int .i64 d, ptr bga 0, ptr bst 0, ptr bfn 0] w0 (Ret fun rv w1 => rv = .bool (goesW N (f + 1) n d st).1 ∧ Mod F w0 w1 ∧ ∃ F2, (whR (R := fun _ => False) 99 57 3 157 197 bga bst bfn bG vS ((goesW N (f + 1) n d st).2)).p F2 w1 ∧ ∀ b, F2 b → b < w1.heap.size ∧ (F b ∨ w0.heap.size ≤ b)) := by
  intro f
  induction f using Nat.strongRecOn with
  | _ f ih0 =>
  intro w0 F G bga bst bfn vS st bG vn nds N n d hA hF hrw hGb hsl hrel hG hGl hNl hel hed hst hn hd
  have hS00 := St.start1 (R := fun _ => False) hA (fun b hb => ⟨hF b hb, id⟩) (fun _ h => h.elim)
  have hnl := (All2.get hrel).1
  change St (fun _ => False) F w0 w0 [boxR [bkR bga [ptr bG 0] 99, bkR bst [vS] 57, accR Ik.encI 3 1 vS st, bkR bfn [.func (.func 197) #[] #[ptr bga 0, ptr bst 0, ptr bfn 0]] 157]] at hS00
  have hS1 := (hS00.un 0 rfl [] (by rfl) (by decide)).n4
  refine calls_enter Tryz.func197 rfl Tryz.ntmps197 rfl ?_
  have f1 := hS1.bk (i := 0) rfl
  refine .go 6 rfl ?_
  refine .z (.l1 ti99 f1) ?_
  refine .go 1 rfl ?_
  refine .z (.fieldAddr fl264_0 rfl) ?_
  refine .z (.lr ti262 hrw) ?_
  obtain ⟨x1, b1, o1, hx1, hr1, hl1, hw1⟩ := Sl.atF (P := Tryz.prog) hsl Tryz.underlying262 ti238 encN_len (k := .i64) (n := ((n : Nat) : Int)) (n) q197_3 ao
  refine .go 1 rfl ?_
  refine .z (.indexAddr rfl rfl hr1) ?_
  refine .z (.loadN ti238 rfl (fun _ e => e ▸ hw1) rfl) ?_
  obtain ⟨gn1, hgn1, hgf1, hgs1⟩ := hrel.at hx1
  have hel_gn1 := hel _ (List.mem_of_getElem? hgn1)
  obtain ⟨fb1, hfq1⟩ : ∃ b, x1.fin = b := ⟨_, rfl⟩
  first | rw [show encN x1 = [.bool fb1, x1.e.val] from by rw [← hfq1]; rfl] | rw [hfq1]
  have hfb1 : fb1 = gn1.1 := by rw [← hfq1]; first | exact hgf1 | exact hgf1.symm
  refine .ac (.alloc ti238 fun w1 b2 hm1 hb1 hz1 hk1 => ?_)
  have hS3 := (hS1.newBk hm1 hb1 hk1).n5
  have f2 := hS3.bk (i := 4) rfl
  refine .ac (.store ti238 rfl rfl rfl rfl rfl f2 (Nat.le_of_ble_eq_true rfl) fun w2 hm2 hz2 hk2 => ?_)
  have hS4 := (hS3.bkK (cs' := [.bool fb1, x1.e.val]) (i := 4) rfl hm2 hk2).n5
  have f3 := hS4.bk (i := 1) rfl
  refine .go 4 rfl ?_
  refine .z (.l1 ti57 f3) ?_
  obtain ⟨g1, f4, hl2, k1⟩ := hS4.accK (i := 2) rfl
  obtain ⟨x2, b3, o2, hx2, hr2, hl3, hw2⟩ := Sl.atF (P := Tryz.prog) f4.sl Tryz.underlying57 ti3 Ik.encI_len (k := .i64) (n := ((n : Nat) : Int)) (n) q197_3 ao
  refine .go 1 rfl ?_
  refine .z (.indexAddr rfl rfl hr2) ?_
  refine .z (.lr ti3 hw2) ?_
  refine .zb (.eq rfl rfl) fun b4 hb2 => ?_
  refine .gi 1 rfl ?_
  cases b4
  case true =>
    replace hb2 := eq_of_beq hb2.symm
    refine .gi 5 rfl ?_
    refine r_ret1 Tryz.func197 rfl rfl ?_
    have hS5 := (hS4.b4 [4] 0 1 2 3 (by rfl) (by decide)).n2
    have hS6 := (hS5.sel [1] (by rfl) (by decide)).n1
    obtain ⟨hmF, F2r, hAr, hFr⟩ := hS6.fin
    have hw : goesW N (f + 1) n d st = (true, st) := by first | exact goesW_done (d := d) hgn1 q197_1 q197_1 | exact goesW_no (d := d) hgn1 q197_1 q197_1 (by first | exact .inl q197_1 | exact .inr (.inl q197_1) | exact .inr (.inr ⟨by assumption, by first | assumption | exact List.eq_nil_of_length_eq_zero q197_3⟩))
    exact Ret.mk ⟨by rw [hw], hmF, F2r, by rw [hw]; exact hAr, hFr⟩
  replace hb2 := ne_of_beq_false hb2.symm
  refine .go 5 rfl ?_
  refine .z (.l1 ti57 f3) ?_
  obtain ⟨x3, b5, o3, hx3, hr3, hl4, hw3⟩ := Sl.atF (P := Tryz.prog) f4.sl Tryz.underlying57 ti3 Ik.encI_len (k := .i64) (n := ((n : Nat) : Int)) (n) q197_3 ao
  obtain rfl : x2 = x3 := Option.some.inj (hx2.symm.trans hx3)
  refine .go 1 rfl ?_
  refine .z (.indexAddr rfl rfl hr3) ?_
  refine .z (.lr ti3 hw3) ?_
  refine .zb (.eq rfl rfl) fun b6 hb3 => ?_
  refine .go 1 rfl ?_
  cases b6
  case true =>
    replace hb3 := eq_of_beq hb3.symm
    refine .gi 20 rfl ?_
    refine r_ret1 Tryz.func197 rfl rfl ?_
    have hS5 := (hS4.b4 [4] 0 1 2 3 (by rfl) (by decide)).n2
    have hS6 := (hS5.sel [1] (by rfl) (by decide)).n1
    obtain ⟨hmF, F2r, hAr, hFr⟩ := hS6.fin
    have hw : goesW N (f + 1) n d st = (false, st) := by first | exact goesW_done (d := d) hgn1 q197_1 q197_1 | exact goesW_no (d := d) hgn1 q197_1 q197_1 (by first | exact .inl q197_1 | exact .inr (.inl q197_1) | exact .inr (.inr ⟨by assumption, by first | assumption | exact List.eq_nil_of_length_eq_zero q197_3⟩))
    exact Ret.mk ⟨by rw [hw], hmF, F2r, by rw [hw]; exact hAr, hFr⟩
  replace hb3 := ne_of_beq_false hb3.symm
  refine .go 1 rfl ?_
  refine .zb (.gt rfl rfl) fun b7 hb4 => ?_
  refine .go 2 rfl ?_
  cases b7
  case true =>
    replace hb4 := dt hb4
    refine .gi 16 rfl ?_
    refine r_ret1 Tryz.func197 rfl rfl ?_
    have hS5 := (hS4.b4 [4] 0 1 2 3 (by rfl) (by decide)).n2
    have hS6 := (hS5.sel [1] (by rfl) (by decide)).n1
    obtain ⟨hmF, F2r, hAr, hFr⟩ := hS6.fin
    have hw : goesW N (f + 1) n d st = (false, st) := by first | exact goesW_done (d := d) hgn1 q197_1 q197_1 | exact goesW_no (d := d) hgn1 q197_1 q197_1 (by first | exact .inl q197_1 | exact .inr (.inl q197_1) | exact .inr (.inr ⟨by assumption, by first | assumption | exact List.eq_nil_of_length_eq_zero q197_3⟩))
    exact Ret.mk ⟨by rw [hw], hmF, F2r, by rw [hw]; exact hAr, hFr⟩
  replace hb4 := df hb4
  refine .z (.fieldAddr fl238_0 rfl) ?_
  have f5 := hS4.bk (i := 4) rfl
  refine .z (.l1 ti4 f5) ?_
  cases fb1
  case true =>
    replace hfb1 := hfb1.symm
    refine .z (.not rfl) ?_
    refine .go 12 rfl ?_
    refine .z (.l1 ti57 f3) ?_
    obtain ⟨hr4, x4, hx4⟩ := Acc.at (P := Tryz.prog) f4 Tryz.underlying57 ti3 (k := .i64) (n := ((n : Nat) : Int)) (n) q197_3 q197_4
    refine .go 1 rfl ?_
    refine .z (.indexAddr rfl rfl hr4) ?_
    refine .ac (.storeA f4 Ik.encI_len (i := n) (o := 0) hx4 1 ti3 rfl (by first | omega | rfl) rfl rfl rfl rfl q197_2 (by first | rfl | simp [Ik.encI]) fun w3 hm3 hz3 ha1 => ?_)
    have hl5 : (st.set n 1).length = st.length := List.length_set
    have hS5 := (k1 _ _ _ _ hm3 ha1 (.inl rfl)).n5
    refine .go 4 rfl ?_
    refine .z (.fieldAddr fl238_1 rfl) ?_
    have f6 := hS5.bk (i := 4) rfl
    refine .z (.l1 ti219 f6) ?_
    have f7 := hS5.out hgs1 hG
    refine .z (.lenSl Tryz.underlying219 (f7) rfl) ?_
    have hS7 := (hS5.sel [2, 1, 0, 3] (by rfl) q197_2).n4
    refine .gi 3 rfl ?_
    refine r_loop (I := fun m E W => ∃ (sk : List Int) (k : Nat), E = [(0, .int .i64 (((n : Nat) : Int))), (1, .int .i64 d), (3, ptr bst 0), (4, ptr bfn 0), (47, x1.e.val), (48, .int .i64 (((gn1.2.length : Nat) : Int))), (49, .int .i64 (((k : Nat) : Int)))] ∧ m = gn1.2.length - k ∧ St (fun _ => False) F w0 W [accR Ik.encI 3 1 vS sk, bkR bst [vS] 57, bkR bga [ptr bG 0] 99, bkR bfn [.func (.func 197) #[] #[ptr bga 0, ptr bst 0, ptr bfn 0]] 157] ∧ ((eachW (fun st e => goesW N f e.to.toNat (d + 1) st) (st.set n 1) gn1.2) = eachW (fun st e => goesW N f e.to.toNat (d + 1) st) sk (gn1.2.drop k)) ∧ (sk.length = N.length) ∧ (k ≤ gn1.2.length)) ?_ ?_
    · refine ⟨_, _, ⟨((st.set n 1) : List Int), (0 : Nat), rfl, rfl, hS7, (by rw [List.drop_zero]), (by simp only [List.length_set]; omega), q197_3⟩, ⟨rfl, rfl, rfl, rfl, rfl, rfl, rfl, trivial⟩⟩
    · rintro _ _ w4 ⟨sk, k, rfl, rfl, hS6, hR, hskl, hkl⟩ ih1
      refine .go 2 rfl ?_
      refine .zb (.lt rfl rfl) fun b8 hb5 => ?_
      refine .gi 2 rfl ?_
      cases b8
      case true =>
        replace hb5 := dt hb5
        have f8 := hS6.out hgs1 hG
        obtain ⟨x5, b9, o4, hx5, hr5, hl6, hw4⟩ := Sl.atF (P := Tryz.prog) f8 Tryz.underlying219 ti233 encE_len (k := .i64) (n := ((k : Nat) : Int)) (k) q197_3 ao
        refine .go 6 rfl ?_
        refine .z (.indexAddr rfl rfl hr5) ?_
        refine .z (.loadN ti233 rfl (fun _ e => e ▸ hw4) rfl) ?_
        have hxE := hx5
        refine .ac (.alloc ti233 fun w5 b10 hm4 hb6 hz4 hk3 => ?_)
        have hS9 := (hS6.newBk hm4 hb6 hk3).n5
        have f9 := hS9.bk (i := 4) rfl
        refine .ac (.store ti233 rfl rfl rfl rfl rfl f9 (Nat.le_of_ble_eq_true rfl) fun w6 hm5 hz5 hk4 => ?_)
        have hS10 := (hS9.bkK (cs' := [.int .i32 x5.rune, .int .i64 x5.to]) (i := 4) rfl hm5 hk4).n5
        have f10 := hS10.bk (i := 3) rfl
        refine .go 3 rfl ?_
        refine .z (.l1 ti157 f10) ?_
        refine .z (.fieldAddr fl233_1 rfl) ?_
        have f11 := hS10.bk (i := 4) rfl
        refine .z (.l1 ti3 f11) ?_
        refine .go 1 rfl ?_
        refine .z (.addI ((d + 1)) rfl rfl (by omega)) ?_
        have hS11 := (hS10.b4 [4] 2 1 0 3 (by rfl) q197_2).n2
        have hto := hed _ (List.mem_of_getElem? hgn1) _ (List.mem_of_getElem? hx5)
        obtain ⟨f2, hf2⟩ : ∃ f2, f = f2 + 1 := ⟨f - 1, by omega⟩
        obtain ⟨Fy1, hAy1, hFy1, hky1⟩ := hS11.act (i := 1) rfl
        refine .ac (.call (first := []) (cap := [ptr bga 0, ptr bst 0, ptr bfn 0]) cl197 rfl rfl (toArgs (ih0 f2 q197_3 (x5.to).toNat ((d + 1)) hAy1 (fun b hb => (hFy1 b hb).2) (hrw.keep hS11.mod (hG _ hGb)) hGb (hsl.keep hS11.mod hG) (hrel.keep hS11.mod hG) (fun b hb hx => by have := (hFy1 b hx).1.1; rcases this with h | h; exact hG b hb h; have := hGl b hb; omega) (fun b hb => Nat.lt_of_lt_of_le (hGl b hb) hS11.mod.size) hNl hel hed (by first | omega | (simp only [List.length_replicate]; done)) q197_3 q197_3) q197_3) ?_)
        rintro _ w7 ⟨rfl, hm6, F1, hB1, hF1⟩
        rw [← hf2] at hB1 ⊢
        have hS12 : St (fun _ => False) F w0 w7 [bkR b10 [.int .i32 x5.rune, .int .i64 x5.to] 233, whR 99 57 3 157 197 bga bst bfn bG vS ((goesW N f ((x5.to).toNat) ((d + 1)) sk).2)] := hky1 _ _ _ hm6 hB1 hF1
        clear hAy1 hFy1 hky1 hB1 hF1
        have hgl := goesW_len N f (x5.to).toNat ((d + 1)) sk
        change St (fun _ => False) F w0 w7 [bkR b10 [.int .i32 x5.rune, .int .i64 x5.to] 233, boxR [bkR bga [ptr bG 0] 99, bkR bst [vS] 57, accR Ik.encI 3 1 vS (goesW N f ((x5.to).toNat) ((d + 1)) sk).2, bkR bfn [.func (.func 197) #[] #[ptr bga 0, ptr bst 0, ptr bfn 0]] 157]] at hS12
        have hS13 := (hS12.un 1 rfl [0] (by rfl) q197_2).n5
        generalize hb7 : (goesW N f ((x5.to).toNat) ((d + 1)) sk).1 = b11
        replace hb7 := hb7.symm
        cases b11
        case true =>
          replace hb7 := hb7.symm
          refine .z (.not rfl) ?_
          refine .go 5 rfl ?_
          refine .z (.addI (((k + 1 : Nat) : Int)) rfl rfl q197_3) ?_
          have hS14 := (hS13.sel [3, 2, 1, 4] (by rfl) q197_2).n4
          refine .gi 2 rfl ?_
          exact (ih1 _ _ _ ⟨((goesW N f ((x5.to).toNat) ((d + 1)) sk).2 : List Int), (k + 1 : Nat), rfl, rfl, hS14, (by first | exact eachW_step hR hxE q197_5 | (exfalso; omega)), (by first | omega | (exfalso; omega)), (by first | omega | (exfalso; omega))⟩ q197_3).sub ⟨rfl, rfl, rfl, rfl, rfl, rfl, rfl, trivial⟩
        replace hb7 := hb7.symm
        refine .z (.not rfl) ?_
        refine .gi 6 rfl ?_
        refine r_ret1 Tryz.func197 rfl rfl ?_
        have hS14 := (hS13.b4 [0] 1 2 3 4 (by rfl) q197_2).n2
        have hS15 := (hS14.sel [1] (by rfl) (by decide)).n1
        obtain ⟨hmF, F2r, hAr, hFr⟩ := hS15.fin
        have hz := eachW_stop hR hxE q197_5
        have hw : goesW N (f + 1) n d st = (false, (goesW N f ((x5.to).toNat) ((d + 1)) sk).2) := goesW_goF (d := d) hgn1 hx2 q197_1 (by intro h; rcases h with h | h | ⟨h1, h2⟩; omega; omega; first | exact absurd (show false = true from h1.symm.trans q197_1) q197_2 | (have := congrArg List.length h2; simp only [List.length_nil] at this; omega)) hz
        exact Ret.mk ⟨by rw [hw], hmF, F2r, by rw [hw]; exact hAr, hFr⟩
      replace hb5 := df hb5
      have f8 := hS6.bk (i := 1) rfl
      refine .go 4 rfl ?_
      refine .z (.l1 ti57 f8) ?_
      obtain ⟨g2, f9, hl6, k2⟩ := hS6.accK (i := 0) rfl
      obtain ⟨hr5, x5, hx5⟩ := Acc.at (P := Tryz.prog) f9 Tryz.underlying57 ti3 (k := .i64) (n := ((n : Nat) : Int)) (n) q197_3 q197_4
      refine .go 1 rfl ?_
      refine .z (.indexAddr rfl rfl hr5) ?_
      refine .ac (.storeA f9 Ik.encI_len (i := n) (o := 0) hx5 2 ti3 rfl (by first | omega | rfl) rfl rfl rfl rfl q197_2 (by first | rfl | simp [Ik.encI]) fun w5 hm4 hz4 ha2 => ?_)
      have hl7 : (sk.set n 2).length = sk.length := List.length_set
      have hS8 := (k2 _ _ _ _ hm4 ha2 (.inl rfl)).n4
      refine .gi 5 rfl ?_
      refine r_ret1 Tryz.func197 rfl rfl ?_
      have hS9 := (hS8.b4 [] 2 1 0 3 (by rfl) q197_2).n1
      obtain ⟨hmF, F2r, hAr, hFr⟩ := hS9.fin
      have hz := eachW_end hR (by omega)
      have hw : goesW N (f + 1) n d st = (true, (sk.set n 2)) := goesW_goT (d := d) hgn1 hx2 q197_1 (by intro h; rcases h with h | h | ⟨h1, h2⟩; omega; omega; first | exact absurd (show false = true from h1.symm.trans q197_1) q197_2 | (have := congrArg List.length h2; simp only [List.length_nil] at this; omega)) hz
      exact Ret.mk ⟨by rw [hw], hmF, F2r, by rw [hw]; exact hAr, hFr⟩
  replace hfb1 := hfb1.symm
  refine .z (.not rfl) ?_
  refine .go 1 rfl ?_
  refine .z (.fieldAddr fl238_1 rfl) ?_
  refine .z (.l1 ti219 f5) ?_
  have f6 := hS4.out hgs1 hG
  refine .z (.lenSl Tryz.underlying219 (f6) rfl) ?_
  refine .zb (.eq rfl rfl) fun b8 hb5 => ?_
  refine .gi 3 rfl ?_
  cases b8
  case true =>
    replace hb5 := eq_of_beq hb5.symm
    refine .gi 5 rfl ?_
    refine r_ret1 Tryz.func197 rfl rfl ?_
    have hS5 := (hS4.b4 [4] 0 1 2 3 (by rfl) (by decide)).n2
    have hS6 := (hS5.sel [1] (by rfl) (by decide)).n1
    obtain ⟨hmF, F2r, hAr, hFr⟩ := hS6.fin
    have hw : goesW N (f + 1) n d st = (false, st) := by first | exact goesW_done (d := d) hgn1 q197_1 q197_1 | exact goesW_no (d := d) hgn1 q197_1 q197_1 (by first | exact .inl q197_1 | exact .inr (.inl q197_1) | exact .inr (.inr ⟨by assumption, by first | assumption | exact List.eq_nil_of_length_eq_zero q197_3⟩))
    exact Ret.mk ⟨by rw [hw], hmF, F2r, by rw [hw]; exact hAr, hFr⟩
  replace hb5 := ne_of_beq_false hb5.symm
  refine .go 4 rfl ?_
  refine .z (.l1 ti57 f3) ?_
  obtain ⟨hr4, x4, hx4⟩ := Acc.at (P := Tryz.prog) f4 Tryz.underlying57 ti3 (k := .i64) (n := ((n : Nat) : Int)) (n) q197_3 q197_4
  refine .go 1 rfl ?_
  refine .z (.indexAddr rfl rfl hr4) ?_
  refine .ac (.storeA f4 Ik.encI_len (i := n) (o := 0) hx4 1 ti3 rfl (by first | omega | rfl) rfl rfl rfl rfl q197_2 (by first | rfl | simp [Ik.encI]) fun w3 hm3 hz3 ha1 => ?_)
  have hl5 : (st.set n 1).length = st.length := List.length_set
  have hS5 := (k1 _ _ _ _ hm3 ha1 (.inl rfl)).n5
  refine .go 4 rfl ?_
  refine .z (.fieldAddr fl238_1 rfl) ?_
  have f7 := hS5.bk (i := 4) rfl
  refine .z (.l1 ti219 f7) ?_
  have f8 := hS5.out hgs1 hG
  refine .z (.lenSl Tryz.underlying219 (f8) rfl) ?_
  have hS7 := (hS5.sel [2, 1, 0, 3] (by rfl) (by decide)).n4
  refine .gi 3 rfl ?_
  refine r_loop (I := fun m E W => ∃ (sk : List Int) (k : Nat), E = [(0, .int .i64 (((n : Nat) : Int))), (1, .int .i64 d), (3, ptr bst 0), (4, ptr bfn 0), (47, x1.e.val), (48, .int .i64 (((gn1.2.length : Nat) : Int))), (49, .int .i64 (((k : Nat) : Int)))] ∧ m = gn1.2.length - k ∧ St (fun _ => False) F w0 W [accR Ik.encI 3 1 vS sk, bkR bst [vS] 57, bkR bga [ptr bG 0] 99, bkR bfn [.func (.func 197) #[] #[ptr bga 0, ptr bst 0, ptr bfn 0]] 157] ∧ ((eachW (fun st e => goesW N f e.to.toNat (d + 1) st) (st.set n 1) gn1.2) = eachW (fun st e => goesW N f e.to.toNat (d + 1) st) sk (gn1.2.drop k)) ∧ (sk.length = N.length) ∧ (k ≤ gn1.2.length)) ?_ ?_
  · refine ⟨_, _, ⟨((st.set n 1) : List Int), (0 : Nat), rfl, rfl, hS7, (by rw [List.drop_zero]), (by simp only [List.length_set]; omega), q197_3⟩, ⟨rfl, rfl, rfl, rfl, rfl, rfl, rfl, trivial⟩⟩
  · rintro _ _ w4 ⟨sk, k, rfl, rfl, hS6, hR, hskl, hkl⟩ ih1
    refine .go 2 rfl ?_
    refine .zb (.lt rfl rfl) fun b9 hb6 => ?_
    refine .gi 2 rfl ?_
    cases b9
    case true =>
      replace hb6 := dt hb6
      have f9 := hS6.out hgs1 hG
      obtain ⟨x5, b10, o4, hx5, hr5, hl6, hw4⟩ := Sl.atF (P := Tryz.prog) f9 Tryz.underlying219 ti233 encE_len (k := .i64) (n := ((k : Nat) : Int)) (k) q197_3 ao
      refine .go 6 rfl ?_
      refine .z (.indexAddr rfl rfl hr5) ?_
      refine .z (.loadN ti233 rfl (fun _ e => e ▸ hw4) rfl) ?_
      have hxE := hx5
      refine .ac (.alloc ti233 fun w5 b11 hm4 hb7 hz4 hk3 => ?_)
      have hS9 := (hS6.newBk hm4 hb7 hk3).n5
      have f10 := hS9.bk (i := 4) rfl
      refine .ac (.store ti233 rfl rfl rfl rfl rfl f10 (Nat.le_of_ble_eq_true rfl) fun w6 hm5 hz5 hk4 => ?_)
      have hS10 := (hS9.bkK (cs' := [.int .i32 x5.rune, .int .i64 x5.to]) (i := 4) rfl hm5 hk4).n5
      have f11 := hS10.bk (i := 3) rfl
      refine .go 3 rfl ?_
      refine .z (.l1 ti157 f11) ?_
      refine .z (.fieldAddr fl233_1 rfl) ?_
      have f12 := hS10.bk (i := 4) rfl
      refine .z (.l1 ti3 f12) ?_
      refine .go 1 rfl ?_
      refine .z (.addI ((d + 1)) rfl rfl (by omega)) ?_
      have hS11 := (hS10.b4 [4] 2 1 0 3 (by rfl) q197_2).n2
      have hto := hed _ (List.mem_of_getElem? hgn1) _ (List.mem_of_getElem? hx5)
      obtain ⟨f2, hf2⟩ : ∃ f2, f = f2 + 1 := ⟨f - 1, by omega⟩
      obtain ⟨Fy1, hAy1, hFy1, hky1⟩ := hS11.act (i := 1) rfl
      refine .ac (.call (first := []) (cap := [ptr bga 0, ptr bst 0, ptr bfn 0]) cl197 rfl rfl (toArgs (ih0 f2 q197_3 (x5.to).toNat ((d + 1)) hAy1 (fun b hb => (hFy1 b hb).2) (hrw.keep hS11.mod (hG _ hGb)) hGb (hsl.keep hS11.mod hG) (hrel.keep hS11.mod hG) (fun b hb hx => by have := (hFy1 b hx).1.1; rcases this with h | h; exact hG b hb h; have := hGl b hb; omega) (fun b hb => Nat.lt_of_lt_of_le (hGl b hb) hS11.mod.size) hNl hel hed (by first | omega | (simp only [List.length_replicate]; done)) q197_3 q197_3) q197_3) ?_)
      rintro _ w7 ⟨rfl, hm6, F1, hB1, hF1⟩
      rw [← hf2] at hB1 ⊢
      have hS12 : St (fun _ => False) F w0 w7 [bkR b11 [.int .i32 x5.rune, .int .i64 x5.to] 233, whR 99 57 3 157 197 bga bst bfn bG vS ((goesW N f ((x5.to).toNat) ((d + 1)) sk).2)] := hky1 _ _ _ hm6 hB1 hF1
      clear hAy1 hFy1 hky1 hB1 hF1
      have hgl := goesW_len N f (x5.to).toNat ((d + 1)) sk
      change St (fun _ => False) F w0 w7 [bkR b11 [.int .i32 x5.rune, .int .i64 x5.to] 233, boxR [bkR bga [ptr bG 0] 99, bkR bst [vS] 57, accR Ik.encI 3 1 vS (goesW N f ((x5.to).toNat) ((d + 1)) sk).2, bkR bfn [.func (.func 197) #[] #[ptr bga 0, ptr bst 0, ptr bfn 0]] 157]] at hS12
      have hS13 := (hS12.un 1 rfl [0] (by rfl) q197_2).n5
      generalize hb8 : (goesW N f ((x5.to).toNat) ((d + 1)) sk).1 = b12
      replace hb8 := hb8.symm
      cases b12
      case true =>
        replace hb8 := hb8.symm
        refine .z (.not rfl) ?_
        refine .go 5 rfl ?_
        refine .z (.addI (((k + 1 : Nat) : Int)) rfl rfl q197_3) ?_
        have hS14 := (hS13.sel [3, 2, 1, 4] (by rfl) q197_2).n4
        refine .gi 2 rfl ?_
        exact (ih1 _ _ _ ⟨((goesW N f ((x5.to).toNat) ((d + 1)) sk).2 : List Int), (k + 1 : Nat), rfl, rfl, hS14, (by first | exact eachW_step hR hxE q197_5 | (exfalso; omega)), (by first | omega | (exfalso; omega)), (by first | omega | (exfalso; omega))⟩ q197_3).sub ⟨rfl, rfl, rfl, rfl, rfl, rfl, rfl, trivial⟩
      replace hb8 := hb8.symm
      refine .z (.not rfl) ?_
      refine .gi 6 rfl ?_
      refine r_ret1 Tryz.func197 rfl rfl ?_
      have hS14 := (hS13.b4 [0] 1 2 3 4 (by rfl) q197_2).n2
      have hS15 := (hS14.sel [1] (by rfl) (by decide)).n1
      obtain ⟨hmF, F2r, hAr, hFr⟩ := hS15.fin
      have hz := eachW_stop hR hxE q197_5
      have hw : goesW N (f + 1) n d st = (false, (goesW N f ((x5.to).toNat) ((d + 1)) sk).2) := goesW_goF (d := d) hgn1 hx2 q197_1 (by intro h; rcases h with h | h | ⟨h1, h2⟩; omega; omega; first | exact absurd (show false = true from h1.symm.trans q197_1) q197_2 | (have := congrArg List.length h2; simp only [List.length_nil] at this; omega)) hz
      exact Ret.mk ⟨by rw [hw], hmF, F2r, by rw [hw]; exact hAr, hFr⟩
    replace hb6 := df hb6
    have f9 := hS6.bk (i := 1) rfl
    refine .go 4 rfl ?_
    refine .z (.l1 ti57 f9) ?_
    obtain ⟨g2, f10, hl6, k2⟩ := hS6.accK (i := 0) rfl
    obtain ⟨hr5, x5, hx5⟩ := Acc.at (P := Tryz.prog) f10 Tryz.underlying57 ti3 (k := .i64) (n := ((n : Nat) : Int)) (n) q197_3 q197_4
    refine .go 1 rfl ?_
    refine .z (.indexAddr rfl rfl hr5) ?_
    refine .ac (.storeA f10 Ik.encI_len (i := n) (o := 0) hx5 2 ti3 rfl (by first | omega | rfl) rfl rfl rfl rfl q197_2 (by first | rfl | simp [Ik.encI]) fun w5 hm4 hz4 ha2 => ?_)
    have hl7 : (sk.set n 2).length = sk.length := List.length_set
    have hS8 := (k2 _ _ _ _ hm4 ha2 (.inl rfl)).n4
    refine .gi 5 rfl ?_
    refine r_ret1 Tryz.func197 rfl rfl ?_
    have hS9 := (hS8.b4 [] 2 1 0 3 (by rfl) (by decide)).n1
    obtain ⟨hmF, F2r, hAr, hFr⟩ := hS9.fin
    have hz := eachW_end hR (by omega)
    have hw : goesW N (f + 1) n d st = (true, (sk.set n 2)) := goesW_goT (d := d) hgn1 hx2 q197_1 (by intro h; rcases h with h | h | ⟨h1, h2⟩; omega; omega; first | exact absurd (show false = true from h1.symm.trans q197_1) q197_2 | (have := congrArg List.length h2; simp only [List.length_nil] at this; omega)) hz
    exact Ret.mk ⟨by rw [hw], hmF, F2r, by rw [hw]; exact hAr, hFr⟩
theorem q174_1 {p : Prop} (h : p := by rw [← hnl]; first | assumption | (symm; assumption)) : p := h
set_option maxRecDepth 20000 in
set_option maxHeartbeats 4000000 in
theorem whole_c {w0 : World} {G : Nat → Prop} {bG : Nat} {vn : Value} {nds : List RNode} {N : List GN} (hrw : Row w0 bG 0 [vn]) (hGb : G bG) (hsl : Sl encN w0 G vn nds) (hrel : NRel w0 G nds N) (hGl : ∀ b, G b → b < w0.heap.size) (hNl : N.length ≤ 1000000) (hel : ∀ x ∈ N, x.2.length ≤ 1000000) (hed : ∀ x ∈ N, ∀ e ∈ x.2, 1 ≤ e.to ∧ e.to < (N.length : Int)) (hpos : 0 < N.length) :
    Calls Tryz.prog 174 #[ptr bG 0] w0 (Ret fun rv w1 => rv = .bool (wholeM N) ∧ Ext w0 w1) := by
  have hG : ∀ b, G b → ¬ (fun _ : Nat => False) b := fun _ _ h => h
  have hS00 := St.start0 w0
  have hnl := (All2.get hrel).1
  refine calls_enter Tryz.func174 rfl Tryz.ntmps174 rfl ?_
  refine .go 2 rfl ?_
  refine .ac (.box [ptr bG 0] rfl rfl fun w1 b1 hm1 hb1 hz1 hk1 => ?_)
  have hS2 := (hS00.newBk hm1 hb1 hk1).n1
  have f1 := hS2.bk (i := 0) rfl
  refine .go 4 rfl ?_
  refine .z (.l1 ti99 f1) ?_
  refine .go 1 rfl ?_
  refine .z (.fieldAddr fl264_0 rfl) ?_
  have f2 := hrw.keep hS2.mod (hG _ hGb)
  refine .z (.lr ti262 f2) ?_
  have f3 := hS2.out hsl hG
  refine .z (.lenSl Tryz.underlying262 (f3) rfl) ?_
  refine .ac (.makeSlice (enc := Ik.encI) nds.length (0 : Int) Tryz.underlying57 ti3 (by decide) rfl Ik.encI_len rfl rfl (by omega) (by omega) (by omega) (by unfold maxLen; omega) fun v1 g1 w2 hm2 hg1 hz2 ha1 => ?_)
  have hr1 : (List.replicate nds.length (0 : Int)).length = nds.length := List.length_replicate
  have hS4 := (hS2.newAcc hm2 ha1 (.inr (by omega))).n2
  refine .ac (.alloc ti57 fun w3 b2 hm3 hb2 hz3 hk2 => ?_)
  have hS6 := (hS4.newBk hm3 hb2 hk2).n3
  obtain ⟨g2, f4, hl1, k1⟩ := hS6.accK (i := 1) rfl
  obtain ⟨ad1, cp1, hv1⟩ := f4.shape
  subst hv1
  have f5 := hS6.bk (i := 2) rfl
  refine .ac (.store ti57 rfl rfl rfl rfl rfl f5 (Nat.le_of_ble_eq_true rfl) fun w4 hm4 hz4 hk3 => ?_)
  have hS7 := (hS6.bkK (cs' := [(.slice ad1 ((List.replicate nds.length (0 : Int))).length cp1)]) (i := 2) rfl hm4 hk3).n3
  refine .go 3 rfl ?_
  refine .ac (.alloc ti157 fun w5 b3 hm5 hb3 hz5 hk4 => ?_)
  have hS9 := (hS7.newBk hm5 hb3 hk4).n4
  refine .go 3 rfl ?_
  refine .z (.makeFunc (first := []) (cap := [ptr b1 0, ptr b2 0, ptr b3 0]) rfl rfl) ?_
  have f6 := hS9.bk (i := 3) rfl
  refine .ac (.store ti157 rfl rfl rfl rfl rfl f6 (Nat.le_of_ble_eq_true rfl) fun w6 hm6 hz6 hk5 => ?_)
  have hS10 := (hS9.bkK (cs' := [.func (.func 197) #[] #[ptr b1 0, ptr b2 0, ptr b3 0]]) (i := 3) rfl hm6 hk5).n4
  have f7 := hS10.bk (i := 0) rfl
  refine .go 3 rfl ?_
  refine .z (.l1 ti99 f7) ?_
  refine .go 1 rfl ?_
  refine .z (.fieldAddr fl264_0 rfl) ?_
  have f8 := hrw.keep hS10.mod (hG _ hGb)
  refine .z (.lr ti262 f8) ?_
  have f9 := hS10.out hsl hG
  refine .z (.lenSl Tryz.underlying262 (f9) rfl) ?_
  refine .zb (.eq rfl rfl) fun b4 hb4 => ?_
  refine .go 1 rfl ?_
  cases b4
  case true =>
    replace hb4 := eq_of_beq hb4.symm
    refine .z (.l1 ti99 f7) ?_
    refine .go 1 rfl ?_
    refine .z (.fieldAddr fl264_0 rfl) ?_
    refine .z (.lr ti262 f8) ?_
    obtain ⟨x1, b5, o1, hx1, hr2, hl2, hw1⟩ := Sl.atF (P := Tryz.prog) f9 Tryz.underlying262 ti238 encN_len (k := .i64) (n := 0) (0) (by omega) ao
    refine .z (.indexAddr rfl rfl hr2) ?_
    refine .z (.fieldAddr fl238_1 rfl) ?_
    have hr3 := hw1.sub 1 1 (Nat.le_of_ble_eq_true rfl)
    refine .z (.lr ti219 hr3) ?_
    obtain ⟨gn1, hgn1, hgf1, hgs1⟩ := hrel.at hx1
    have hel_gn1 := hel _ (List.mem_of_getElem? hgn1)
    have f10 := hS10.out hgs1 hG
    refine .z (.lenSl Tryz.underlying219 (f10) rfl) ?_
    refine .zb (.eq rfl rfl) fun b6 hb5 => ?_
    refine .go 2 rfl ?_
    cases b6
    case true =>
      replace hb5 := eq_of_beq hb5.symm
      refine .gi 5 rfl ?_
      refine r_ret1 Tryz.func174 rfl rfl ?_
      have hw : wholeM N = true := by first | exact wholeM_one (by omega) (by assumption) (by omega) | (refine wholeM_far q174_1 ?_; first | exact .inl (by omega) | exact .inr ⟨_, by assumption, by omega⟩)
      exact Ret.mk ⟨by rw [hw], hS10.mod⟩
    replace hb5 := ne_of_beq_false hb5.symm
    have f11 := hS10.bk (i := 3) rfl
    refine .z (.l1 ti157 f11) ?_
    have hS11 := (hS10.b4 [] 0 2 1 3 (by rfl) (by decide)).n1
    obtain ⟨Fy1, hAy1, hFy1, hky1⟩ := hS11.act (i := 0) rfl
    refine .ac (.call (first := []) (cap := [ptr b1 0, ptr b2 0, ptr b3 0]) cl197 rfl rfl (toArgs (whole1_c 13 0 (0) hAy1 (fun b hb => (hFy1 b hb).2) (hrw.keep hS11.mod (hG _ hGb)) hGb (hsl.keep hS11.mod hG) (hrel.keep hS11.mod hG) (fun b hb hx => by have := (hFy1 b hx).1.1; rcases this with h | h; exact hG b hb h; have := hGl b hb; omega) (fun b hb => Nat.lt_of_lt_of_le (hGl b hb) hS11.mod.size) hNl hel hed (by first | omega | (simp only [List.length_replicate]; done)) (by omega) (by omega)) (by omega)) ?_)
    rintro _ w7 ⟨rfl, hm7, F1, hB1, hF1⟩
    have hS12 : St (fun _ => False) (fun _ => False) w0 w7 [whR 99 57 3 157 197 b1 b2 b3 bG ((.slice ad1 ((List.replicate nds.length (0 : Int))).length cp1)) ((goesW N 14 0 0 ((List.replicate nds.length (0 : Int)))).2)] := hky1 _ _ _ hm7 hB1 hF1
    clear hAy1 hFy1 hky1 hB1 hF1
    generalize hb6 : (goesW N 14 0 0 ((List.replicate nds.length (0 : Int)))).1 = b7
    replace hb6 := hb6.symm
    refine .gi 3 rfl ?_
    refine r_ret1 Tryz.func174 rfl rfl ?_
    have hw : wholeM N = b7 := by first | exact wholeM_one (by omega) (by assumption) (by omega) | (refine wholeM_far q174_1 ?_; first | exact .inl (by omega) | exact .inr ⟨_, by assumption, by omega⟩)
    exact Ret.mk ⟨by rw [hw], hS12.mod⟩
  replace hb4 := ne_of_beq_false hb4.symm
  have f10 := hS10.bk (i := 3) rfl
  refine .go 11 rfl ?_
  refine .z (.l1 ti157 f10) ?_
  have hS11 := (hS10.b4 [] 0 2 1 3 (by rfl) (by decide)).n1
  obtain ⟨Fy1, hAy1, hFy1, hky1⟩ := hS11.act (i := 0) rfl
  refine .ac (.call (first := []) (cap := [ptr b1 0, ptr b2 0, ptr b3 0]) cl197 rfl rfl (toArgs (whole1_c 13 0 (0) hAy1 (fun b hb => (hFy1 b hb).2) (hrw.keep hS11.mod (hG _ hGb)) hGb (hsl.keep hS11.mod hG) (hrel.keep hS11.mod hG) (fun b hb hx => by have := (hFy1 b hx).1.1; rcases this with h | h; exact hG b hb h; have := hGl b hb; omega) (fun b hb => Nat.lt_of_lt_of_le (hGl b hb) hS11.mod.size) hNl hel hed (by first | omega | (simp only [List.length_replicate]; done)) (by omega) (by omega)) (by omega)) ?_)
  rintro _ w7 ⟨rfl, hm7, F1, hB1, hF1⟩
  have hS12 : St (fun _ => False) (fun _ => False) w0 w7 [whR 99 57 3 157 197 b1 b2 b3 bG ((.slice ad1 ((List.replicate nds.length (0 : Int))).length cp1)) ((goesW N 14 0 0 ((List.replicate nds.length (0 : Int)))).2)] := hky1 _ _ _ hm7 hB1 hF1
  clear hAy1 hFy1 hky1 hB1 hF1
  generalize hb5 : (goesW N 14 0 0 ((List.replicate nds.length (0 : Int)))).1 = b5
  replace hb5 := hb5.symm
  refine .gi 3 rfl ?_
  refine r_ret1 Tryz.func174 rfl rfl ?_
  have hw : wholeM N = b5 := by first | exact wholeM_one (by omega) (by assumption) (by omega) | (refine wholeM_far q174_1 ?_; first | exact .inl (by omega) | exact .inr ⟨_, by assumption, by omega⟩)
  exact Ret.mk ⟨by rw [hw], hS12.mod⟩
theorem q198_1 {p : Prop} (h : p := by omega) : p := h
theorem q198_2 {p : Prop} (h : p := by first | exact .inl rfl | exact .inr (.inl (by omega)) | exact .inr (.inr (by omega))) : p := h
theorem q198_3 {p : Prop} (h : p := by decide) : p := h
set_option maxRecDepth 20000 in
set_option maxHeartbeats 4000000 in
theorem some1_c : ∀ (f : Nat) {w0 : World} {F G : Nat → Prop} {bok bl bga bfn : Nat} {l : List Str} {ok : Bool} {bG : Nat} {vn : Value} {nds : List RNode} {N : List GN} (n : Nat) (a : Str) (d : Int) (hA : (smR (R := fun _ => False) 4 23 99 285 9 198 bok bl bga bfn bG ((l, ok))).p F w0) (hF : ∀ b, F b → b < w0.heap.size) (hrw : Row w0 bG 0 [vn]) (hGb : G bG) (hsl : Sl encN w0 G vn nds) (hrel : NRel w0 G nds N) (hG : ∀ b, G b → ¬ F b) (hGl : ∀ b, G b → b < w0.heap.size) (hNl : N.length ≤ 1000000) (hel : ∀ x ∈ N, x.2.length ≤ 1000000) (hed : ∀ x ∈ N, ∀ e ∈ x.2, 1 ≤ e.to ∧ e.to < (N.length : Int)) (hn : n < N.length) (hd : 0 ≤ d ∧ d ≤ 13 ∧ 13 ≤ d + f) (ha : (a.length : Int) ≤ 4 * d) (hll : l.length ≤ 61),
    Calls Tryz.prog 198 #[.int .i64 (n : Int), strV a, .int .i64 d, ptr bok 0, ptr bl 0, ptr bga 0, ptr bfn 0] w0 (Ret fun rv w1 => rv = .tuple #[] ∧ Mod F w0 w1 ∧ ∃ F2, (smR (R := fun _ => False) 4 23 99 285 9 198 bok bl bga bfn bG ((goesS N (f + 1) n a d (l, ok)))).p F2 w1 ∧ ∀ b, F2 b → b < w1.heap.size ∧ (F b ∨ w0.heap.size ≤ b)) := by
  intro f
  induction f using Nat.strongRecOn with
  | _ f ih0 =>
  intro w0 F G bok bl bga bfn l ok bG vn nds N n a d hA hF hrw hGb hsl hrel hG hGl hNl hel hed hn hd ha hll
  have hS00 := St.start1 (R := fun _ => False) hA (fun b hb => ⟨hF b hb, id⟩) (fun _ h => h.elim)
  have hnl := (All2.get hrel).1
  change St (fun _ => False) F w0 w0 [boxR [bkR bok [.bool ok] 4, tbR 23 9 1 encS bl l, bkR bga [ptr bG 0] 99, bkR bfn [.func (.func 198) #[] #[ptr bok 0, ptr bl 0, ptr bga 0, ptr bfn 0]] 285]] at hS00
  have hS1 := (hS00.un 0 rfl [] (by rfl) (by decide)).n4
  obtain ⟨vb1, hS2⟩ := hS1.exo (i := 1) rfl
  change St (fun _ => False) F w0 w0 [bkR bok [.bool ok] 4, boxR [bkR bl [vb1] 23, accR encS 9 1 vb1 l], bkR bga [ptr bG 0] 99, bkR bfn [.func (.func 198) #[] #[ptr bok 0, ptr bl 0, ptr bga 0, ptr bfn 0]] 285] at hS2
  have hS3 := (hS2.un 1 rfl [0, 2, 3] (by rfl) q198_3).n5
  refine calls_enter Tryz.func198 rfl Tryz.ntmps198 rfl ?_
  have f1 := hS3.bk (i := 0) rfl
  refine .go 3 rfl ?_
  refine .z (.l1 ti4 f1) ?_
  cases ok
  case true =>
    refine .z (.not rfl) ?_
    have f2 := hS3.bk (i := 3) rfl
    refine .go 1 rfl ?_
    refine .z (.l1 ti23 f2) ?_
    obtain ⟨g1, f3, hl1, k1⟩ := hS3.accK (i := 4) rfl
    refine .z (.lenSl Tryz.underlying23 (f3.sl) rfl) ?_
    refine .zb (.gt rfl rfl) fun b1 hb1 => ?_
    refine .go 2 rfl ?_
    cases b1
    case true =>
      replace hb1 := dt hb1
      refine .go 7 rfl ?_
      refine .ac (.store ti4 rfl rfl rfl rfl rfl f1 (Nat.le_of_ble_eq_true rfl) fun w1 hm1 hz1 hk1 => ?_)
      have hS4 := (hS3.bkK (cs' := [.bool false]) (i := 0) rfl hm1 hk1).n5
      refine .gi 1 rfl ?_
      refine r_ret0 Tryz.func198 rfl ?_
      have hS5 := (hS4.b2 [0, 1, 2] 3 4 (by rfl) q198_3).n4
      have hS6 : St (fun _ => False) F w0 w1 [bkR bok [.bool false] 4, bkR bga [ptr bG 0] 99, bkR bfn [.func (.func 198) #[] #[ptr bok 0, ptr bl 0, ptr bga 0, ptr bfn 0]] 285, tbR 23 9 1 encS bl l] := hS5.exi vb1 (i := 3) rfl
      have hS7 := (hS6.b4 [] 0 3 1 2 (by rfl) q198_3).n1
      obtain ⟨hmF, F2r, hAr, hFr⟩ := hS7.fin
      have hw := goesS_no (N := N) (f := f) (n := n) (a := a) (d := d) (l := l) (ok := true) q198_2
      exact Ret.mk ⟨rfl, hmF, F2r, by rw [hw]; exact hAr, hFr⟩
    replace hb1 := df hb1
    refine .go 1 rfl ?_
    refine .zb (.gt rfl rfl) fun b2 hb2 => ?_
    refine .gi 2 rfl ?_
    cases b2
    case true =>
      replace hb2 := dt hb2
      refine .go 3 rfl ?_
      refine .ac (.store ti4 rfl rfl rfl rfl rfl f1 (Nat.le_of_ble_eq_true rfl) fun w1 hm1 hz1 hk1 => ?_)
      have hS4 := (hS3.bkK (cs' := [.bool false]) (i := 0) rfl hm1 hk1).n5
      refine .gi 1 rfl ?_
      refine r_ret0 Tryz.func198 rfl ?_
      have hS5 := (hS4.b2 [0, 1, 2] 3 4 (by rfl) q198_3).n4
      have hS6 : St (fun _ => False) F w0 w1 [bkR bok [.bool false] 4, bkR bga [ptr bG 0] 99, bkR bfn [.func (.func 198) #[] #[ptr bok 0, ptr bl 0, ptr bga 0, ptr bfn 0]] 285, tbR 23 9 1 encS bl l] := hS5.exi vb1 (i := 3) rfl
      have hS7 := (hS6.b4 [] 0 3 1 2 (by rfl) q198_3).n1
      obtain ⟨hmF, F2r, hAr, hFr⟩ := hS7.fin
      have hw := goesS_no (N := N) (f := f) (n := n) (a := a) (d := d) (l := l) (ok := true) q198_2
      exact Ret.mk ⟨rfl, hmF, F2r, by rw [hw]; exact hAr, hFr⟩
    replace hb2 := df hb2
    have f4 := hS3.bk (i := 1) rfl
    refine .go 5 rfl ?_
    refine .z (.l1 ti99 f4) ?_
    refine .go 1 rfl ?_
    refine .z (.fieldAddr fl264_0 rfl) ?_
    refine .z (.lr ti262 hrw) ?_
    obtain ⟨x1, b3, o1, hx1, hr1, hl2, hw1⟩ := Sl.atF (P := Tryz.prog) hsl Tryz.underlying262 ti238 encN_len (k := .i64) (n := ((n : Nat) : Int)) (n) q198_1 ao
    refine .go 1 rfl ?_
    refine .z (.indexAddr rfl rfl hr1) ?_
    refine .z (.fieldAddr fl238_0 rfl) ?_
    have hr2 := hw1.sub 0 1 (Nat.le_of_ble_eq_true rfl)
    refine .z (.lr ti4 hr2) ?_
    obtain ⟨gn1, hgn1, hgf1, hgs1⟩ := hrel.at hx1
    have hel_gn1 := hel _ (List.mem_of_getElem? hgn1)
    obtain ⟨fb1, hfq1⟩ : ∃ b, x1.fin = b := ⟨_, rfl⟩
    first | rw [show encN x1 = [.bool fb1, x1.e.val] from by rw [← hfq1]; rfl] | rw [hfq1]
    have hfb1 : fb1 = gn1.1 := by rw [← hfq1]; first | exact hgf1 | exact hgf1.symm
    refine .gi 1 rfl ?_
    cases fb1
    case true =>
      replace hfb1 := hfb1.symm
      refine .go 2 rfl ?_
      refine .z (.l1 ti23 f2) ?_
      refine .go 1 rfl ?_
      refine .ac (.buildSlice [strV a] Tryz.underlying23 ti9 rfl rfl rfl q198_3 fun w1 b4 hm1 hb3 hz1 hk1 => ?_)
      have hl3 := Sl.of_blk (enc := encS) hk1 ([a] : List Str) 1 rfl rfl (by unfold maxLen; omega)
      have hS5 := (hS3.newSlB hm1 hb3 hz1 hl3).n6
      obtain ⟨g3, f5, hl4, k2⟩ := hS5.accK (i := 4) rfl
      have f6 := hS5.sl (i := 5) (k := 0) rfl rfl
      refine .ac (.append f5 Tryz.underlying23 ti9 rfl encS_len encS_one rfl rfl (f6) ol ox fun v1 g2 w2 ha1 hm2 hg1 hz2 => ?_)
      have hS6 := (k2 _ _ _ _ hm2 ha1 hg1).n6
      clear hg1
      obtain ⟨g4, f7, hl5, k3⟩ := hS6.accK (i := 4) rfl
      obtain ⟨ad1, cp1, hv1⟩ := f7.shape
      subst hv1
      have f8 := hS6.bk (i := 3) rfl
      refine .ac (.store ti23 rfl rfl rfl rfl rfl f8 (Nat.le_of_ble_eq_true rfl) fun w3 hm3 hz3 hk2 => ?_)
      have hS7 := (hS6.bkK (cs' := [(.slice ad1 ((l ++ [a])).length cp1)]) (i := 3) rfl hm3 hk2).n6
      have f9 := hS7.bk (i := 1) rfl
      refine .go 3 rfl ?_
      refine .z (.l1 ti99 f9) ?_
      refine .go 1 rfl ?_
      refine .z (.fieldAddr fl264_0 rfl) ?_
      have f10 := hrw.keep hS7.mod (hG _ hGb)
      refine .z (.lr ti262 f10) ?_
      have f11 := hS7.out hsl hG
      obtain ⟨x2, b5, o2, hx2, hr3, hl6, hw2⟩ := Sl.atF (P := Tryz.prog) f11 Tryz.underlying262 ti238 encN_len (k := .i64) (n := ((n : Nat) : Int)) (n) q198_1 ao
      obtain rfl : x1 = x2 := Option.some.inj (hx1.symm.trans hx2)
      refine .go 1 rfl ?_
      refine .z (.indexAddr rfl rfl hr3) ?_
      refine .z (.fieldAddr fl238_1 rfl) ?_
      have hr4 := hw2.sub 1 1 (Nat.le_of_ble_eq_true rfl)
      refine .z (.lr ti219 hr4) ?_
      have f12 := hS7.out hgs1 hG
      refine .z (.lenSl Tryz.underlying219 (f12) rfl) ?_
      have hS8 := (hS7.b2 [0, 1, 2, 5] 3 4 (by rfl) q198_3).n5
      have hS9 : St (fun _ => False) F w0 w3 [bkR bok [.bool true] 4, bkR bga [ptr bG 0] 99, bkR bfn [.func (.func 198) #[] #[ptr bok 0, ptr bl 0, ptr bga 0, ptr bfn 0]] 285, slR encS [((.slice (some ⟨b4, 0, none⟩) 1 1), [a])], tbR 23 9 1 encS bl ((l ++ [a]))] := hS8.exi (.slice ad1 ((l ++ [a])).length cp1) (i := 4) rfl
      have hs0 : ((l ++ [a]), true) = if gn1.1 = true then (l ++ [a], true) else (l, true) := by first | (rw [if_pos (by first | assumption | (symm; assumption))]; done) | (rw [if_neg (by simp only [*]; decide)]; done)
      have hS11 := (hS9.sel [0, 4, 1, 2] (by rfl) q198_3).n4
      refine .gi 3 rfl ?_
      refine r_loop (I := fun m E W => ∃ (okk : Bool) (k : Nat) (sl : List Str), E = [(1, strV a), (2, .int .i64 d), (6, ptr bfn 0), (42, x1.e.val), (43, .int .i64 (((gn1.2.length : Nat) : Int))), (44, .int .i64 (((k : Nat) : Int)))] ∧ m = gn1.2.length - k ∧ St (fun _ => False) F w0 W [bkR bok [.bool okk] 4, tbR 23 9 1 encS bl sl, bkR bga [ptr bG 0] 99, bkR bfn [.func (.func 198) #[] #[ptr bok 0, ptr bl 0, ptr bga 0, ptr bfn 0]] 285] ∧ (gn1.2.foldl (fun s e => goesS N f e.to.toNat (a ++ encR e.rune) (d + 1) s) (if gn1.1 = true then (l ++ [a], true) else (l, true)) = (gn1.2.drop k).foldl (fun s e => goesS N f e.to.toNat (a ++ encR e.rune) (d + 1) s) (sl, okk)) ∧ (sl.length ≤ 61) ∧ (k ≤ gn1.2.length)) ?_ ?_
      · refine ⟨_, _, ⟨(true : Bool), (0 : Nat), ((l ++ [a]) : List Str), rfl, rfl, hS11, (by (rw [List.drop_zero]; exact congrArg (fun q => List.foldl _ q _) hs0.symm)), (by first | omega | (simp only [List.length_append, List.length_cons, List.length_nil]; omega)), q198_1⟩, ⟨rfl, rfl, rfl, rfl, rfl, rfl, trivial⟩⟩
      · rintro _ _ w4 ⟨okk, k, sl, rfl, rfl, hS10, hR, hsl61, hkl⟩ ih1
        refine .go 2 rfl ?_
        refine .zb (.lt rfl rfl) fun b6 hb4 => ?_
        refine .gi 2 rfl ?_
        cases b6
        case true =>
          replace hb4 := dt hb4
          have f13 := hS10.out hgs1 hG
          obtain ⟨x3, b7, o3, hx3, hr5, hl7, hw3⟩ := Sl.atF (P := Tryz.prog) f13 Tryz.underlying219 ti233 encE_len (k := .i64) (n := ((k : Nat) : Int)) (k) q198_1 ao
          refine .go 6 rfl ?_
          refine .z (.indexAddr rfl rfl hr5) ?_
          refine .z (.loadN ti233 rfl (fun _ e => e ▸ hw3) rfl) ?_
          have hxE := hx3
          have hrl := encR_le x3.rune
          refine .ac (.alloc ti233 fun w5 b8 hm4 hb5 hz4 hk3 => ?_)
          have hS13 := (hS10.newBk hm4 hb5 hk3).n5
          have f14 := hS13.bk (i := 4) rfl
          refine .ac (.store ti233 rfl rfl rfl rfl rfl f14 (Nat.le_of_ble_eq_true rfl) fun w6 hm5 hz5 hk4 => ?_)
          have hS14 := (hS13.bkK (cs' := [.int .i32 x3.rune, .int .i64 x3.to]) (i := 4) rfl hm5 hk4).n5
          have f15 := hS14.bk (i := 3) rfl
          refine .go 2 rfl ?_
          refine .z (.l1 ti285 f15) ?_
          refine .z (.fieldAddr fl233_1 rfl) ?_
          have f16 := hS14.bk (i := 4) rfl
          refine .z (.l1 ti3 f16) ?_
          refine .go 1 rfl ?_
          refine .z (.fieldAddr fl233_0 rfl) ?_
          refine .z (.l1 ti21 f16) ?_
          refine .z (.convRS (by kernel_rfl) Tryz.underlying9 rfl) ?_
          refine .z (.catS rfl rfl (by first | omega | (simp only [List.length_append]; omega) | (simp only [List.length_append, List.length_cons, List.length_nil]; omega))) ?_
          refine .go 1 rfl ?_
          refine .z (.addI ((d + 1)) rfl rfl (by omega)) ?_
          have hS15 := (hS14.b4 [4] 0 1 2 3 (by rfl) q198_3).n2
          have hto := hed _ (List.mem_of_getElem? hgn1) _ (List.mem_of_getElem? hx3)
          obtain ⟨f2, hf2⟩ : ∃ f2, f = f2 + 1 := ⟨f - 1, by omega⟩
          obtain ⟨Fy1, hAy1, hFy1, hky1⟩ := hS15.act (i := 1) rfl
          refine .ac (.call (first := []) (cap := [ptr bok 0, ptr bl 0, ptr bga 0, ptr bfn 0]) cl198 rfl rfl (toArgs (ih0 f2 q198_1 ((x3.to).toNat) ((a ++ (encR x3.rune))) ((d + 1)) hAy1 (fun b hb => (hFy1 b hb).2) (hrw.keep hS15.mod (hG _ hGb)) hGb (hsl.keep hS15.mod hG) (hrel.keep hS15.mod hG) (fun b hb hx => by have := (hFy1 b hx).1.1; rcases this with h | h; exact hG b hb h; have := hGl b hb; omega) (fun b hb => Nat.lt_of_lt_of_le (hGl b hb) hS15.mod.size) hNl hel hed q198_1 q198_1 (by first | omega | (simp only [List.length_append]; omega) | (simp only [List.length_nil]; omega)) (by first | omega | (simp only [List.length_nil]; omega))) q198_1) ?_)
          rintro _ w7 ⟨rfl, hm6, F1, hB1, hF1⟩
          rw [← hf2] at hB1
          have hgo1_len := goesS_len N f ((x3.to).toNat) ((a ++ (encR x3.rune))) ((d + 1)) (sl, okk) (by first | omega | (simp only [List.length_nil]; omega))
          obtain ⟨⟨lg1, og1⟩, hgo1⟩ : ∃ x, x = (goesS N f ((x3.to).toNat) ((a ++ (encR x3.rune))) ((d + 1)) (sl, okk)) := ⟨_, rfl⟩
          rw [← hgo1] at hB1 hgo1_len
          dsimp only at hgo1_len
          have hS16 : St (fun _ => False) F w0 w7 [bkR b8 [.int .i32 x3.rune, .int .i64 x3.to] 233, boxR [bkR bok [.bool og1] 4, tbR 23 9 1 encS bl lg1, bkR bga [ptr bG 0] 99, bkR bfn [.func (.func 198) #[] #[ptr bok 0, ptr bl 0, ptr bga 0, ptr bfn 0]] 285]] := hky1 _ _ _ hm6 hB1 hF1
          clear hAy1 hFy1 hky1 hB1 hF1
          have hS17 := (hS16.un 1 rfl [0] (by rfl) q198_3).n5
          refine .go 3 rfl ?_
          refine .z (.addI (((k + 1 : Nat) : Int)) rfl rfl q198_1) ?_
          have hz := fold_step hR hxE
          refine .gi 2 rfl ?_
          try dsimp only at hz
          rw [← hgo1] at hz
          have hS18 := (hS17.sel [1, 2, 3, 4] (by rfl) q198_3).n4
          exact (ih1 _ _ _ ⟨(og1 : Bool), (k + 1 : Nat), (lg1 : List Str), rfl, rfl, hS18, (by first | exact hz | (exfalso; omega)), (by first | omega | (exfalso; omega)), (by first | omega | (exfalso; omega))⟩ q198_1).sub ⟨rfl, rfl, rfl, rfl, rfl, rfl, trivial⟩
        replace hb4 := df hb4
        refine .gi 2 rfl ?_
        refine r_end0 Tryz.func198 rfl ?_
        have hS12 := (hS10.b4 [] 0 1 2 3 (by rfl) q198_3).n1
        obtain ⟨hmF, F2r, hAr, hFr⟩ := hS12.fin
        have hw := goesS_go (f := f) (d := d) (a := a) (l := l) (ok := true) (by intro h; rcases h with h | h | h; exact absurd h q198_3; omega; omega) hgn1 rfl (fold_end hR q198_1)
        exact Ret.mk ⟨rfl, hmF, F2r, by rw [hw]; exact hAr, hFr⟩
    replace hfb1 := hfb1.symm
    refine .go 4 rfl ?_
    refine .z (.l1 ti99 f4) ?_
    refine .go 1 rfl ?_
    refine .z (.fieldAddr fl264_0 rfl) ?_
    refine .z (.lr ti262 hrw) ?_
    obtain ⟨x2, b4, o2, hx2, hr3, hl3, hw2⟩ := Sl.atF (P := Tryz.prog) hsl Tryz.underlying262 ti238 encN_len (k := .i64) (n := ((n : Nat) : Int)) (n) q198_1 ao
    obtain rfl : x1 = x2 := Option.some.inj (hx1.symm.trans hx2)
    refine .go 1 rfl ?_
    refine .z (.indexAddr rfl rfl hr3) ?_
    refine .z (.fieldAddr fl238_1 rfl) ?_
    have hr4 := hw2.sub 1 1 (Nat.le_of_ble_eq_true rfl)
    refine .z (.lr ti219 hr4) ?_
    refine .z (.lenSl Tryz.underlying219 (hgs1) rfl) ?_
    have hS4 := (hS3.b2 [0, 1, 2] 3 4 (by rfl) q198_3).n4
    have hS5 : St (fun _ => False) F w0 w0 [bkR bok [.bool true] 4, bkR bga [ptr bG 0] 99, bkR bfn [.func (.func 198) #[] #[ptr bok 0, ptr bl 0, ptr bga 0, ptr bfn 0]] 285, tbR 23 9 1 encS bl l] := hS4.exi vb1 (i := 3) rfl
    have hs0 : (l, true) = if gn1.1 = true then (l ++ [a], true) else (l, true) := by first | (rw [if_pos (by first | assumption | (symm; assumption))]; done) | (rw [if_neg (by simp only [*]; decide)]; done)
    have hS7 := (hS5.sel [0, 3, 1, 2] (by rfl) q198_3).n4
    refine .gi 3 rfl ?_
    refine r_loop (I := fun m E W => ∃ (okk : Bool) (k : Nat) (sl : List Str), E = [(1, strV a), (2, .int .i64 d), (6, ptr bfn 0), (42, x1.e.val), (43, .int .i64 (((gn1.2.length : Nat) : Int))), (44, .int .i64 (((k : Nat) : Int)))] ∧ m = gn1.2.length - k ∧ St (fun _ => False) F w0 W [bkR bok [.bool okk] 4, tbR 23 9 1 encS bl sl, bkR bga [ptr bG 0] 99, bkR bfn [.func (.func 198) #[] #[ptr bok 0, ptr bl 0, ptr bga 0, ptr bfn 0]] 285] ∧ (gn1.2.foldl (fun s e => goesS N f e.to.toNat (a ++ encR e.rune) (d + 1) s) (if gn1.1 = true then (l ++ [a], true) else (l, true)) = (gn1.2.drop k).foldl (fun s e => goesS N f e.to.toNat (a ++ encR e.rune) (d + 1) s) (sl, okk)) ∧ (sl.length ≤ 61) ∧ (k ≤ gn1.2.length)) ?_ ?_
    · refine ⟨_, _, ⟨(true : Bool), (0 : Nat), (l : List Str), rfl, rfl, hS7, (by (rw [List.drop_zero]; exact congrArg (fun q => List.foldl _ q _) hs0.symm)), (by first | omega | (simp only [List.length_append, List.length_cons, List.length_nil]; omega)), q198_1⟩, ⟨rfl, rfl, rfl, rfl, rfl, rfl, trivial⟩⟩
    · rintro _ _ w1 ⟨okk, k, sl, rfl, rfl, hS6, hR, hsl61, hkl⟩ ih1
      refine .go 2 rfl ?_
      refine .zb (.lt rfl rfl) fun b5 hb3 => ?_
      refine .gi 2 rfl ?_
      cases b5
      case true =>
        replace hb3 := dt hb3
        have f5 := hS6.out hgs1 hG
        obtain ⟨x3, b6, o3, hx3, hr5, hl4, hw3⟩ := Sl.atF (P := Tryz.prog) f5 Tryz.underlying219 ti233 encE_len (k := .i64) (n := ((k : Nat) : Int)) (k) q198_1 ao
        refine .go 6 rfl ?_
        refine .z (.indexAddr rfl rfl hr5) ?_
        refine .z (.loadN ti233 rfl (fun _ e => e ▸ hw3) rfl) ?_
        have hxE := hx3
        have hrl := encR_le x3.rune
        refine .ac (.alloc ti233 fun w2 b7 hm1 hb4 hz1 hk1 => ?_)
        have hS9 := (hS6.newBk hm1 hb4 hk1).n5
        have f6 := hS9.bk (i := 4) rfl
        refine .ac (.store ti233 rfl rfl rfl rfl rfl f6 (Nat.le_of_ble_eq_true rfl) fun w3 hm2 hz2 hk2 => ?_)
        have hS10 := (hS9.bkK (cs' := [.int .i32 x3.rune, .int .i64 x3.to]) (i := 4) rfl hm2 hk2).n5
        have f7 := hS10.bk (i := 3) rfl
        refine .go 2 rfl ?_
        refine .z (.l1 ti285 f7) ?_
        refine .z (.fieldAddr fl233_1 rfl) ?_
        have f8 := hS10.bk (i := 4) rfl
        refine .z (.l1 ti3 f8) ?_
        refine .go 1 rfl ?_
        refine .z (.fieldAddr fl233_0 rfl) ?_
        refine .z (.l1 ti21 f8) ?_
        refine .z (.convRS (by kernel_rfl) Tryz.underlying9 rfl) ?_
        refine .z (.catS rfl rfl (by first | omega | (simp only [List.length_append]; omega) | (simp only [List.length_append, List.length_cons, List.length_nil]; omega))) ?_
        refine .go 1 rfl ?_
        refine .z (.addI ((d + 1)) rfl rfl (by omega)) ?_
        have hS11 := (hS10.b4 [4] 0 1 2 3 (by rfl) q198_3).n2
        have hto := hed _ (List.mem_of_getElem? hgn1) _ (List.mem_of_getElem? hx3)
        obtain ⟨f2, hf2⟩ : ∃ f2, f = f2 + 1 := ⟨f - 1, by omega⟩
        obtain ⟨Fy1, hAy1, hFy1, hky1⟩ := hS11.act (i := 1) rfl
        refine .ac (.call (first := []) (cap := [ptr bok 0, ptr bl 0, ptr bga 0, ptr bfn 0]) cl198 rfl rfl (toArgs (ih0 f2 q198_1 ((x3.to).toNat) ((a ++ (encR x3.rune))) ((d + 1)) hAy1 (fun b hb => (hFy1 b hb).2) (hrw.keep hS11.mod (hG _ hGb)) hGb (hsl.keep hS11.mod hG) (hrel.keep hS11.mod hG) (fun b hb hx => by have := (hFy1 b hx).1.1; rcases this with h | h; exact hG b hb h; have := hGl b hb; omega) (fun b hb => Nat.lt_of_lt_of_le (hGl b hb) hS11.mod.size) hNl hel hed q198_1 q198_1 (by first | omega | (simp only [List.length_append]; omega) | (simp only [List.length_nil]; omega)) (by first | omega | (simp only [List.length_nil]; omega))) q198_1) ?_)
        rintro _ w4 ⟨rfl, hm3, F1, hB1, hF1⟩
        rw [← hf2] at hB1
        have hgo1_len := goesS_len N f ((x3.to).toNat) ((a ++ (encR x3.rune))) ((d + 1)) (sl, okk) (by first | omega | (simp only [List.length_nil]; omega))
        obtain ⟨⟨lg1, og1⟩, hgo1⟩ : ∃ x, x = (goesS N f ((x3.to).toNat) ((a ++ (encR x3.rune))) ((d + 1)) (sl, okk)) := ⟨_, rfl⟩
        rw [← hgo1] at hB1 hgo1_len
        dsimp only at hgo1_len
        have hS12 : St (fun _ => False) F w0 w4 [bkR b7 [.int .i32 x3.rune, .int .i64 x3.to] 233, boxR [bkR bok [.bool og1] 4, tbR 23 9 1 encS bl lg1, bkR bga [ptr bG 0] 99, bkR bfn [.func (.func 198) #[] #[ptr bok 0, ptr bl 0, ptr bga 0, ptr bfn 0]] 285]] := hky1 _ _ _ hm3 hB1 hF1
        clear hAy1 hFy1 hky1 hB1 hF1
        have hS13 := (hS12.un 1 rfl [0] (by rfl) q198_3).n5
        refine .go 3 rfl ?_
        refine .z (.addI (((k + 1 : Nat) : Int)) rfl rfl q198_1) ?_
        have hz := fold_step hR hxE
        refine .gi 2 rfl ?_
        try dsimp only at hz
        rw [← hgo1] at hz
        have hS14 := (hS13.sel [1, 2, 3, 4] (by rfl) q198_3).n4
        exact (ih1 _ _ _ ⟨(og1 : Bool), (k + 1 : Nat), (lg1 : List Str), rfl, rfl, hS14, (by first | exact hz | (exfalso; omega)), (by first | omega | (exfalso; omega)), (by first | omega | (exfalso; omega))⟩ q198_1).sub ⟨rfl, rfl, rfl, rfl, rfl, rfl, trivial⟩
      replace hb3 := df hb3
      refine .gi 2 rfl ?_
      refine r_end0 Tryz.func198 rfl ?_
      have hS8 := (hS6.b4 [] 0 1 2 3 (by rfl) q198_3).n1
      obtain ⟨hmF, F2r, hAr, hFr⟩ := hS8.fin
      have hw := goesS_go (f := f) (d := d) (a := a) (l := l) (ok := true) (by intro h; rcases h with h | h | h; exact absurd h q198_3; omega; omega) hgn1 rfl (fold_end hR q198_1)
      exact Ret.mk ⟨rfl, hmF, F2r, by rw [hw]; exact hAr, hFr⟩
  refine .z (.not rfl) ?_
  refine .go 13 rfl ?_
  refine .ac (.store ti4 rfl rfl rfl rfl rfl f1 (Nat.le_of_ble_eq_true rfl) fun w1 hm1 hz1 hk1 => ?_)
  have hS4 := (hS3.bkK (cs' := [.bool false]) (i := 0) rfl hm1 hk1).n5
  refine .gi 1 rfl ?_
  refine r_ret0 Tryz.func198 rfl ?_
  have hS5 := (hS4.b2 [0, 1, 2] 3 4 (by rfl) (by decide)).n4
  have hS6 : St (fun _ => False) F w0 w1 [bkR bok [.bool false] 4, bkR bga [ptr bG 0] 99, bkR bfn [.func (.func 198) #[] #[ptr bok 0, ptr bl 0, ptr bga 0, ptr bfn 0]] 285, tbR 23 9 1 encS bl l] := hS5.exi vb1 (i := 3) rfl
  have hS7 := (hS6.b4 [] 0 3 1 2 (by rfl) (by decide)).n1
  obtain ⟨hmF, F2r, hAr, hFr⟩ := hS7.fin
  have hw := goesS_no (N := N) (f := f) (n := n) (a := a) (d := d) (l := l) (ok := false) q198_2
  exact Ret.mk ⟨rfl, hmF, F2r, by rw [hw]; exact hAr, hFr⟩
set_option maxRecDepth 20000 in
set_option maxHeartbeats 4000000 in
theorem some_c {w0 : World} {G : Nat → Prop} {bG : Nat} {vn : Value} {nds : List RNode} {N : List GN} (hrw : Row w0 bG 0 [vn]) (hGb : G bG) (hsl : Sl encN w0 G vn nds) (hrel : NRel w0 G nds N) (hGl : ∀ b, G b → b < w0.heap.size) (hNl : N.length ≤ 1000000) (hel : ∀ x ∈ N, x.2.length ≤ 1000000) (hed : ∀ x ∈ N, ∀ e ∈ x.2, 1 ≤ e.to ∧ e.to < (N.length : Int)) (hpos : 0 < N.length) :
    Calls Tryz.prog 175 #[ptr bG 0] w0 (Ret fun rv w1 => ∃ v gr, rv = .tuple #[v, .bool (someM N).2] ∧ Acc encS 9 1 w1 gr v (someM N).1 ∧ (gr = 0 ∨ w0.heap.size < gr) ∧ Ext w0 w1) := by
  have hG : ∀ b, G b → ¬ (fun _ : Nat => False) b := fun _ _ h => h
  have hS00 := St.start0 w0
  have hnl := (All2.get hrel).1
  refine calls_enter Tryz.func175 rfl Tryz.ntmps175 rfl ?_
  refine .go 2 rfl ?_
  refine .ac (.box [ptr bG 0] rfl rfl fun w1 b1 hm1 hb1 hz1 hk1 => ?_)
  have hS2 := (hS00.newBk hm1 hb1 hk1).n1
  refine .go 5 rfl ?_
  refine .ac (.alloc ti23 fun w2 b2 hm2 hb2 hz2 hk2 => ?_)
  have hS4 := (hS2.newBk hm2 hb2 hk2).n2
  refine .go 3 rfl ?_
  refine .ac (.alloc ti4 fun w3 b3 hm3 hb3 hz3 hk3 => ?_)
  have hS6 := (hS4.newBk hm3 hb3 hk3).n3
  have f1 := hS6.bk (i := 2) rfl
  refine .ac (.store ti4 rfl rfl rfl rfl rfl f1 (Nat.le_of_ble_eq_true rfl) fun w4 hm4 hz4 hk4 => ?_)
  have hS7 := (hS6.bkK (cs' := [.bool true]) (i := 2) rfl hm4 hk4).n3
  refine .go 3 rfl ?_
  refine .ac (.alloc ti285 fun w5 b4 hm5 hb4 hz5 hk5 => ?_)
  have hS9 := (hS7.newBk hm5 hb4 hk5).n4
  refine .go 3 rfl ?_
  refine .z (.makeFunc (first := []) (cap := [ptr b3 0, ptr b2 0, ptr b1 0, ptr b4 0]) rfl rfl) ?_
  have f2 := hS9.bk (i := 3) rfl
  refine .ac (.store ti285 rfl rfl rfl rfl rfl f2 (Nat.le_of_ble_eq_true rfl) fun w6 hm6 hz6 hk6 => ?_)
  have hS10 := (hS9.bkK (cs' := [.func (.func 198) #[] #[ptr b3 0, ptr b2 0, ptr b1 0, ptr b4 0]]) (i := 3) rfl hm6 hk6).n4
  have f3 := hS10.bk (i := 3) rfl
  refine .go 3 rfl ?_
  refine .z (.l1 ti285 f3) ?_
  have hS11 : St (fun _ => False) (fun _ => False) w0 w6 [bkR b1 [ptr bG 0] 99, bkR b2 [.slice none 0 0] 23, bkR b3 [.bool true] 4, bkR b4 [.func (.func 198) #[] #[ptr b3 0, ptr b2 0, ptr b1 0, ptr b4 0]] 285, accR encS 9 1 (.slice none 0 0) []] := hS10.newAcc (Mod.refl _ _) Acc.nil (.inl rfl)
  have hS12 := (hS11.b2 [0, 2, 3] 1 4 (by rfl) (by decide)).n4
  have hS13 : St (fun _ => False) (fun _ => False) w0 w6 [bkR b1 [ptr bG 0] 99, bkR b3 [.bool true] 4, bkR b4 [.func (.func 198) #[] #[ptr b3 0, ptr b2 0, ptr b1 0, ptr b4 0]] 285, tbR 23 9 1 encS b2 (([] : List Str))] := hS12.exi (.slice none 0 0) (i := 3) rfl
  have hS14 := (hS13.b4 [] 1 3 0 2 (by rfl) (by decide)).n1
  obtain ⟨Fy1, hAy1, hFy1, hky1⟩ := hS14.act (i := 0) rfl
  refine .ac (.call (first := []) (cap := [ptr b3 0, ptr b2 0, ptr b1 0, ptr b4 0]) cl198 rfl rfl (toArgs (some1_c 13 (0) (([] : Str)) (0) hAy1 (fun b hb => (hFy1 b hb).2) (hrw.keep hS14.mod (hG _ hGb)) hGb (hsl.keep hS14.mod hG) (hrel.keep hS14.mod hG) (fun b hb hx => by have := (hFy1 b hx).1.1; rcases this with h | h; exact hG b hb h; have := hGl b hb; omega) (fun b hb => Nat.lt_of_lt_of_le (hGl b hb) hS14.mod.size) hNl hel hed (by omega) (by omega) (by first | omega | (simp only [List.length_append]; omega) | (simp only [List.length_nil]; omega)) (by first | omega | (simp only [List.length_nil]; omega))) (by omega)) ?_)
  rintro _ w7 ⟨rfl, hm7, F1, hB1, hF1⟩
  have hgo1_len := goesS_len N 14 0 (([] : Str)) (0) ([], true) (by first | omega | (simp only [List.length_nil]; omega))
  obtain ⟨⟨lg1, og1⟩, hgo1⟩ : ∃ x, x = (goesS N 14 0 (([] : Str)) 0 ([], true)) := ⟨_, rfl⟩
  rw [← hgo1] at hB1 hgo1_len
  dsimp only at hgo1_len
  have hS15 : St (fun _ => False) (fun _ => False) w0 w7 [boxR [bkR b3 [.bool og1] 4, tbR 23 9 1 encS b2 lg1, bkR b1 [ptr bG 0] 99, bkR b4 [.func (.func 198) #[] #[ptr b3 0, ptr b2 0, ptr b1 0, ptr b4 0]] 285]] := hky1 _ _ _ hm7 hB1 hF1
  clear hAy1 hFy1 hky1 hB1 hF1
  have hS16 := (hS15.un 0 rfl [] (by rfl) (by decide)).n4
  obtain ⟨vb1, hS17⟩ := hS16.exo (i := 1) rfl
  change St (fun _ => False) (fun _ => False) w0 w7 [bkR b3 [.bool og1] 4, boxR [bkR b2 [vb1] 23, accR encS 9 1 vb1 lg1], bkR b1 [ptr bG 0] 99, bkR b4 [.func (.func 198) #[] #[ptr b3 0, ptr b2 0, ptr b1 0, ptr b4 0]] 285] at hS17
  have hS18 := (hS17.un 1 rfl [0, 2, 3] (by rfl) (by decide)).n5
  refine .gi 2 rfl ?_
  refine r_draw1 (fun i => false) 9 (fun w' => Mod (Mg 0) w7 w') mixed (by kernel_rfl) fun w8 hm8 => ?_
  have hS19 := hS18.ext hm8
  have hCw8 : Mod (Mg 0) w7 w8 := Mod.ofExt hm8
  refine ⟨hCw8, ?_⟩
  rw [show List.range' 0 (Array.size _) = [0, 1, 2, 3, 4, 5, 6, 7, 8] from rfl]
  have f4 := hS18.bk (i := 3) rfl
  refine .z rfl (.load1 ti23 rfl (fun _ hc => (f4.cell 0 _ rfl).keepG hc (Nat.succ_ne_zero _))) ?_
  have f5 := hS18.bk (i := 0) rfl
  refine .z rfl (.load1 ti4 rfl (fun _ hc => (f5.cell 0 _ rfl).keepG hc (Nat.succ_ne_zero _))) ?_
  refine .gd 1 rfl ?_
  cases og1
  case true =>
    refine .z rfl (.load1 ti23 rfl (fun _ hc => (f4.cell 0 _ rfl).keepG hc (Nat.succ_ne_zero _))) ?_
    obtain ⟨g1, f6, hl1, k1⟩ := hS18.accK (i := 4) rfl
    refine .z rfl (.lenSl Tryz.underlying23 (f6.sl) rfl) ?_
    refine .zb rfl (.le rfl rfl) fun b5 hb5 => ?_
    refine .gd 3 rfl ?_
    refine .nil ?_
    refine r_ret2 Tryz.func175 rfl rfl rfl ?_
    have hw : someM N = (lg1, b5) := someM_eq hgo1 (by first | rfl | (rw [Bool.true_and]; first | (rw [hb5]; exact decide_eq_decide.2 (by omega)) | (symm; exact decide_eq_true (by omega)) | (symm; exact decide_eq_false (by omega))) | (simp; done))
    obtain ⟨g2, ha1, hg1⟩ := hS19.accOut (i := 4) rfl
    exact Ret.mk ⟨_, g2, by rw [hw], by rw [hw]; exact ha1, hg1, hS19.mod⟩
  refine .gd 6 rfl ?_
  refine .nil ?_
  refine r_ret2 Tryz.func175 rfl rfl rfl ?_
  have hw : someM N = (lg1, false) := someM_eq hgo1 (by first | rfl | (rw [Bool.true_and]; first | (rw [hll]; exact decide_eq_decide.2 (by omega)) | (symm; exact decide_eq_true (by omega)) | (symm; exact decide_eq_false (by omega))) | (simp; done))
  obtain ⟨g1, ha1, hg1⟩ := hS19.accOut (i := 4) rfl
  exact Ret.mk ⟨_, g1, by rw [hw], by rw [hw]; exact ha1, hg1, hS19.mod⟩
set_option maxRecDepth 20000 in
set_option maxHeartbeats 4000000 in
theorem like_c {w0 : World} {G : Nat → Prop} {bG : Nat} {vn : Value} {nds : List RNode} {N : List GN} {bG2 : Nat} {vn2 : Value} {nds2 : List RNode} {N2 : List GN} (hrw : Row w0 bG 0 [vn]) (hGb : G bG) (hsl : Sl encN w0 G vn nds) (hrel : NRel w0 G nds N) (hGl : ∀ b, G b → b < w0.heap.size) (hNl : N.length ≤ 1000000) (hel : ∀ x ∈ N, x.2.length ≤ 1000000) (hrw2 : Row w0 bG2 0 [vn2]) (hGb2 : G bG2) (hsl2 : Sl encN w0 G vn2 nds2) (hrel2 : NRel w0 G nds2 N2) (hNl2 : N2.length ≤ 1000000) (hel2 : ∀ x ∈ N2, x.2.length ≤ 1000000) :
    Calls Tryz.prog 176 #[ptr bG 0, ptr bG2 0] w0 (Ret fun rv w1 => rv = .bool (decide (N = N2)) ∧ Ext w0 w1) := by
  have hG : ∀ b, G b → ¬ (fun _ : Nat => False) b := fun _ _ h => h
  have hS00 := St.start0 w0
  have hnl := (All2.get hrel).1
  have hnl2 := (All2.get hrel2).1
  refine calls_enter Tryz.func176 rfl Tryz.ntmps176 rfl ?_
  refine .gi 6 rfl ?_
  refine r_draw1 (fun i => false) 11 (fun w' => Mod (Mg 0) w0 w') mixed (by kernel_rfl) fun w1 hm1 => ?_
  have hS1 := hS00.ext hm1
  have hCw1 : Mod (Mg 0) w0 w1 := Mod.ofExt hm1
  refine ⟨hCw1, ?_⟩
  rw [show List.range' 0 (Array.size _) = [0, 1, 2, 3, 4, 5, 6, 7, 8, 9, 10] from rfl]
  refine .gd 2 rfl ?_
  refine .z rfl (.fieldAddr fl264_0 rfl) ?_
  refine .z rfl (.load1 ti262 rfl (fun _ hc => hrw.keepG hc (Nat.succ_ne_zero _))) ?_
  refine .z rfl (.lenSl Tryz.underlying262 (hsl) rfl) ?_
  refine .gd 2 rfl ?_
  refine .z rfl (.fieldAddr fl264_0 rfl) ?_
  refine .z rfl (.load1 ti262 rfl (fun _ hc => hrw2.keepG hc (Nat.succ_ne_zero _))) ?_
  refine .z rfl (.lenSl Tryz.underlying262 (hsl2) rfl) ?_
  refine .zb rfl (.ne rfl rfl) fun b1 hb1 => ?_
  refine .nil ?_
  cases b1
  case true =>
    replace hb1 := bne_iff_ne.1 hb1.symm
    refine .gi 5 rfl ?_
    refine r_ret1 Tryz.func176 rfl rfl ?_
    have hw : decide (N = N2) = false := by first | exact like_len (by omega) | exact like_edge hgn1 hgn2 hxA hxB (by assumption) | exact like_no hgn1 hgn2 (fun e => by first | (have := congrArg (fun q : GN => q.2.length) e; simp only at this; omega) | (have := congrArg (fun q : GN => q.1) e; simp_all))
    exact Ret.mk ⟨by rw [hw], hS1.mod⟩
  replace hb1 := bne_eq_false_iff_eq.1 hb1.symm
  refine .go 7 rfl ?_
  refine .z (.fieldAddr fl264_0 rfl) ?_
  have f1 := hrw.keep hS1.mod (hG _ hGb)
  refine .z (.lr ti262 f1) ?_
  have f2 := hS1.out hsl hG
  refine .z (.lenSl Tryz.underlying262 (f2) rfl) ?_
  refine .gi 3 rfl ?_
  refine r_loop (I := fun m E W => ∃ (k : Nat), E = [(1, ptr bG2 0), (24, vn), (25, .int .i64 (((nds.length : Nat) : Int))), (26, .int .i64 (((k : Nat) : Int)))] ∧ m = N.length - k ∧ St (fun _ => False) (fun _ => False) w0 W [] ∧ (N.take k = N2.take k) ∧ (k ≤ N.length)) ?_ ?_
  · refine ⟨_, _, ⟨(0 : Nat), rfl, rfl, hS1, (by rfl), (by omega)⟩, ⟨rfl, rfl, rfl, rfl, trivial⟩⟩
  · rintro _ _ w2 ⟨k, rfl, rfl, hS2, hE1, hkl⟩ ih1
    refine .go 2 rfl ?_
    refine .zb (.lt rfl rfl) fun b2 hb2 => ?_
    refine .gi 2 rfl ?_
    cases b2
    case true =>
      replace hb2 := dt hb2
      have f3 := hS2.out hsl hG
      obtain ⟨x1, b3, o1, hx1, hr1, hl1, hw1⟩ := Sl.atF (P := Tryz.prog) f3 Tryz.underlying262 ti238 encN_len (k := .i64) (n := ((k : Nat) : Int)) (k) (by omega) ao
      refine .go 7 rfl ?_
      refine .z (.indexAddr rfl rfl hr1) ?_
      refine .z (.loadN ti238 rfl (fun _ e => e ▸ hw1) rfl) ?_
      obtain ⟨gn1, hgn1, hgf1, hgs1⟩ := hrel.at hx1
      have hel_gn1 := hel _ (List.mem_of_getElem? hgn1)
      obtain ⟨fb1, hfq1⟩ : ∃ b, x1.fin = b := ⟨_, rfl⟩
      first | rw [show encN x1 = [.bool fb1, x1.e.val] from by rw [← hfq1]; rfl] | rw [hfq1]
      have hfb1 : fb1 = gn1.1 := by rw [← hfq1]; first | exact hgf1 | exact hgf1.symm
      refine .ac (.alloc ti238 fun w3 b4 hm2 hb3 hz1 hk1 => ?_)
      have hS4 := (hS2.newBk hm2 hb3 hk1).n1
      have f4 := hS4.bk (i := 0) rfl
      refine .go 1 rfl ?_
      refine .ac (.store ti238 rfl rfl rfl rfl rfl f4 (Nat.le_of_ble_eq_true rfl) fun w4 hm3 hz2 hk2 => ?_)
      have hS5 := (hS4.bkK (cs' := [.bool fb1, x1.e.val]) (i := 0) rfl hm3 hk2).n1
      refine .go 5 rfl ?_
      refine .z (.fieldAddr fl264_0 rfl) ?_
      have f5 := hrw2.keep hS5.mod (hG _ hGb2)
      refine .z (.lr ti262 f5) ?_
      have f6 := hS5.out hsl2 hG
      obtain ⟨x2, b5, o2, hx2, hr2, hl2, hw2⟩ := Sl.atF (P := Tryz.prog) f6 Tryz.underlying262 ti238 encN_len (k := .i64) (n := ((k : Nat) : Int)) (k) (by omega) ao
      refine .go 1 rfl ?_
      refine .z (.indexAddr rfl rfl hr2) ?_
      refine .z (.loadN ti238 rfl (fun _ e => e ▸ hw2) rfl) ?_
      obtain ⟨gn2, hgn2, hgf2, hgs2⟩ := hrel2.at hx2
      have hel_gn2 := hel2 _ (List.mem_of_getElem? hgn2)
      obtain ⟨fb2, hfq2⟩ : ∃ b, x2.fin = b := ⟨_, rfl⟩
      first | rw [show encN x2 = [.bool fb2, x2.e.val] from by rw [← hfq2]; rfl] | rw [hfq2]
      have hfb2 : fb2 = gn2.1 := by rw [← hfq2]; first | exact hgf2 | exact hgf2.symm
      refine .ac (.alloc ti238 fun w5 b6 hm4 hb4 hz3 hk3 => ?_)
      have hS7 := (hS5.newBk hm4 hb4 hk3).n2
      have f7 := hS7.bk (i := 1) rfl
      refine .ac (.store ti238 rfl rfl rfl rfl rfl f7 (Nat.le_of_ble_eq_true rfl) fun w6 hm5 hz4 hk4 => ?_)
      have hS8 := (hS7.bkK (cs' := [.bool fb2, x2.e.val]) (i := 1) rfl hm5 hk4).n2
      refine .go 4 rfl ?_
      refine .z (.fieldAddr fl238_0 rfl) ?_
      have f8 := hS8.bk (i := 0) rfl
      refine .z (.l1 ti4 f8) ?_
      refine .z (.fieldAddr fl238_0 rfl) ?_
      have f9 := hS8.bk (i := 1) rfl
      refine .z (.l1 ti4 f9) ?_
      refine .zb (.neB Tryz.underlying4 rfl rfl) fun b7 hb5 => ?_
      refine .go 1 rfl ?_
      cases b7
      case true =>
        replace hb5 := nbeq_t hb5
        refine .gi 14 rfl ?_
        refine r_ret1 Tryz.func176 rfl rfl ?_
        have hw : decide (N = N2) = false := by first | exact like_len (by omega) | exact like_edge hgn1 hgn2 hxA hxB (by assumption) | exact like_no hgn1 hgn2 (fun e => by first | (have := congrArg (fun q : GN => q.2.length) e; simp only at this; omega) | (have := congrArg (fun q : GN => q.1) e; simp_all))
        exact Ret.mk ⟨by rw [hw], hS8.mod⟩
      replace hb5 := nbeq_f hb5
      refine .z (.fieldAddr fl238_1 rfl) ?_
      refine .z (.l1 ti219 f8) ?_
      have f10 := hS8.out hgs1 hG
      refine .z (.lenSl Tryz.underlying219 (f10) rfl) ?_
      refine .z (.fieldAddr fl238_1 rfl) ?_
      refine .z (.l1 ti219 f9) ?_
      have f11 := hS8.out hgs2 hG
      refine .z (.lenSl Tryz.underlying219 (f11) rfl) ?_
      refine .zb (.ne rfl rfl) fun b8 hb6 => ?_
      refine .gi 2 rfl ?_
      cases b8
      case true =>
        replace hb6 := bne_iff_ne.1 hb6.symm
        refine .gi 5 rfl ?_
        refine r_ret1 Tryz.func176 rfl rfl ?_
        have hw : decide (N = N2) = false := by first | exact like_len (by omega) | exact like_edge hgn1 hgn2 hxA hxB (by assumption) | exact like_no hgn1 hgn2 (fun e => by first | (have := congrArg (fun q : GN => q.2.length) e; simp only at this; omega) | (have := congrArg (fun q : GN => q.1) e; simp_all))
        exact Ret.mk ⟨by rw [hw], hS8.mod⟩
      replace hb6 := bne_eq_false_iff_eq.1 hb6.symm
      refine .go 4 rfl ?_
      refine .z (.fieldAddr fl238_1 rfl) ?_
      refine .z (.l1 ti219 f8) ?_
      refine .z (.lenSl Tryz.underlying219 (f10) rfl) ?_
      have hS10 := (hS8.sel [1] (by rfl) (by decide)).n1
      refine .gi 3 rfl ?_
      refine r_loop (I := fun m E W => ∃ (j : Nat), E = [(1, ptr bG2 0), (7, ptr b6 0), (24, vn), (25, .int .i64 (((nds.length : Nat) : Int))), (26, .int .i64 (((k : Nat) : Int))), (53, x1.e.val), (54, .int .i64 (((gn1.2.length : Nat) : Int))), (55, .int .i64 (((j : Nat) : Int)))] ∧ m = gn1.2.length - j ∧ St (fun _ => False) (fun _ => False) w0 W [bkR b6 [.bool fb2, x2.e.val] 238] ∧ (gn1.2.take j = gn2.2.take j) ∧ (j ≤ gn1.2.length)) ?_ ?_
      · refine ⟨_, _, ⟨(0 : Nat), rfl, rfl, hS10, (by rfl), (by omega)⟩, ⟨rfl, rfl, rfl, rfl, rfl, rfl, rfl, rfl, trivial⟩⟩
      · rintro _ _ w7 ⟨j, rfl, rfl, hS9, hE2, hjl⟩ ih2
        refine .go 2 rfl ?_
        refine .zb (.lt rfl rfl) fun b9 hb7 => ?_
        refine .gi 2 rfl ?_
        cases b9
        case true =>
          replace hb7 := dt hb7
          have f12 := hS9.out hgs1 hG
          obtain ⟨x3, b10, o3, hx3, hr3, hl3, hw3⟩ := Sl.atF (P := Tryz.prog) f12 Tryz.underlying219 ti233 encE_len (k := .i64) (n := ((j : Nat) : Int)) (j) (by omega) ao
          refine .go 7 rfl ?_
          refine .z (.indexAddr rfl rfl hr3) ?_
          refine .z (.loadN ti233 rfl (fun _ e => e ▸ hw3) rfl) ?_
          have hxA := hx3
          refine .ac (.alloc ti233 fun w8 b11 hm6 hb8 hz5 hk5 => ?_)
          have hS12 := (hS9.newBk hm6 hb8 hk5).n2
          have f13 := hS12.bk (i := 1) rfl
          refine .go 1 rfl ?_
          refine .ac (.store ti233 rfl rfl rfl rfl rfl f13 (Nat.le_of_ble_eq_true rfl) fun w9 hm7 hz6 hk6 => ?_)
          have hS13 := (hS12.bkK (cs' := [.int .i32 x3.rune, .int .i64 x3.to]) (i := 1) rfl hm7 hk6).n2
          refine .gi 2 rfl ?_
          refine r_draw1 (fun i => false) 7 (fun w' => Mod (Mg 0) w9 w') mixed (by kernel_rfl) fun w10 hm8 => ?_
          have hS14 := hS13.ext hm8
          have hCw10 : Mod (Mg 0) w9 w10 := Mod.ofExt hm8
          refine ⟨hCw10, ?_⟩
          rw [show List.range' 0 (Array.size _) = [0, 1, 2, 3, 4, 5, 6] from rfl]
          have f14 := hS13.bk (i := 1) rfl
          refine .z rfl (.loadN ti233 rfl (fun _ hc => f14.row.keepG hc (Nat.succ_ne_zero _)) rfl) ?_
          refine .z rfl (.fieldAddr fl238_1 rfl) ?_
          have f15 := hS13.bk (i := 0) rfl
          refine .z rfl (.load1 ti219 rfl (fun _ hc => (f15.cell 1 _ rfl).keepG hc (Nat.succ_ne_zero _))) ?_
          have f16 := hS13.out hgs2 hG
          obtain ⟨x4, b12, o4, hx4, hr4, hl4, hw4⟩ := Sl.atF (P := Tryz.prog) f16 Tryz.underlying219 ti233 encE_len (k := .i64) (n := ((j : Nat) : Int)) (j) (by omega) ao
          refine .gd 1 rfl ?_
          refine .z rfl (.indexAddr rfl rfl hr4) ?_
          refine .z rfl (.loadN ti233 rfl (fun _ hc => hw4.keepG hc (Nat.succ_ne_zero _)) rfl) ?_
          have hxB := hx4
          refine .zb rfl (.neStruct (by kernel_rfl) (eqS233 x3 x4) rfl rfl) fun b13 hb9 => ?_
          refine .nil ?_
          cases b13
          case true =>
            replace hb9 := ndec_t hb9
            refine .gi 5 rfl ?_
            refine r_ret1 Tryz.func176 rfl rfl ?_
            have hw : decide (N = N2) = false := by first | exact like_len (by omega) | exact like_edge hgn1 hgn2 hxA hxB (by assumption) | exact like_no hgn1 hgn2 (fun e => by first | (have := congrArg (fun q : GN => q.2.length) e; simp only at this; omega) | (have := congrArg (fun q : GN => q.1) e; simp_all))
            exact Ret.mk ⟨by rw [hw], hS14.mod⟩
          replace hb9 := ndec_f hb9
          refine .go 4 rfl ?_
          refine .z (.addI (((j + 1 : Nat) : Int)) rfl rfl (by omega)) ?_
          have hS15 := (hS14.sel [0] (by rfl) (by decide)).n1
          refine .gi 2 rfl ?_
          exact (ih2 _ _ _ ⟨(j + 1 : Nat), rfl, rfl, hS15, (by first | (refine take_step hE2 hxA ?_; first | (rw [show x3 = x4 from by assumption]; exact hxB) | exact hxB) | (exfalso; omega)), (by first | omega | (exfalso; omega))⟩ (by omega)).sub ⟨rfl, rfl, rfl, rfl, rfl, rfl, rfl, rfl, trivial⟩
        replace hb7 := df hb7
        refine .go 4 rfl ?_
        refine .z (.addI (((k + 1 : Nat) : Int)) rfl rfl (by omega)) ?_
        have hq : gn1 = gn2 := gn_eq (by rw [← hfb1, ← hfb2]; assumption) (take_all hE2 (by omega) (by omega))
        have hS11 := (hS9.sel [] (by rfl) (by decide)).n0
        refine .gi 2 rfl ?_
        exact (ih1 _ _ _ ⟨(k + 1 : Nat), rfl, rfl, hS11, (by first | exact take_step hE1 hgn1 (hq ▸ hgn2) | (exfalso; omega)), (by first | omega | (exfalso; omega))⟩ (by omega)).sub ⟨rfl, rfl, rfl, rfl, trivial⟩
    replace hb2 := df hb2
    refine .gi 6 rfl ?_
    refine r_ret1 Tryz.func176 rfl rfl ?_
    have hw : decide (N = N2) = true := decide_eq_true (take_all hE1 (by omega) (by omega))
    exact Ret.mk ⟨by rw [hw], hS2.mod⟩
set_option maxRecDepth 20000 in
set_option maxHeartbeats 4000000 in
theorem made_c {w0 : World} {G : Nat → Prop} {v_n : Value} {nds : List RNode} {N : List GN} (hsl : Sl encN w0 G v_n nds) (hrel : NRel w0 G nds N) (hGl : ∀ b, G b → b < w0.heap.size) (hNl : N.length ≤ 1000000) (hel : ∀ x ∈ N, x.2.length ≤ 1000000) :
    Calls Tryz.prog 140 #[v_n] w0 (Ret fun rv w1 => (∃ lo hi, Gr 0 w1 lo hi rv (madeG N) ∧ w0.heap.size ≤ lo ∧ hi ≤ w1.heap.size) ∧ Ext w0 w1) := by
  have hG : ∀ b, G b → ¬ (fun _ : Nat => False) b := fun _ _ h => h
  have hS00 := St.start0 w0
  have hnl := (All2.get hrel).1
  have hle := hsl.le
  refine calls_enter Tryz.func140 rfl Tryz.ntmps140 rfl ?_
  refine .go 6 rfl ?_
  refine .z (.build (vs := #[]) (v := .agg #[.slice none 0 0]) rfl (fun _ => by kernel_rfl)) ?_
  refine .ac (.box [.slice none 0 0] rfl rfl fun w1 b1 hm1 hb1 hz1 hk1 => ?_)
  have hS2 := (hS00.newBk hm1 hb1 hk1).n1
  have hS3 : St (fun _ => False) (fun _ => False) w0 w1 [bkR b1 [.slice none 0 0] 264, accR encN 238 2 (.slice none 0 0) []] := hS2.newAcc (Mod.refl _ _) Acc.nil (.inl rfl)
  have hS4 := (hS3.b2 [] 0 1 (by rfl) (by decide)).n1
  have hS5 : St (fun _ => False) (fun _ => False) w0 w1 [tbR 264 238 2 encN b1 (([] : List RNode))] := hS4.exi (.slice none 0 0) (i := 0) rfl
  have hS6 := (hS5.ty (tbR 264 238 2 encN b1 ((nds.take 0))) 0 rfl (fun F_ h_ => by rw [List.take_zero]; exact h_)).n1
  have f1 := hS6.out hsl hG
  refine .go 6 rfl ?_
  refine .z (.lenSl Tryz.underlying218 (f1) rfl) ?_
  refine .gi 3 rfl ?_
  refine r_loop (I := fun m E W => ∃ (k : Nat), E = [(0, v_n), (3, ptr b1 0), (14, v_n), (15, .int .i64 (((nds.length : Nat) : Int))), (16, .int .i64 (((k : Nat) : Int)))] ∧ m = nds.length - k ∧ St (fun _ => False) (fun _ => False) w0 W [tbR 264 238 2 encN b1 ((nds.take k))] ∧ ((N.take k).all (fun x : GN => x.2.all (fun e : Ed => decide (1 ≤ e.to ∧ e.to < (N.length : Int)))) = true) ∧ (k ≤ nds.length)) ?_ ?_
  · refine ⟨_, _, ⟨(0 : Nat), rfl, rfl, hS6, (by rfl), (by omega)⟩, ⟨rfl, rfl, rfl, rfl, rfl, trivial⟩⟩
  · rintro _ _ w2 ⟨k, rfl, rfl, hS7, hR1, hkl⟩ ih1
    refine .go 2 rfl ?_
    refine .zb (.lt rfl rfl) fun b2 hb2 => ?_
    refine .gi 2 rfl ?_
    cases b2
    case true =>
      replace hb2 := dt hb2
      have f2 := hS7.out hsl hG
      obtain ⟨x1, b3, o1, hx1, hr1, hl1, hw1⟩ := Sl.atF (P := Tryz.prog) f2 Tryz.underlying218 ti221 encN_len (k := .i64) (n := ((k : Nat) : Int)) (k) (by omega) ao
      refine .go 6 rfl ?_
      refine .z (.indexAddr rfl rfl hr1) ?_
      refine .z (.loadN ti221 rfl (fun _ e => e ▸ hw1) rfl) ?_
      obtain ⟨gn1, hgn1, hgf1, hgs1⟩ := hrel.at hx1
      have hel_gn1 := hel _ (List.mem_of_getElem? hgn1)
      obtain ⟨fb1, hfq1⟩ : ∃ b, x1.fin = b := ⟨_, rfl⟩
      first | rw [show encN x1 = [.bool fb1, x1.e.val] from by rw [← hfq1]; rfl] | rw [hfq1]
      have hfb1 : fb1 = gn1.1 := by rw [← hfq1]; first | exact hgf1 | exact hgf1.symm
      refine .ac (.alloc ti221 fun w3 b4 hm2 hb3 hz2 hk2 => ?_)
      have hS9 := (hS7.newBk hm2 hb3 hk2).n2
      have f3 := hS9.bk (i := 1) rfl
      refine .ac (.store ti221 rfl rfl rfl rfl rfl f3 (Nat.le_of_ble_eq_true rfl) fun w4 hm3 hz3 hk3 => ?_)
      have hS10 := (hS9.bkK (cs' := [.bool fb1, x1.e.val]) (i := 1) rfl hm3 hk3).n2
      refine .go 4 rfl ?_
      refine .z (.fieldAddr fl221_1 rfl) ?_
      have f4 := hS10.bk (i := 1) rfl
      refine .z (.l1 ti219 f4) ?_
      have f5 := hS10.out hgs1 hG
      refine .z (.lenSl Tryz.underlying219 (f5) rfl) ?_
      refine .gi 3 rfl ?_
      refine r_loop (I := fun m E W => ∃ (j : Nat), E = [(0, v_n), (3, ptr b1 0), (5, ptr b4 0), (14, v_n), (15, .int .i64 (((nds.length : Nat) : Int))), (16, .int .i64 (((k : Nat) : Int))), (21, x1.e.val), (22, .int .i64 (((gn1.2.length : Nat) : Int))), (23, .int .i64 (((j : Nat) : Int)))] ∧ m = gn1.2.length - j ∧ St (fun _ => False) (fun _ => False) w0 W [tbR 264 238 2 encN b1 ((nds.take k)), bkR b4 [.bool fb1, x1.e.val] 221] ∧ ((gn1.2.take j).all (fun e : Ed => decide (1 ≤ e.to ∧ e.to < (N.length : Int))) = true) ∧ (j ≤ gn1.2.length)) ?_ ?_
      · refine ⟨_, _, ⟨(0 : Nat), rfl, rfl, hS10, (by rfl), (by omega)⟩, ⟨rfl, rfl, rfl, rfl, rfl, rfl, rfl, rfl, rfl, trivial⟩⟩
      · rintro _ _ w5 ⟨j, rfl, rfl, hS11, hR2, hjl⟩ ih2
        refine .go 2 rfl ?_
        refine .zb (.lt rfl rfl) fun b5 hb4 => ?_
        refine .gi 2 rfl ?_
        cases b5
        case true =>
          replace hb4 := dt hb4
          have f6 := hS11.out hgs1 hG
          obtain ⟨x2, b6, o2, hx2, hr2, hl2, hw2⟩ := Sl.atF (P := Tryz.prog) f6 Tryz.underlying219 ti233 encE_len (k := .i64) (n := ((j : Nat) : Int)) (j) (by omega) ao
          refine .go 6 rfl ?_
          refine .z (.indexAddr rfl rfl hr2) ?_
          refine .z (.loadN ti233 rfl (fun _ e => e ▸ hw2) rfl) ?_
          have hxE := hx2
          refine .ac (.alloc ti233 fun w6 b7 hm4 hb5 hz4 hk4 => ?_)
          have hS12 := hS11.ext hm4
          have hS13 := (hS11.newBk hm4 hb5 hk4).n3
          have f7 := hS13.bk (i := 2) rfl
          refine .ac (.store ti233 rfl rfl rfl rfl rfl f7 (Nat.le_of_ble_eq_true rfl) fun w7 hm5 hz5 hk5 => ?_)
          have hS14 := (hS13.bkK (cs' := [.int .i32 x2.rune, .int .i64 x2.to]) (i := 2) rfl hm5 hk5).n3
          refine .go 3 rfl ?_
          refine .z (.fieldAddr fl233_1 rfl) ?_
          have f8 := hS14.bk (i := 2) rfl
          refine .z (.l1 ti3 f8) ?_
          refine .zb (.lt rfl rfl) fun b8 hb6 => ?_
          refine .go 1 rfl ?_
          cases b8
          case true =>
            replace hb6 := dt hb6
            refine .gi 12 rfl ?_
            refine r_ret1 Tryz.func140 rfl rfl ?_
            have hw : madeG N = [] := madeG_no (fun ⟨q1, q2, q3, q4, q5, q6, q7⟩ => by first | exact absurd q1 (rightE_no hgn1 hxE (by omega)) | omega | (rw [q4] at *; simp_all; done) | (rw [q5] at *; simp_all; done) | (simp_all; done))
            exact Ret.mk ⟨⟨w0.heap.size, w0.heap.size, .inl ⟨rfl, hw⟩, Nat.le_refl _, hS14.mod.size⟩, hS14.mod⟩
          replace hb6 := df hb6
          refine .z (.fieldAddr fl233_1 rfl) ?_
          refine .z (.l1 ti3 f8) ?_
          have f9 := hS14.out hsl hG
          refine .go 1 rfl ?_
          refine .z (.lenSl Tryz.underlying218 (f9) rfl) ?_
          refine .zb (.ge rfl rfl) fun b9 hb7 => ?_
          refine .gi 2 rfl ?_
          cases b9
          case true =>
            replace hb7 := dt hb7
            refine .gi 5 rfl ?_
            refine r_ret1 Tryz.func140 rfl rfl ?_
            have hw : madeG N = [] := madeG_no (fun ⟨q1, q2, q3, q4, q5, q6, q7⟩ => by first | exact absurd q1 (rightE_no hgn1 hxE (by omega)) | omega | (rw [q4] at *; simp_all; done) | (rw [q5] at *; simp_all; done) | (simp_all; done))
            exact Ret.mk ⟨⟨w0.heap.size, w0.heap.size, .inl ⟨rfl, hw⟩, Nat.le_refl _, hS14.mod.size⟩, hS14.mod⟩
          replace hb7 := df hb7
          refine .go 4 rfl ?_
          refine .z (.addI (((j + 1 : Nat) : Int)) rfl rfl (by omega)) ?_
          have hS15 := (hS14.sel [0, 1] (by rfl) (by decide)).n2
          refine .gi 2 rfl ?_
          exact (ih2 _ _ _ ⟨(j + 1 : Nat), rfl, rfl, hS15, (by first | exact all_take_succ hR2 hxE (decide_eq_true ⟨by omega, by omega⟩) | (exfalso; omega)), (by first | omega | (exfalso; omega))⟩ (by omega)).sub ⟨rfl, rfl, rfl, rfl, rfl, rfl, rfl, rfl, rfl, trivial⟩
        replace hb4 := df hb4
        obtain ⟨vb1, hS12⟩ := hS11.exo (i := 0) rfl
        change St (fun _ => False) (fun _ => False) w0 w5 [boxR [bkR b1 [vb1] 264, accR encN 238 2 vb1 ((nds.take k))], bkR b4 [.bool fb1, x1.e.val] 221] at hS12
        have hS13 := (hS12.un 0 rfl [1] (by rfl) (by decide)).n3
        obtain ⟨g1, f6, hl2, k1⟩ := hS13.accK (i := 2) rfl
        refine .gi 2 rfl ?_
        refine r_draw1 (fun i => Nat.beq i 10 || Nat.beq i 11 || Nat.beq i 14) 14 (fun w' => Mod (Mg g1) w5 w') mixed (by kernel_rfl) fun w6 hm4 => ?_
        have hS14 := hS13.ext hm4
        have hCw6 : Mod (Mg g1) w5 w6 := Mod.ofExt hm4
        refine ⟨hCw6, ?_⟩
        rw [show List.range' 0 (Array.size _) = [0, 1, 2, 3, 4, 5, 6, 7, 8, 9, 10, 11, 12, 13, 14] from rfl]
        refine .gd 3 rfl ?_
        refine .z rfl (.fieldAddr fl264_0 rfl) ?_
        have f7 := hS13.bk (i := 1) rfl
        refine .z rfl (.load1 ti262 rfl (fun _ hc => (f7.cell 0 _ rfl).keepG hc (hS13.ne (i := 2) (j := 1) rfl rfl (by decide) f6))) ?_
        refine .z rfl (.fieldAddr fl221_0 rfl) ?_
        have f8 := hS13.bk (i := 0) rfl
        refine .z rfl (.load1 ti4 rfl (fun _ hc => (f8.cell 0 _ rfl).keepG hc (hS13.ne (i := 2) (j := 0) rfl rfl (by decide) f6))) ?_
        refine .z rfl (.fieldAddr fl221_1 rfl) ?_
        refine .z rfl (.load1 ti219 rfl (fun _ hc => (f8.cell 1 _ rfl).keepG hc (hS13.ne (i := 2) (j := 0) rfl rfl (by decide) f6))) ?_
        refine .z rfl (.build (vs := #[(0, (.bool fb1 : Value)), (1, x1.e.val)]) (v := .agg #[.bool fb1, x1.e.val]) rfl (fun _ => by kernel_rfl)) ?_
        refine .ac rfl (.buildSlice [(.agg #[.bool fb1, x1.e.val] : Value)] Tryz.underlying262 ti238 rfl rfl rfl (by decide) fun w7 b6 hm5 hb5 hz4 hk4 => ?_)
        have hl3 := Sl.of_blk (enc := encN) hk4 ([(RNode.mk fb1 x1.e)] : List RNode) 1 rfl rfl (by unfold maxLen; omega)
        have hS16 := (hS14.newSlB hm5 hb5 hz4 hl3).n4
        have hCw7 := hCw6.ext hm5
        refine ⟨.inr hCw7, ?_⟩
        obtain ⟨g3, f9, hl4, k2⟩ := hS16.accK (i := 2) rfl
        have he1 := Acc.uniq f6 f9
        subst he1
        have f10 := hS16.sl (i := 3) (k := 0) rfl rfl
        refine .ac rfl (.append f9 Tryz.underlying262 ti238 rfl encN_len encN_one rfl rfl (f10) ol ox fun v1 g2 w8 ha1 hm6 hg1 hz5 => ?_)
        have hS17 := (k2 _ _ _ _ hm6 ha1 hg1).n4
        have hCw8 := hCw7.trans hm6
        refine ⟨.inr hCw8, ?_⟩
        clear hg1
        refine .gd 1 rfl ?_
        refine .z rfl (.fieldAddr fl264_0 rfl) ?_
        obtain ⟨g4, f11, hl5, k3⟩ := hS17.accK (i := 2) rfl
        obtain ⟨ad1, cp1, hv1⟩ := f11.shape
        subst hv1
        have f12 := hS17.bk (i := 1) rfl
        refine .ac rfl (.store ti262 rfl rfl rfl rfl rfl f12 (Nat.le_of_ble_eq_true rfl) fun w9 hm7 hz6 hk5 => ?_)
        have hS18 := (hS17.bkK (cs' := [(.slice ad1 (((nds.take k) ++ [(RNode.mk fb1 x1.e)])).length cp1)]) (i := 1) rfl hm7 hk5).n4
        refine ⟨.inl rfl, ?_⟩
        refine .nil ?_
        have hS19 := (hS18.b2 [0, 3] 1 2 (by rfl) (by decide)).n3
        have hS20 : St (fun _ => False) (fun _ => False) w0 w9 [bkR b4 [.bool fb1, x1.e.val] 221, slR encN [((.slice (some ⟨b6, 0, none⟩) 1 1), [(RNode.mk fb1 x1.e)])], tbR 264 238 2 encN b1 (((nds.take k) ++ [(RNode.mk fb1 x1.e)]))] := hS19.exi (.slice ad1 (((nds.take k) ++ [(RNode.mk fb1 x1.e)])).length cp1) (i := 2) rfl
        have hS21 := (hS20.ty (tbR 264 238 2 encN b1 ((nds.take (k + 1)))) 2 rfl (fun F_ h_ => by rw [List.take_add_one, hx1]; first | exact h_ | (rw [← hfq1] at h_; exact h_))).n3
        refine .go 2 rfl ?_
        refine .z (.addI (((k + 1 : Nat) : Int)) rfl rfl (by omega)) ?_
        have hS22 := (hS21.sel [2] (by rfl) (by decide)).n1
        refine .gi 2 rfl ?_
        exact (ih1 _ _ _ ⟨(k + 1 : Nat), rfl, rfl, hS22, (by first | exact all_take_succ hR1 hgn1 (by rwa [List.take_of_length_le (by omega)] at hR2) | (exfalso; omega)), (by first | omega | (exfalso; omega))⟩ (by omega)).sub ⟨rfl, rfl, rfl, rfl, rfl, trivial⟩
    replace hb2 := df hb2
    have hS8 := (hS7.ty (tbR 264 238 2 encN b1 nds) 0 rfl (fun F_ h_ => by rw [List.take_of_length_le (by omega)] at h_; exact h_)).n1
    have hright : rightE N = true := by unfold rightE; rwa [List.take_of_length_le (by omega)] at hR1
    obtain ⟨vb1, hS9⟩ := hS8.exo (i := 0) rfl
    change St (fun _ => False) (fun _ => False) w0 w2 [boxR [bkR b1 [vb1] 264, accR encN 238 2 vb1 nds]] at hS9
    have hS10 := (hS9.un 0 rfl [] (by rfl) (by decide)).n2
    have f2 := hS10.out hsl hG
    refine .go 6 rfl ?_
    refine .z (.lenSl Tryz.underlying218 (f2) rfl) ?_
    refine .zb (.eq rfl rfl) fun b3 hb3 => ?_
    refine .go 1 rfl ?_
    cases b3
    case true =>
      replace hb3 := eq_of_beq hb3.symm
      refine .gi 15 rfl ?_
      refine r_ret1 Tryz.func140 rfl rfl ?_
      have hw : madeG N = [] := madeG_no (fun ⟨q1, q2, q3, q4, q5, q6, q7⟩ => by first | exact absurd q1 (rightE_no hgn1 hxE (by omega)) | omega | (rw [q4] at *; simp_all; done) | (rw [q5] at *; simp_all; done) | (simp_all; done))
      exact Ret.mk ⟨⟨w0.heap.size, w0.heap.size, .inl ⟨rfl, hw⟩, Nat.le_refl _, hS10.mod.size⟩, hS10.mod⟩
    replace hb3 := ne_of_beq_false hb3.symm
    refine .go 1 rfl ?_
    refine .z (.lenSl Tryz.underlying218 (f2) rfl) ?_
    refine .zb (.gt rfl rfl) fun b4 hb4 => ?_
    refine .go 2 rfl ?_
    cases b4
    case true =>
      replace hb4 := dt hb4
      refine .gi 10 rfl ?_
      refine r_ret1 Tryz.func140 rfl rfl ?_
      have hw : madeG N = [] := madeG_no (fun ⟨q1, q2, q3, q4, q5, q6, q7⟩ => by first | exact absurd q1 (rightE_no hgn1 hxE (by omega)) | omega | (rw [q4] at *; simp_all; done) | (rw [q5] at *; simp_all; done) | (simp_all; done))
      exact Ret.mk ⟨⟨w0.heap.size, w0.heap.size, .inl ⟨rfl, hw⟩, Nat.le_refl _, hS10.mod.size⟩, hS10.mod⟩
    replace hb4 := df hb4
    have f3 := hS10.bk (i := 0) rfl
    obtain ⟨gq1, haq1, hlq1, _⟩ := hS10.accK (i := 1) rfl
    have ht1 := gr_held f3 haq1 hlq1 (hrel.keep hS10.mod hG) (fun b hb => Nat.lt_of_lt_of_le (hGl b hb) hS10.mod.size)
    refine .go 1 rfl ?_
    refine .ac (.callF cl174 rfl (whole_c (w0 := w2) (G := fun b => b < w2.heap.size) ht1.1 ht1.2.1 ht1.2.2.1 ht1.2.2.2 (fun _ h => h) hNl hel (rightE_iff.1 hright) (by omega)) ?_)
    rintro _ w3 ⟨rfl, hm2⟩
    have hS11 := hS10.ext hm2
    generalize hb5 : wholeM N = b5
    replace hb5 := hb5.symm
    cases b5
    case true =>
      replace hb5 := hb5.symm
      refine .z (.not rfl) ?_
      have f4 := hS11.bk (i := 0) rfl
      obtain ⟨gq2, haq2, hlq2, _⟩ := hS11.accK (i := 1) rfl
      have ht2 := gr_held f4 haq2 hlq2 (hrel.keep hS11.mod hG) (fun b hb => Nat.lt_of_lt_of_le (hGl b hb) hS11.mod.size)
      refine .go 7 rfl ?_
      refine .ac (.callF cl175 rfl (some_c (w0 := w3) (G := fun b => b < w3.heap.size) ht2.1 ht2.2.1 ht2.2.2.1 ht2.2.2.2 (fun _ h => h) hNl hel (rightE_iff.1 hright) (by omega)) ?_)
      rintro _ w4 ⟨v1, gr1, rfl, ha1, hg1, hm3⟩
      have hS13 := (hS11.newAcc hm3 ha1 hg1).n3
      clear hg1
      have := someM_len N
      generalize hb6 : (someM N).2 = b6
      replace hb6 := hb6.symm
      refine .go 10 rfl ?_
      cases b6
      case true =>
        replace hb6 := hb6.symm
        refine .z (.not rfl) ?_
        obtain ⟨g1, f5, hl1, k1⟩ := hS13.accK (i := 2) rfl
        refine .go 6 rfl ?_
        refine .ac (.callF cl171 rfl (build_c (w0 := w4) (words := (someM N).1) (f5.sl.iv (Nat.zero_le _) f5.lt) (someM_ok N) (by omega)) ?_)
        rintro _ w5 ⟨vg1, _, rfl, ⟨lo1, hi1, hgr1, hlo1, hhi1⟩, rfl, hm4⟩
        have := goodL_range (someM N).1
        have hS15 : St (fun _ => False) (fun _ => False) w0 w5 [bkR b1 [vb1] 264, accR encN 238 2 vb1 nds, accR encS 9 1 v1 ((someM N).1), grR vg1 (gnodes (someM N).1)] := hS13.newGr hm4 hgr1 hlo1 hhi1
        refine .go 10 rfl ?_
        refine .zb (.ne rfl rfl) fun b7 hb7 => ?_
        refine .go 1 rfl ?_
        cases b7
        case true =>
          replace hb7 := bne_iff_ne.1 hb7.symm
          refine .gi 11 rfl ?_
          refine r_ret1 Tryz.func140 rfl rfl ?_
          have hw : madeG N = [] := madeG_no (fun ⟨q1, q2, q3, q4, q5, q6, q7⟩ => by first | exact absurd q1 (rightE_no hgn1 hxE (by omega)) | omega | (rw [q4] at *; simp_all; done) | (rw [q5] at *; simp_all; done) | (simp_all; done))
          exact Ret.mk ⟨⟨w0.heap.size, w0.heap.size, .inl ⟨rfl, hw⟩, Nat.le_refl _, hS15.mod.size⟩, hS15.mod⟩
        replace hb7 := bne_eq_false_iff_eq.1 hb7.symm
        have f6 := hS15.bk (i := 0) rfl
        obtain ⟨gq3, haq3, hlq3, _⟩ := hS15.accK (i := 1) rfl
        have ht3 := gr_held f6 haq3 hlq3 (hrel.keep hS15.mod hG) (fun b hb => Nat.lt_of_lt_of_le (hGl b hb) hS15.mod.size)
        obtain ⟨lo2, hi2, hgr2, hhi2⟩ := hS15.grAt (i := 3) rfl
        have hg0 : goodL (someM N).1 = 0 := by first | assumption | omega
        have hgok := gok_of hg0
        obtain ⟨bsm1, vnm1, ndm1, hv1, km1, km2, km3, km4⟩ := gr_told hgr2 (gnodes_ne hg0) hhi2
        refine .go 2 rfl ?_
        subst hv1
        refine .ac (.callF cl176 rfl (like_c (w0 := w5) (G := fun b => b < w5.heap.size) km1 km2 km3 km4 (fun _ h => h) hgok.edges.2.1 hgok.edges.2.2 ht3.1 ht3.2.1 ht3.2.2.1 ht3.2.2.2 hNl hel) ?_)
        rintro _ w6 ⟨rfl, hm5⟩
        have hS16 := hS15.ext hm5
        generalize hb8 : decide (gnodes (someM N).1 = N) = b8
        replace hb8 := hb8.symm
        cases b8
        case true =>
          replace hb8 := dt hb8
          refine .z (.not rfl) ?_
          refine .gi 9 rfl ?_
          refine r_ret1 Tryz.func140 rfl rfl ?_
          have hw : madeG N = gnodes (someM N).1 := madeG_yes ⟨hright, by omega, by omega, by assumption, by assumption, hg0, by assumption⟩
          obtain ⟨lo3, hi3, hgr3, hlo2, hhi3⟩ := hS16.grOut (i := 3) rfl (gnodes_ne hg0)
          exact Ret.mk ⟨⟨lo3, hi3, by rw [hw]; exact hgr3, hlo2, hhi3⟩, hS16.mod⟩
        replace hb8 := df hb8
        refine .z (.not rfl) ?_
        refine .gi 7 rfl ?_
        refine r_ret1 Tryz.func140 rfl rfl ?_
        have hw : madeG N = [] := madeG_no (fun ⟨q1, q2, q3, q4, q5, q6, q7⟩ => by first | exact absurd q1 (rightE_no hgn1 hxE (by omega)) | omega | (rw [q4] at *; simp_all; done) | (rw [q5] at *; simp_all; done) | (simp_all; done))
        exact Ret.mk ⟨⟨w0.heap.size, w0.heap.size, .inl ⟨rfl, hw⟩, Nat.le_refl _, hS16.mod.size⟩, hS16.mod⟩
      replace hb6 := hb6.symm
      refine .z (.not rfl) ?_
      refine .gi 6 rfl ?_
      refine r_ret1 Tryz.func140 rfl rfl ?_
      have hw : madeG N = [] := madeG_no (fun ⟨q1, q2, q3, q4, q5, q6, q7⟩ => by first | exact absurd q1 (rightE_no hgn1 hxE (by omega)) | omega | (rw [q4] at *; simp_all; done) | (rw [q5] at *; simp_all; done) | (simp_all; done))
      exact Ret.mk ⟨⟨w0.heap.size, w0.heap.size, .inl ⟨rfl, hw⟩, Nat.le_refl _, hS13.mod.size⟩, hS13.mod⟩
    replace hb5 := hb5.symm
    refine .z (.not rfl) ?_
    refine .gi 7 rfl ?_
    refine r_ret1 Tryz.func140 rfl rfl ?_
    have hw : madeG N = [] := madeG_no (fun ⟨q1, q2, q3, q4, q5, q6, q7⟩ => by first | exact absurd q1 (rightE_no hgn1 hxE (by omega)) | omega | (rw [q4] at *; simp_all; done) | (rw [q5] at *; simp_all; done) | (simp_all; done))
    exact Ret.mk ⟨⟨w0.heap.size, w0.heap.size, .inl ⟨rfl, hw⟩, Nat.le_refl _, hS11.mod.size⟩, hS11.mod⟩
end Go.Proofs
namespace Go.Proofs
open Go.Ik Go.Ml
set_option maxRecDepth 20000 in
set_option maxHeartbeats 4000000 in
theorem rdnum_c {w0 : World} {F G : Nat → Prop} {br : Nat} {v_b : Value} {b : List UInt8} (a : Int) (q : Bool) (size : Nat) (hA : (bkR (R := fun _ => False) br [v_b, .int .i64 a, .bool q] 217).p F w0) (hF : ∀ b, F b → b < w0.heap.size) (hb : Sl encB w0 G v_b b) (hG : ∀ b, G b → ¬ F b) (hGl : ∀ b, G b → b < w0.heap.size) (ha : 0 ≤ a ∧ a ≤ b.length) (hbl : b.length ≤ 4000000) (hsz : 1 ≤ size ∧ size ≤ 4) :
    Calls Tryz.prog 138 #[ptr br 0, .int .i64 (size : Int)] w0 (Ret fun rv w1 => rv = .int .i64 (numR b size (a, q)).1 ∧ Mod F w0 w1 ∧ ∃ F2, (bkR (R := fun _ => False) br [v_b, .int .i64 ((numR b size (a, q)).2.1), .bool (numR b size (a, q)).2.2] 217).p F2 w1 ∧ ∀ b, F2 b → b < w1.heap.size ∧ (F b ∨ w0.heap.size ≤ b)) := by
  have hS00 := St.start1 (R := fun _ => False) hA (fun b hb => ⟨hF b hb, id⟩) (fun _ h => h.elim)
  have hS1 : St (fun _ => False) F w0 w0 [bkR br [v_b, .int .i64 a, .bool q] 217] := hS00
  have hble := hb.le
  refine calls_enter Tryz.func138 rfl Tryz.ntmps138 rfl ?_
  refine .gi 5 rfl ?_
  refine r_draw1 (fun i => Nat.beq i 9) 15 (fun w' => Mod (Mg 0) w0 w') mixed (by kernel_rfl) fun w1 hm1 => ?_
  have hS2 := hS1.ext hm1
  have hCw1 : Mod (Mg 0) w0 w1 := Mod.ofExt hm1
  refine ⟨hCw1, ?_⟩
  rw [show List.range' 0 (Array.size _) = [0, 1, 2, 3, 4, 5, 6, 7, 8, 9, 10, 11, 12, 13, 14] from rfl]
  refine .gd 2 rfl ?_
  refine .z rfl (.fieldAddr fl217_0 rfl) ?_
  have f1 := hS1.bk (i := 0) rfl
  refine .z rfl (.load1 ti120 rfl (fun _ hc => (f1.cell 0 _ rfl).keepG hc (Nat.succ_ne_zero _))) ?_
  refine .gd 2 rfl ?_
  refine .z rfl (.fieldAddr fl217_1 rfl) ?_
  refine .z rfl (.load1 ti3 rfl (fun _ hc => (f1.cell 1 _ rfl).keepG hc (Nat.succ_ne_zero _))) ?_
  have f2 := hS2.out hb hG
  refine .gd 1 rfl ?_
  refine .ac rfl (.callF cl136 rfl (num4_c (w0 := w1) (b := b) (a) (size) (f2.mono (fun b hb => ⟨Nat.zero_le _, Nat.lt_of_lt_of_le (hGl b hb) hS2.mod.size⟩)) oa (by first | assumption | omega | (simp only [List.length_append, putN_len, List.length_cons, List.length_nil]; omega)) (by first | omega | decide)) ?_)
  rintro _ w2 ⟨_, _, rfl, rfl, ⟨b1, hb1, rfl⟩, hm2⟩
  have hS3 := hS2.ext hm2
  have hCw2 := hCw1.ext hm2
  refine ⟨.inr hCw2, ?_⟩
  have := numV_rng b a size
  refine .gd 5 rfl ?_
  refine .nil ?_
  refine .go 4 rfl ?_
  cases b1
  case true =>
    replace hb1 := hb1.symm
    refine .z (.not rfl) ?_
    refine .go 7 rfl ?_
    refine .z (.fieldAddr fl217_1 rfl) ?_
    have f3 := hS3.bk (i := 0) rfl
    refine .z (.l1 ti3 f3) ?_
    refine .go 1 rfl ?_
    refine .z (.addI ((a + (((size : Nat) : Int)))) rfl rfl (by omega)) ?_
    refine .go 1 rfl ?_
    refine .z (.fieldAddr fl217_1 rfl) ?_
    refine .ac (.store ti3 rfl rfl rfl rfl rfl f3 (Nat.le_of_ble_eq_true rfl) fun w3 hm3 hz1 hk1 => ?_)
    have hS4 := (hS3.bkK (cs' := [v_b, .int .i64 ((a + (((size : Nat) : Int)))), .bool q]) (i := 0) rfl hm3 hk1).n1
    refine .gi 6 rfl ?_
    refine r_ret1 Tryz.func138 rfl rfl ?_
    obtain ⟨hmF, F2r, hAr, hFr⟩ := hS4.fin
    have hnr : numR b size (a, q) = ((numV b a size), ((a + (((size : Nat) : Int))), q)) := by first | exact numR_yes (by assumption) | exact numR_no (by assumption)
    exact Ret.mk ⟨by first | (rw [hnr]; done) | (rw [hnr]; rfl), hmF, F2r, by rw [hnr]; exact hAr, hFr⟩
  replace hb1 := hb1.symm
  refine .z (.not rfl) ?_
  refine .go 6 rfl ?_
  refine .z (.fieldAddr fl217_2 rfl) ?_
  have f3 := hS3.bk (i := 0) rfl
  refine .ac (.store ti4 rfl rfl rfl rfl rfl f3 (Nat.le_of_ble_eq_true rfl) fun w3 hm3 hz1 hk1 => ?_)
  have hS4 := (hS3.bkK (cs' := [v_b, .int .i64 a, .bool true]) (i := 0) rfl hm3 hk1).n1
  refine .gi 5 rfl ?_
  refine r_ret1 Tryz.func138 rfl rfl ?_
  obtain ⟨hmF, F2r, hAr, hFr⟩ := hS4.fin
  have hnr : numR b size (a, q) = (0, (a, true)) := by first | exact numR_yes (by assumption) | exact numR_no (by assumption)
  exact Ret.mk ⟨by first | (rw [hnr]; done) | (rw [hnr]; rfl), hmF, F2r, by rw [hnr]; exact hAr, hFr⟩
theorem q139_1 {p : Prop} (h : p := by first | rfl | (simp; done) | (rw [Bool.false_or]; assumption) | (rw [Bool.true_or])) : p := h
theorem q139_2 {p : Prop} (h : p := by first | exact hE.step (by omega) (edge_eq hnx3 (by first | rfl | (simp; done) | (rw [Bool.false_or]; assumption) | (rw [Bool.true_or])) hnx4) | (exfalso; omega)) : p := h
theorem q139_3 {p : Prop} (h : p := by omega) : p := h
theorem q139_4 {p : Prop} (h : p := by decide) : p := h
theorem q139_5 {p : Prop} (h : p := by first | omega | (exfalso; omega)) : p := h
set_option maxRecDepth 20000 in
set_option maxHeartbeats 4000000 in
theorem rdnode_c {w0 : World} {F G : Nat → Prop} {br : Nat} {v_b : Value} {b : List UInt8} (a : Int) (q : Bool) (hA : (bkR (R := fun _ => False) br [v_b, .int .i64 a, .bool q] 217).p F w0) (hF : ∀ b, F b → b < w0.heap.size) (hb : Sl encB w0 G v_b b) (hG : ∀ b, G b → ¬ F b) (hGl : ∀ b, G b → b < w0.heap.size) (ha : 0 ≤ a ∧ a ≤ b.length) (hbl : b.length ≤ 4000000) :
    Calls Tryz.prog 139 #[ptr br 0] w0 (Ret fun rv w1 => ∃ ad cp, rv = .agg #[.bool (nodeR b (a, q)).1.1, .slice ad (nodeR b (a, q)).1.2.length cp] ∧ Mod F w0 w1 ∧ ∃ F2, (boxR (R := fun _ => False) [bkR br [v_b, .int .i64 ((nodeR b (a, q)).2.1), .bool (nodeR b (a, q)).2.2] 217, accR encE 233 2 (.slice ad (nodeR b (a, q)).1.2.length cp) (nodeR b (a, q)).1.2]).p F2 w1 ∧ ∀ b, F2 b → b < w1.heap.size ∧ (F b ∨ w0.heap.size ≤ b)) := by
  have hS00 := St.start1 (R := fun _ => False) hA (fun b hb => ⟨hF b hb, id⟩) (fun _ h => h.elim)
  have hS1 : St (fun _ => False) F w0 w0 [bkR br [v_b, .int .i64 a, .bool q] 217] := hS00
  have hble := hb.le
  refine calls_enter Tryz.func139 rfl Tryz.ntmps139 rfl ?_
  refine .go 2 rfl ?_
  refine .ac (.alloc ti221 fun w1 b1 hm1 hb1 hz1 hk1 => ?_)
  have hS3 := (hS1.newBk hm1 hb1 hk1).n2
  have f1 := hS3.out hb hG
  obtain ⟨Fy1, hAy1, hFy1, hky1⟩ := hS3.act (i := 0) rfl
  refine .go 4 rfl ?_
  refine .ac (.callF cl138 rfl (rdnum_c (w0 := w1) (G := G) a q 1 hAy1 (fun b hb => (hFy1 b hb).2) f1 (fun b hb hx => by have := (hFy1 b hx).1.1; rcases this with h | h; exact hG b hb h; have := hGl b hb; omega) (fun b hb => Nat.lt_of_lt_of_le (hGl b hb) hS3.mod.size) q139_3 hbl q139_3) ?_)
  rintro _ w2 ⟨rfl, hm2, F1, hB1, hF1⟩
  obtain ⟨⟨nv1, na1, nq1⟩, hnx1⟩ : ∃ x, x = numR b 1 (a, q) := ⟨_, rfl⟩
  rw [← hnx1] at hB1
  rw [← hnx1]
  dsimp only at hB1 ⊢
  have hnr1 := numR_rng (by omega) (by omega) hnx1.symm
  have hS4 : St (fun _ => False) F w0 w2 [bkR br [v_b, .int .i64 na1, .bool nq1] 217, bkR b1 [.bool false, .slice none 0 0] 221] := hky1 _ _ _ hm2 hB1 hF1
  clear hAy1 hFy1 hky1 hB1 hF1
  have hnb1 := numR_byte hnx1.symm (by omega)
  refine .go 5 rfl ?_
  refine .zb (.eq rfl rfl) fun b2 hb2 => ?_
  refine .z (.build (vs := #[(0, (.bool b2 : Value))]) (v := .agg #[.bool b2, .slice none 0 0]) rfl (fun _ => by kernel_rfl)) ?_
  refine .ac (.alloc ti221 fun w3 b3 hm3 hb3 hz2 hk2 => ?_)
  have hS6 := (hS4.newBk hm3 hb3 hk2).n3
  have f2 := hS6.bk (i := 2) rfl
  refine .ac (.store ti221 rfl rfl rfl rfl rfl f2 (Nat.le_of_ble_eq_true rfl) fun w4 hm4 hz3 hk3 => ?_)
  have hS7 := (hS6.bkK (cs' := [.bool b2, .slice none 0 0]) (i := 2) rfl hm4 hk3).n3
  refine .go 6 rfl ?_
  refine .z (.fieldAddr fl217_2 rfl) ?_
  have f3 := hS7.bk (i := 0) rfl
  refine .z (.l1 ti4 f3) ?_
  refine .go 1 rfl ?_
  cases nq1
  case true =>
    refine .go 4 rfl ?_
    refine .z (.fieldAddr fl217_2 rfl) ?_
    refine .ac (.store ti4 rfl rfl rfl rfl rfl f3 (Nat.le_of_ble_eq_true rfl) fun w5 hm5 hz4 hk4 => ?_)
    have hS8 := (hS7.bkK (cs' := [v_b, .int .i64 na1, .bool true]) (i := 0) rfl hm5 hk4).n3
    have f4 := hS8.out hb hG
    obtain ⟨Fy2, hAy2, hFy2, hky2⟩ := hS8.act (i := 0) rfl
    refine .go 5 rfl ?_
    refine .ac (.callF cl138 rfl (rdnum_c (w0 := w5) (G := G) na1 true 2 hAy2 (fun b hb => (hFy2 b hb).2) f4 (fun b hb hx => by have := (hFy2 b hx).1.1; rcases this with h | h; exact hG b hb h; have := hGl b hb; omega) (fun b hb => Nat.lt_of_lt_of_le (hGl b hb) hS8.mod.size) q139_3 hbl q139_3) ?_)
    rintro _ w6 ⟨rfl, hm6, F2, hB2, hF2⟩
    obtain ⟨⟨nv2, na2, nq2⟩, hnx2⟩ : ∃ x, x = numR b 2 (na1, true) := ⟨_, rfl⟩
    rw [← hnx2] at hB2
    rw [← hnx2]
    dsimp only at hB2 ⊢
    have hnr2 := numR_rng (by omega) (by omega) hnx2.symm
    have hS9 : St (fun _ => False) F w0 w6 [bkR br [v_b, .int .i64 na2, .bool nq2] 217, bkR b1 [.bool false, .slice none 0 0] 221, bkR b3 [.bool b2, .slice none 0 0] 221] := hky2 _ _ _ hm6 hB2 hF2
    clear hAy2 hFy2 hky2 hB2 hF2
    have hnb2 := numR_byte hnx2.symm (by omega)
    have hS10 : St (fun _ => False) F w0 w6 [bkR br [v_b, .int .i64 na2, .bool nq2] 217, bkR b1 [.bool false, .slice none 0 0] 221, bkR b3 [.bool b2, .slice none 0 0] 221, accR encE 233 2 (.slice none 0 0) []] := hS9.newAcc (Mod.refl _ _) Acc.nil (.inl rfl)
    have hS11 := (hS10.b2 [0, 1] 2 3 (by rfl) q139_4).n3
    have hS12 : St (fun _ => False) F w0 w6 [bkR br [v_b, .int .i64 na2, .bool nq2] 217, bkR b1 [.bool false, .slice none 0 0] 221, nbR 221 233 b3 b2 []] := hS11.exi (.slice none 0 0) (i := 2) rfl
    refine .gi 3 rfl ?_
    refine r_loop (I := fun m E W => ∃ (ak : Int) (qk : Bool) (k : Nat) (es : List Ed), E = [(0, ptr br 0), (2, ptr b1 0), (4, ptr b3 0), (23, .int .i64 nv2), (24, .int .i64 (((k : Nat) : Int)))] ∧ m = nv2.toNat - k ∧ St (fun _ => False) F w0 W [bkR br [v_b, .int .i64 ak, .bool qk] 217, bkR b1 [.bool false, .slice none 0 0] 221, nbR 221 233 b3 b2 es] ∧ (EdsR b nv2.toNat (na2, nq2) k es (ak, qk)) ∧ (0 ≤ ak ∧ ak ≤ b.length) ∧ ((k : Int) ≤ nv2) ∧ (es.length ≤ k)) ?_ ?_
    · refine ⟨_, _, ⟨(na2 : Int), (nq2 : Bool), (0 : Nat), ([] : List Ed), rfl, rfl, hS12, (by exact EdsR.start _ _ _), q139_3, q139_3, (by simp)⟩, ⟨rfl, rfl, rfl, rfl, rfl, trivial⟩⟩
    · rintro _ _ w7 ⟨ak, qk, k, es, rfl, rfl, hS13, hE, hak, hkl, hesl⟩ ih1
      refine .go 2 rfl ?_
      refine .zb (.lt rfl rfl) fun b4 hb4 => ?_
      refine .gi 2 rfl ?_
      cases b4
      case true =>
        replace hb4 := dt hb4
        refine .go 9 rfl ?_
        refine .z (.fieldAddr fl217_2 rfl) ?_
        have f5 := hS13.bk (i := 0) rfl
        refine .z (.l1 ti4 f5) ?_
        refine .gi 1 rfl ?_
        cases qk
        case true =>
          obtain ⟨vb1, hS14⟩ := hS13.exo (i := 2) rfl
          change St (fun _ => False) F w0 w7 [bkR br [v_b, .int .i64 ak, .bool true] 217, bkR b1 [.bool false, .slice none 0 0] 221, boxR [bkR b3 [.bool b2, vb1] 221, accR encE 233 2 vb1 es]] at hS14
          have hS15 := (hS14.un 2 rfl [0, 1] (by rfl) q139_4).n4
          obtain ⟨g1, f6, hl1, k1⟩ := hS15.accK (i := 3) rfl
          obtain ⟨ad1, cp1, hv1⟩ := f6.shape
          refine .go 4 rfl ?_
          subst hv1
          have f7 := hS15.bk (i := 2) rfl
          refine .z (.loadN ti221 rfl (fun _ e => e ▸ f7.row) rfl) ?_
          have f8 := hS15.bk (i := 1) rfl
          refine .ac (.store ti221 rfl rfl rfl rfl rfl f8 (Nat.le_of_ble_eq_true rfl) fun w8 hm7 hz5 hk5 => ?_)
          have hS16 := (hS15.bkK (cs' := [.bool b2, (.slice ad1 es.length cp1)]) (i := 1) rfl hm7 hk5).n4
          have f9 := hS16.bk (i := 1) rfl
          refine .gi 1 rfl ?_
          refine r_retC1 Tryz.func139 rfl rfl ti221 f9.row rfl ?_
          have hS17 := (hS16.b2 [1, 2] 0 3 (by rfl) q139_4).n3
          have hS18 := (hS17.sel [2] (by rfl) q139_4).n1
          obtain ⟨hmF, F2r, hAr, hFr⟩ := hS18.fin
          have hed : edgesR b nv2.toNat (na2, nq2) = (es, (ak, true)) := by first | exact hE.bad | exact hE.fin q139_3
          have hnd : nodeR b (a, q) = ((b2, es), (ak, true)) := by first | exact node_eq hnx1 q139_1 hnx2 hed (by assumption)
          exact Ret.mk ⟨_, _, by rw [hnd], hmF, F2r, by rw [hnd]; exact hAr, hFr⟩
        have f6 := hS13.out hb hG
        obtain ⟨Fy3, hAy3, hFy3, hky3⟩ := hS13.act (i := 0) rfl
        refine .go 5 rfl ?_
        refine .ac (.callF cl138 rfl (rdnum_c (w0 := w7) (G := G) ak false 4 hAy3 (fun b hb => (hFy3 b hb).2) f6 (fun b hb hx => by have := (hFy3 b hx).1.1; rcases this with h | h; exact hG b hb h; have := hGl b hb; omega) (fun b hb => Nat.lt_of_lt_of_le (hGl b hb) hS13.mod.size) q139_3 hbl q139_3) ?_)
        rintro _ w8 ⟨rfl, hm7, F3, hB3, hF3⟩
        obtain ⟨⟨nv3, na3, nq3⟩, hnx3⟩ : ∃ x, x = numR b 4 (ak, false) := ⟨_, rfl⟩
        rw [← hnx3] at hB3
        rw [← hnx3]
        dsimp only at hB3 ⊢
        have hnr3 := numR_rng q139_3 q139_3 hnx3.symm
        have hS14 : St (fun _ => False) F w0 w8 [bkR br [v_b, .int .i64 na3, .bool nq3] 217, bkR b1 [.bool false, .slice none 0 0] 221, nbR 221 233 b3 b2 es] := hky3 _ _ _ hm7 hB3 hF3
        clear hAy3 hFy3 hky3 hB3 hF3
        refine .go 7 rfl ?_
        refine .z (.fieldAddr fl217_2 rfl) ?_
        have f7 := hS14.bk (i := 0) rfl
        refine .z (.l1 ti4 f7) ?_
        refine .go 1 rfl ?_
        cases nq3
        case true =>
          refine .go 4 rfl ?_
          refine .z (.fieldAddr fl217_2 rfl) ?_
          refine .ac (.store ti4 rfl rfl rfl rfl rfl f7 (Nat.le_of_ble_eq_true rfl) fun w9 hm8 hz5 hk5 => ?_)
          have hS15 := (hS14.bkK (cs' := [v_b, .int .i64 na3, .bool true]) (i := 0) rfl hm8 hk5).n3
          obtain ⟨vb1, hS16⟩ := hS15.exo (i := 2) rfl
          change St (fun _ => False) F w0 w9 [bkR br [v_b, .int .i64 na3, .bool true] 217, bkR b1 [.bool false, .slice none 0 0] 221, boxR [bkR b3 [.bool b2, vb1] 221, accR encE 233 2 vb1 es]] at hS16
          have hS17 := (hS16.un 2 rfl [0, 1] (by rfl) q139_4).n4
          refine .gi 1 rfl ?_
          refine r_draw1 (fun i => Nat.beq i 5 || Nat.beq i 7 || Nat.beq i 8 || Nat.beq i 10) 10 (fun w' => Row w' b3 1 [vb1]) mixed (by kernel_rfl) fun w10 hm9 => ?_
          have hS18 := hS17.ext hm9
          have f8 := hS18.bk (i := 2) rfl
          refine ⟨(f8.cell 1 _ rfl), ?_⟩
          rw [show List.range' 0 (Array.size _) = [0, 1, 2, 3, 4, 5, 6, 7, 8, 9, 10] from rfl]
          refine .z rfl (.fieldAddr fl221_1 rfl) ?_
          refine .z rfl (.load1 ti219 rfl (fun _ hc => hc)) ?_
          refine .gd 1 rfl ?_
          refine .z rfl (.convI (by kernel_rfl) Tryz.underlying21 rfl) ?_
          have f10 := hS18.out hb hG
          obtain ⟨Fy4, hAy4, hFy4, hky4⟩ := hS18.act (i := 0) rfl
          refine .gd 1 rfl ?_
          refine .ac rfl (.callF cl138 rfl (rdnum_c (w0 := w10) (G := G) na3 true 2 hAy4 (fun b hb => (hFy4 b hb).2) f10 (fun b hb hx => by have := (hFy4 b hx).1.1; rcases this with h | h; exact hG b hb h; have := hGl b hb; omega) (fun b hb => Nat.lt_of_lt_of_le (hGl b hb) hS18.mod.size) q139_3 hbl q139_3) ?_)
          rintro _ w11 ⟨rfl, hm10, F4, hB4, hF4⟩
          obtain ⟨⟨nv4, na4, nq4⟩, hnx4⟩ : ∃ x, x = numR b 2 (na3, true) := ⟨_, rfl⟩
          rw [← hnx4] at hB4
          rw [← hnx4]
          dsimp only at hB4 ⊢
          have hnr4 := numR_rng q139_3 q139_3 hnx4.symm
          have hS19 : St (fun _ => False) F w0 w11 [bkR br [v_b, .int .i64 na4, .bool nq4] 217, bkR b1 [.bool false, .slice none 0 0] 221, bkR b3 [.bool b2, vb1] 221, accR encE 233 2 vb1 es] := hky4 _ _ _ hm10 hB4 hF4
          clear hAy4 hFy4 hky4 hB4 hF4
          have hnb3 := numR_byte hnx4.symm (by omega)
          have f11 := hS19.bk (i := 2) rfl
          refine ⟨.inr (f11.cell 1 _ rfl), ?_⟩
          refine .z rfl (.build (vs := #[(0, (.int .i32 ((IntKind.i32.wrap nv3)) : Value)), (1, (.int .i64 nv4 : Value))]) (v := .agg #[.int .i32 ((IntKind.i32.wrap nv3)), .int .i64 nv4]) rfl (fun _ => by kernel_rfl)) ?_
          refine .ac rfl (.buildSlice [(.agg #[.int .i32 ((IntKind.i32.wrap nv3)), .int .i64 nv4] : Value)] Tryz.underlying219 ti233 rfl rfl rfl q139_4 fun w12 b5 hm11 hb5 hz6 hk6 => ?_)
          have hl1 := Sl.of_blk (enc := encE) hk6 ([(Ed.mk ((IntKind.i32.wrap nv3)) nv4)] : List Ed) 1 rfl rfl (by unfold maxLen; omega)
          have hS21 := (hS19.newSlB hm11 hb5 hz6 hl1).n5
          have f12 := hS21.bk (i := 2) rfl
          refine ⟨.inr (f12.cell 1 _ rfl), ?_⟩
          obtain ⟨g2, f13, hl2, k1⟩ := hS21.accK (i := 3) rfl
          have f14 := hS21.sl (i := 4) (k := 0) rfl rfl
          refine .ac rfl (.append f13 Tryz.underlying219 ti233 rfl encE_len encE_one rfl rfl (f14) ol ox fun v1 g1 w13 ha1 hm12 hg1 hz7 => ?_)
          have hS22 := (k1 _ _ _ _ hm12 ha1 hg1).n5
          have f15 := hS22.bk (i := 2) rfl
          refine ⟨.inr (f15.cell 1 _ rfl), ?_⟩
          clear hg1
          refine .z rfl (.fieldAddr fl221_1 rfl) ?_
          obtain ⟨g3, f16, hl3, k2⟩ := hS22.accK (i := 3) rfl
          obtain ⟨ad1, cp1, hv1⟩ := f16.shape
          subst hv1
          refine .ac rfl (.store ti219 rfl rfl rfl rfl rfl f15 (Nat.le_of_ble_eq_true rfl) fun w14 hm13 hz8 hk7 => ?_)
          have hS23 := (hS22.bkK (cs' := [.bool b2, (.slice ad1 ((es ++ [(Ed.mk ((IntKind.i32.wrap nv3)) nv4)])).length cp1)]) (i := 2) rfl hm13 hk7).n5
          refine ⟨.inl rfl, ?_⟩
          refine .nil ?_
          have hS24 := (hS23.b2 [0, 1, 4] 2 3 (by rfl) q139_4).n4
          have hS25 : St (fun _ => False) F w0 w14 [bkR br [v_b, .int .i64 na4, .bool nq4] 217, bkR b1 [.bool false, .slice none 0 0] 221, slR encE [((.slice (some ⟨b5, 0, none⟩) 1 1), [(Ed.mk ((IntKind.i32.wrap nv3)) nv4)])], nbR 221 233 b3 b2 ((es ++ [(Ed.mk ((IntKind.i32.wrap nv3)) nv4)]))] := hS24.exi (.slice ad1 ((es ++ [(Ed.mk ((IntKind.i32.wrap nv3)) nv4)])).length cp1) (i := 3) rfl
          refine .go 2 rfl ?_
          refine .z (.addI (((k + 1 : Nat) : Int)) rfl rfl q139_3) ?_
          have hS26 := (hS25.sel [0, 1, 3] (by rfl) q139_4).n3
          refine .gi 2 rfl ?_
          exact (ih1 _ _ _ ⟨(na4 : Int), (nq4 : Bool), (k + 1 : Nat), ((es ++ [(Ed.mk ((IntKind.i32.wrap nv3)) nv4)]) : List Ed), rfl, rfl, hS26, q139_2, q139_5, q139_5, (by first | (simp only [List.length_append, List.length_cons, List.length_nil]; omega) | (exfalso; omega))⟩ q139_3).sub ⟨rfl, rfl, rfl, rfl, rfl, trivial⟩
        refine .go 1 rfl ?_
        refine .zb (.gt rfl rfl) fun b5 hb5 => ?_
        refine .go 2 rfl ?_
        refine .z (.fieldAddr fl217_2 rfl) ?_
        refine .ac (.store ti4 rfl rfl rfl rfl rfl f7 (Nat.le_of_ble_eq_true rfl) fun w9 hm8 hz5 hk5 => ?_)
        have hS15 := (hS14.bkK (cs' := [v_b, .int .i64 na3, .bool b5]) (i := 0) rfl hm8 hk5).n3
        obtain ⟨vb1, hS16⟩ := hS15.exo (i := 2) rfl
        change St (fun _ => False) F w0 w9 [bkR br [v_b, .int .i64 na3, .bool b5] 217, bkR b1 [.bool false, .slice none 0 0] 221, boxR [bkR b3 [.bool b2, vb1] 221, accR encE 233 2 vb1 es]] at hS16
        have hS17 := (hS16.un 2 rfl [0, 1] (by rfl) q139_4).n4
        refine .gi 1 rfl ?_
        refine r_draw1 (fun i => Nat.beq i 5 || Nat.beq i 7 || Nat.beq i 8 || Nat.beq i 10) 10 (fun w' => Row w' b3 1 [vb1]) mixed (by kernel_rfl) fun w10 hm9 => ?_
        have hS18 := hS17.ext hm9
        have f8 := hS18.bk (i := 2) rfl
        refine ⟨(f8.cell 1 _ rfl), ?_⟩
        rw [show List.range' 0 (Array.size _) = [0, 1, 2, 3, 4, 5, 6, 7, 8, 9, 10] from rfl]
        refine .z rfl (.fieldAddr fl221_1 rfl) ?_
        refine .z rfl (.load1 ti219 rfl (fun _ hc => hc)) ?_
        refine .gd 1 rfl ?_
        refine .z rfl (.convI (by kernel_rfl) Tryz.underlying21 rfl) ?_
        have f10 := hS18.out hb hG
        obtain ⟨Fy4, hAy4, hFy4, hky4⟩ := hS18.act (i := 0) rfl
        refine .gd 1 rfl ?_
        refine .ac rfl (.callF cl138 rfl (rdnum_c (w0 := w10) (G := G) na3 b5 2 hAy4 (fun b hb => (hFy4 b hb).2) f10 (fun b hb hx => by have := (hFy4 b hx).1.1; rcases this with h | h; exact hG b hb h; have := hGl b hb; omega) (fun b hb => Nat.lt_of_lt_of_le (hGl b hb) hS18.mod.size) q139_3 hbl q139_3) ?_)
        rintro _ w11 ⟨rfl, hm10, F4, hB4, hF4⟩
        obtain ⟨⟨nv4, na4, nq4⟩, hnx4⟩ : ∃ x, x = numR b 2 (na3, b5) := ⟨_, rfl⟩
        rw [← hnx4] at hB4
        rw [← hnx4]
        dsimp only at hB4 ⊢
        have hnr4 := numR_rng q139_3 q139_3 hnx4.symm
        have hS19 : St (fun _ => False) F w0 w11 [bkR br [v_b, .int .i64 na4, .bool nq4] 217, bkR b1 [.bool false, .slice none 0 0] 221, bkR b3 [.bool b2, vb1] 221, accR encE 233 2 vb1 es] := hky4 _ _ _ hm10 hB4 hF4
        clear hAy4 hFy4 hky4 hB4 hF4
        have hnb3 := numR_byte hnx4.symm (by omega)
        have f11 := hS19.bk (i := 2) rfl
        refine ⟨.inr (f11.cell 1 _ rfl), ?_⟩
        refine .z rfl (.build (vs := #[(0, (.int .i32 ((IntKind.i32.wrap nv3)) : Value)), (1, (.int .i64 nv4 : Value))]) (v := .agg #[.int .i32 ((IntKind.i32.wrap nv3)), .int .i64 nv4]) rfl (fun _ => by kernel_rfl)) ?_
        refine .ac rfl (.buildSlice [(.agg #[.int .i32 ((IntKind.i32.wrap nv3)), .int .i64 nv4] : Value)] Tryz.underlying219 ti233 rfl rfl rfl q139_4 fun w12 b6 hm11 hb6 hz6 hk6 => ?_)
        have hl1 := Sl.of_blk (enc := encE) hk6 ([(Ed.mk ((IntKind.i32.wrap nv3)) nv4)] : List Ed) 1 rfl rfl (by unfold maxLen; omega)
        have hS21 := (hS19.newSlB hm11 hb6 hz6 hl1).n5
        have f12 := hS21.bk (i := 2) rfl
        refine ⟨.inr (f12.cell 1 _ rfl), ?_⟩
        obtain ⟨g2, f13, hl2, k1⟩ := hS21.accK (i := 3) rfl
        have f14 := hS21.sl (i := 4) (k := 0) rfl rfl
        refine .ac rfl (.append f13 Tryz.underlying219 ti233 rfl encE_len encE_one rfl rfl (f14) ol ox fun v1 g1 w13 ha1 hm12 hg1 hz7 => ?_)
        have hS22 := (k1 _ _ _ _ hm12 ha1 hg1).n5
        have f15 := hS22.bk (i := 2) rfl
        refine ⟨.inr (f15.cell 1 _ rfl), ?_⟩
        clear hg1
        refine .z rfl (.fieldAddr fl221_1 rfl) ?_
        obtain ⟨g3, f16, hl3, k2⟩ := hS22.accK (i := 3) rfl
        obtain ⟨ad1, cp1, hv1⟩ := f16.shape
        subst hv1
        refine .ac rfl (.store ti219 rfl rfl rfl rfl rfl f15 (Nat.le_of_ble_eq_true rfl) fun w14 hm13 hz8 hk7 => ?_)
        have hS23 := (hS22.bkK (cs' := [.bool b2, (.slice ad1 ((es ++ [(Ed.mk ((IntKind.i32.wrap nv3)) nv4)])).length cp1)]) (i := 2) rfl hm13 hk7).n5
        refine ⟨.inl rfl, ?_⟩
        refine .nil ?_
        have hS24 := (hS23.b2 [0, 1, 4] 2 3 (by rfl) q139_4).n4
        have hS25 : St (fun _ => False) F w0 w14 [bkR br [v_b, .int .i64 na4, .bool nq4] 217, bkR b1 [.bool false, .slice none 0 0] 221, slR encE [((.slice (some ⟨b6, 0, none⟩) 1 1), [(Ed.mk ((IntKind.i32.wrap nv3)) nv4)])], nbR 221 233 b3 b2 ((es ++ [(Ed.mk ((IntKind.i32.wrap nv3)) nv4)]))] := hS24.exi (.slice ad1 ((es ++ [(Ed.mk ((IntKind.i32.wrap nv3)) nv4)])).length cp1) (i := 3) rfl
        refine .go 2 rfl ?_
        refine .z (.addI (((k + 1 : Nat) : Int)) rfl rfl q139_3) ?_
        have hS26 := (hS25.sel [0, 1, 3] (by rfl) q139_4).n3
        refine .gi 2 rfl ?_
        exact (ih1 _ _ _ ⟨(na4 : Int), (nq4 : Bool), (k + 1 : Nat), ((es ++ [(Ed.mk ((IntKind.i32.wrap nv3)) nv4)]) : List Ed), rfl, rfl, hS26, q139_2, q139_5, q139_5, (by first | (simp only [List.length_append, List.length_cons, List.length_nil]; omega) | (exfalso; omega))⟩ q139_3).sub ⟨rfl, rfl, rfl, rfl, rfl, trivial⟩
      replace hb4 := df hb4
      obtain ⟨vb1, hS14⟩ := hS13.exo (i := 2) rfl
      change St (fun _ => False) F w0 w7 [bkR br [v_b, .int .i64 ak, .bool qk] 217, bkR b1 [.bool false, .slice none 0 0] 221, boxR [bkR b3 [.bool b2, vb1] 221, accR encE 233 2 vb1 es]] at hS14
      have hS15 := (hS14.un 2 rfl [0, 1] (by rfl) q139_4).n4
      obtain ⟨g1, f5, hl1, k1⟩ := hS15.accK (i := 3) rfl
      obtain ⟨ad1, cp1, hv1⟩ := f5.shape
      refine .go 4 rfl ?_
      subst hv1
      have f6 := hS15.bk (i := 2) rfl
      refine .z (.loadN ti221 rfl (fun _ e => e ▸ f6.row) rfl) ?_
      have f7 := hS15.bk (i := 1) rfl
      refine .ac (.store ti221 rfl rfl rfl rfl rfl f7 (Nat.le_of_ble_eq_true rfl) fun w8 hm7 hz5 hk5 => ?_)
      have hS16 := (hS15.bkK (cs' := [.bool b2, (.slice ad1 es.length cp1)]) (i := 1) rfl hm7 hk5).n4
      have f8 := hS16.bk (i := 1) rfl
      refine .gi 1 rfl ?_
      refine r_retC1 Tryz.func139 rfl rfl ti221 f8.row rfl ?_
      have hS17 := (hS16.b2 [1, 2] 0 3 (by rfl) q139_4).n3
      have hS18 := (hS17.sel [2] (by rfl) (by decide)).n1
      obtain ⟨hmF, F2r, hAr, hFr⟩ := hS18.fin
      have hed : edgesR b nv2.toNat (na2, nq2) = (es, (ak, qk)) := by first | exact hE.bad | exact hE.fin q139_3
      have hnd : nodeR b (a, q) = ((b2, es), (ak, qk)) := by first | exact node_eq hnx1 q139_1 hnx2 hed (by assumption)
      exact Ret.mk ⟨_, _, by rw [hnd], hmF, F2r, by rw [hnd]; exact hAr, hFr⟩
  refine .go 1 rfl ?_
  refine .zb (.gt rfl rfl) fun b4 hb4 => ?_
  refine .go 2 rfl ?_
  refine .z (.fieldAddr fl217_2 rfl) ?_
  refine .ac (.store ti4 rfl rfl rfl rfl rfl f3 (Nat.le_of_ble_eq_true rfl) fun w5 hm5 hz4 hk4 => ?_)
  have hS8 := (hS7.bkK (cs' := [v_b, .int .i64 na1, .bool b4]) (i := 0) rfl hm5 hk4).n3
  have f4 := hS8.out hb hG
  obtain ⟨Fy2, hAy2, hFy2, hky2⟩ := hS8.act (i := 0) rfl
  refine .go 5 rfl ?_
  refine .ac (.callF cl138 rfl (rdnum_c (w0 := w5) (G := G) na1 b4 2 hAy2 (fun b hb => (hFy2 b hb).2) f4 (fun b hb hx => by have := (hFy2 b hx).1.1; rcases this with h | h; exact hG b hb h; have := hGl b hb; omega) (fun b hb => Nat.lt_of_lt_of_le (hGl b hb) hS8.mod.size) q139_3 hbl q139_3) ?_)
  rintro _ w6 ⟨rfl, hm6, F2, hB2, hF2⟩
  obtain ⟨⟨nv2, na2, nq2⟩, hnx2⟩ : ∃ x, x = numR b 2 (na1, b4) := ⟨_, rfl⟩
  rw [← hnx2] at hB2
  rw [← hnx2]
  dsimp only at hB2 ⊢
  have hnr2 := numR_rng (by omega) (by omega) hnx2.symm
  have hS9 : St (fun _ => False) F w0 w6 [bkR br [v_b, .int .i64 na2, .bool nq2] 217, bkR b1 [.bool false, .slice none 0 0] 221, bkR b3 [.bool b2, .slice none 0 0] 221] := hky2 _ _ _ hm6 hB2 hF2
  clear hAy2 hFy2 hky2 hB2 hF2
  have hnb2 := numR_byte hnx2.symm (by omega)
  have hS10 : St (fun _ => False) F w0 w6 [bkR br [v_b, .int .i64 na2, .bool nq2] 217, bkR b1 [.bool false, .slice none 0 0] 221, bkR b3 [.bool b2, .slice none 0 0] 221, accR encE 233 2 (.slice none 0 0) []] := hS9.newAcc (Mod.refl _ _) Acc.nil (.inl rfl)
  have hS11 := (hS10.b2 [0, 1] 2 3 (by rfl) (by decide)).n3
  have hS12 : St (fun _ => False) F w0 w6 [bkR br [v_b, .int .i64 na2, .bool nq2] 217, bkR b1 [.bool false, .slice none 0 0] 221, nbR 221 233 b3 b2 []] := hS11.exi (.slice none 0 0) (i := 2) rfl
  refine .gi 3 rfl ?_
  refine r_loop (I := fun m E W => ∃ (ak : Int) (qk : Bool) (k : Nat) (es : List Ed), E = [(0, ptr br 0), (2, ptr b1 0), (4, ptr b3 0), (23, .int .i64 nv2), (24, .int .i64 (((k : Nat) : Int)))] ∧ m = nv2.toNat - k ∧ St (fun _ => False) F w0 W [bkR br [v_b, .int .i64 ak, .bool qk] 217, bkR b1 [.bool false, .slice none 0 0] 221, nbR 221 233 b3 b2 es] ∧ (EdsR b nv2.toNat (na2, nq2) k es (ak, qk)) ∧ (0 ≤ ak ∧ ak ≤ b.length) ∧ ((k : Int) ≤ nv2) ∧ (es.length ≤ k)) ?_ ?_
  · refine ⟨_, _, ⟨(na2 : Int), (nq2 : Bool), (0 : Nat), ([] : List Ed), rfl, rfl, hS12, (by exact EdsR.start _ _ _), q139_3, q139_3, (by simp)⟩, ⟨rfl, rfl, rfl, rfl, rfl, trivial⟩⟩
  · rintro _ _ w7 ⟨ak, qk, k, es, rfl, rfl, hS13, hE, hak, hkl, hesl⟩ ih1
    refine .go 2 rfl ?_
    refine .zb (.lt rfl rfl) fun b5 hb5 => ?_
    refine .gi 2 rfl ?_
    cases b5
    case true =>
      replace hb5 := dt hb5
      refine .go 9 rfl ?_
      refine .z (.fieldAddr fl217_2 rfl) ?_
      have f5 := hS13.bk (i := 0) rfl
      refine .z (.l1 ti4 f5) ?_
      refine .gi 1 rfl ?_
      cases qk
      case true =>
        obtain ⟨vb1, hS14⟩ := hS13.exo (i := 2) rfl
        change St (fun _ => False) F w0 w7 [bkR br [v_b, .int .i64 ak, .bool true] 217, bkR b1 [.bool false, .slice none 0 0] 221, boxR [bkR b3 [.bool b2, vb1] 221, accR encE 233 2 vb1 es]] at hS14
        have hS15 := (hS14.un 2 rfl [0, 1] (by rfl) q139_4).n4
        obtain ⟨g1, f6, hl1, k1⟩ := hS15.accK (i := 3) rfl
        obtain ⟨ad1, cp1, hv1⟩ := f6.shape
        refine .go 4 rfl ?_
        subst hv1
        have f7 := hS15.bk (i := 2) rfl
        refine .z (.loadN ti221 rfl (fun _ e => e ▸ f7.row) rfl) ?_
        have f8 := hS15.bk (i := 1) rfl
        refine .ac (.store ti221 rfl rfl rfl rfl rfl f8 (Nat.le_of_ble_eq_true rfl) fun w8 hm7 hz5 hk5 => ?_)
        have hS16 := (hS15.bkK (cs' := [.bool b2, (.slice ad1 es.length cp1)]) (i := 1) rfl hm7 hk5).n4
        have f9 := hS16.bk (i := 1) rfl
        refine .gi 1 rfl ?_
        refine r_retC1 Tryz.func139 rfl rfl ti221 f9.row rfl ?_
        have hS17 := (hS16.b2 [1, 2] 0 3 (by rfl) q139_4).n3
        have hS18 := (hS17.sel [2] (by rfl) (by decide)).n1
        obtain ⟨hmF, F2r, hAr, hFr⟩ := hS18.fin
        have hed : edgesR b nv2.toNat (na2, nq2) = (es, (ak, true)) := by first | exact hE.bad | exact hE.fin q139_3
        have hnd : nodeR b (a, q) = ((b2, es), (ak, true)) := by first | exact node_eq hnx1 q139_1 hnx2 hed (by assumption)
        exact Ret.mk ⟨_, _, by rw [hnd], hmF, F2r, by rw [hnd]; exact hAr, hFr⟩
      have f6 := hS13.out hb hG
      obtain ⟨Fy3, hAy3, hFy3, hky3⟩ := hS13.act (i := 0) rfl
      refine .go 5 rfl ?_
      refine .ac (.callF cl138 rfl (rdnum_c (w0 := w7) (G := G) ak false 4 hAy3 (fun b hb => (hFy3 b hb).2) f6 (fun b hb hx => by have := (hFy3 b hx).1.1; rcases this with h | h; exact hG b hb h; have := hGl b hb; omega) (fun b hb => Nat.lt_of_lt_of_le (hGl b hb) hS13.mod.size) q139_3 hbl q139_3) ?_)
      rintro _ w8 ⟨rfl, hm7, F3, hB3, hF3⟩
      obtain ⟨⟨nv3, na3, nq3⟩, hnx3⟩ : ∃ x, x = numR b 4 (ak, false) := ⟨_, rfl⟩
      rw [← hnx3] at hB3
      rw [← hnx3]
      dsimp only at hB3 ⊢
      have hnr3 := numR_rng (by omega) (by omega) hnx3.symm
      have hS14 : St (fun _ => False) F w0 w8 [bkR br [v_b, .int .i64 na3, .bool nq3] 217, bkR b1 [.bool false, .slice none 0 0] 221, nbR 221 233 b3 b2 es] := hky3 _ _ _ hm7 hB3 hF3
      clear hAy3 hFy3 hky3 hB3 hF3
      refine .go 7 rfl ?_
      refine .z (.fieldAddr fl217_2 rfl) ?_
      have f7 := hS14.bk (i := 0) rfl
      refine .z (.l1 ti4 f7) ?_
      refine .go 1 rfl ?_
      cases nq3
      case true =>
        refine .go 4 rfl ?_
        refine .z (.fieldAddr fl217_2 rfl) ?_
        refine .ac (.store ti4 rfl rfl rfl rfl rfl f7 (Nat.le_of_ble_eq_true rfl) fun w9 hm8 hz5 hk5 => ?_)
        have hS15 := (hS14.bkK (cs' := [v_b, .int .i64 na3, .bool true]) (i := 0) rfl hm8 hk5).n3
        obtain ⟨vb1, hS16⟩ := hS15.exo (i := 2) rfl
        change St (fun _ => False) F w0 w9 [bkR br [v_b, .int .i64 na3, .bool true] 217, bkR b1 [.bool false, .slice none 0 0] 221, boxR [bkR b3 [.bool b2, vb1] 221, accR encE 233 2 vb1 es]] at hS16
        have hS17 := (hS16.un 2 rfl [0, 1] (by rfl) q139_4).n4
        refine .gi 1 rfl ?_
        refine r_draw1 (fun i => Nat.beq i 5 || Nat.beq i 7 || Nat.beq i 8 || Nat.beq i 10) 10 (fun w' => Row w' b3 1 [vb1]) mixed (by kernel_rfl) fun w10 hm9 => ?_
        have hS18 := hS17.ext hm9
        have f8 := hS18.bk (i := 2) rfl
        refine ⟨(f8.cell 1 _ rfl), ?_⟩
        rw [show List.range' 0 (Array.size _) = [0, 1, 2, 3, 4, 5, 6, 7, 8, 9, 10] from rfl]
        refine .z rfl (.fieldAddr fl221_1 rfl) ?_
        refine .z rfl (.load1 ti219 rfl (fun _ hc => hc)) ?_
        refine .gd 1 rfl ?_
        refine .z rfl (.convI (by kernel_rfl) Tryz.underlying21 rfl) ?_
        have f10 := hS18.out hb hG
        obtain ⟨Fy4, hAy4, hFy4, hky4⟩ := hS18.act (i := 0) rfl
        refine .gd 1 rfl ?_
        refine .ac rfl (.callF cl138 rfl (rdnum_c (w0 := w10) (G := G) na3 true 2 hAy4 (fun b hb => (hFy4 b hb).2) f10 (fun b hb hx => by have := (hFy4 b hx).1.1; rcases this with h | h; exact hG b hb h; have := hGl b hb; omega) (fun b hb => Nat.lt_of_lt_of_le (hGl b hb) hS18.mod.size) q139_3 hbl q139_3) ?_)
        rintro _ w11 ⟨rfl, hm10, F4, hB4, hF4⟩
        obtain ⟨⟨nv4, na4, nq4⟩, hnx4⟩ : ∃ x, x = numR b 2 (na3, true) := ⟨_, rfl⟩
        rw [← hnx4] at hB4
        rw [← hnx4]
        dsimp only at hB4 ⊢
        have hnr4 := numR_rng q139_3 q139_3 hnx4.symm
        have hS19 : St (fun _ => False) F w0 w11 [bkR br [v_b, .int .i64 na4, .bool nq4] 217, bkR b1 [.bool false, .slice none 0 0] 221, bkR b3 [.bool b2, vb1] 221, accR encE 233 2 vb1 es] := hky4 _ _ _ hm10 hB4 hF4
        clear hAy4 hFy4 hky4 hB4 hF4
        have hnb3 := numR_byte hnx4.symm (by omega)
        have f11 := hS19.bk (i := 2) rfl
        refine ⟨.inr (f11.cell 1 _ rfl), ?_⟩
        refine .z rfl (.build (vs := #[(0, (.int .i32 ((IntKind.i32.wrap nv3)) : Value)), (1, (.int .i64 nv4 : Value))]) (v := .agg #[.int .i32 ((IntKind.i32.wrap nv3)), .int .i64 nv4]) rfl (fun _ => by kernel_rfl)) ?_
        refine .ac rfl (.buildSlice [(.agg #[.int .i32 ((IntKind.i32.wrap nv3)), .int .i64 nv4] : Value)] Tryz.underlying219 ti233 rfl rfl rfl q139_4 fun w12 b6 hm11 hb6 hz6 hk6 => ?_)
        have hl1 := Sl.of_blk (enc := encE) hk6 ([(Ed.mk ((IntKind.i32.wrap nv3)) nv4)] : List Ed) 1 rfl rfl (by unfold maxLen; omega)
        have hS21 := (hS19.newSlB hm11 hb6 hz6 hl1).n5
        have f12 := hS21.bk (i := 2) rfl
        refine ⟨.inr (f12.cell 1 _ rfl), ?_⟩
        obtain ⟨g2, f13, hl2, k1⟩ := hS21.accK (i := 3) rfl
        have f14 := hS21.sl (i := 4) (k := 0) rfl rfl
        refine .ac rfl (.append f13 Tryz.underlying219 ti233 rfl encE_len encE_one rfl rfl (f14) ol ox fun v1 g1 w13 ha1 hm12 hg1 hz7 => ?_)
        have hS22 := (k1 _ _ _ _ hm12 ha1 hg1).n5
        have f15 := hS22.bk (i := 2) rfl
        refine ⟨.inr (f15.cell 1 _ rfl), ?_⟩
        clear hg1
        refine .z rfl (.fieldAddr fl221_1 rfl) ?_
        obtain ⟨g3, f16, hl3, k2⟩ := hS22.accK (i := 3) rfl
        obtain ⟨ad1, cp1, hv1⟩ := f16.shape
        subst hv1
        refine .ac rfl (.store ti219 rfl rfl rfl rfl rfl f15 (Nat.le_of_ble_eq_true rfl) fun w14 hm13 hz8 hk7 => ?_)
        have hS23 := (hS22.bkK (cs' := [.bool b2, (.slice ad1 ((es ++ [(Ed.mk ((IntKind.i32.wrap nv3)) nv4)])).length cp1)]) (i := 2) rfl hm13 hk7).n5
        refine ⟨.inl rfl, ?_⟩
        refine .nil ?_
        have hS24 := (hS23.b2 [0, 1, 4] 2 3 (by rfl) q139_4).n4
        have hS25 : St (fun _ => False) F w0 w14 [bkR br [v_b, .int .i64 na4, .bool nq4] 217, bkR b1 [.bool false, .slice none 0 0] 221, slR encE [((.slice (some ⟨b6, 0, none⟩) 1 1), [(Ed.mk ((IntKind.i32.wrap nv3)) nv4)])], nbR 221 233 b3 b2 ((es ++ [(Ed.mk ((IntKind.i32.wrap nv3)) nv4)]))] := hS24.exi (.slice ad1 ((es ++ [(Ed.mk ((IntKind.i32.wrap nv3)) nv4)])).length cp1) (i := 3) rfl
        refine .go 2 rfl ?_
        refine .z (.addI (((k + 1 : Nat) : Int)) rfl rfl q139_3) ?_
        have hS26 := (hS25.sel [0, 1, 3] (by rfl) q139_4).n3
        refine .gi 2 rfl ?_
        exact (ih1 _ _ _ ⟨(na4 : Int), (nq4 : Bool), (k + 1 : Nat), ((es ++ [(Ed.mk ((IntKind.i32.wrap nv3)) nv4)]) : List Ed), rfl, rfl, hS26, q139_2, q139_5, q139_5, (by first | (simp only [List.length_append, List.length_cons, List.length_nil]; omega) | (exfalso; omega))⟩ q139_3).sub ⟨rfl, rfl, rfl, rfl, rfl, trivial⟩
      refine .go 1 rfl ?_
      refine .zb (.gt rfl rfl) fun b6 hb6 => ?_
      refine .go 2 rfl ?_
      refine .z (.fieldAddr fl217_2 rfl) ?_
      refine .ac (.store ti4 rfl rfl rfl rfl rfl f7 (Nat.le_of_ble_eq_true rfl) fun w9 hm8 hz5 hk5 => ?_)
      have hS15 := (hS14.bkK (cs' := [v_b, .int .i64 na3, .bool b6]) (i := 0) rfl hm8 hk5).n3
      obtain ⟨vb1, hS16⟩ := hS15.exo (i := 2) rfl
      change St (fun _ => False) F w0 w9 [bkR br [v_b, .int .i64 na3, .bool b6] 217, bkR b1 [.bool false, .slice none 0 0] 221, boxR [bkR b3 [.bool b2, vb1] 221, accR encE 233 2 vb1 es]] at hS16
      have hS17 := (hS16.un 2 rfl [0, 1] (by rfl) q139_4).n4
      refine .gi 1 rfl ?_
      refine r_draw1 (fun i => Nat.beq i 5 || Nat.beq i 7 || Nat.beq i 8 || Nat.beq i 10) 10 (fun w' => Row w' b3 1 [vb1]) mixed (by kernel_rfl) fun w10 hm9 => ?_
      have hS18 := hS17.ext hm9
      have f8 := hS18.bk (i := 2) rfl
      refine ⟨(f8.cell 1 _ rfl), ?_⟩
      rw [show List.range' 0 (Array.size _) = [0, 1, 2, 3, 4, 5, 6, 7, 8, 9, 10] from rfl]
      refine .z rfl (.fieldAddr fl221_1 rfl) ?_
      refine .z rfl (.load1 ti219 rfl (fun _ hc => hc)) ?_
      refine .gd 1 rfl ?_
      refine .z rfl (.convI (by kernel_rfl) Tryz.underlying21 rfl) ?_
      have f10 := hS18.out hb hG
      obtain ⟨Fy4, hAy4, hFy4, hky4⟩ := hS18.act (i := 0) rfl
      refine .gd 1 rfl ?_
      refine .ac rfl (.callF cl138 rfl (rdnum_c (w0 := w10) (G := G) na3 b6 2 hAy4 (fun b hb => (hFy4 b hb).2) f10 (fun b hb hx => by have := (hFy4 b hx).1.1; rcases this with h | h; exact hG b hb h; have := hGl b hb; omega) (fun b hb => Nat.lt_of_lt_of_le (hGl b hb) hS18.mod.size) q139_3 hbl q139_3) ?_)
      rintro _ w11 ⟨rfl, hm10, F4, hB4, hF4⟩
      obtain ⟨⟨nv4, na4, nq4⟩, hnx4⟩ : ∃ x, x = numR b 2 (na3, b6) := ⟨_, rfl⟩
      rw [← hnx4] at hB4
      rw [← hnx4]
      dsimp only at hB4 ⊢
      have hnr4 := numR_rng (by omega) (by omega) hnx4.symm
      have hS19 : St (fun _ => False) F w0 w11 [bkR br [v_b, .int .i64 na4, .bool nq4] 217, bkR b1 [.bool false, .slice none 0 0] 221, bkR b3 [.bool b2, vb1] 221, accR encE 233 2 vb1 es] := hky4 _ _ _ hm10 hB4 hF4
      clear hAy4 hFy4 hky4 hB4 hF4
      have hnb3 := numR_byte hnx4.symm (by omega)
      have f11 := hS19.bk (i := 2) rfl
      refine ⟨.inr (f11.cell 1 _ rfl), ?_⟩
      refine .z rfl (.build (vs := #[(0, (.int .i32 ((IntKind.i32.wrap nv3)) : Value)), (1, (.int .i64 nv4 : Value))]) (v := .agg #[.int .i32 ((IntKind.i32.wrap nv3)), .int .i64 nv4]) rfl (fun _ => by kernel_rfl)) ?_
      refine .ac rfl (.buildSlice [(.agg #[.int .i32 ((IntKind.i32.wrap nv3)), .int .i64 nv4] : Value)] Tryz.underlying219 ti233 rfl rfl rfl q139_4 fun w12 b7 hm11 hb7 hz6 hk6 => ?_)
      have hl1 := Sl.of_blk (enc := encE) hk6 ([(Ed.mk ((IntKind.i32.wrap nv3)) nv4)] : List Ed) 1 rfl rfl (by unfold maxLen; omega)
      have hS21 := (hS19.newSlB hm11 hb7 hz6 hl1).n5
      have f12 := hS21.bk (i := 2) rfl
      refine ⟨.inr (f12.cell 1 _ rfl), ?_⟩
      obtain ⟨g2, f13, hl2, k1⟩ := hS21.accK (i := 3) rfl
      have f14 := hS21.sl (i := 4) (k := 0) rfl rfl
      refine .ac rfl (.append f13 Tryz.underlying219 ti233 rfl encE_len encE_one rfl rfl (f14) ol ox fun v1 g1 w13 ha1 hm12 hg1 hz7 => ?_)
      have hS22 := (k1 _ _ _ _ hm12 ha1 hg1).n5
      have f15 := hS22.bk (i := 2) rfl
      refine ⟨.inr (f15.cell 1 _ rfl), ?_⟩
      clear hg1
      refine .z rfl (.fieldAddr fl221_1 rfl) ?_
      obtain ⟨g3, f16, hl3, k2⟩ := hS22.accK (i := 3) rfl
      obtain ⟨ad1, cp1, hv1⟩ := f16.shape
      subst hv1
      refine .ac rfl (.store ti219 rfl rfl rfl rfl rfl f15 (Nat.le_of_ble_eq_true rfl) fun w14 hm13 hz8 hk7 => ?_)
      have hS23 := (hS22.bkK (cs' := [.bool b2, (.slice ad1 ((es ++ [(Ed.mk ((IntKind.i32.wrap nv3)) nv4)])).length cp1)]) (i := 2) rfl hm13 hk7).n5
      refine ⟨.inl rfl, ?_⟩
      refine .nil ?_
      have hS24 := (hS23.b2 [0, 1, 4] 2 3 (by rfl) q139_4).n4
      have hS25 : St (fun _ => False) F w0 w14 [bkR br [v_b, .int .i64 na4, .bool nq4] 217, bkR b1 [.bool false, .slice none 0 0] 221, slR encE [((.slice (some ⟨b7, 0, none⟩) 1 1), [(Ed.mk ((IntKind.i32.wrap nv3)) nv4)])], nbR 221 233 b3 b2 ((es ++ [(Ed.mk ((IntKind.i32.wrap nv3)) nv4)]))] := hS24.exi (.slice ad1 ((es ++ [(Ed.mk ((IntKind.i32.wrap nv3)) nv4)])).length cp1) (i := 3) rfl
      refine .go 2 rfl ?_
      refine .z (.addI (((k + 1 : Nat) : Int)) rfl rfl q139_3) ?_
      have hS26 := (hS25.sel [0, 1, 3] (by rfl) q139_4).n3
      refine .gi 2 rfl ?_
      exact (ih1 _ _ _ ⟨(na4 : Int), (nq4 : Bool), (k + 1 : Nat), ((es ++ [(Ed.mk ((IntKind.i32.wrap nv3)) nv4)]) : List Ed), rfl, rfl, hS26, q139_2, q139_5, q139_5, (by first | (simp only [List.length_append, List.length_cons, List.length_nil]; omega) | (exfalso; omega))⟩ q139_3).sub ⟨rfl, rfl, rfl, rfl, rfl, trivial⟩
    replace hb5 := df hb5
    obtain ⟨vb1, hS14⟩ := hS13.exo (i := 2) rfl
    change St (fun _ => False) F w0 w7 [bkR br [v_b, .int .i64 ak, .bool qk] 217, bkR b1 [.bool false, .slice none 0 0] 221, boxR [bkR b3 [.bool b2, vb1] 221, accR encE 233 2 vb1 es]] at hS14
    have hS15 := (hS14.un 2 rfl [0, 1] (by rfl) q139_4).n4
    obtain ⟨g1, f5, hl1, k1⟩ := hS15.accK (i := 3) rfl
    obtain ⟨ad1, cp1, hv1⟩ := f5.shape
    refine .go 4 rfl ?_
    subst hv1
    have f6 := hS15.bk (i := 2) rfl
    refine .z (.loadN ti221 rfl (fun _ e => e ▸ f6.row) rfl) ?_
    have f7 := hS15.bk (i := 1) rfl
    refine .ac (.store ti221 rfl rfl rfl rfl rfl f7 (Nat.le_of_ble_eq_true rfl) fun w8 hm7 hz5 hk5 => ?_)
    have hS16 := (hS15.bkK (cs' := [.bool b2, (.slice ad1 es.length cp1)]) (i := 1) rfl hm7 hk5).n4
    have f8 := hS16.bk (i := 1) rfl
    refine .gi 1 rfl ?_
    refine r_retC1 Tryz.func139 rfl rfl ti221 f8.row rfl ?_
    have hS17 := (hS16.b2 [1, 2] 0 3 (by rfl) q139_4).n3
    have hS18 := (hS17.sel [2] (by rfl) (by decide)).n1
    obtain ⟨hmF, F2r, hAr, hFr⟩ := hS18.fin
    have hed : edgesR b nv2.toNat (na2, nq2) = (es, (ak, qk)) := by first | exact hE.bad | exact hE.fin q139_3
    have hnd : nodeR b (a, q) = ((b2, es), (ak, qk)) := by first | exact node_eq hnx1 q139_1 hnx2 hed (by assumption)
    exact Ret.mk ⟨_, _, by rw [hnd], hmF, F2r, by rw [hnd]; exact hAr, hFr⟩
theorem q95_1 {p : Prop} (h : p := by intro h; rcases h with h | h; omega; first | exact h (by assumption) | exact absurd (by assumption) h) : p := h
theorem q95_2 {p : Prop} (h : p := by omega) : p := h
theorem q95_3 {p : Prop} (h : p := by first | exact hE.bad | exact hE.fin (by omega)) : p := h
theorem q95_4 {p : Prop} (h : p := by first | exact .inl rfl | exact .inr (by first | assumption | omega)) : p := h
theorem q95_5 {p : Prop} (h : p := by assumption) : p := h
set_option maxRecDepth 20000 in
set_option maxHeartbeats 4000000 in
theorem decode_c {w0 : World}  {v_b : Value} {b : List UInt8} (h_b : Sl encB w0 (Iv 0 w0.heap.size) v_b b) (hbl : b.length ≤ 4000000) :
    Calls Tryz.prog 95 #[v_b] w0 (Ret fun rv w1 => ∃ u0 u1, rv = .tuple #[u0, u1] ∧ (∃ lo hi, Gr 0 w1 lo hi u0 ((decG b).1) ∧ w0.heap.size ≤ lo ∧ hi ≤ w1.heap.size) ∧ u1 = .int .i64 ((decG b).2) ∧ Ext w0 w1) := by
  have hle_b := h_b.le
  have hS0 := St.start0 w0
  refine calls_enter Tryz.func95 rfl Tryz.ntmps95 rfl ?_
  refine .go 8 rfl ?_
  refine .z (.lenSl Tryz.underlying120 (h_b) rfl) ?_
  refine .z (.subI ((((b.length : Nat) : Int) - 4)) rfl rfl q95_2) ?_
  refine .go 6 rfl ?_
  refine .zb (.lt rfl rfl) fun b1 hb1 => ?_
  refine .gi 1 rfl ?_
  cases b1
  case true =>
    replace hb1 := dt hb1
    refine .gi 6 rfl ?_
    refine r_ret2 Tryz.func95 rfl rfl rfl ?_
    have hw : decG b = ([], 9) := by first | exact decG_short q95_2 | exact decG_sum q95_2 ao
    exact Ret.mk ⟨_, _, rfl, ⟨w0.heap.size, w0.heap.size, .inl ⟨rfl, by rw [hw]⟩, Nat.le_refl _, hS0.mod.size⟩, by rw [hw], hS0.mod⟩
  replace hb1 := df hb1
  refine .go 7 rfl ?_
  refine .ac (.callF cl136 rfl (num4_c (w0 := w0) (b := b) ((((b.length : Nat) : Int) - 4)) (4) h_b oa (by first | assumption | omega | (simp only [List.length_append, putN_len, List.length_cons, List.length_nil]; omega)) (by first | omega | decide)) ?_)
  rintro _ w1 ⟨_, _, rfl, rfl, ⟨b2, hb2, rfl⟩, hm1⟩
  have hS1 := hS0.ext hm1
  have := numV_rng b ((((b.length : Nat) : Int) - 4)) 4
  have hnl4 := numV_lt (b := b) (a := ((b.length : Int) - 4)) (size := 4) q95_2
  refine .go 9 rfl ?_
  refine .z (.convN (by kernel_rfl) Tryz.underlying213 rfl (IntWalk.u32_in _ q95_2)) ?_
  obtain ⟨v1, hr1, hl1⟩ := Sl.part (P := Tryz.prog) h_b Tryz.underlying120 ti5 encB_len (0) ((b.length - 4)) (.inl ⟨rfl, rfl⟩) (.inr ⟨.i64, (((b.length : Nat) : Int) - 4), rfl, by omega⟩) q95_2 ao
  replace hl1 : Sl encB w0 (Iv 0 w0.heap.size) v1 (b.take ((b.length - 4))) := by simpa using hl1
  refine .go 2 rfl ?_
  refine .z (.sliceV rfl rfl rfl rfl hr1) ?_
  have f1 := hS1.out hl1 (fun _ _ h => h)
  refine .ac (.callF cl137 rfl (sumof_c (w0 := w1) (b := (b.take ((b.length - 4))))  (f1.iv (Nat.zero_le _) hS1.mod.size) (by (simp only [List.length_take]; omega))) ?_)
  rintro _ w2 ⟨rfl, hm2⟩
  have hS2 := hS1.ext hm2
  have := sumF_lt 0 ((b.take ((b.length - 4))))
  change sumN ((b.take ((b.length - 4)))) < _ at this
  refine .zb (.ne rfl rfl) fun b3 hb3 => ?_
  refine .gi 1 rfl ?_
  cases b3
  case true =>
    replace hb3 := bne_iff_ne.1 hb3.symm
    refine .gi 6 rfl ?_
    refine r_ret2 Tryz.func95 rfl rfl rfl ?_
    have hw : decG b = ([], 9) := by first | exact decG_short q95_2 | exact decG_sum q95_2 ao
    exact Ret.mk ⟨_, _, rfl, ⟨w0.heap.size, w0.heap.size, .inl ⟨rfl, by rw [hw]⟩, Nat.le_refl _, hS2.mod.size⟩, by rw [hw], hS2.mod⟩
  replace hb3 := bne_eq_false_iff_eq.1 hb3.symm
  refine .go 6 rfl ?_
  refine .zb (.lt rfl rfl) fun b4 hb4 => ?_
  refine .go 1 rfl ?_
  cases b4
  case true =>
    replace hb4 := dt hb4
    refine .gi 12 rfl ?_
    refine r_ret2 Tryz.func95 rfl rfl rfl ?_
    have hw := decG_head (b := b) oa ao (by first | exact .inl q95_2 | exact .inr q95_5)
    exact Ret.mk ⟨_, _, rfl, ⟨w0.heap.size, w0.heap.size, .inl ⟨rfl, by rw [hw]⟩, Nat.le_refl _, hS2.mod.size⟩, by rw [hw], hS2.mod⟩
  replace hb4 := df hb4
  obtain ⟨v2, hr2, hl2⟩ := Sl.part (P := Tryz.prog) h_b Tryz.underlying120 ti5 encB_len (0) (4) (.inl ⟨rfl, rfl⟩) (.inr ⟨.i64, 4, rfl, by omega⟩) q95_2 ao
  replace hl2 : Sl encB w0 (Iv 0 w0.heap.size) v2 (b.take 4) := by simpa using hl2
  refine .go 1 rfl ?_
  refine .z (.sliceV rfl rfl rfl rfl hr2) ?_
  have f2 := hS2.out hl2 (fun _ _ h => h)
  refine .ac (.bytesStr Tryz.underlying120 Tryz.underlying5 Tryz.underlying9 rfl (f2) ?_)
  refine .zb (.neS rfl rfl) fun b5 hb5 => ?_
  refine .gi 2 rfl ?_
  cases b5
  case true =>
    replace hb5 := nbeq_t hb5
    refine .gi 6 rfl ?_
    refine r_ret2 Tryz.func95 rfl rfl rfl ?_
    have hw := decG_head (b := b) oa ao (by first | exact .inl q95_2 | exact .inr q95_5)
    exact Ret.mk ⟨_, _, rfl, ⟨w0.heap.size, w0.heap.size, .inl ⟨rfl, by rw [hw]⟩, Nat.le_refl _, hS2.mod.size⟩, by rw [hw], hS2.mod⟩
  replace hb5 := nbeq_f hb5
  obtain ⟨v3, hr3, hl3⟩ := Sl.part (P := Tryz.prog) h_b Tryz.underlying120 ti5 encB_len (0) ((b.length - 4)) (.inl ⟨rfl, rfl⟩) (.inr ⟨.i64, (((b.length : Nat) : Int) - 4), rfl, by omega⟩) q95_2 ao
  replace hl3 : Sl encB w0 (Iv 0 w0.heap.size) v3 (b.take ((b.length - 4))) := by simpa using hl3
  refine .go 6 rfl ?_
  refine .z (.sliceV rfl rfl rfl rfl hr3) ?_
  have f3 := hS2.out hl3 (fun _ _ h => h)
  obtain ⟨ad1, cp1, hv1⟩ := f3.shape
  subst hv1
  refine .z (.build (vs := #[(0, (.slice ad1 ((b.take ((b.length - 4)))).length cp1)), (1, (.int .i64 4 : Value))]) (v := .agg #[(.slice ad1 ((b.take ((b.length - 4)))).length cp1), .int .i64 4, .bool false]) rfl (fun _ => by kernel_rfl)) ?_
  refine .ac (.box [(.slice ad1 ((b.take ((b.length - 4)))).length cp1), .int .i64 4, .bool false] rfl rfl fun w3 b6 hm3 hb6 hz1 hk1 => ?_)
  have hS4 := (hS2.newBk hm3 hb6 hk1).n1
  have hS5 : St (fun _ => False) (fun _ => False) w0 w3 [bkR b6 [(.slice ad1 ((b.take ((b.length - 4)))).length cp1), .int .i64 4, .bool false] 217, relR ([] : List RNode) []] := hS4.new (Mod.refl _ _) (F := fun _ => False) (All2.nil) (fun _ h => h.elim)
  have f4 := hS5.out hl3 (fun _ _ h => h)
  obtain ⟨Fy1, hAy1, hFy1, hky1⟩ := hS5.act (i := 0) rfl
  refine .go 10 rfl ?_
  refine .ac (.callF cl138 rfl (rdnum_c (w0 := w3) (G := Iv 0 w0.heap.size) 4 false 2 hAy1 (fun b hb => (hFy1 b hb).2) f4 (fun b hb hx => by have := (hFy1 b hx).1.1; rcases this with h | h; exact h; unfold Iv at hb; omega) (fun b hb => Nat.lt_of_lt_of_le hb.2 hS5.mod.size) (by first | omega | assumption | (simp only [List.length_take]; omega)) (by first | omega | (simp only [List.length_take]; omega)) q95_2) ?_)
  rintro _ w4 ⟨rfl, hm4, F1, hB1, hF1⟩
  obtain ⟨⟨nv1, na1, nq1⟩, hnx1⟩ : ∃ x, x = numR ((b.take ((b.length - 4)))) 2 (4, false) := ⟨_, rfl⟩
  rw [← hnx1] at hB1
  rw [← hnx1]
  dsimp only at hB1 ⊢
  have hnr1 := numR_rng q95_2 (by first | omega | (simp only [List.length_take]; omega)) hnx1.symm
  have hnr1b := numR_byte hnx1.symm (by omega)
  have hS6 : St (fun _ => False) (fun _ => False) w0 w4 [bkR b6 [(.slice ad1 ((b.take ((b.length - 4)))).length cp1), .int .i64 na1, .bool nq1] 217, relR ([] : List RNode) []] := hky1 _ _ _ hm4 hB1 hF1
  clear hAy1 hFy1 hky1 hB1
  have hS8 : St (fun _ => False) (fun _ => False) w0 w4 [bkR b6 [(.slice ad1 ((b.take ((b.length - 4)))).length cp1), .int .i64 na1, .bool nq1] 217, relR ([] : List RNode) [], accR encN 221 2 (.slice none 0 0) []] := hS6.newAcc (Mod.refl _ _) Acc.nil (.inl rfl)
  have hS9 := (hS8.sel [0, 2, 1] (by rfl) (by decide)).n3
  refine .gi 3 rfl ?_
  refine r_loop (I := fun m E W => ∃ (ak : Int) (qk : Bool) (v_nds : Value) (nds : List RNode) (k : Nat) (N : List GN), E = [(4, .int .i64 ((((b.length : Nat) : Int) - 4))), (7, ptr b6 0), (8, v_nds), (42, .int .i64 nv1), (43, .int .i64 (((k : Nat) : Int)))] ∧ m = nv1.toNat - k ∧ St (fun _ => False) (fun _ => False) w0 W [bkR b6 [(.slice ad1 ((b.take ((b.length - 4)))).length cp1), .int .i64 ak, .bool qk] 217, accR encN 221 2 v_nds nds, relR nds N] ∧ (NdsR (b.take (b.length - 4)) nv1.toNat (na1, nq1) k N (ak, qk)) ∧ (0 ≤ ak ∧ ak ≤ (b.take (b.length - 4)).length) ∧ ((k : Int) ≤ nv1) ∧ (N.length ≤ k) ∧ (∀ x ∈ N, x.2.length ≤ 1000000) ∧ (nds.length ≤ k)) ?_ ?_
  · refine ⟨_, _, ⟨(na1 : Int), (nq1 : Bool), (.slice none 0 0 : Value), ([] : List RNode), (0 : Nat), ([] : List GN), rfl, rfl, hS9, (by exact NdsR.start _ _ _), q95_2, q95_2, (by simp), (by (intro x hx; cases hx)), (by simp)⟩, ⟨rfl, rfl, rfl, rfl, rfl, trivial⟩⟩
  · rintro _ _ w5 ⟨ak, qk, v_nds, nds, k, N, rfl, rfl, hS7, hE, hak, hkl, hNl, hel, hdl⟩ ih1
    have hnvb := hnr1b
    refine .go 2 rfl ?_
    refine .zb (.lt rfl rfl) fun b7 hb7 => ?_
    refine .gi 2 rfl ?_
    cases b7
    case true =>
      replace hb7 := dt hb7
      refine .go 9 rfl ?_
      refine .z (.fieldAddr fl217_2 rfl) ?_
      have f5 := hS7.bk (i := 0) rfl
      refine .z (.l1 ti4 f5) ?_
      refine .gi 1 rfl ?_
      cases qk
      case true =>
        refine .go 7 rfl ?_
        refine .z (.fieldAddr fl217_2 rfl) ?_
        refine .z (.l1 ti4 f5) ?_
        refine .gi 15 rfl ?_
        refine r_ret2 Tryz.func95 rfl rfl rfl ?_
        have hw := decG_form (b := b) oa ao q95_1 hnx1 q95_3 q95_4
        exact Ret.mk ⟨_, _, rfl, ⟨w0.heap.size, w0.heap.size, .inl ⟨rfl, by rw [hw]⟩, Nat.le_refl _, hS7.mod.size⟩, by rw [hw], hS7.mod⟩
      have f6 := hS7.out hl3 (fun _ _ h => h)
      obtain ⟨Fy2, hAy2, hFy2, hky2⟩ := hS7.act (i := 0) rfl
      refine .go 5 rfl ?_
      refine .ac (.callF cl139 rfl (rdnode_c (w0 := w5) (G := Iv 0 w0.heap.size) ak false hAy2 (fun b hb => (hFy2 b hb).2) f6 (fun b hb hx => by have := (hFy2 b hx).1.1; rcases this with h | h; exact h; unfold Iv at hb; omega) (fun b hb => Nat.lt_of_lt_of_le hb.2 hS7.mod.size) (by first | omega | assumption | (simp only [List.length_take]; omega)) (by first | omega | (simp only [List.length_take]; omega))) ?_)
      rintro _ w6 ⟨ad2, cp2, rfl, hm5, F2, hB2, hF2⟩
      have hel1 := nodeR_len ((b.take ((b.length - 4)))) (ak, false)
      obtain ⟨⟨⟨nf1, es1⟩, ⟨na2, nq2⟩⟩, hnd1⟩ : ∃ x, x = nodeR ((b.take ((b.length - 4)))) (ak, false) := ⟨_, rfl⟩
      rw [← hnd1] at hB2 hel1
      rw [← hnd1]
      dsimp only at hB2 hel1 ⊢
      have hna := nodeR_at (by first | omega | (simp only [List.length_take]; omega)) hnd1
      have hS10 : St (fun _ => False) (fun _ => False) w0 w6 [boxR [bkR b6 [(.slice ad1 ((b.take ((b.length - 4)))).length cp1), .int .i64 na2, .bool nq2] 217, accR encE 233 2 (.slice ad2 es1.length cp2) es1], accR encN 221 2 v_nds nds, relR nds N] := hky2 _ _ _ hm5 hB2 hF2
      clear hAy2 hFy2 hky2 hB2
      have hS11 := (hS10.un 0 rfl [1, 2] (by rfl) (by decide)).n4
      refine .ac (.buildSlice [(.agg #[.bool nf1, (.slice ad2 es1.length cp2)] : Value)] Tryz.underlying218 ti221 rfl rfl rfl (by decide) fun w7 b8 hm6 hb8 hz2 hk2 => ?_)
      have hl4 := Sl.of_blk (enc := encN) hk2 ([(RNode.mk nf1 (SH.mk ad2 es1.length cp2))] : List RNode) 1 rfl rfl (by unfold maxLen; omega)
      have hS13 := (hS11.newSlB hm6 hb8 hz2 hl4).n5
      obtain ⟨g2, f7, hl5, k1⟩ := hS13.accK (i := 0) rfl
      have f8 := hS13.sl (i := 4) (k := 0) rfl rfl
      refine .ac (.append f7 Tryz.underlying218 ti221 rfl encN_len encN_one rfl rfl (f8) ol ox fun v4 g1 w8 ha1 hm7 hg1 hz3 => ?_)
      have hS14 := (k1 _ _ _ _ hm7 ha1 hg1).n5
      clear hg1
      have hS15 := (hS14.b2 [0, 2, 4] 1 3 (by rfl) (by decide)).n4
      have hS16 := (hS15.ty (relR (nds ++ [RNode.mk nf1 (SH.mk ad2 es1.length cp2)]) (N ++ [(nf1, es1)])) 3 rfl (fun F_ h_ => rel_push rfl rfl rfl h_)).n4
      refine .go 4 rfl ?_
      refine .z (.addI (((k + 1 : Nat) : Int)) rfl rfl q95_2) ?_
      have hS17 := (hS16.sel [1, 0, 3] (by rfl) (by decide)).n3
      refine .gi 2 rfl ?_
      exact (ih1 _ _ _ ⟨(na2 : Int), (nq2 : Bool), (v4 : Value), ((nds ++ [(RNode.mk nf1 (SH.mk ad2 es1.length cp2))]) : List RNode), (k + 1 : Nat), ((N ++ [(nf1, es1)]) : List GN), rfl, rfl, hS17, (by first | exact hE.step q95_2 hnd1 | (exfalso; omega)), (by first | assumption | (exfalso; omega)), (by first | omega | (exfalso; omega)), (by first | (simp only [List.length_append, List.length_cons, List.length_nil]; omega) | (exfalso; omega)), (by first | (intro x hx; rcases List.mem_append.1 hx with h | h; exact hel x h; simp only [List.mem_singleton] at h; subst h; exact Nat.le_trans hel1 q95_2) | (exfalso; omega)), (by first | (simp only [List.length_append, List.length_cons, List.length_nil]; omega) | (exfalso; omega))⟩ q95_2).sub ⟨rfl, rfl, rfl, rfl, rfl, trivial⟩
    replace hb7 := df hb7
    refine .go 7 rfl ?_
    refine .z (.fieldAddr fl217_2 rfl) ?_
    have f5 := hS7.bk (i := 0) rfl
    refine .z (.l1 ti4 f5) ?_
    refine .go 1 rfl ?_
    cases qk
    case true =>
      refine .gi 14 rfl ?_
      refine r_ret2 Tryz.func95 rfl rfl rfl ?_
      have hw := decG_form (b := b) oa ao q95_1 hnx1 q95_3 q95_4
      exact Ret.mk ⟨_, _, rfl, ⟨w0.heap.size, w0.heap.size, .inl ⟨rfl, by rw [hw]⟩, Nat.le_refl _, hS7.mod.size⟩, by rw [hw], hS7.mod⟩
    refine .go 2 rfl ?_
    refine .z (.fieldAddr fl217_1 rfl) ?_
    refine .z (.l1 ti3 f5) ?_
    refine .go 1 rfl ?_
    refine .zb (.ne rfl rfl) fun b8 hb8 => ?_
    refine .gi 2 rfl ?_
    cases b8
    case true =>
      replace hb8 := bne_iff_ne.1 hb8.symm
      refine .gi 6 rfl ?_
      refine r_ret2 Tryz.func95 rfl rfl rfl ?_
      have hw := decG_form (b := b) oa ao q95_1 hnx1 q95_3 q95_4
      exact Ret.mk ⟨_, _, rfl, ⟨w0.heap.size, w0.heap.size, .inl ⟨rfl, by rw [hw]⟩, Nat.le_refl _, hS7.mod.size⟩, by rw [hw], hS7.mod⟩
    replace hb8 := bne_eq_false_iff_eq.1 hb8.symm
    obtain ⟨Frl1, hrl1, hlt1⟩ := hS7.get (i := 2) rfl
    obtain ⟨gq1, haq1, hlq1, _⟩ := hS7.accK (i := 1) rfl
    refine .go 5 rfl ?_
    refine .ac (.callF cl140 rfl (made_c (w0 := w5) (G := fun b => b < w5.heap.size) (N := N) (haq1.sl.mono fun b h => Nat.lt_of_lt_of_le h.2 hlq1) (NRel.mono hrl1 hlt1) (fun _ h => h) q95_2 hel) ?_)
    rintro vg1 w6 ⟨⟨lo1, hi1, hgr1, hlo1, hhi1⟩, hm5⟩
    have hS11 : St (fun _ => False) (fun _ => False) w0 w6 [bkR b6 [(.slice ad1 ((b.take ((b.length - 4)))).length cp1), .int .i64 ak, .bool false] 217, accR encN 221 2 v_nds nds, relR nds N, grR vg1 (madeG N)] := hS7.newGr hm5 hgr1 hlo1 hhi1
    obtain ⟨lo2, hi2, hgr2, hhi2⟩ := hS11.grAt (i := 3) rfl
    refine .go 6 rfl ?_
    rcases hgr2 with ⟨hv2, hN1⟩ | ⟨b9, _, _, hv2, hN1, _⟩
    · subst hv2
      refine .z (.eqNil Tryz.underlying99 rfl rfl) ?_
      refine .gi 7 rfl ?_
      refine r_ret2 Tryz.func95 rfl rfl rfl ?_
      have hw := decG_none (b := b) oa ao q95_1 hnx1 q95_3 (by intro h; rcases h with h | h; exact absurd h (by decide); omega) hN1
      exact Ret.mk ⟨_, _, rfl, ⟨w0.heap.size, w0.heap.size, .inl ⟨rfl, by rw [hw]⟩, Nat.le_refl _, hS11.mod.size⟩, by rw [hw], hS11.mod⟩
    · subst hv2
      refine .z (.eqNil Tryz.underlying99 rfl rfl) ?_
      refine .gi 9 rfl ?_
      refine r_ret2 Tryz.func95 rfl rfl rfl ?_
      have hw := decG_yes (b := b) oa ao q95_1 hnx1 q95_3 (by intro h; rcases h with h | h; exact absurd h (by decide); omega) hN1
      obtain ⟨lo3, hi3, hgr3, hlo2, hhi3⟩ := hS11.grOut (i := 3) rfl hN1
      exact Ret.mk ⟨_, _, rfl, ⟨lo3, hi3, by rw [hw]; exact hgr3, hlo2, hhi3⟩, by rw [hw], hS11.mod⟩
end Go.Proofs
namespace Go.Proofs
open Go.Ik Go.Ml
theorem keyPl : KeyG Tryz.prog 172 plV := ⟨fun e a w => by kernel_rfl, fun a => by simp [plV, Instr.sameBits], ⟨_, Tryz.underlying172, fun a b => rfl⟩, fun a b w => (eqS172 a b w)⟩
set_option maxRecDepth 20000 in
set_option maxHeartbeats 4000000 in
theorem qlen_c {w0 : World} {F : Nat → Prop} {qb : Nat} {q : List AskM} (hA : (qR (R := fun _ => False) 176 172 qb q).p F w0) (hF : ∀ b, F b → b < w0.heap.size) :
    Calls Tryz.prog 96 #[ptr qb 0] w0 (Ret fun rv w1 => rv = .int .i64 (q.length : Int) ∧ Ext w0 w1) := by
  obtain ⟨⟨ov, mb, m⟩, hq, Fs, hp1, hp2, hp3⟩ := hA
  have hb0 := (hp1 0 _ rfl).1
  obtain ⟨g0, ho0, hg0⟩ := hp1 1 _ rfl
  have hm0 := (hp1 2 _ rfl).1
  have hs0 := ho0.sl.iv (Nat.zero_le _) ho0.lt
  have hS0 := St.start0 w0
  have hle := hs0.le
  have hql : (q.map AskM.pl).length = q.length := List.length_map ..
  change Bk w0 qb [ov, .map (some mb)] 176 at hb0
  change Sl encPl w0 (Iv 0 w0.heap.size) ov (q.map AskM.pl) at hs0
  change MapS plV askV w0 mb m at hm0
  change QOk m q at hq
  refine calls_enter Tryz.func96 rfl Tryz.ntmps96 rfl ?_
  refine .go 8 rfl ?_
  refine .z (.eqNil Tryz.underlying93 rfl rfl) ?_
  refine .go 7 rfl ?_
  refine .z (.fieldAddr fl176_0 rfl) ?_
  have hr1 := hb0.row.sub 0 1 (Nat.le_of_ble_eq_true rfl)
  refine .z (.lr ti173 hr1) ?_
  refine .z (.lenSl Tryz.underlying173 (hs0) rfl) ?_
  refine .gi 2 rfl ?_
  refine r_ret1 Tryz.func96 rfl rfl ?_
  exact Ret.mk ⟨(congrArg (Value.int .i64) (by omega)), hS0.mod⟩
set_option maxRecDepth 20000 in
set_option maxHeartbeats 4000000 in
theorem qnew_c {w0 : World} :
    Calls Tryz.prog 93 #[] w0 (Ret fun rv w1 => ∃ qb F2, rv = ptr qb 0 ∧ Ext w0 w1 ∧ (qR (R := fun _ => False) 176 172 qb []).p F2 w1 ∧ ∀ b, F2 b → b < w1.heap.size ∧ w0.heap.size ≤ b) := by
  have hS0 := St.start0 w0
  refine calls_enter Tryz.func93 rfl Tryz.ntmps93 rfl ?_
  refine .go 6 rfl ?_
  refine .ac (.makeMapS (key := plV) (val := askV) fun w1 b1 hm1 hb1 hz1 hk1 => ?_)
  have hS2 := (hS0.newMp hm1 hb1 hk1).n1
  refine .z (.build (vs := #[(1, (.map (some b1) : Value))]) (v := .agg #[.slice none 0 0, .map (some b1)]) rfl (fun _ => by kernel_rfl)) ?_
  refine .ac (.box [.slice none 0 0, .map (some b1)] rfl rfl fun w2 b2 hm2 hb2 hz2 hk2 => ?_)
  have hS4 := (hS2.newBk hm2 hb2 hk2).n2
  refine .gi 2 rfl ?_
  refine r_ret1 Tryz.func93 rfl rfl ?_
  have hS5 : St (fun _ => False) (fun _ => False) w0 w2 [mpR plV askV b1 [], bkR b2 [.slice none 0 0, .map (some b1)] 176, accOR encPl 172 2 (.slice none 0 0) (([] : List (Int × Int)))] := hS4.new (Mod.refl _ _) (F := fun _ => False) ⟨0, AccO.nil, fun b hb => (by omega)⟩ (fun _ h => h.elim)
  have hS6 := (hS5.b3 [] 1 2 0 (by rfl) (by decide)).n1
  have hS7 := (hS6.qI 0 rfl (q := []) QOk.nil).n1
  obtain ⟨hmF, F2r, hAr, hFr⟩ := hS7.fin
  exact Ret.mk ⟨_, F2r, rfl, hmF, hAr, fun b hb => ⟨(hFr b hb).1, (hFr b hb).2.resolve_left id⟩⟩
theorem q47_1 {p : Prop} (h : p := by rw [hpu.2]; exact hq1) : p := h
set_option maxRecDepth 20000 in
set_option maxHeartbeats 8000000 in
theorem qpush_c {w0 : World} {F : Nat → Prop} {qb : Nat} {q : List AskM} {a : AskM} (hA : (qR (R := fun _ => False) 176 172 qb q).p F w0) (hF : ∀ b, F b → b < w0.heap.size) (hok : a.Ok) (hql0 : q.length ≤ 100000) :
    Calls Tryz.prog 47 #[ptr qb 0, .agg #[.int .i64 a.slot, .int .i64 a.query, .int .i64 a.shard, .int .i64 a.seq, .int .i64 a.epoch, strV a.text, .int .i64 a.k, .int .i64 a.batch, .bool a.first, .int .i64 a.after.dist, strV a.after.word]] w0 (Ret fun rv w1 => rv = .bool (pushB q a) ∧ Mod F w0 w1 ∧ ∃ F2, (qR (R := fun _ => False) 176 172 qb ((pushQ q a))).p F2 w1 ∧ ∀ b, F2 b → b < w1.heap.size ∧ (F b ∨ w0.heap.size ≤ b)) := by
  have hok1 := hok.slot
  have hok2 := hok.query
  have hok3 := hok.shard
  have hok4 := hok.seq
  have hok5 := hok.epoch
  have hok6 := hok.k
  have hok7 := hok.batch
  have hok8 := hok.dist
  have hS00 := St.start1 (R := fun _ => False) hA (fun b hb => ⟨hF b hb, id⟩) (fun _ h => h.elim)
  have hS1 : St (fun _ => False) F w0 w0 [qR 176 172 qb q] := hS00
  obtain ⟨⟨ov1, mb1, mm1⟩, hS2⟩ := hS1.exo (i := 0) rfl
  obtain ⟨hq1, hS3⟩ := hS2.and (i := 0) rfl
  change St (fun _ => False) F w0 w0 [boxR [bkR qb [ov1, .map (some mb1)] 176, accOR encPl 172 2 ov1 (q.map AskM.pl), mpR plV askV mb1 mm1]] at hS3
  change QOk mm1 q at hq1
  have hS4 := (hS3.un 0 rfl [] (by rfl) (by decide)).n3
  have hle1 := (hS4.accOsl (i := 1) rfl).le
  have hql : (q.map AskM.pl).length = q.length := List.length_map ..
  refine calls_enter Tryz.func47 rfl Tryz.ntmps47 rfl ?_
  refine .go 2 rfl ?_
  refine .ac (.box (encAsk a) rfl rfl fun w1 b1 hm1 hb1 hz1 hk1 => ?_)
  have hS6 := (hS4.newBk hm1 hb1 hk1).n4
  refine .go 6 rfl ?_
  refine .z (.eqNil Tryz.underlying93 rfl rfl) ?_
  refine .go 1 rfl ?_
  refine .z (.fieldAddr fl35_0 rfl) ?_
  have f1 := hS6.bk (i := 3) rfl
  refine .z (.l1 ti3 f1) ?_
  refine .zb (.lt rfl rfl) fun b2 hb2 => ?_
  refine .go 2 rfl ?_
  cases b2
  case true =>
    replace hb2 := dt hb2
    refine .gi 20 rfl ?_
    refine r_ret1 Tryz.func47 rfl rfl ?_
    have hpu := push_out (q := q) (a := a) (by omega)
    have hS7 := (hS6.ty (accOR encPl 172 2 ov1 (((pushQ q a).map AskM.pl))) 1 rfl (fun F_ h_ => (by rw [hpu.2]; exact h_))).n4
    have hS8 := (hS7.b3 [3] 0 1 2 (by rfl) (by decide)).n2
    have hS9 := (hS8.qI 1 rfl (q := (pushQ q a)) q47_1).n2
    exact hS9.rt 1 rfl (congrArg Value.bool hpu.1.symm)
  replace hb2 := df hb2
  refine .z (.fieldAddr fl35_0 rfl) ?_
  refine .z (.l1 ti3 f1) ?_
  refine .zb (.ge rfl rfl) fun b3 hb3 => ?_
  refine .go 2 rfl ?_
  cases b3
  case true =>
    replace hb3 := dt hb3
    refine .gi 15 rfl ?_
    refine r_ret1 Tryz.func47 rfl rfl ?_
    have hpu := push_out (q := q) (a := a) (by omega)
    have hS7 := (hS6.ty (accOR encPl 172 2 ov1 (((pushQ q a).map AskM.pl))) 1 rfl (fun F_ h_ => (by rw [hpu.2]; exact h_))).n4
    have hS8 := (hS7.b3 [3] 0 1 2 (by rfl) (by decide)).n2
    have hS9 := (hS8.qI 1 rfl (q := (pushQ q a)) q47_1).n2
    exact hS9.rt 1 rfl (congrArg Value.bool hpu.1.symm)
  replace hb3 := df hb3
  refine .z (.fieldAddr fl35_2 rfl) ?_
  refine .z (.l1 ti3 f1) ?_
  refine .zb (.lt rfl rfl) fun b4 hb4 => ?_
  refine .go 2 rfl ?_
  cases b4
  case true =>
    replace hb4 := dt hb4
    refine .gi 10 rfl ?_
    refine r_ret1 Tryz.func47 rfl rfl ?_
    have hpu := push_out (q := q) (a := a) (by omega)
    have hS7 := (hS6.ty (accOR encPl 172 2 ov1 (((pushQ q a).map AskM.pl))) 1 rfl (fun F_ h_ => (by rw [hpu.2]; exact h_))).n4
    have hS8 := (hS7.b3 [3] 0 1 2 (by rfl) (by decide)).n2
    have hS9 := (hS8.qI 1 rfl (q := (pushQ q a)) q47_1).n2
    exact hS9.rt 1 rfl (congrArg Value.bool hpu.1.symm)
  replace hb4 := df hb4
  refine .z (.fieldAddr fl35_2 rfl) ?_
  refine .z (.l1 ti3 f1) ?_
  refine .zb (.ge rfl rfl) fun b5 hb5 => ?_
  refine .gi 2 rfl ?_
  cases b5
  case true =>
    replace hb5 := dt hb5
    refine .gi 5 rfl ?_
    refine r_ret1 Tryz.func47 rfl rfl ?_
    have hpu := push_out (q := q) (a := a) (by omega)
    have hS7 := (hS6.ty (accOR encPl 172 2 ov1 (((pushQ q a).map AskM.pl))) 1 rfl (fun F_ h_ => (by rw [hpu.2]; exact h_))).n4
    have hS8 := (hS7.b3 [3] 0 1 2 (by rfl) (by decide)).n2
    have hS9 := (hS8.qI 1 rfl (q := (pushQ q a)) q47_1).n2
    exact hS9.rt 1 rfl (congrArg Value.bool hpu.1.symm)
  replace hb5 := df hb5
  refine .go 4 rfl ?_
  refine .z (.fieldAddr fl35_0 rfl) ?_
  refine .z (.l1 ti3 f1) ?_
  refine .z (.fieldAddr fl35_2 rfl) ?_
  refine .z (.l1 ti3 f1) ?_
  refine .z (.build (vs := #[(0, (.int .i64 a.slot : Value)), (1, (.int .i64 a.shard : Value))]) (v := .agg #[.int .i64 a.slot, .int .i64 a.shard]) rfl (fun _ => by kernel_rfl)) ?_
  refine .ac (.alloc ti172 fun w2 b6 hm2 hb6 hz2 hk2 => ?_)
  have hS8 := (hS6.newBk hm2 hb6 hk2).n5
  have f2 := hS8.bk (i := 4) rfl
  refine .ac (.store ti172 rfl rfl rfl rfl rfl f2 (Nat.le_of_ble_eq_true rfl) fun w3 hm3 hz3 hk3 => ?_)
  have hS9 := (hS8.bkK (cs' := [.int .i64 a.slot, .int .i64 a.shard]) (i := 4) rfl hm3 hk3).n5
  refine .gi 2 rfl ?_
  refine r_draw1 (fun i => Nat.beq i 9 || Nat.beq i 10) 12 (fun w' => Bk w' qb [ov1, .map (some mb1)] 176 ∧ Bk w' b6 [.int .i64 a.slot, .int .i64 a.shard] 172 ∧ MapS plV askV w' mb1 mm1) mixed (by kernel_rfl) fun w4 hm4 => ?_
  have hS10 := hS9.ext hm4
  have f3 := hS10.bk (i := 0) rfl
  have f4 := hS10.bk (i := 4) rfl
  have f5 := hS10.mp (i := 2) rfl
  refine ⟨⟨f3, f4, f5⟩, ?_⟩
  rw [show List.range' 0 (Array.size _) = [0, 1, 2, 3, 4, 5, 6, 7, 8, 9, 10, 11] from rfl]
  refine .gd 2 rfl ?_
  refine .z rfl (.fieldAddr fl176_1 rfl) ?_
  refine .z rfl (.load1 ti174 rfl (fun _ hc => (hc.1.cell 1 _ rfl))) ?_
  refine .z rfl (.loadN ti172 rfl (fun _ hc => hc.2.1.row) rfl) ?_
  cases hat : atPl q a.pl with
  | none =>
    refine .z rfl (.lookOkG0 (a := a.pl) (val := askV) keyPl Tryz.underlying174 Tryz.zeroValue35 rfl rfl (fun _ hc => hc.2.2) (by rw [hq1.at_]; exact hat)) ?_
    refine .gd 3 rfl ?_
    refine .ac rfl (.alloc ti35 fun w5 b7 hm5 hb7 hz4 hk4 => ?_)
    have hS12 := (hS10.newBk hm5 hb7 hk4).n6
    have f8 := hS12.bk (i := 0) rfl
    have f9 := hS12.bk (i := 4) rfl
    have f10 := hS12.mp (i := 2) rfl
    refine ⟨.inr ⟨f8, f9, f10⟩, ?_⟩
    have f11 := hS12.bk (i := 5) rfl
    refine .ac rfl (.store ti35 rfl rfl rfl rfl rfl f11 (Nat.le_of_ble_eq_true rfl) fun w6 hm6 hz5 hk5 => ?_)
    have hS13 := (hS12.bkK (cs' := [.int .i64 0, .int .i64 0, .int .i64 0, .int .i64 0, .int .i64 0, strV [], .int .i64 0, .int .i64 0, .bool false, .int .i64 0, strV []]) (i := 5) rfl hm6 hk5).n6
    have f12 := hS13.bk (i := 0) rfl
    have f13 := hS13.bk (i := 4) rfl
    have f14 := hS13.mp (i := 2) rfl
    refine ⟨.inr ⟨f12, f13, f14⟩, ?_⟩
    refine .gd 1 rfl ?_
    refine .nil ?_
    refine .go 32 rfl ?_
    refine .z (.not rfl) ?_
    refine .gi 3 rfl ?_
    refine r_draw1 (fun i => Nat.beq i 6 || Nat.beq i 7 || Nat.beq i 10) 10 (fun w' => Bk w' qb [ov1, .map (some mb1)] 176 ∧ Bk w' b6 [.int .i64 a.slot, .int .i64 a.shard] 172) mixed (by kernel_rfl) fun w7 hm7 => ?_
    have hS14 := hS13.ext hm7
    have f15 := hS14.bk (i := 0) rfl
    have f16 := hS14.bk (i := 4) rfl
    refine ⟨⟨f15, f16⟩, ?_⟩
    rw [show List.range' 0 (Array.size _) = [0, 1, 2, 3, 4, 5, 6, 7, 8, 9, 10] from rfl]
    refine .gd 3 rfl ?_
    refine .z rfl (.fieldAddr fl176_0 rfl) ?_
    refine .z rfl (.load1 ti173 rfl (fun _ hc => (hc.1.cell 0 _ rfl))) ?_
    refine .z rfl (.loadN ti172 rfl (fun _ hc => hc.2.row) rfl) ?_
    refine .ac rfl (.buildSlice [(.agg #[.int .i64 a.slot, .int .i64 a.shard] : Value)] Tryz.underlying173 ti172 rfl rfl rfl (by decide) fun w8 b8 hm8 hb8 hz6 hk6 => ?_)
    have hl1 := Sl.of_blk (enc := encPl) hk6 ([(Prod.mk a.slot a.shard)] : List ((Int × Int))) 1 rfl rfl (by unfold maxLen; omega)
    have hS16 := (hS14.newSlB hm8 hb8 hz6 hl1).n7
    have f19 := hS16.bk (i := 0) rfl
    have f20 := hS16.bk (i := 4) rfl
    refine ⟨.inr ⟨f19, f20⟩, ?_⟩
    obtain ⟨g1, ho1, hl2, k1⟩ := hS16.accOK (i := 1) rfl
    have f21 := hS16.sl (i := 6) (k := 0) rfl rfl
    refine .ac rfl (.appendO ho1 Tryz.underlying173 ti172 rfl encPl_len encPl_one rfl rfl (f21) (by simp) (by simp only [List.length_cons, List.length_nil]; omega) (by unfold maxLen; simp only [List.length_cons, List.length_nil]; omega) fun v1 g2 w9 ha1 hm9 hg1 => ?_)
    have hS17 := (k1 _ _ _ _ hm9 ha1 (hg1.imp id .inr)).n7
    clear hg1
    have f22 := hS17.bk (i := 0) rfl
    have f23 := hS17.bk (i := 4) rfl
    refine ⟨.inr ⟨f22, f23⟩, ?_⟩
    refine .gd 1 rfl ?_
    refine .z rfl (.fieldAddr fl176_0 rfl) ?_
    have f24 := hS17.accOsl (i := 1) rfl
    obtain ⟨ad1, cp1, hv1⟩ := f24.shape
    subst hv1
    refine .ac rfl (.store ti173 rfl rfl rfl rfl rfl f22 (Nat.le_of_ble_eq_true rfl) fun w10 hm10 hz7 hk7 => ?_)
    have hS18 := (hS17.bkK (cs' := [(.slice ad1 (((q.map AskM.pl) ++ [(Prod.mk a.slot a.shard)])).length cp1), .map (some mb1)]) (i := 0) rfl hm10 hk7).n7
    refine ⟨.inl rfl, ?_⟩
    refine .nil ?_
    refine .gi 2 rfl ?_
    refine IkN.r_drawN (fun i => Nat.beq i 6) (fun i => Nat.beq i 3 || Nat.beq i 4 || Nat.beq i 5) 6 (fun _ => True) mixed (by kernel_rfl) (by kernel_rfl) fun w11 hm11 => ?_
    have hS19 := hS18.ext hm11
    refine ⟨trivial, ?_⟩
    rw [show List.range' 0 (Array.size _) = [0, 1, 2, 3, 4, 5, 6] from rfl]
    refine .gd 2 rfl ?_
    refine .zc rfl (.fieldAddr fl176_1 rfl) ?_
    have f25 := hS19.bk (i := 0) rfl
    refine .zn rfl (.l1 ti174 f25) ?_
    have f26 := hS19.bk (i := 4) rfl
    refine .zn rfl (.loadN ti172 rfl (fun _ e => e ▸ f26.row) rfl) ?_
    have f27 := hS19.bk (i := 3) rfl
    refine .zn rfl (.loadN ti35 rfl (fun _ e => e ▸ f27.row) rfl) ?_
    have f28 := hS19.mp (i := 2) rfl
    refine .ac rfl (.mapSetG a.pl a keyPl Tryz.underlying174 rfl rfl rfl f28 fun w12 hm12 hz8 hk8 => ?_)
    have hS20 := (hS19.mpK (i := 2) rfl hm12 hk8).n7
    refine ⟨.inl rfl, ?_⟩
    refine .nil ?_
    refine .gi 4 rfl ?_
    refine r_ret1 Tryz.func47 rfl rfl ?_
    have hpu := push_add (by omega) hat
    have hS21 := (hS20.ty (accOR encPl 172 2 ((.slice ad1 (((q.map AskM.pl) ++ [(Prod.mk a.slot a.shard)])).length cp1)) (((pushQ q a).map AskM.pl))) 1 rfl (fun F_ h_ => (by rw [hpu.2, List.map_append]; exact h_))).n7
    have hS22 := (hS21.b3 [3, 4, 5, 6] 0 1 2 (by rfl) (by decide)).n5
    have hS23 := (hS22.qI 4 rfl (q := (pushQ q a)) (by rw [hpu.2]; exact hq1.add hat)).n5
    exact hS23.rt 4 rfl (congrArg Value.bool hpu.1.symm)
  | some x =>
    refine .z rfl (.lookOkG1 (a := a.pl) (val := askV) keyPl Tryz.underlying174 Tryz.zeroValue35 rfl rfl (fun _ hc => hc.2.2) (by rw [hq1.at_]; exact hat)) ?_
    refine .gd 3 rfl ?_
    refine .ac rfl (.alloc ti35 fun w5 b7 hm5 hb7 hz4 hk4 => ?_)
    have hS12 := (hS10.newBk hm5 hb7 hk4).n6
    have f8 := hS12.bk (i := 0) rfl
    have f9 := hS12.bk (i := 4) rfl
    have f10 := hS12.mp (i := 2) rfl
    refine ⟨.inr ⟨f8, f9, f10⟩, ?_⟩
    have f11 := hS12.bk (i := 5) rfl
    refine .ac rfl (.store ti35 rfl rfl rfl rfl rfl f11 (Nat.le_of_ble_eq_true rfl) fun w6 hm6 hz5 hk5 => ?_)
    have hS13 := (hS12.bkK (cs' := (encAsk x)) (i := 5) rfl hm6 hk5).n6
    have f12 := hS13.bk (i := 0) rfl
    have f13 := hS13.bk (i := 4) rfl
    have f14 := hS13.mp (i := 2) rfl
    refine ⟨.inr ⟨f12, f13, f14⟩, ?_⟩
    refine .gd 1 rfl ?_
    refine .nil ?_
    refine .go 6 rfl ?_
    refine .z (.fieldAddr fl35_1 rfl) ?_
    have f15 := hS13.bk (i := 5) rfl
    refine .z (.l1 ti3 f15) ?_
    refine .z (.fieldAddr fl35_1 rfl) ?_
    have f16 := hS13.bk (i := 3) rfl
    refine .z (.l1 ti3 f16) ?_
    refine .zb (.gt rfl rfl) fun b8 hb8 => ?_
    refine .go 1 rfl ?_
    cases b8
    case true =>
      replace hb8 := dt hb8
      refine .gi 21 rfl ?_
      refine r_ret1 Tryz.func47 rfl rfl ?_
      have hpu := push_old hat (by omega)
      have hS14 := (hS13.ty (accOR encPl 172 2 ov1 (((pushQ q a).map AskM.pl))) 1 rfl (fun F_ h_ => (by rw [hpu.2]; exact h_))).n6
      have hS15 := (hS14.b3 [3, 4, 5] 0 1 2 (by rfl) (by decide)).n4
      have hS16 := (hS15.qI 3 rfl (q := (pushQ q a)) q47_1).n4
      exact hS16.rt 3 rfl (congrArg Value.bool hpu.1.symm)
    replace hb8 := df hb8
    refine .z (.fieldAddr fl35_1 rfl) ?_
    refine .z (.l1 ti3 f15) ?_
    refine .z (.fieldAddr fl35_1 rfl) ?_
    refine .z (.l1 ti3 f16) ?_
    refine .zb (.eq rfl rfl) fun b9 hb9 => ?_
    refine .go 1 rfl ?_
    cases b9
    case true =>
      replace hb9 := eq_of_beq hb9.symm
      refine .z (.fieldAddr fl35_3 rfl) ?_
      refine .z (.l1 ti3 f15) ?_
      refine .z (.fieldAddr fl35_3 rfl) ?_
      refine .z (.l1 ti3 f16) ?_
      refine .zb (.gt rfl rfl) fun b10 hb10 => ?_
      refine .gi 5 rfl ?_
      cases b10
      case true =>
        replace hb10 := dt hb10
        refine .gi 5 rfl ?_
        refine r_ret1 Tryz.func47 rfl rfl ?_
        have hpu := push_old hat (by omega)
        have hS14 := (hS13.ty (accOR encPl 172 2 ov1 (((pushQ q a).map AskM.pl))) 1 rfl (fun F_ h_ => (by rw [hpu.2]; exact h_))).n6
        have hS15 := (hS14.b3 [3, 4, 5] 0 1 2 (by rfl) (by decide)).n4
        have hS16 := (hS15.qI 3 rfl (q := (pushQ q a)) q47_1).n4
        exact hS16.rt 3 rfl (congrArg Value.bool hpu.1.symm)
      replace hb10 := df hb10
      refine .go 4 rfl ?_
      refine .z (.not rfl) ?_
      refine .gi 6 rfl ?_
      refine IkN.r_drawN (fun i => Nat.beq i 6) (fun i => Nat.beq i 3 || Nat.beq i 4 || Nat.beq i 5) 6 (fun _ => True) mixed (by kernel_rfl) (by kernel_rfl) fun w7 hm7 => ?_
      have hS14 := hS13.ext hm7
      refine ⟨trivial, ?_⟩
      rw [show List.range' 0 (Array.size _) = [0, 1, 2, 3, 4, 5, 6] from rfl]
      refine .gd 2 rfl ?_
      refine .zc rfl (.fieldAddr fl176_1 rfl) ?_
      have f17 := hS14.bk (i := 0) rfl
      refine .zn rfl (.l1 ti174 f17) ?_
      have f18 := hS14.bk (i := 4) rfl
      refine .zn rfl (.loadN ti172 rfl (fun _ e => e ▸ f18.row) rfl) ?_
      have f19 := hS14.bk (i := 3) rfl
      refine .zn rfl (.loadN ti35 rfl (fun _ e => e ▸ f19.row) rfl) ?_
      have f20 := hS14.mp (i := 2) rfl
      refine .ac rfl (.mapSetG a.pl a keyPl Tryz.underlying174 rfl rfl rfl f20 fun w8 hm8 hz6 hk6 => ?_)
      have hS15 := (hS14.mpK (i := 2) rfl hm8 hk6).n6
      refine ⟨.inl rfl, ?_⟩
      refine .nil ?_
      refine .gi 4 rfl ?_
      refine r_ret1 Tryz.func47 rfl rfl ?_
      have hpu := push_put (by omega) hat (by omega)
      have hS16 := (hS15.ty (accOR encPl 172 2 ov1 (((pushQ q a).map AskM.pl))) 1 rfl (fun F_ h_ => (by rw [hpu.2, map_pl]; exact h_))).n6
      have hS17 := (hS16.b3 [3, 4, 5] 0 1 2 (by rfl) (by decide)).n4
      have hS18 := (hS17.qI 3 rfl (q := (pushQ q a)) (by rw [hpu.2]; exact hq1.put hat)).n4
      exact hS18.rt 3 rfl (congrArg Value.bool hpu.1.symm)
    replace hb9 := ne_of_beq_false hb9.symm
    refine .go 14 rfl ?_
    refine .z (.not rfl) ?_
    refine .gi 6 rfl ?_
    refine IkN.r_drawN (fun i => Nat.beq i 6) (fun i => Nat.beq i 3 || Nat.beq i 4 || Nat.beq i 5) 6 (fun _ => True) mixed (by kernel_rfl) (by kernel_rfl) fun w7 hm7 => ?_
    have hS14 := hS13.ext hm7
    refine ⟨trivial, ?_⟩
    rw [show List.range' 0 (Array.size _) = [0, 1, 2, 3, 4, 5, 6] from rfl]
    refine .gd 2 rfl ?_
    refine .zc rfl (.fieldAddr fl176_1 rfl) ?_
    have f17 := hS14.bk (i := 0) rfl
    refine .zn rfl (.l1 ti174 f17) ?_
    have f18 := hS14.bk (i := 4) rfl
    refine .zn rfl (.loadN ti172 rfl (fun _ e => e ▸ f18.row) rfl) ?_
    have f19 := hS14.bk (i := 3) rfl
    refine .zn rfl (.loadN ti35 rfl (fun _ e => e ▸ f19.row) rfl) ?_
    have f20 := hS14.mp (i := 2) rfl
    refine .ac rfl (.mapSetG a.pl a keyPl Tryz.underlying174 rfl rfl rfl f20 fun w8 hm8 hz6 hk6 => ?_)
    have hS15 := (hS14.mpK (i := 2) rfl hm8 hk6).n6
    refine ⟨.inl rfl, ?_⟩
    refine .nil ?_
    refine .gi 4 rfl ?_
    refine r_ret1 Tryz.func47 rfl rfl ?_
    have hpu := push_put (by omega) hat (by omega)
    have hS16 := (hS15.ty (accOR encPl 172 2 ov1 (((pushQ q a).map AskM.pl))) 1 rfl (fun F_ h_ => (by rw [hpu.2, map_pl]; exact h_))).n6
    have hS17 := (hS16.b3 [3, 4, 5] 0 1 2 (by rfl) (by decide)).n4
    have hS18 := (hS17.qI 3 rfl (q := (pushQ q a)) (by rw [hpu.2]; exact hq1.put hat)).n4
    exact hS18.rt 3 rfl (congrArg Value.bool hpu.1.symm)
set_option maxRecDepth 20000 in
set_option maxHeartbeats 8000000 in
theorem qpop_c {w0 : World} {F : Nat → Prop} {qb : Nat} {a : AskM} {q : List AskM} (hA : (qR (R := fun _ => False) 176 172 qb ((a :: q))).p F w0) (hF : ∀ b, F b → b < w0.heap.size) (hql0 : q.length ≤ 100000) :
    Calls Tryz.prog 50 #[ptr qb 0] w0 (Ret fun rv w1 => rv = .tuple #[askV a, .bool true] ∧ Mod F w0 w1 ∧ ∃ F2, (qR (R := fun _ => False) 176 172 qb q).p F2 w1 ∧ ∀ b, F2 b → b < w1.heap.size ∧ (F b ∨ w0.heap.size ≤ b)) := by
  have hS00 := St.start1 (R := fun _ => False) hA (fun b hb => ⟨hF b hb, id⟩) (fun _ h => h.elim)
  have hS1 : St (fun _ => False) F w0 w0 [qR 176 172 qb ((a :: q))] := hS00
  refine calls_enter Tryz.func50 rfl Tryz.ntmps50 rfl ?_
  refine .go 2 rfl ?_
  refine .ac (.alloc ti35 fun w1 b1 hm1 hb1 hz1 hk1 => ?_)
  have hS3 := (hS1.newBk hm1 hb1 hk1).n2
  obtain ⟨Fy1, hAy1, hFy1, hky1⟩ := hS3.act (i := 0) rfl
  refine .go 6 rfl ?_
  refine .ac (.callF cl96 rfl (qlen_c (w0 := w1) hAy1 (fun b hb => (hFy1 b hb).2)) ?_)
  rintro _ w2 ⟨rfl, hm2⟩
  have hS4 := hS3.ext hm2
  clear hAy1 hFy1 hky1
  refine .zb (.eq rfl rfl) fun b2 hb2 => ?_
  obtain rfl : b2 = false := hb2.trans (by exact decide_eq_false (by simp only [List.length_cons]; omega))
  obtain ⟨⟨ov1, mb1, mm1⟩, hS5⟩ := hS4.exo (i := 0) rfl
  obtain ⟨hq1, hS6⟩ := hS5.and (i := 0) rfl
  change St (fun _ => False) F w0 w2 [boxR [bkR qb [ov1, .map (some mb1)] 176, accOR encPl 172 2 ov1 (((a :: q)).map AskM.pl), mpR plV askV mb1 mm1], bkR b1 [.int .i64 0, .int .i64 0, .int .i64 0, .int .i64 0, .int .i64 0, strV [], .int .i64 0, .int .i64 0, .bool false, .int .i64 0, strV []] 35] at hS6
  change QOk mm1 ((a :: q)) at hq1
  have hS7 := (hS6.un 0 rfl [1] (by rfl) (by decide)).n4
  have hle1 := (hS7.accOsl (i := 2) rfl).le
  have hol : ((a :: q).map AskM.pl).length = q.length + 1 := by simp
  refine .go 7 rfl ?_
  refine .z (.fieldAddr fl176_0 rfl) ?_
  have f1 := hS7.bk (i := 1) rfl
  refine .z (.l1 ti173 f1) ?_
  have f2 := hS7.accOsl (i := 2) rfl
  obtain ⟨x1, b3, o1, hx1, hr1, hl1, hw1⟩ := Sl.atF (P := Tryz.prog) f2 Tryz.underlying173 ti172 encPl_len (k := .i64) (n := 0) (0) (by omega) ao
  refine .z (.indexAddr rfl rfl hr1) ?_
  have hx1e : x1 = a.pl := by simpa using hx1.symm
  refine .z (.loadN ti172 rfl (fun _ e => e ▸ hw1) rfl) ?_
  refine .ac (.alloc ti172 fun w3 b4 hm3 hb3 hz2 hk2 => ?_)
  have hS9 := (hS7.newBk hm3 hb3 hk2).n5
  have f3 := hS9.bk (i := 4) rfl
  refine .ac (.store ti172 rfl rfl rfl rfl rfl f3 (Nat.le_of_ble_eq_true rfl) fun w4 hm4 hz3 hk3 => ?_)
  have hS10 := (hS9.bkK (cs' := [.int .i64 x1.1, .int .i64 x1.2]) (i := 4) rfl hm4 hk3).n5
  refine .go 6 rfl ?_
  refine .z (.fieldAddr fl176_0 rfl) ?_
  have f4 := hS10.bk (i := 1) rfl
  refine .z (.l1 ti173 f4) ?_
  obtain ⟨g1, ho1, hl2, k1⟩ := hS10.accOK (i := 2) rfl
  obtain ⟨v1, g2, hr2, ho2, hg1⟩ := AccO.from (P := Tryz.prog) ho1 Tryz.underlying173 ti172 encPl_len (k := .i64) (n := 1) (1) rfl (by simp)
  refine .z (.sliceV rfl rfl rfl rfl hr2) ?_
  have hS11 := (k1 _ _ _ _ (Mod.refl _ _) ho2 (hg1.elim .inl fun x => .inr (.inl x))).n5
  clear hg1
  refine .go 1 rfl ?_
  refine .z (.fieldAddr fl176_0 rfl) ?_
  have f5 := hS11.accOsl (i := 2) rfl
  obtain ⟨ad1, cp1, hv1⟩ := f5.shape
  subst hv1
  have f6 := hS11.bk (i := 1) rfl
  refine .ac (.store ti173 rfl rfl rfl rfl rfl f6 (Nat.le_of_ble_eq_true rfl) fun w5 hm5 hz4 hk4 => ?_)
  have hS12 := (hS11.bkK (cs' := [(.slice ad1 ((((((a :: q)).map AskM.pl)).drop 1)).length cp1), .map (some mb1)]) (i := 1) rfl hm5 hk4).n5
  refine .gi 2 rfl ?_
  refine r_draw1 (fun i => Nat.beq i 6 || Nat.beq i 7) 7 (fun w' => Bk w' qb [(.slice ad1 ((((((a :: q)).map AskM.pl)).drop 1)).length cp1), .map (some mb1)] 176 ∧ Bk w' b4 [.int .i64 x1.1, .int .i64 x1.2] 172 ∧ MapS plV askV w' mb1 mm1) mixed (by kernel_rfl) fun w6 hm6 => ?_
  have hS13 := hS12.ext hm6
  have f7 := hS13.bk (i := 1) rfl
  have f8 := hS13.bk (i := 4) rfl
  have f9 := hS13.mp (i := 3) rfl
  refine ⟨⟨f7, f8, f9⟩, ?_⟩
  rw [show List.range' 0 (Array.size _) = [0, 1, 2, 3, 4, 5, 6, 7] from rfl]
  refine .gd 2 rfl ?_
  refine .z rfl (.fieldAddr fl176_1 rfl) ?_
  refine .z rfl (.load1 ti174 rfl (fun _ hc => (hc.1.cell 1 _ rfl))) ?_
  refine .z rfl (.loadN ti172 rfl (fun _ hc => hc.2.1.row) rfl) ?_
  refine .z rfl (.lookG1 (a := x1) (val := askV) keyPl Tryz.underlying174 Tryz.zeroValue35 rfl rfl (fun _ hc => hc.2.2) (by rw [hx1e]; exact hq1.head)) ?_
  refine .ac rfl (.alloc ti35 fun w7 b5 hm7 hb4 hz5 hk5 => ?_)
  have hS15 := (hS13.newBk hm7 hb4 hk5).n6
  have f12 := hS15.bk (i := 1) rfl
  have f13 := hS15.bk (i := 4) rfl
  have f14 := hS15.mp (i := 3) rfl
  refine ⟨.inr ⟨f12, f13, f14⟩, ?_⟩
  have f15 := hS15.bk (i := 5) rfl
  refine .ac rfl (.store ti35 rfl rfl rfl rfl rfl f15 (Nat.le_of_ble_eq_true rfl) fun w8 hm8 hz6 hk6 => ?_)
  have hS16 := (hS15.bkK (cs' := (encAsk a)) (i := 5) rfl hm8 hk6).n6
  refine ⟨.inl rfl, ?_⟩
  refine .nil ?_
  refine .gi 1 rfl ?_
  refine IkN.r_drawN (fun i => Nat.beq i 5) (fun i => Nat.beq i 3 || Nat.beq i 4) 6 (fun _ => True) mixed (by kernel_rfl) (by kernel_rfl) fun w9 hm9 => ?_
  have hS17 := hS16.ext hm9
  refine ⟨trivial, ?_⟩
  rw [show List.range' 0 (Array.size _) = [0, 1, 2, 3, 4, 5] from rfl]
  refine .gd 2 rfl ?_
  refine .zc rfl (.fieldAddr fl176_1 rfl) ?_
  have f16 := hS17.bk (i := 1) rfl
  refine .zn rfl (.l1 ti174 f16) ?_
  have f17 := hS17.bk (i := 4) rfl
  refine .zn rfl (.loadN ti172 rfl (fun _ e => e ▸ f17.row) rfl) ?_
  have f18 := hS17.mp (i := 3) rfl
  refine .ac rfl (.mapDelG x1 keyPl Tryz.underlying174 rfl rfl rfl f18 fun w10 hm10 hz7 hk7 => ?_)
  have hS18 := (hS17.mpK (i := 3) rfl hm10 hk7).n6
  refine ⟨.inr trivial, ?_⟩
  refine .nil ?_
  have f19 := hS18.bk (i := 5) rfl
  refine .go 2 rfl ?_
  refine .z (.loadN ti35 rfl (fun _ e => e ▸ f19.row) rfl) ?_
  have f20 := hS18.bk (i := 0) rfl
  refine .ac (.store ti35 rfl rfl rfl rfl rfl f20 (Nat.le_of_ble_eq_true rfl) fun w11 hm11 hz8 hk8 => ?_)
  have hS19 := (hS18.bkK (cs' := (encAsk a)) (i := 0) rfl hm11 hk8).n6
  have f21 := hS19.bk (i := 0) rfl
  refine .gi 2 rfl ?_
  refine r_retC2 Tryz.func50 rfl rfl ti35 f21.row rfl rfl ?_
  have hS20 := (hS19.ty (accOR encPl 172 2 ((.slice ad1 ((((((a :: q)).map AskM.pl)).drop 1)).length cp1)) ((q.map AskM.pl))) 2 rfl (fun F_ h_ => by simpa using h_)).n6
  have hS21 := (hS20.b3 [0, 4, 5] 1 2 3 (by rfl) (by decide)).n4
  have hS22 := (hS21.qI 3 rfl (q := q) (by rw [hx1e]; exact hq1.pop)).n4
  exact hS22.rt 3 rfl rfl
set_option maxRecDepth 20000 in
set_option maxHeartbeats 8000000 in
theorem qpop0_c {w0 : World} {F : Nat → Prop} {qb : Nat} (hA : (qR (R := fun _ => False) 176 172 qb []).p F w0) (hF : ∀ b, F b → b < w0.heap.size) :
    Calls Tryz.prog 50 #[ptr qb 0] w0 (Ret fun rv w1 => rv = .tuple #[askV zeroAsk, .bool false] ∧ Ext w0 w1) := by
  have hA0 := hA
  have hS0 := St.start0 w0
  refine calls_enter Tryz.func50 rfl Tryz.ntmps50 rfl ?_
  refine .go 2 rfl ?_
  refine .ac (.alloc ti35 fun w1 b1 hm1 hb1 hz1 hk1 => ?_)
  have hS2 := (hS0.newBk hm1 hb1 hk1).n1
  refine .go 6 rfl ?_
  refine .ac (.callF cl96 rfl (qlen_c (w0 := w1) ((qR (R := fun _ => False) 176 172 qb []).keep hA hS2.mod (fun _ _ h => h) (fun _ h => h.elim)) (fun b hb => Nat.lt_of_lt_of_le (hF b hb) hS2.mod.size)) ?_)
  rintro _ w2 ⟨rfl, hm2⟩
  have hS3 := hS2.ext hm2
  refine .zb (.eq rfl rfl) fun b2 hb2 => ?_
  obtain rfl : b2 = true := hb2.trans (by rfl)
  refine .go 4 rfl ?_
  refine .z (.build (vs := #[]) (v := .agg #[.int .i64 0, .int .i64 0, .int .i64 0, .int .i64 0, .int .i64 0, strV [], .int .i64 0, .int .i64 0, .bool false, .int .i64 0, strV []]) rfl (fun _ => by kernel_rfl)) ?_
  have f1 := hS3.bk (i := 0) rfl
  refine .ac (.store ti35 rfl rfl rfl rfl rfl f1 (Nat.le_of_ble_eq_true rfl) fun w3 hm3 hz2 hk2 => ?_)
  have hS4 := (hS3.bkK (cs' := [.int .i64 0, .int .i64 0, .int .i64 0, .int .i64 0, .int .i64 0, strV [], .int .i64 0, .int .i64 0, .bool false, .int .i64 0, strV []]) (i := 0) rfl hm3 hk2).n1
  have f2 := hS4.bk (i := 0) rfl
  refine .gi 2 rfl ?_
  refine r_retC2 Tryz.func50 rfl rfl ti35 f2.row rfl rfl ?_
  exact Ret.mk ⟨rfl, hS4.mod⟩
set_option maxRecDepth 20000 in
set_option maxHeartbeats 8000000 in
theorem qall_c {w0 : World} {F : Nat → Prop} {qb : Nat} {q : List AskM} (hA : (qR (R := fun _ => False) 176 172 qb q).p F w0) (hF : ∀ b, F b → b < w0.heap.size) (hql0 : q.length ≤ 100000) :
    Calls Tryz.prog 49 #[ptr qb 0] w0 (Ret fun rv w1 => (∃ g, Acc encAsk 35 11 w1 g rv q ∧ (g = 0 ∨ w0.heap.size < g)) ∧ Ext w0 w1) := by
  obtain ⟨⟨ov, mb, m⟩, hq, Fs, hp1, hp2, hp3⟩ := hA
  have hb0 := (hp1 0 _ rfl).1
  obtain ⟨g0, ho0, hg0⟩ := hp1 1 _ rfl
  have hm0 := (hp1 2 _ rfl).1
  have hs0 := ho0.sl.iv (Nat.zero_le _) ho0.lt
  have hS0 := St.start0 w0
  have hle := hs0.le
  have hql : (q.map AskM.pl).length = q.length := List.length_map ..
  change Bk w0 qb [ov, .map (some mb)] 176 at hb0
  change Sl encPl w0 (Iv 0 w0.heap.size) ov (q.map AskM.pl) at hs0
  change MapS plV askV w0 mb m at hm0
  change QOk m q at hq
  refine calls_enter Tryz.func49 rfl Tryz.ntmps49 rfl ?_
  refine .go 8 rfl ?_
  refine .z (.eqNil Tryz.underlying93 rfl rfl) ?_
  refine .go 12 rfl ?_
  refine .z (.fieldAddr fl176_0 rfl) ?_
  have hr1 := hb0.row.sub 0 1 (Nat.le_of_ble_eq_true rfl)
  refine .z (.lr ti173 hr1) ?_
  refine .z (.lenSl Tryz.underlying173 (hs0) rfl) ?_
  have hS2 : St (fun _ => False) (fun _ => False) w0 w0 [accR encAsk 35 11 (.slice none 0 0) []] := hS0.newAcc (Mod.refl _ _) Acc.nil (.inl rfl)
  refine .gi 3 rfl ?_
  refine r_loop (I := fun m E W => ∃ (v_l : Value) (l : List AskM) (i : Nat), E = [(0, ptr qb 0), (3, v_l), (11, ov), (12, .int .i64 (((((q.map AskM.pl)).length : Nat) : Int))), (13, .int .i64 (((i : Nat) : Int)))] ∧ m = q.length - i ∧ St (fun _ => False) (fun _ => False) w0 W [accR encAsk 35 11 v_l l] ∧ (l = q.take i) ∧ (l.length = i)) ?_ ?_
  · refine ⟨_, _, ⟨(.slice none 0 0 : Value), ([] : List AskM), (0 : Nat), rfl, rfl, hS2, (by rfl), (by rfl)⟩, ⟨rfl, rfl, rfl, rfl, rfl, trivial⟩⟩
  · rintro _ _ w1 ⟨v_l, l, i, rfl, rfl, hS1, hl, hll⟩ ih1
    refine .go 2 rfl ?_
    refine .zb (.lt rfl rfl) fun b1 hb1 => ?_
    refine .gi 2 rfl ?_
    cases b1
    case true =>
      replace hb1 := dt hb1
      have f1 := hS1.out hs0 (fun _ _ h => h)
      obtain ⟨x1, b2, o1, hx1, hr2, hl1, hw1⟩ := Sl.atF (P := Tryz.prog) f1 Tryz.underlying173 ti172 encPl_len (k := .i64) (n := ((i : Nat) : Int)) (i) (by omega) ao
      refine .go 6 rfl ?_
      refine .z (.indexAddr rfl rfl hr2) ?_
      obtain ⟨a, hqa, hapl, hasc⟩ := hq.at1 hx1
      refine .z (.loadN ti172 rfl (fun _ e => e ▸ hw1) rfl) ?_
      refine .ac (.alloc ti172 fun w2 b3 hm1 hb2 hz1 hk1 => ?_)
      have hS4 := (hS1.newBk hm1 hb2 hk1).n2
      have f2 := hS4.bk (i := 1) rfl
      refine .ac (.store ti172 rfl rfl rfl rfl rfl f2 (Nat.le_of_ble_eq_true rfl) fun w3 hm2 hz2 hk2 => ?_)
      have hS5 := (hS4.bkK (cs' := [.int .i64 x1.1, .int .i64 x1.2]) (i := 1) rfl hm2 hk2).n2
      refine .gi 1 rfl ?_
      refine IkN.r_drawN (fun i => Nat.beq i 7 || Nat.beq i 8) (fun i => Nat.beq i 4 || Nat.beq i 5 || Nat.beq i 6) 10 (fun _ => True) mixed (by kernel_rfl) (by kernel_rfl) fun w4 hm3 => ?_
      have hS6 := hS5.ext hm3
      refine ⟨trivial, ?_⟩
      rw [show List.range' 0 (Array.size _) = [0, 1, 2, 3, 4, 5, 6, 7, 8, 9] from rfl]
      refine .gd 3 rfl ?_
      refine .zc rfl (.fieldAddr fl176_1 rfl) ?_
      have f3 := hb0.row.keep hS6.mod (fun h => h)
      have hr3 := f3.sub 1 1 (Nat.le_of_ble_eq_true rfl)
      refine .zn rfl (.load1 ti174 rfl (fun _ e => e ▸ hr3)) ?_
      have f4 := hS6.bk (i := 1) rfl
      refine .zn rfl (.loadN ti172 rfl (fun _ e => e ▸ f4.row) rfl) ?_
      have f5 := hm0.keep hS6.mod (fun h => h)
      refine .zn rfl (.lookG1 (a := x1) (val := askV) keyPl Tryz.underlying174 Tryz.zeroValue35 rfl rfl (fun _ e => e ▸ f5) hasc) ?_
      refine .ac rfl (.buildSlice [(.agg #[.int .i64 a.slot, .int .i64 a.query, .int .i64 a.shard, .int .i64 a.seq, .int .i64 a.epoch, strV a.text, .int .i64 a.k, .int .i64 a.batch, .bool a.first, .int .i64 a.after.dist, strV a.after.word] : Value)] Tryz.underlying39 ti35 rfl rfl rfl (by decide) fun w5 b4 hm4 hb3 hz3 hk3 => ?_)
      have hl2 := Sl.of_blk (enc := encAsk) hk3 ([a] : List AskM) 1 rfl rfl (by unfold maxLen; omega)
      have hS8 := (hS6.newSlB hm4 hb3 hz3 hl2).n3
      refine ⟨.inr trivial, ?_⟩
      obtain ⟨g2, f6, hl3, k1⟩ := hS8.accK (i := 0) rfl
      have f7 := hS8.sl (i := 2) (k := 0) rfl rfl
      refine .ac rfl (.append f6 Tryz.underlying39 ti35 rfl encAsk_len encAsk_one rfl rfl (f7) ol ox fun v1 g1 w6 ha1 hm5 hg1 hz4 => ?_)
      have hS9 := (k1 _ _ _ _ hm5 ha1 hg1).n3
      refine ⟨.inr trivial, ?_⟩
      clear hg1
      refine .gd 1 rfl ?_
      refine .nil ?_
      refine .go 2 rfl ?_
      refine .z (.addI (((i + 1 : Nat) : Int)) rfl rfl (by omega)) ?_
      have hS10 := (hS9.sel [0] (by rfl) (by decide)).n1
      refine .gi 2 rfl ?_
      exact (ih1 _ _ _ ⟨(v1 : Value), ((l ++ [a]) : List AskM), (i + 1 : Nat), rfl, rfl, hS10, (by first | exact snoc_take hl hqa | (exfalso; omega)), (by first | (simp only [List.length_append, List.length_cons, List.length_nil]; omega) | (exfalso; omega))⟩ (by omega)).sub ⟨rfl, rfl, rfl, rfl, rfl, trivial⟩
    replace hb1 := df hb1
    refine .gi 7 rfl ?_
    refine r_ret1 Tryz.func49 rfl rfl ?_
    obtain ⟨ga, ha, hg⟩ := hS1.accOut (i := 0) rfl
    exact Ret.mk ⟨⟨_, Acc.cast ha (by rw [hl, List.take_of_length_le (by omega)]), hg⟩, hS1.mod⟩
end Go.Proofs
namespace Go.Proofs
open Go.Ik Go.Ml
theorem q82_1 {p : Prop} (h : p := by first | exact nums_no hx1 (by omega) | exact nums_yes hno (by omega) | (exfalso; omega)) : p := h
set_option maxRecDepth 20000 in
set_option maxHeartbeats 4000000 in
theorem mwithin_c {w0 : World}  {v_ns : Value} {ns : List Int} (h_ns : Sl Ik.encI w0 (Iv 0 w0.heap.size) v_ns ns) :
    Calls Tryz.prog 82 #[v_ns] w0 (Ret fun rv w1 => (∃ rb : Bool, rb = (nums31 ns) ∧ rv = .bool rb) ∧ Ext w0 w1) := by
  have hle_ns := h_ns.le
  have hS0 := St.start0 w0
  refine calls_enter Tryz.func82 rfl Tryz.ntmps82 rfl ?_
  refine .go 8 rfl ?_
  refine .z (.lenSl Tryz.underlying57 (h_ns) rfl) ?_
  refine .gi 3 rfl ?_
  refine r_loop (I := fun m E W => ∃ (i : Nat), E = [(5, v_ns), (6, .int .i64 (((ns.length : Nat) : Int))), (7, .int .i64 (((i : Nat) : Int)))] ∧ m = ns.length - i ∧ St (fun _ => False) (fun _ => False) w0 W [] ∧ (∀ z ∈ ns.take i, 0 ≤ z ∧ z ≤ 2147483647)) ?_ ?_
  · refine ⟨_, _, ⟨(0 : Nat), rfl, rfl, hS0, (by (intro z hz; simp at hz))⟩, ⟨rfl, rfl, rfl, trivial⟩⟩
  · rintro _ _ w1 ⟨i, rfl, rfl, hS1, hno⟩ ih1
    refine .go 2 rfl ?_
    refine .zb (.lt rfl rfl) fun b1 hb1 => ?_
    refine .gi 2 rfl ?_
    cases b1
    case true =>
      replace hb1 := dt hb1
      have f1 := hS1.out h_ns (fun _ _ h => h)
      obtain ⟨x1, b2, o1, hx1, hr1, hl1, hw1⟩ := Sl.atF (P := Tryz.prog) f1 Tryz.underlying57 ti3 Ik.encI_len (k := .i64) (n := ((i : Nat) : Int)) (i) (by omega) ao
      refine .go 6 rfl ?_
      refine .z (.indexAddr rfl rfl hr1) ?_
      refine .z (.lr ti3 hw1) ?_
      refine .go 5 rfl ?_
      refine .zb (.lt rfl rfl) fun b3 hb2 => ?_
      refine .go 1 rfl ?_
      cases b3
      case true =>
        replace hb2 := dt hb2
        refine .gi 9 rfl ?_
        refine r_ret1 Tryz.func82 rfl rfl ?_
        exact Ret.mk ⟨⟨_, q82_1, rfl⟩, hS1.mod⟩
      replace hb2 := df hb2
      refine .go 1 rfl ?_
      refine .zb (.gt rfl rfl) fun b4 hb3 => ?_
      refine .gi 2 rfl ?_
      cases b4
      case true =>
        replace hb3 := dt hb3
        refine .gi 5 rfl ?_
        refine r_ret1 Tryz.func82 rfl rfl ?_
        exact Ret.mk ⟨⟨_, q82_1, rfl⟩, hS1.mod⟩
      replace hb3 := df hb3
      refine .go 4 rfl ?_
      refine .z (.addI (((i + 1 : Nat) : Int)) rfl rfl (by omega)) ?_
      refine .gi 2 rfl ?_
      exact (ih1 _ _ _ ⟨(i + 1 : Nat), rfl, rfl, hS1, (by first | exact nums_step hno hx1 (by omega) | (exfalso; omega))⟩ (by omega)).sub ⟨rfl, rfl, rfl, trivial⟩
    replace hb1 := df hb1
    refine .gi 6 rfl ?_
    refine r_ret1 Tryz.func82 rfl rfl ?_
    exact Ret.mk ⟨⟨_, q82_1, rfl⟩, hS1.mod⟩
theorem q125_1 {p : Prop} (h : p := by first | exact item_no (by omega) | exact item_yes (by omega) (by assumption) | (exfalso; omega)) : p := h
set_option maxRecDepth 20000 in
set_option maxHeartbeats 4000000 in
theorem mitem_c {w0 : World}  {x : Itm} (hxw : x.word.length ≤ 1000000) :
    Calls Tryz.prog 125 #[.agg #[.int .i64 x.dist, strV x.word]] w0 (Ret fun rv w1 => (∃ rb : Bool, rb = (itemOk x) ∧ rv = .bool rb) ∧ Ext w0 w1) := by
  have hS0 := St.start0 w0
  refine calls_enter Tryz.func125 rfl Tryz.ntmps125 rfl ?_
  refine .go 2 rfl ?_
  refine .ac (.box [.int .i64 x.dist, strV x.word] rfl rfl fun w1 b1 hm1 hb1 hz1 hk1 => ?_)
  have hS2 := (hS0.newBk hm1 hb1 hk1).n1
  refine .go 4 rfl ?_
  refine .z (.fieldAddr fl33_0 rfl) ?_
  have f1 := hS2.bk (i := 0) rfl
  refine .z (.l1 ti3 f1) ?_
  refine .zb (.ge rfl rfl) fun b2 hb2 => ?_
  refine .go 1 rfl ?_
  cases b2
  case true =>
    replace hb2 := dt hb2
    refine .z (.fieldAddr fl33_0 rfl) ?_
    refine .z (.l1 ti3 f1) ?_
    refine .zb (.le rfl rfl) fun b3 hb3 => ?_
    refine .go 2 rfl ?_
    cases b3
    case true =>
      replace hb3 := dt hb3
      refine .z (.fieldAddr fl33_1 rfl) ?_
      refine .z (.l1 ti9 f1) ?_
      refine .ac (.callF cl102 rfl (tword_c (w0 := w1)  x.word ao) ?_)
      rintro _ w2 ⟨⟨b4, hb4, rfl⟩, hm2⟩
      have hS3 := hS2.ext hm2
      refine .gi 3 rfl ?_
      refine r_ret1 Tryz.func125 rfl rfl ?_
      exact Ret.mk ⟨⟨_, q125_1, rfl⟩, hS3.mod⟩
    replace hb3 := df hb3
    refine .gi 6 rfl ?_
    refine r_ret1 Tryz.func125 rfl rfl ?_
    exact Ret.mk ⟨⟨_, q125_1, rfl⟩, hS2.mod⟩
  replace hb2 := df hb2
  refine .gi 11 rfl ?_
  refine r_ret1 Tryz.func125 rfl rfl ?_
  exact Ret.mk ⟨⟨_, q125_1, rfl⟩, hS2.mod⟩
theorem q85_1 {p : Prop} (h : p := by first | exact place_no (by omega) | exact place_dec (by assumption) (by omega) | (exfalso; omega)) : p := h
set_option maxRecDepth 20000 in
set_option maxHeartbeats 4000000 in
theorem mplace_c {w0 : World}  (slot : Int) (shard : Int) (h_slot : I64 slot) (h_shard : I64 shard) :
    Calls Tryz.prog 85 #[.int .i64 slot, .int .i64 shard] w0 (Ret fun rv w1 => (∃ rb : Bool, rb = (placeOk slot shard) ∧ rv = .bool rb) ∧ Ext w0 w1) := by
  have hS0 := St.start0 w0
  refine calls_enter Tryz.func85 rfl Tryz.ntmps85 rfl ?_
  refine .go 7 rfl ?_
  refine .zb (.ge rfl rfl) fun b1 hb1 => ?_
  refine .go 1 rfl ?_
  cases b1
  case true =>
    replace hb1 := dt hb1
    refine .go 1 rfl ?_
    refine .zb (.lt rfl rfl) fun b2 hb2 => ?_
    refine .go 2 rfl ?_
    cases b2
    case true =>
      replace hb2 := dt hb2
      refine .go 1 rfl ?_
      refine .zb (.ge rfl rfl) fun b3 hb3 => ?_
      refine .go 2 rfl ?_
      cases b3
      case true =>
        replace hb3 := dt hb3
        refine .go 1 rfl ?_
        refine .zb (.lt rfl rfl) fun b4 hb4 => ?_
        refine .gi 3 rfl ?_
        refine r_ret1 Tryz.func85 rfl rfl ?_
        exact Ret.mk ⟨⟨_, q85_1, rfl⟩, hS0.mod⟩
      replace hb3 := df hb3
      refine .gi 5 rfl ?_
      refine r_ret1 Tryz.func85 rfl rfl ?_
      exact Ret.mk ⟨⟨_, q85_1, rfl⟩, hS0.mod⟩
    replace hb2 := df hb2
    refine .gi 9 rfl ?_
    refine r_ret1 Tryz.func85 rfl rfl ?_
    exact Ret.mk ⟨⟨_, q85_1, rfl⟩, hS0.mod⟩
  replace hb1 := df hb1
  refine .gi 13 rfl ?_
  refine r_ret1 Tryz.func85 rfl rfl ?_
  exact Ret.mk ⟨⟨_, q85_1, rfl⟩, hS0.mod⟩
theorem q83_1 {p : Prop} (h : p := by first | exact ask_1 (by assumption) | exact ask_2 (by assumption) | exact ask_3 (by assumption) | exact ask_4 (by assumption) | exact ask_5 (by omega) | exact ask_y (by assumption) (by assumption) (by assumption) (by assumption) (by omega) (by assumption) | (exfalso; omega)) : p := h
theorem q83_2 {p : Prop} (h : p := by assumption) : p := h
set_option maxRecDepth 20000 in
set_option maxHeartbeats 4000000 in
theorem mask_c {w0 : World}  {m : AskM} (h_m : AskM.Ok m) (hmt : m.text.length ≤ 1000000) (hma : m.after.word.length ≤ 1000000) :
    Calls Tryz.prog 83 #[.agg #[.int .i64 m.slot, .int .i64 m.query, .int .i64 m.shard, .int .i64 m.seq, .int .i64 m.epoch, strV m.text, .int .i64 m.k, .int .i64 m.batch, .bool m.first, .int .i64 m.after.dist, strV m.after.word]] w0 (Ret fun rv w1 => (∃ rb : Bool, rb = (mayAsk m) ∧ rv = .bool rb) ∧ Ext w0 w1) := by
  have hok1 := h_m.slot
  have hok2 := h_m.query
  have hok3 := h_m.shard
  have hok4 := h_m.seq
  have hok5 := h_m.epoch
  have hok6 := h_m.k
  have hok7 := h_m.batch
  have hok8 := h_m.dist
  have hS0 := St.start0 w0
  refine calls_enter Tryz.func83 rfl Tryz.ntmps83 rfl ?_
  refine .go 2 rfl ?_
  refine .ac (.box (encAsk m) rfl rfl fun w1 b1 hm1 hb1 hz1 hk1 => ?_)
  have hS2 := (hS0.newBk hm1 hb1 hk1).n1
  refine .go 4 rfl ?_
  refine .z (.fieldAddr fl35_9 rfl) ?_
  have f1 := hS2.bk (i := 0) rfl
  refine .z (.loadN ti33 rfl (fun _ e => e ▸ (f1.part 9 2 (Nat.le_of_ble_eq_true rfl))) rfl) ?_
  refine .ac (.callF cl125 rfl (mitem_c (w0 := w1) (x := m.after)  ao) ?_)
  rintro _ w2 ⟨⟨b2, hb2, rfl⟩, hm2⟩
  have hS3 := hS2.ext hm2
  refine .go 5 rfl ?_
  refine .z (.fieldAddr fl35_8 rfl) ?_
  have f2 := hS3.bk (i := 0) rfl
  refine .z (.l1 ti4 f2) ?_
  generalize hb3 : m.first = bq1
  replace hb3 := hb3.symm
  refine .gi 1 rfl ?_
  cases bq1
  case true =>
    replace hb3 := hb3.symm
    refine .go 2 rfl ?_
    refine .z (.fieldAddr fl35_9 rfl) ?_
    refine .z (.loadN ti33 rfl (fun _ e => e ▸ (f2.part 9 2 (Nat.le_of_ble_eq_true rfl))) rfl) ?_
    refine .z (.build (vs := #[]) (v := .agg #[.int .i64 0, strV []]) rfl (fun _ => by kernel_rfl)) ?_
    refine .zb (.eqStruct (by kernel_rfl) (eqS33 m.after ((Itm.mk 0 []))) rfl rfl) fun b3 hb4 => ?_
    have hb5 : b3 = afterOk m := (by first | exact after_yes q83_2 hb4 | exact after_no q83_2 hb4)
    refine .go 6 rfl ?_
    cases b3
    case true =>
      replace hb5 := hb5.symm
      refine .z (.fieldAddr fl35_0 rfl) ?_
      refine .z (.l1 ti3 f2) ?_
      refine .z (.fieldAddr fl35_2 rfl) ?_
      refine .z (.l1 ti3 f2) ?_
      refine .ac (.callF cl85 rfl (mplace_c (w0 := w2)  (m.slot) (m.shard) oa oa) ?_)
      rintro _ w3 ⟨⟨b4, hb6, rfl⟩, hm3⟩
      have hS4 := hS3.ext hm3
      refine .go 2 rfl ?_
      cases b4
      case true =>
        replace hb6 := hb6.symm
        refine .z (.fieldAddr fl35_1 rfl) ?_
        have f3 := hS4.bk (i := 0) rfl
        refine .z (.l1 ti3 f3) ?_
        refine .z (.fieldAddr fl35_3 rfl) ?_
        refine .z (.l1 ti3 f3) ?_
        refine .z (.fieldAddr fl35_4 rfl) ?_
        refine .z (.l1 ti3 f3) ?_
        refine .ac (.buildSlice [(.int .i64 m.query : Value), (.int .i64 m.seq : Value), (.int .i64 m.epoch : Value)] Tryz.underlying57 ti3 rfl rfl rfl (by decide) fun w4 b5 hm4 hb7 hz2 hk2 => ?_)
        have hl1 := Sl.of_blk (enc := Ik.encI) hk2 ([m.query, m.seq, m.epoch] : List Int) 3 rfl rfl (by unfold maxLen; omega)
        have hS6 := (hS4.newSlB hm4 hb7 hz2 hl1).n2
        have f4 := hS6.sl (i := 1) (k := 0) rfl rfl
        refine .ac (.callF cl82 rfl (mwithin_c (w0 := w4) (ns := [m.query, m.seq, m.epoch])  f4) ?_)
        rintro _ w5 ⟨⟨b6, hb8, rfl⟩, hm5⟩
        have hS7 := hS6.ext hm5
        refine .go 2 rfl ?_
        cases b6
        case true =>
          replace hb8 := hb8.symm
          refine .z (.fieldAddr fl35_5 rfl) ?_
          have f5 := hS7.bk (i := 0) rfl
          refine .z (.l1 ti9 f5) ?_
          refine .ac (.callF cl126 rfl (tasked_c (w0 := w5)  m.text ao) ?_)
          rintro _ w6 ⟨⟨b7, hb9, rfl⟩, hm6⟩
          have hS8 := hS7.ext hm6
          refine .go 2 rfl ?_
          cases b7
          case true =>
            replace hb9 := hb9.symm
            refine .z (.fieldAddr fl35_6 rfl) ?_
            have f6 := hS8.bk (i := 0) rfl
            refine .z (.l1 ti3 f6) ?_
            refine .zb (.ge rfl rfl) fun b8 hb10 => ?_
            refine .go 2 rfl ?_
            cases b8
            case true =>
              replace hb10 := dt hb10
              refine .z (.fieldAddr fl35_6 rfl) ?_
              refine .z (.l1 ti3 f6) ?_
              refine .zb (.le rfl rfl) fun b9 hb11 => ?_
              refine .go 2 rfl ?_
              cases b9
              case true =>
                replace hb11 := dt hb11
                refine .z (.fieldAddr fl35_7 rfl) ?_
                refine .z (.l1 ti3 f6) ?_
                refine .zb (.ge rfl rfl) fun b10 hb12 => ?_
                refine .go 2 rfl ?_
                cases b10
                case true =>
                  replace hb12 := dt hb12
                  refine .z (.fieldAddr fl35_7 rfl) ?_
                  refine .z (.l1 ti3 f6) ?_
                  refine .zb (.le rfl rfl) fun b11 hb13 => ?_
                  refine .gi 3 rfl ?_
                  refine r_ret1 Tryz.func83 rfl rfl ?_
                  exact Ret.mk ⟨⟨_, q83_1, rfl⟩, hS8.mod⟩
                replace hb12 := df hb12
                refine .gi 6 rfl ?_
                refine r_ret1 Tryz.func83 rfl rfl ?_
                exact Ret.mk ⟨⟨_, q83_1, rfl⟩, hS8.mod⟩
              replace hb11 := df hb11
              refine .gi 11 rfl ?_
              refine r_ret1 Tryz.func83 rfl rfl ?_
              exact Ret.mk ⟨⟨_, q83_1, rfl⟩, hS8.mod⟩
            replace hb10 := df hb10
            refine .gi 16 rfl ?_
            refine r_ret1 Tryz.func83 rfl rfl ?_
            exact Ret.mk ⟨⟨_, q83_1, rfl⟩, hS8.mod⟩
          replace hb9 := hb9.symm
          refine .gi 21 rfl ?_
          refine r_ret1 Tryz.func83 rfl rfl ?_
          exact Ret.mk ⟨⟨_, q83_1, rfl⟩, hS8.mod⟩
        replace hb8 := hb8.symm
        refine .gi 26 rfl ?_
        refine r_ret1 Tryz.func83 rfl rfl ?_
        exact Ret.mk ⟨⟨_, q83_1, rfl⟩, hS7.mod⟩
      replace hb6 := hb6.symm
      refine .gi 36 rfl ?_
      refine r_ret1 Tryz.func83 rfl rfl ?_
      exact Ret.mk ⟨⟨_, q83_1, rfl⟩, hS4.mod⟩
    replace hb5 := hb5.symm
    refine .gi 43 rfl ?_
    refine r_ret1 Tryz.func83 rfl rfl ?_
    exact Ret.mk ⟨⟨_, q83_1, rfl⟩, hS3.mod⟩
  replace hb3 := hb3.symm
  have hb4 : b2 = afterOk m := (by first | exact after_yes q83_2 hb2 | exact after_no q83_2 hb2)
  refine .go 6 rfl ?_
  cases b2
  case true =>
    replace hb4 := hb4.symm
    refine .z (.fieldAddr fl35_0 rfl) ?_
    refine .z (.l1 ti3 f2) ?_
    refine .z (.fieldAddr fl35_2 rfl) ?_
    refine .z (.l1 ti3 f2) ?_
    refine .ac (.callF cl85 rfl (mplace_c (w0 := w2)  (m.slot) (m.shard) oa oa) ?_)
    rintro _ w3 ⟨⟨b3, hb5, rfl⟩, hm3⟩
    have hS4 := hS3.ext hm3
    refine .go 2 rfl ?_
    cases b3
    case true =>
      replace hb5 := hb5.symm
      refine .z (.fieldAddr fl35_1 rfl) ?_
      have f3 := hS4.bk (i := 0) rfl
      refine .z (.l1 ti3 f3) ?_
      refine .z (.fieldAddr fl35_3 rfl) ?_
      refine .z (.l1 ti3 f3) ?_
      refine .z (.fieldAddr fl35_4 rfl) ?_
      refine .z (.l1 ti3 f3) ?_
      refine .ac (.buildSlice [(.int .i64 m.query : Value), (.int .i64 m.seq : Value), (.int .i64 m.epoch : Value)] Tryz.underlying57 ti3 rfl rfl rfl (by decide) fun w4 b4 hm4 hb6 hz2 hk2 => ?_)
      have hl1 := Sl.of_blk (enc := Ik.encI) hk2 ([m.query, m.seq, m.epoch] : List Int) 3 rfl rfl (by unfold maxLen; omega)
      have hS6 := (hS4.newSlB hm4 hb6 hz2 hl1).n2
      have f4 := hS6.sl (i := 1) (k := 0) rfl rfl
      refine .ac (.callF cl82 rfl (mwithin_c (w0 := w4) (ns := [m.query, m.seq, m.epoch])  f4) ?_)
      rintro _ w5 ⟨⟨b5, hb7, rfl⟩, hm5⟩
      have hS7 := hS6.ext hm5
      refine .go 2 rfl ?_
      cases b5
      case true =>
        replace hb7 := hb7.symm
        refine .z (.fieldAddr fl35_5 rfl) ?_
        have f5 := hS7.bk (i := 0) rfl
        refine .z (.l1 ti9 f5) ?_
        refine .ac (.callF cl126 rfl (tasked_c (w0 := w5)  m.text ao) ?_)
        rintro _ w6 ⟨⟨b6, hb8, rfl⟩, hm6⟩
        have hS8 := hS7.ext hm6
        refine .go 2 rfl ?_
        cases b6
        case true =>
          replace hb8 := hb8.symm
          refine .z (.fieldAddr fl35_6 rfl) ?_
          have f6 := hS8.bk (i := 0) rfl
          refine .z (.l1 ti3 f6) ?_
          refine .zb (.ge rfl rfl) fun b7 hb9 => ?_
          refine .go 2 rfl ?_
          cases b7
          case true =>
            replace hb9 := dt hb9
            refine .z (.fieldAddr fl35_6 rfl) ?_
            refine .z (.l1 ti3 f6) ?_
            refine .zb (.le rfl rfl) fun b8 hb10 => ?_
            refine .go 2 rfl ?_
            cases b8
            case true =>
              replace hb10 := dt hb10
              refine .z (.fieldAddr fl35_7 rfl) ?_
              refine .z (.l1 ti3 f6) ?_
              refine .zb (.ge rfl rfl) fun b9 hb11 => ?_
              refine .go 2 rfl ?_
              cases b9
              case true =>
                replace hb11 := dt hb11
                refine .z (.fieldAddr fl35_7 rfl) ?_
                refine .z (.l1 ti3 f6) ?_
                refine .zb (.le rfl rfl) fun b10 hb12 => ?_
                refine .gi 3 rfl ?_
                refine r_ret1 Tryz.func83 rfl rfl ?_
                exact Ret.mk ⟨⟨_, q83_1, rfl⟩, hS8.mod⟩
              replace hb11 := df hb11
              refine .gi 6 rfl ?_
              refine r_ret1 Tryz.func83 rfl rfl ?_
              exact Ret.mk ⟨⟨_, q83_1, rfl⟩, hS8.mod⟩
            replace hb10 := df hb10
            refine .gi 11 rfl ?_
            refine r_ret1 Tryz.func83 rfl rfl ?_
            exact Ret.mk ⟨⟨_, q83_1, rfl⟩, hS8.mod⟩
          replace hb9 := df hb9
          refine .gi 16 rfl ?_
          refine r_ret1 Tryz.func83 rfl rfl ?_
          exact Ret.mk ⟨⟨_, q83_1, rfl⟩, hS8.mod⟩
        replace hb8 := hb8.symm
        refine .gi 21 rfl ?_
        refine r_ret1 Tryz.func83 rfl rfl ?_
        exact Ret.mk ⟨⟨_, q83_1, rfl⟩, hS8.mod⟩
      replace hb7 := hb7.symm
      refine .gi 26 rfl ?_
      refine r_ret1 Tryz.func83 rfl rfl ?_
      exact Ret.mk ⟨⟨_, q83_1, rfl⟩, hS7.mod⟩
    replace hb5 := hb5.symm
    refine .gi 36 rfl ?_
    refine r_ret1 Tryz.func83 rfl rfl ?_
    exact Ret.mk ⟨⟨_, q83_1, rfl⟩, hS4.mod⟩
  replace hb4 := hb4.symm
  refine .gi 43 rfl ?_
  refine r_ret1 Tryz.func83 rfl rfl ?_
  exact Ret.mk ⟨⟨_, q83_1, rfl⟩, hS3.mod⟩
end Go.Proofs
namespace Go.Proofs
open Go.Ik Go.Ml
set_option maxRecDepth 20000 in
set_option maxHeartbeats 4000000 in
theorem amay_c {w0 : World}  (k : Int) (h_k : I64 k) (hk : 0 ≤ k ∧ k ≤ 4) :
    Calls Tryz.prog 177 #[.int .i64 k] w0 (Ret fun rv w1 => (∃ rb : Bool, rb = true ∧ rv = .bool rb) ∧ Ext w0 w1) := by
  have hE0 : Ext w0 w0 := Mod.refl _ _
  refine calls_enter Tryz.func177 rfl Tryz.ntmps177 rfl ?_
  refine .go 7 rfl ?_
  refine .zb (.ge rfl rfl) fun b1 hb1 => ?_
  obtain rfl : b1 = true := hb1.trans (by exact decide_eq_true (by omega))
  refine .go 2 rfl ?_
  refine .zb (.le rfl rfl) fun b2 hb2 => ?_
  obtain rfl : b2 = true := hb2.trans (by exact decide_eq_true (by omega))
  refine .gi 3 rfl ?_
  refine r_ret1 Tryz.func177 rfl rfl ?_
  exact Ret.mk ⟨⟨_, (by rfl), rfl⟩, hE0⟩
theorem q178_1 {p : Prop} (h : p := by omega) : p := h
theorem q178_2 {p : Prop} (h : p := by first | exact hq2.trans (sp_skip hx1 (by omega)) | (rw [hq3]; exact sp_end hx1 (by omega)) | (exfalso; omega)) : p := h
theorem q178_3 {p : Prop} (h : p := by first | omega | (exfalso; omega)) : p := h
set_option maxRecDepth 20000 in
set_option maxHeartbeats 4000000 in
theorem aspread_c {w0 : World}  {v_q : Value} {q : List Int} (k : Int) {v_s : Value} {s : List Pos} (h_q : Sl encRn w0 (Iv 0 w0.heap.size) v_q q) (h_k : I64 k) (h_s : Sl encPos w0 (Iv 0 w0.heap.size) v_s s) (hk : 0 ≤ k ∧ k ≤ 4) (hq : q.length ≤ 1000) (hsl : s.length ≤ 1000) :
    Calls Tryz.prog 178 #[v_q, .int .i64 k, v_s] w0 (Ret fun rv w1 => (∃ gr, Acc Ik.encI 3 1 w1 gr rv (rowL q.length (spreadF q.length k s)) ∧ (gr = 0 ∨ w0.heap.size < gr)) ∧ Ext w0 w1) := by
  have hE0 : Ext w0 w0 := Mod.refl _ _
  have hle1 := h_q.le
  have hle2 := h_s.le
  refine calls_enter Tryz.func178 rfl Tryz.ntmps178 rfl ?_
  refine .go 7 rfl ?_
  refine .z (.lenSl Tryz.underlying179 (h_q) rfl) ?_
  refine .z (.addI (((q.length + 1 : Nat) : Int)) rfl rfl q178_1) ?_
  refine .ac (.makeSlice (enc := Ik.encI) (q.length + 1) (0 : Int) Tryz.underlying57 ti3 (by decide) rfl Ik.encI_len rfl rfl q178_1 q178_1 q178_1 (by unfold maxLen; omega) fun v1 g1 w1 hm1 hg1 hz1 ha1 => ?_)
  have f1 := h_q.ext hm1
  have f2 := h_s.ext hm1
  have hE1 := hE0.ext hm1
  have hs1 := hm1.size
  have hr1 : (List.replicate (q.length + 1) (0 : Int)).length = q.length + 1 := List.length_replicate
  refine .go 6 rfl ?_
  refine .z (.lenSl Tryz.underlying57 (ha1.sl) rfl) ?_
  refine .gi 3 rfl ?_
  refine r_loop (I := fun m E W => ∃ (i : Nat) (row : List Int), E = [(0, v_q), (1, .int .i64 k), (2, v_s), (7, v1), (17, .int .i64 (((((List.replicate (q.length + 1) (0 : Int))).length : Nat) : Int))), (18, .int .i64 (((i : Nat) : Int)))] ∧ m = q.length + 1 - i ∧ Ext w0 W ∧ w1.heap.size ≤ W.heap.size ∧ Sl encRn W (Iv 0 w0.heap.size) v_q q ∧ Sl encPos W (Iv 0 w0.heap.size) v_s s ∧ Acc Ik.encI 3 1 W g1 v1 row ∧ (row = rowL q.length fun j => if j < i then k + 1 else 0) ∧ (row.length = q.length + 1)) ?_ ?_
  · refine ⟨_, _, ⟨(0 : Nat), ((List.replicate (q.length + 1) (0 : Int)) : List Int), rfl, rfl, hE1, Nat.le_refl _, f1, f2, ha1, (by exact fill_start _ _), (by simp)⟩, ⟨rfl, rfl, rfl, rfl, rfl, rfl, trivial⟩⟩
  · rintro _ _ w2 ⟨i, row, rfl, rfl, hE2, hs2, f3, f4, f5, hrow, hrl⟩ ih1
    refine .go 2 rfl ?_
    refine .zb (.lt rfl rfl) fun b1 hb1 => ?_
    refine .gi 2 rfl ?_
    cases b1
    case true =>
      replace hb1 := dt hb1
      refine .go 13 rfl ?_
      refine .z (.addI ((k + 1)) rfl rfl (by omega)) ?_
      obtain ⟨hr2, x1, hx1⟩ := Acc.at (P := Tryz.prog) f5 Tryz.underlying57 ti3 (k := .i64) (n := ((i : Nat) : Int)) (i) q178_1 (by first | assumption | omega | (simp; done))
      refine .z (.indexAddr rfl rfl hr2) ?_
      have hl2 := f5.lt
      refine .ac (.storeA f5 Ik.encI_len (i := i) (o := 0) hx1 ((k + 1)) ti3 rfl q178_1 rfl rfl rfl rfl (by decide) (by first | rfl | simp [Ik.encI]) fun w3 hm2 hz2 ha2 => ?_)
      have hl3 := f5.lt
      have f6 := f3.keepG hm2 (by omega)
      have f7 := f4.keepG hm2 (by omega)
      have hE3 := Ext.thenG hE2 hm2 (by omega)
      have hs3 := hm2.size
      have hl1 : (row.set i ((k + 1))).length = row.length := List.length_set
      refine .go 3 rfl ?_
      refine .z (.addI (((i + 1 : Nat) : Int)) rfl rfl q178_1) ?_
      refine .gi 2 rfl ?_
      exact (ih1 _ _ _ ⟨(i + 1 : Nat), ((row.set i ((k + 1))) : List Int), rfl, rfl, hE3, q178_1, f6, f7, ha2, (by first | exact fill_step hrow q178_1 | (exfalso; omega)), (by first | (simp only [List.length_set]; omega) | (exfalso; omega))⟩ q178_1).sub ⟨rfl, rfl, rfl, rfl, rfl, rfl, trivial⟩
    replace hb1 := df hb1
    refine .go 6 rfl ?_
    refine .z (.lenSl Tryz.underlying225 (f4) rfl) ?_
    refine .gi 3 rfl ?_
    refine r_loop (I := fun m E W => ∃ (j : Nat) (row2 : List Int), E = [(0, v_q), (1, .int .i64 k), (7, v1), (27, v_s), (28, .int .i64 (((s.length : Nat) : Int))), (29, .int .i64 (((j : Nat) : Int)))] ∧ m = s.length - j ∧ Ext w0 W ∧ w2.heap.size ≤ W.heap.size ∧ Sl encRn W (Iv 0 w0.heap.size) v_q q ∧ Acc Ik.encI 3 1 W g1 v1 row2 ∧ Sl encPos W (Iv 0 w0.heap.size) v_s s ∧ (row2 = rowL q.length (spreadF q.length k (s.take j))) ∧ (row2.length = q.length + 1)) ?_ ?_
    · refine ⟨_, _, ⟨(0 : Nat), (row : List Int), rfl, rfl, hE2, Nat.le_refl _, f3, f5, f4, (by first | exact fill_end hrow q178_1), q178_1⟩, ⟨rfl, rfl, rfl, rfl, rfl, rfl, trivial⟩⟩
    · rintro _ _ w3 ⟨j, row2, rfl, rfl, hE3, hs3, f6, f7, f8, hq2, hq2l⟩ ih2
      refine .go 2 rfl ?_
      refine .zb (.lt rfl rfl) fun b2 hb2 => ?_
      refine .gi 2 rfl ?_
      cases b2
      case true =>
        replace hb2 := dt hb2
        obtain ⟨x1, b3, o1, hx1, hr2, hl1, hu1, hw1⟩ := Sl.at' (P := Tryz.prog) f8 Tryz.underlying225 ti268 encPos_len (k := .i64) (n := ((j : Nat) : Int)) (j) q178_1 ao
        refine .go 6 rfl ?_
        refine .z (.indexAddr rfl rfl hr2) ?_
        refine .z (.loadN ti268 rfl (fun _ e => e ▸ hw1) rfl) ?_
        refine .ac (.alloc ti268 fun w4 b4 hm2 hb3 hz2 hk1 => ?_)
        have hl2 := f7.lt
        have f9 := f6.ext hm2
        have f10 := f7.ext hm2
        have f11 := f8.ext hm2
        have hE4 := hE3.ext hm2
        have hs4 := hm2.size
        refine .ac (.store ti268 rfl rfl rfl rfl rfl hk1 (Nat.le_of_ble_eq_true rfl) fun w5 hm3 hz3 hk2 => ?_)
        replace hk2 : Bk w5 b4 [.int .i64 x1.at_, .int .i64 x1.dist] 268 := hk2
        have hl3 := f10.lt
        have f12 := f9.keepG hm3 (by omega)
        have f13 := f10.keepG hm3 (by omega)
        have f14 := f11.keepG hm3 (by omega)
        have hE5 := Ext.thenG hE4 hm3 (by omega)
        have hs5 := hm3.size
        refine .go 4 rfl ?_
        refine .z (.fieldAddr fl268_0 rfl) ?_
        refine .z (.l1 ti3 hk2) ?_
        refine .zb (.lt rfl rfl) fun b5 hb4 => ?_
        refine .go 1 rfl ?_
        cases b5
        case true =>
          replace hb4 := dt hb4
          refine .go 21 rfl ?_
          refine .z (.addI (((j + 1 : Nat) : Int)) rfl rfl q178_1) ?_
          refine .gi 2 rfl ?_
          exact (ih2 _ _ _ ⟨(j + 1 : Nat), (row2 : List Int), rfl, rfl, hE5, q178_1, f12, f13, f14, q178_2, q178_3⟩ q178_1).sub ⟨rfl, rfl, rfl, rfl, rfl, rfl, trivial⟩
        replace hb4 := df hb4
        refine .z (.fieldAddr fl268_0 rfl) ?_
        refine .z (.l1 ti3 hk2) ?_
        refine .go 1 rfl ?_
        refine .z (.lenSl Tryz.underlying179 (f12) rfl) ?_
        refine .zb (.gt rfl rfl) fun b6 hb5 => ?_
        refine .go 2 rfl ?_
        cases b6
        case true =>
          replace hb5 := dt hb5
          refine .go 14 rfl ?_
          refine .z (.addI (((j + 1 : Nat) : Int)) rfl rfl q178_1) ?_
          refine .gi 2 rfl ?_
          exact (ih2 _ _ _ ⟨(j + 1 : Nat), (row2 : List Int), rfl, rfl, hE5, q178_1, f12, f13, f14, q178_2, q178_3⟩ q178_1).sub ⟨rfl, rfl, rfl, rfl, rfl, rfl, trivial⟩
        replace hb5 := df hb5
        refine .z (.fieldAddr fl268_1 rfl) ?_
        refine .z (.l1 ti3 hk2) ?_
        refine .zb (.lt rfl rfl) fun b7 hb6 => ?_
        refine .go 2 rfl ?_
        cases b7
        case true =>
          replace hb6 := dt hb6
          refine .go 9 rfl ?_
          refine .z (.addI (((j + 1 : Nat) : Int)) rfl rfl q178_1) ?_
          refine .gi 2 rfl ?_
          exact (ih2 _ _ _ ⟨(j + 1 : Nat), (row2 : List Int), rfl, rfl, hE5, q178_1, f12, f13, f14, q178_2, q178_3⟩ q178_1).sub ⟨rfl, rfl, rfl, rfl, rfl, rfl, trivial⟩
        replace hb6 := df hb6
        refine .z (.fieldAddr fl268_1 rfl) ?_
        refine .z (.l1 ti3 hk2) ?_
        refine .go 1 rfl ?_
        refine .zb (.gt rfl rfl) fun b8 hb7 => ?_
        refine .gi 2 rfl ?_
        cases b8
        case true =>
          replace hb7 := dt hb7
          refine .go 3 rfl ?_
          refine .z (.addI (((j + 1 : Nat) : Int)) rfl rfl q178_1) ?_
          refine .gi 2 rfl ?_
          exact (ih2 _ _ _ ⟨(j + 1 : Nat), (row2 : List Int), rfl, rfl, hE5, q178_1, f12, f13, f14, q178_2, q178_3⟩ q178_1).sub ⟨rfl, rfl, rfl, rfl, rfl, rfl, trivial⟩
        replace hb7 := df hb7
        refine .go 4 rfl ?_
        refine .z (.fieldAddr fl268_0 rfl) ?_
        refine .z (.l1 ti3 hk2) ?_
        refine .go 1 rfl ?_
        refine .z (.subI ((x1.at_ - k)) rfl rfl q178_1) ?_
        refine .z (.max rfl rfl) ?_
        refine .gi 3 rfl ?_
        refine r_loop (I := fun m E W => ∃ (i : Int) (row3 : List Int), E = [(0, v_q), (1, .int .i64 k), (7, v1), (10, ptr b4 0), (11, .int .i64 i), (27, v_s), (28, .int .i64 (((s.length : Nat) : Int))), (29, .int .i64 (((j : Nat) : Int)))] ∧ m = (3000 - i).toNat ∧ Ext w0 W ∧ w5.heap.size ≤ W.heap.size ∧ Sl encRn W (Iv 0 w0.heap.size) v_q q ∧ Acc Ik.encI 3 1 W g1 v1 row3 ∧ Bk W b4 [.int .i64 x1.at_, .int .i64 x1.dist] 268 ∧ Sl encPos W (Iv 0 w0.heap.size) v_s s ∧ b4 + 1 ≠ g1 ∧ (row3 = rowL q.length (spMix q.length k s j i)) ∧ (row3.length = q.length + 1) ∧ (0 ≤ i ∧ i ≤ 3000 ∧ x1.at_ - k ≤ i)) ?_ ?_
        · refine ⟨_, _, ⟨((max ((x1.at_ - k)) 0) : Int), (row2 : List Int), rfl, rfl, hE5, Nat.le_refl _, f12, f13, hk2, f14, q178_1, (by rw [hq2]; exact sp_start hx1 rfl), q178_1, q178_1⟩, ⟨rfl, rfl, rfl, rfl, rfl, rfl, rfl, rfl, trivial⟩⟩
        · rintro _ _ w6 ⟨i, row3, rfl, rfl, hE6, hs6, f15, f16, f17, f18, hn1, hq3, hq3l, hi3⟩ ih3
          refine .go 4 rfl ?_
          refine .z (.fieldAddr fl268_0 rfl) ?_
          refine .z (.l1 ti3 f17) ?_
          refine .go 1 rfl ?_
          refine .z (.addI ((x1.at_ + k)) rfl rfl q178_1) ?_
          refine .go 1 rfl ?_
          refine .z (.lenSl Tryz.underlying179 (f15) rfl) ?_
          refine .z (.min rfl rfl) ?_
          refine .zb (.le rfl rfl) fun b9 hb8 => ?_
          refine .gi 1 rfl ?_
          cases b9
          case true =>
            replace hb8 := dt hb8
            refine .gi 4 rfl ?_
            refine r_draw1 (fun i => Nat.beq i 20) 20 (fun w' => Mod (Mg 0) w6 w') mixed (by kernel_rfl) fun w7 hm4 => ?_
            have hl4 := f16.lt
            have f19 := f15.ext hm4
            have f20 := f16.ext hm4
            have f21 := f17.ext hm4
            have f22 := f18.ext hm4
            have hE7 := hE6.ext hm4
            have hs7 := hm4.size
            have hCw7 : Mod (Mg 0) w6 w7 := Mod.ofExt hm4
            refine ⟨hCw7, ?_⟩
            rw [show List.range' 0 (Array.size _) = [0, 1, 2, 3, 4, 5, 6, 7, 8, 9, 10, 11, 12, 13, 14, 15, 16, 17, 18, 19, 20] from rfl]
            obtain ⟨x2, b10, o2, hx2, hr3, hl5, hu2, hw2⟩ := Sl.at' (P := Tryz.prog) f16.sl Tryz.underlying57 ti3 Ik.encI_len (k := .i64) (n := i) ((i).toNat) q178_1 ao
            refine .gd 4 rfl ?_
            refine .z rfl (.indexAddr rfl rfl hr3) ?_
            have hx2r := rowL_at (hq3 ▸ hx2)
            have hx2g := sp_rng (n := q.length) (s := s) (j := j) (i := i) (x := i.toNat) hk.1
            refine .z rfl (.load1 ti3 rfl (fun _ hc => hw2.keepG hc q178_1)) ?_
            refine .z rfl (.fieldAddr fl268_1 rfl) ?_
            refine .z rfl (.load1 ti3 rfl (fun _ hc => (f17.cell 1 _ rfl).keepG hc q178_1)) ?_
            refine .gd 1 rfl ?_
            refine .z rfl (.fieldAddr fl268_0 rfl) ?_
            refine .z rfl (.load1 ti3 rfl (fun _ hc => (f17.cell 0 _ rfl).keepG hc q178_1)) ?_
            refine .z rfl (.subI ((i - x1.at_)) rfl rfl q178_1) ?_
            refine .z rfl (.fieldAddr fl268_0 rfl) ?_
            refine .z rfl (.load1 ti3 rfl (fun _ hc => (f17.cell 0 _ rfl).keepG hc q178_1)) ?_
            refine .gd 1 rfl ?_
            refine .z rfl (.subI ((x1.at_ - i)) rfl rfl q178_1) ?_
            refine .z rfl (.max rfl rfl) ?_
            refine .z rfl (.addI ((x1.dist + ((max ((i - x1.at_)) ((x1.at_ - i)))))) rfl rfl q178_1) ?_
            refine .z rfl (.min rfl rfl) ?_
            obtain ⟨hr4, x3, hx3⟩ := Acc.at (P := Tryz.prog) f16 Tryz.underlying57 ti3 (k := .i64) (n := i) ((i).toNat) q178_1 (by first | assumption | omega | (simp; done))
            refine .z rfl (.indexAddr rfl rfl hr4) ?_
            have hl7 := f20.lt
            refine .ac rfl (.storeA f20 Ik.encI_len (i := ((i).toNat)) (o := 0) hx3 ((min x2 ((x1.dist + ((max ((i - x1.at_)) ((x1.at_ - i)))))))) ti3 rfl q178_1 rfl rfl rfl rfl (by decide) (by first | rfl | simp [Ik.encI]) fun w8 hm5 hz4 ha2 => ?_)
            have hl8 := f20.lt
            have f23 := f19.keepG hm5 (by omega)
            have f24 := f21.keepG hm5 (by omega)
            have f25 := f22.keepG hm5 (by omega)
            have hE8 := Ext.thenG hE7 hm5 (by omega)
            have hs8 := hm5.size
            refine ⟨.inl rfl, ?_⟩
            have hl6 : (row3.set ((i).toNat) ((min x2 ((x1.dist + ((max ((i - x1.at_)) ((x1.at_ - i))))))))).length = row3.length := List.length_set
            refine .nil ?_
            refine .go 3 rfl ?_
            refine .z (.addI ((i + 1)) rfl rfl q178_1) ?_
            refine .gi 2 rfl ?_
            exact (ih3 _ _ _ ⟨((i + 1) : Int), ((row3.set ((i).toNat) ((min x2 ((x1.dist + ((max ((i - x1.at_)) ((x1.at_ - i))))))))) : List Int), rfl, rfl, hE8, q178_1, f23, ha2, f24, f25, q178_1, (by first | (subst hq3; exact sp_set hx1 q178_1 q178_1 q178_1 q178_1 q178_1 hx2) | (exfalso; omega)), (by first | (simp only [List.length_set]; omega) | (exfalso; omega)), q178_3⟩ q178_1).sub ⟨rfl, rfl, rfl, rfl, rfl, rfl, rfl, rfl, trivial⟩
          replace hb8 := df hb8
          refine .go 4 rfl ?_
          refine .z (.addI (((j + 1 : Nat) : Int)) rfl rfl q178_1) ?_
          refine .gi 2 rfl ?_
          exact (ih2 _ _ _ ⟨(j + 1 : Nat), (row3 : List Int), rfl, rfl, hE6, q178_1, f15, f16, f18, q178_2, q178_3⟩ q178_1).sub ⟨rfl, rfl, rfl, rfl, rfl, rfl, trivial⟩
      replace hb2 := df hb2
      refine .gi 7 rfl ?_
      refine r_ret1 Tryz.func178 rfl rfl ?_
      exact Ret.mk ⟨⟨_, Acc.cast f7 (by first | exact sp_fin hq2 q178_1 | (exfalso; omega)), by omega⟩, hE3⟩
set_option maxRecDepth 20000 in
set_option maxHeartbeats 4000000 in
theorem cloneI_c {w0 : World}  {v_s : Value} {s : List Int} (h_s : Sl Ik.encI w0 (Iv 0 w0.heap.size) v_s s) (hln : s.length ≤ 1000000) :
    Calls Tryz.prog 180 #[v_s] w0 (Ret fun rv w1 => (∃ gr, Acc Ik.encI 3 1 w1 gr rv (s) ∧ (gr = 0 ∨ w0.heap.size < gr)) ∧ Ext w0 w1) := by
  have hE0 : Ext w0 w0 := Mod.refl _ _
  have hle1 := h_s.le
  refine calls_enter Tryz.func180 rfl Tryz.ntmps180 rfl ?_
  obtain ⟨ad1, cp1, hv1, hz1⟩ := Sl.isNil (h_s)
  refine .go 8 rfl ?_
  subst hv1
  refine .zb (.eqNilSl Tryz.underlying57 rfl rfl) fun b1 hb1 => ?_
  refine .gi 1 rfl ?_
  cases b1
  case true =>
    replace hb1 := hb1.symm
    replace hz1 := hz1 hb1
    refine .gi 5 rfl ?_
    refine r_ret1 Tryz.func180 rfl rfl ?_
    exact Ret.mk ⟨⟨0, Acc.cast Acc.nil (by first | (symm; assumption) | simp | (exfalso; omega)), .inl rfl⟩, hE0⟩
  replace hb1 := hb1.symm
  refine .go 4 rfl ?_
  refine .ac (.buildSlice [] Tryz.underlying57 ti3 rfl rfl rfl (by decide) fun w1 b2 hm1 hb2 hz2 hk1 => ?_)
  have f1 := h_s.ext hm1
  have hE1 := hE0.ext hm1
  have hs1 := hm1.size
  have hl1 := Acc.of_blk (enc := Ik.encI) hk1 ([] : List Int) 0 rfl Ik.encI_len rfl (by unfold maxLen; omega)
  have hl2 := hl1.lt
  refine .go 1 rfl ?_
  refine .ac (.append hl1 Tryz.underlying57 ti3 rfl Ik.encI_len Ik.encI_one rfl rfl (f1) ol ox fun v1 g1 w2 ha1 hm2 hg1 hz3 => ?_)
  have hl3 := hl1.lt
  have hE2 := Ext.thenG hE1 hm2 (by omega)
  have hs2 := hm2.size
  refine .gi 2 rfl ?_
  refine r_ret1 Tryz.func180 rfl rfl ?_
  exact Ret.mk ⟨⟨_, Acc.cast ha1 (by first | (symm; assumption) | simp | (exfalso; omega)), by omega⟩, hE2⟩
theorem q181_1 {p : Prop} (h : p := by omega) : p := h
theorem q181_2 {p : Prop} (h : p := by first | exact less_go hlw (by omega) (by omega) | exact less_stepA hlw (by omega) (by omega) hx2r.1 hx1r.1 (by assumption) (by assumption) | exact less_stepB hlw (by omega) (by omega) hx2r.1 hx1r.1 (by assumption) | (exfalso; omega)) : p := h
theorem q181_3 {p : Prop} (h : p := by first | exact stT_high hl (by omega) | exact stT_less hl (less_end hlw (fun x => (hfp x).1) (by omega) (by omega)) | exact stT_more hl (by omega) (less_end hlw (fun x => (hfp x).1) (by omega) (by omega)) hx1r.1 | (exfalso; omega)) : p := h
theorem q181_4 {p : Prop} (h : p := by first | omega | (exfalso; omega)) : p := h
set_option maxRecDepth 20000 in
set_option maxHeartbeats 4000000 in
theorem astate_c {w0 : World} {n : Nat} {f : Nat → Int} {v_row : Value} {row : List Int} (k : Int) (h_row : Sl Ik.encI w0 (Iv 0 w0.heap.size) v_row row) (h_k : I64 k) (hk : 0 ≤ k ∧ k ≤ 4) (hrow : row = rowL n f) (hfp : ∀ x, 0 ≤ f x ∧ f x ≤ k + 1) (hn : n ≤ 1000) :
    Calls Tryz.prog 181 #[v_row, .int .i64 k] w0 (Ret fun rv w1 => (∃ gr, Acc encPos 268 2 w1 gr rv (stateF (n + 1) k f) ∧ (gr = 0 ∨ w0.heap.size < gr)) ∧ Ext w0 w1) := by
  have hE0 : Ext w0 w0 := Mod.refl _ _
  have hle1 := h_row.le
  have hrl : row.length = n + 1 := by rw [hrow]; exact rowL_len n f
  refine calls_enter Tryz.func181 rfl Tryz.ntmps181 rfl ?_
  refine .go 12 rfl ?_
  refine .z (.lenSl Tryz.underlying57 (h_row) rfl) ?_
  refine .gi 3 rfl ?_
  refine r_loop (I := fun m E W => ∃ (v_l : Value) (g_l : Nat) (l : List Pos) (j : Nat), E = [(0, v_row), (1, .int .i64 k), (5, v_l), (10, v_row), (11, .int .i64 (((row.length : Nat) : Int))), (12, .int .i64 (((j : Nat) : Int)))] ∧ m = row.length - j ∧ Ext w0 W ∧ w0.heap.size ≤ W.heap.size ∧ Acc encPos 268 2 W g_l v_l l ∧ (g_l = 0 ∨ w0.heap.size < g_l) ∧ Sl Ik.encI W (Iv 0 w0.heap.size) v_row row ∧ (l = stateT (n + 1) k f j) ∧ (j ≤ row.length) ∧ (l.length ≤ j)) ?_ ?_
  · refine ⟨_, _, ⟨(.slice none 0 0 : Value), (0 : Nat), ([] : List Pos), (0 : Nat), rfl, rfl, hE0, Nat.le_refl _, Acc.nil, q181_1, h_row, (by rfl), q181_1, (by exact Nat.zero_le _)⟩, ⟨rfl, rfl, rfl, rfl, rfl, rfl, trivial⟩⟩
  · rintro _ _ w1 ⟨v_l, g_l, l, j, rfl, rfl, hE1, hs1, ha1, hg1, f1, hl, hjl, hll⟩ ih1
    refine .go 2 rfl ?_
    refine .zb (.lt rfl rfl) fun b1 hb1 => ?_
    refine .gi 2 rfl ?_
    cases b1
    case true =>
      replace hb1 := dt hb1
      obtain ⟨x1, b2, o1, hx1, hr1, hl1, hu1, hw1⟩ := Sl.at' (P := Tryz.prog) f1 Tryz.underlying57 ti3 Ik.encI_len (k := .i64) (n := ((j : Nat) : Int)) (j) q181_1 ao
      refine .go 7 rfl ?_
      refine .z (.indexAddr rfl rfl hr1) ?_
      have hx1r := rowL_at (hrow ▸ hx1)
      have hx1g := hfp j
      refine .z (.lr ti3 hw1) ?_
      refine .go 8 rfl ?_
      refine .zb (.gt rfl rfl) fun b3 hb2 => ?_
      refine .gi 1 rfl ?_
      cases b3
      case true =>
        replace hb2 := dt hb2
        refine .go 3 rfl ?_
        refine .z (.addI (((j + 1 : Nat) : Int)) rfl rfl q181_1) ?_
        refine .gi 2 rfl ?_
        exact (ih1 _ _ _ ⟨(v_l : Value), (g_l : Nat), (l : List Pos), (j + 1 : Nat), rfl, rfl, hE1, q181_1, ha1, q181_1, f1, q181_3, q181_4, (by first | omega | (simp only [List.length_append, List.length_cons, List.length_nil]; omega) | (exfalso; omega))⟩ q181_1).sub ⟨rfl, rfl, rfl, rfl, rfl, rfl, trivial⟩
      replace hb2 := df hb2
      refine .go 11 rfl ?_
      refine .z (.subI ((((j : Nat) : Int) - k)) rfl rfl q181_1) ?_
      refine .z (.max rfl rfl) ?_
      refine .gi 3 rfl ?_
      refine r_loop (I := fun m E W => ∃ (b : Bool) (i : Int), E = [(0, v_row), (1, .int .i64 k), (5, v_l), (6, .int .i64 (((j : Nat) : Int))), (7, .int .i64 x1), (8, .bool b), (9, .int .i64 i), (10, v_row), (11, .int .i64 (((row.length : Nat) : Int))), (12, .int .i64 (((j : Nat) : Int)))] ∧ m = (3000 - i).toNat ∧ Ext w0 W ∧ w1.heap.size ≤ W.heap.size ∧ Sl Ik.encI W (Iv 0 w0.heap.size) v_row row ∧ Acc encPos 268 2 W g_l v_l l ∧ (b = lessW (n + 1) f j i) ∧ (0 ≤ i ∧ i ≤ 3000)) ?_ ?_
      · refine ⟨_, _, ⟨(false : Bool), ((max ((((j : Nat) : Int) - k)) 0) : Int), rfl, rfl, hE1, Nat.le_refl _, f1, ha1, (by exact less_start (fun x => (hfp x).1) q181_1 rfl), q181_1⟩, ⟨rfl, rfl, rfl, rfl, rfl, rfl, rfl, rfl, rfl, rfl, trivial⟩⟩
      · rintro _ _ w2 ⟨b, i, rfl, rfl, hE2, hs2, f2, f3, hlw, hi3⟩ ih2
        refine .go 6 rfl ?_
        refine .z (.addI ((((j : Nat) : Int) + k)) rfl rfl q181_1) ?_
        refine .go 1 rfl ?_
        refine .z (.lenSl Tryz.underlying57 (f2) rfl) ?_
        refine .z (.subI ((((row.length : Nat) : Int) - 1)) rfl rfl q181_1) ?_
        refine .z (.min rfl rfl) ?_
        refine .zb (.le rfl rfl) fun b4 hb3 => ?_
        refine .gi 1 rfl ?_
        cases b4
        case true =>
          replace hb3 := dt hb3
          refine .go 7 rfl ?_
          cases b
          case true =>
            refine .go 28 rfl ?_
            refine .z (.addI ((i + 1)) rfl rfl q181_1) ?_
            refine .gi 2 rfl ?_
            exact (ih2 _ _ _ ⟨(true : Bool), ((i + 1) : Int), rfl, rfl, hE2, q181_1, f2, f3, q181_2, q181_4⟩ q181_1).sub ⟨rfl, rfl, rfl, rfl, rfl, rfl, rfl, rfl, rfl, rfl, trivial⟩
          obtain ⟨x2, b5, o2, hx2, hr2, hl2, hu2, hw2⟩ := Sl.at' (P := Tryz.prog) f2 Tryz.underlying57 ti3 Ik.encI_len (k := .i64) (n := i) ((i).toNat) q181_1 ao
          refine .go 2 rfl ?_
          refine .z (.indexAddr rfl rfl hr2) ?_
          have hx2r := rowL_at (hrow ▸ hx2)
          have hx2g := hfp i.toNat
          refine .z (.lr ti3 hw2) ?_
          refine .go 1 rfl ?_
          refine .zb (.lt rfl rfl) fun b6 hb4 => ?_
          refine .go 1 rfl ?_
          cases b6
          case true =>
            replace hb4 := dt hb4
            refine .go 2 rfl ?_
            refine .z (.subI ((i - (((j : Nat) : Int)))) rfl rfl q181_1) ?_
            refine .go 2 rfl ?_
            refine .z (.subI ((((j : Nat) : Int) - i)) rfl rfl q181_1) ?_
            refine .z (.max rfl rfl) ?_
            obtain ⟨x3, b7, o3, hx3, hr3, hl3, hu3, hw3⟩ := Sl.at' (P := Tryz.prog) f2 Tryz.underlying57 ti3 Ik.encI_len (k := .i64) (n := i) ((i).toNat) q181_1 ao
            obtain rfl : x2 = x3 := Option.some.inj (hx2.symm.trans hx3)
            refine .go 3 rfl ?_
            refine .z (.indexAddr rfl rfl hr3) ?_
            refine .z (.lr ti3 hw3) ?_
            refine .z (.subI ((x1 - x2)) rfl rfl q181_1) ?_
            refine .zb (.le rfl rfl) fun b8 hb5 => ?_
            refine .go 7 rfl ?_
            refine .z (.addI ((i + 1)) rfl rfl q181_1) ?_
            refine .gi 2 rfl ?_
            exact (ih2 _ _ _ ⟨(b8 : Bool), ((i + 1) : Int), rfl, rfl, hE2, q181_1, f2, f3, q181_2, q181_4⟩ q181_1).sub ⟨rfl, rfl, rfl, rfl, rfl, rfl, rfl, rfl, rfl, rfl, trivial⟩
          replace hb4 := df hb4
          refine .go 21 rfl ?_
          refine .z (.addI ((i + 1)) rfl rfl (by omega)) ?_
          refine .gi 2 rfl ?_
          exact (ih2 _ _ _ ⟨(false : Bool), ((i + 1) : Int), rfl, rfl, hE2, q181_1, f2, f3, q181_2, q181_4⟩ q181_1).sub ⟨rfl, rfl, rfl, rfl, rfl, rfl, rfl, rfl, rfl, rfl, trivial⟩
        replace hb3 := df hb3
        refine .go 5 rfl ?_
        cases b
        case true =>
          refine .z (.not rfl) ?_
          refine .go 5 rfl ?_
          refine .z (.addI (((j + 1 : Nat) : Int)) rfl rfl q181_1) ?_
          refine .gi 2 rfl ?_
          exact (ih1 _ _ _ ⟨(v_l : Value), (g_l : Nat), (l : List Pos), (j + 1 : Nat), rfl, rfl, hE2, q181_1, f3, q181_1, f2, q181_3, q181_4, (by first | omega | (simp only [List.length_append, List.length_cons, List.length_nil]; omega) | (exfalso; omega))⟩ q181_1).sub ⟨rfl, rfl, rfl, rfl, rfl, rfl, trivial⟩
        refine .z (.not rfl) ?_
        refine .go 6 rfl ?_
        refine .z (.build (vs := #[(0, (.int .i64 (((j : Nat) : Int)) : Value)), (1, (.int .i64 x1 : Value))]) (v := .agg #[.int .i64 (((j : Nat) : Int)), .int .i64 x1]) rfl (fun _ => by kernel_rfl)) ?_
        refine .ac (.buildSlice [(.agg #[.int .i64 (((j : Nat) : Int)), .int .i64 x1] : Value)] Tryz.underlying225 ti268 rfl rfl rfl (by decide) fun w3 b5 hm1 hb4 hz1 hk1 => ?_)
        have hl2 := f3.lt
        have f4 := f2.ext hm1
        have f5 := f3.ext hm1
        have hE3 := hE2.ext hm1
        have hs3 := hm1.size
        have hl3 := Sl.of_blk (enc := encPos) hk1 ([(Pos.mk (((j : Nat) : Int)) x1)] : List Pos) 1 rfl rfl (by unfold maxLen; omega)
        have hl4 := f5.lt
        refine .ac (.append f5 Tryz.underlying225 ti268 rfl encPos_len encPos_one rfl rfl (hl3) ol ox fun v1 g1 w4 ha2 hm2 hg2 hz2 => ?_)
        have hl5 := f5.lt
        have f6 := f4.keepG hm2 (by omega)
        have hE4 := Ext.thenG hE3 hm2 (by omega)
        have hs4 := hm2.size
        refine .go 4 rfl ?_
        refine .z (.addI (((j + 1 : Nat) : Int)) rfl rfl q181_1) ?_
        refine .gi 2 rfl ?_
        exact (ih1 _ _ _ ⟨(v1 : Value), (g1 : Nat), ((l ++ [(Pos.mk (((j : Nat) : Int)) x1)]) : List Pos), (j + 1 : Nat), rfl, rfl, hE4, q181_1, ha2, q181_1, f6, q181_3, q181_4, (by first | omega | (simp only [List.length_append, List.length_cons, List.length_nil]; omega) | (exfalso; omega))⟩ q181_1).sub ⟨rfl, rfl, rfl, rfl, rfl, rfl, trivial⟩
    replace hb1 := df hb1
    refine .gi 7 rfl ?_
    refine r_ret1 Tryz.func181 rfl rfl ?_
    exact Ret.mk ⟨⟨_, Acc.cast ha1 (by first | (rw [hl, show j = n + 1 from by omega]; rfl) | (exfalso; omega)), by omega⟩, hE1⟩
set_option maxRecDepth 20000 in
set_option maxHeartbeats 4000000 in
theorem astart_c {w0 : World}  {v_q : Value} {q : List Int} (k : Int) (h_q : Sl encRn w0 (Iv 0 w0.heap.size) v_q q) (h_k : I64 k) (hk : 0 ≤ k ∧ k ≤ 4) :
    Calls Tryz.prog 142 #[v_q, .int .i64 k] w0 (Ret fun rv w1 => Sl encPos w1 (Iv w0.heap.size w1.heap.size) rv ([Pos.mk 0 0]) ∧ Ext w0 w1) := by
  have hE0 : Ext w0 w0 := Mod.refl _ _
  have hle1 := h_q.le
  refine calls_enter Tryz.func142 rfl Tryz.ntmps142 rfl ?_
  refine .go 8 rfl ?_
  refine .ac (.callF cl177 rfl (amay_c (w0 := w0)  (k) oa ao) ?_)
  rintro _ w1 ⟨⟨_, rfl, rfl⟩, hm1⟩
  have hE1 := hE0.ext hm1
  have hs1 := hm1.size
  refine .z (.not rfl) ?_
  refine .go 5 rfl ?_
  refine .z (.build (vs := #[]) (v := .agg #[.int .i64 0, .int .i64 0]) rfl (fun _ => by kernel_rfl)) ?_
  refine .ac (.buildSlice [(.agg #[.int .i64 0, .int .i64 0] : Value)] Tryz.underlying225 ti268 rfl rfl rfl (by decide) fun w2 b1 hm2 hb1 hz1 hk1 => ?_)
  have hE2 := hE1.ext hm2
  have hs2 := hm2.size
  have hl1 := Sl.of_blk (enc := encPos) hk1 ([(Pos.mk 0 0)] : List Pos) 1 rfl rfl (by unfold maxLen; omega)
  refine .gi 2 rfl ?_
  refine r_ret1 Tryz.func142 rfl rfl ?_
  exact Ret.mk ⟨(Sl.cast (hl1.iv (by omega) (by omega)) (by rfl)), hE2⟩
theorem q146_1 {p : Prop} (h : p := by omega) : p := h
theorem q146_2 {p : Prop} (h : p := by first | (subst hnx; first | exact stp_step (by omega) hx5 hx6 hx4 (by rw [if_pos (by rw [hx3]; congr 1)]; omega) | exact stp_step (by omega) hx5 hx6 hx4 (by rw [if_neg (by rw [hx3]; intro e; cases e; omega)])) | (exfalso; omega)) : p := h
set_option maxRecDepth 20000 in
set_option maxHeartbeats 4000000 in
theorem astep_c {w0 : World}  {v_q : Value} {q : List Int} (k : Int) {v_s : Value} {s : List Pos} (r : Int) (h_q : Sl encRn w0 (Iv 0 w0.heap.size) v_q q) (h_k : I64 k) (h_s : Sl encPos w0 (Iv 0 w0.heap.size) v_s s) (h_r : -2147483648 ≤ r ∧ r ≤ 2147483647) (hk : 0 ≤ k ∧ k ≤ 4) (hq : q.length ≤ 1000) (hsl : s.length ≤ 1000) :
    Calls Tryz.prog 146 #[v_q, .int .i64 k, v_s, .int .i32 r] w0 (Ret fun rv w1 => (∃ gr, Acc encPos 268 2 w1 gr rv (stateF (q.length + 1) k (cstepF k q (spreadF q.length k s) r)) ∧ (gr = 0 ∨ w0.heap.size < gr)) ∧ Ext w0 w1) := by
  have hE0 : Ext w0 w0 := Mod.refl _ _
  have hle1 := h_q.le
  have hle2 := h_s.le
  refine calls_enter Tryz.func146 rfl Tryz.ntmps146 rfl ?_
  refine .go 8 rfl ?_
  refine .ac (.callF cl177 rfl (amay_c (w0 := w0)  (k) oa ao) ?_)
  rintro _ w1 ⟨⟨_, rfl, rfl⟩, hm1⟩
  have f1 := h_q.ext hm1
  have f2 := h_s.ext hm1
  have hE1 := hE0.ext hm1
  have hs1 := hm1.size
  refine .z (.not rfl) ?_
  refine .go 8 rfl ?_
  refine .ac (.callF cl178 rfl (aspread_c (w0 := w1) (q := q) (s := s) (k) ((f1).iv (Nat.zero_le _) q146_1) oa ((f2).iv (Nat.zero_le _) q146_1) ao ao ao) ?_)
  rintro v1 w2 ⟨⟨gr1, h1, hg1⟩, hm2⟩
  have f3 := f1.ext hm2
  have hE2 := hE1.ext hm2
  have hs2 := hm2.size
  have hle_1 := h1.le
  have hlt_1 := h1.lt
  have hrl := rowL_len q.length (spreadF q.length k s)
  refine .go 5 rfl ?_
  refine .ac (.callF cl180 rfl (cloneI_c (w0 := w2) (s := (rowL q.length (spreadF q.length k s)))  ((h1.sl).iv (Nat.zero_le _) q146_1) ao) ?_)
  rintro v2 w3 ⟨⟨gr2, h2, hg2⟩, hm3⟩
  have hl1 := h1.lt
  have f5 := f3.ext hm3
  have f7 := h1.ext hm3
  have hE3 := hE2.ext hm3
  have hs3 := hm3.size
  have hle_2 := h2.le
  have hlt_2 := h2.lt
  obtain ⟨x1, b1, o1, hx1, hr1, hl2, hu1, hw1⟩ := Sl.at' (P := Tryz.prog) f7.sl Tryz.underlying57 ti3 Ik.encI_len (k := .i64) (n := 0) (0) q146_1 ao
  refine .go 6 rfl ?_
  refine .z (.indexAddr rfl rfl hr1) ?_
  have hx1r := rowL_at hx1
  have hx1g := spread_rng (n := q.length) hk.1 s 0
  refine .z (.lr ti3 hw1) ?_
  refine .z (.addI ((x1 + 1)) rfl rfl (by omega)) ?_
  refine .go 1 rfl ?_
  refine .z (.addI ((k + 1)) rfl rfl (by omega)) ?_
  refine .z (.min rfl rfl) ?_
  obtain ⟨hr2, x2, hx2⟩ := Acc.at (P := Tryz.prog) h2 Tryz.underlying57 ti3 (k := .i64) (n := 0) (0) q146_1 (by first | assumption | omega | (simp; done))
  refine .z (.indexAddr rfl rfl hr2) ?_
  have hl4 := h2.lt
  refine .ac (.storeA h2 Ik.encI_len (i := 0) (o := 0) hx2 ((min ((x1 + 1)) ((k + 1)))) ti3 rfl q146_1 rfl rfl rfl rfl (by decide) (by first | rfl | simp [Ik.encI]) fun w4 hm4 hz1 ha1 => ?_)
  have hl5 := f7.lt
  have hl6 := h2.lt
  have f8 := f5.keepG hm4 (by omega)
  have f10 := f7.keepG hm4 (by omega)
  have hE4 := Ext.thenG hE3 hm4 (by omega)
  have hs4 := hm4.size
  have hl3 : (((((rowL q.length (spreadF q.length k s))))).set 0 ((min ((x1 + 1)) ((k + 1))))).length = ((((rowL q.length (spreadF q.length k s))))).length := List.length_set
  refine .go 5 rfl ?_
  refine .z (.lenSl Tryz.underlying179 (f8) rfl) ?_
  refine .gi 3 rfl ?_
  refine r_loop (I := fun m E W => ∃ (i : Nat) (nx : List Int), E = [(1, .int .i64 k), (3, .int .i32 r), (9, v1), (10, v2), (32, v_q), (33, .int .i64 (((q.length : Nat) : Int))), (34, .int .i64 (((i : Nat) : Int)))] ∧ m = q.length - i ∧ Ext w0 W ∧ w4.heap.size ≤ W.heap.size ∧ Acc Ik.encI 3 1 W gr1 v1 ((rowL q.length (spreadF q.length k s))) ∧ Acc Ik.encI 3 1 W gr2 v2 nx ∧ Sl encRn W (Iv 0 w0.heap.size) v_q q ∧ (gr2 ≠ gr1 ∨ gr1 = 0) ∧ (nx = rowL q.length (stepMix q.length k q s r i)) ∧ (nx.length = q.length + 1)) ?_ ?_
  · refine ⟨_, _, ⟨(0 : Nat), ((((((rowL q.length (spreadF q.length k s))))).set 0 ((min ((x1 + 1)) ((k + 1))))) : List Int), rfl, rfl, hE4, Nat.le_refl _, f10, ha1, f8, q146_1, (by exact stp_start hx1), (by (simp only [List.length_set]; omega))⟩, ⟨rfl, rfl, rfl, rfl, rfl, rfl, rfl, trivial⟩⟩
  · rintro _ _ w5 ⟨i, nx, rfl, rfl, hE5, hs5, f11, f12, f13, hn1, hnx, hnxl⟩ ih1
    refine .go 2 rfl ?_
    refine .zb (.lt rfl rfl) fun b2 hb1 => ?_
    refine .gi 2 rfl ?_
    cases b2
    case true =>
      replace hb1 := dt hb1
      obtain ⟨x3, b3, o2, hx3, hr3, hl7, hu2, hw2⟩ := Sl.at' (P := Tryz.prog) f13 Tryz.underlying179 ti21 encRn_len (k := .i64) (n := ((i : Nat) : Int)) (i) q146_1 ao
      refine .go 7 rfl ?_
      refine .z (.indexAddr rfl rfl hr3) ?_
      refine .z (.lr ti21 hw2) ?_
      obtain ⟨x4, b4, o3, hx4, hr4, hl8, hu3, hw3⟩ := Sl.at' (P := Tryz.prog) f11.sl Tryz.underlying57 ti3 Ik.encI_len (k := .i64) (n := ((i : Nat) : Int)) (i) q146_1 ao
      refine .go 7 rfl ?_
      refine .z (.indexAddr rfl rfl hr4) ?_
      have hx4r := rowL_at hx4
      have hx4g := spread_rng (n := q.length) hk.1 s i
      refine .z (.lr ti3 hw3) ?_
      refine .go 7 rfl ?_
      refine .zb (.ne rfl rfl) fun b5 hb2 => ?_
      refine .gi 1 rfl ?_
      cases b5
      case true =>
        replace hb2 := bne_iff_ne.1 hb2.symm
        refine .go 3 rfl ?_
        refine .z (.addI ((x4 + 1)) rfl rfl (by omega)) ?_
        refine .gi 2 rfl ?_
        refine r_draw1 (fun i => Nat.beq i 19) 19 (fun w' => Mod (Mg 0) w5 w') mixed (by kernel_rfl) fun w6 hm5 => ?_
        have hl9 := f11.lt
        have hl10 := f12.lt
        have f14 := f11.ext hm5
        have f15 := f12.ext hm5
        have f16 := f13.ext hm5
        have hE6 := hE5.ext hm5
        have hs6 := hm5.size
        have hCw6 : Mod (Mg 0) w5 w6 := Mod.ofExt hm5
        refine ⟨hCw6, ?_⟩
        rw [show List.range' 0 (Array.size _) = [0, 1, 2, 3, 4, 5, 6, 7, 8, 9, 10, 11, 12, 13, 14, 15, 16, 17, 18, 19] from rfl]
        refine .gd 2 rfl ?_
        refine .z rfl (.addI (((i + 1 : Nat) : Int)) rfl rfl q146_1) ?_
        refine .gd 2 rfl ?_
        refine .z rfl (.addI (((i + 1 : Nat) : Int)) rfl rfl q146_1) ?_
        obtain ⟨x5, b6, o4, hx5, hr5, hl11, hu4, hw4⟩ := Sl.at' (P := Tryz.prog) f11.sl Tryz.underlying57 ti3 Ik.encI_len (k := .i64) (n := ((i + 1 : Nat) : Int)) (i + 1) q146_1 ao
        refine .z rfl (.indexAddr rfl rfl hr5) ?_
        have hx5r := rowL_at hx5
        have hx5g := spread_rng (n := q.length) hk.1 s (i + 1)
        refine .z rfl (.load1 ti3 rfl (fun _ hc => hw4.keepG hc q146_1)) ?_
        refine .z rfl (.addI ((x5 + 1)) rfl rfl q146_1) ?_
        obtain ⟨x6, b7, o5, hx6, hr6, hl12, hu5, hw5⟩ := Sl.at' (P := Tryz.prog) f12.sl Tryz.underlying57 ti3 Ik.encI_len (k := .i64) (n := ((i : Nat) : Int)) (i) q146_1 ao
        refine .gd 2 rfl ?_
        refine .z rfl (.indexAddr rfl rfl hr6) ?_
        have hx6r := rowL_at (hnx ▸ hx6)
        have hx6g := stepMix_rng (n := q.length) (q := q) (r := r) hk.1 s i i
        refine .z rfl (.load1 ti3 rfl (fun _ hc => hw5.keepG hc q146_1)) ?_
        refine .z rfl (.addI ((x6 + 1)) rfl rfl q146_1) ?_
        refine .gd 2 rfl ?_
        refine .z rfl (.addI ((k + 1)) rfl rfl q146_1) ?_
        refine .z rfl (.min4 rfl rfl rfl rfl) ?_
        obtain ⟨hr7, x7, hx7⟩ := Acc.at (P := Tryz.prog) f12 Tryz.underlying57 ti3 (k := .i64) (n := ((i + 1 : Nat) : Int)) (i + 1) q146_1 (by first | assumption | omega | (simp; done))
        refine .z rfl (.indexAddr rfl rfl hr7) ?_
        have hl14 := f15.lt
        refine .ac rfl (.storeA f15 Ik.encI_len (i := (i + 1)) (o := 0) hx7 ((min ((min ((min ((x5 + 1)) ((x6 + 1)))) ((x4 + 1)))) ((k + 1)))) ti3 rfl q146_1 rfl rfl rfl rfl (by decide) (by first | rfl | simp [Ik.encI]) fun w7 hm6 hz2 ha2 => ?_)
        have hl15 := f14.lt
        have hl16 := f15.lt
        have f17 := f14.keepG hm6 (by omega)
        have f18 := f16.keepG hm6 (by omega)
        have hE7 := Ext.thenG hE6 hm6 (by omega)
        have hs7 := hm6.size
        refine ⟨.inl rfl, ?_⟩
        have hl13 : (nx.set (i + 1) ((min ((min ((min ((x5 + 1)) ((x6 + 1)))) ((x4 + 1)))) ((k + 1))))).length = nx.length := List.length_set
        refine .nil ?_
        refine .go 2 rfl ?_
        refine .z (.addI (((i + 1 : Nat) : Int)) rfl rfl q146_1) ?_
        refine .gi 2 rfl ?_
        exact (ih1 _ _ _ ⟨(i + 1 : Nat), ((nx.set (i + 1) ((min ((min ((min ((x5 + 1)) ((x6 + 1)))) ((x4 + 1)))) ((k + 1))))) : List Int), rfl, rfl, hE7, q146_1, f17, ha2, f18, q146_1, q146_2, (by first | (simp only [List.length_set]; omega) | (exfalso; omega))⟩ q146_1).sub ⟨rfl, rfl, rfl, rfl, rfl, rfl, rfl, trivial⟩
      replace hb2 := bne_eq_false_iff_eq.1 hb2.symm
      refine .gi 2 rfl ?_
      refine r_draw1 (fun i => Nat.beq i 19) 19 (fun w' => Mod (Mg 0) w5 w') mixed (by kernel_rfl) fun w6 hm5 => ?_
      have hl9 := f11.lt
      have hl10 := f12.lt
      have f14 := f11.ext hm5
      have f15 := f12.ext hm5
      have f16 := f13.ext hm5
      have hE6 := hE5.ext hm5
      have hs6 := hm5.size
      have hCw6 : Mod (Mg 0) w5 w6 := Mod.ofExt hm5
      refine ⟨hCw6, ?_⟩
      rw [show List.range' 0 (Array.size _) = [0, 1, 2, 3, 4, 5, 6, 7, 8, 9, 10, 11, 12, 13, 14, 15, 16, 17, 18, 19] from rfl]
      refine .gd 2 rfl ?_
      refine .z rfl (.addI (((i + 1 : Nat) : Int)) rfl rfl q146_1) ?_
      refine .gd 2 rfl ?_
      refine .z rfl (.addI (((i + 1 : Nat) : Int)) rfl rfl q146_1) ?_
      obtain ⟨x5, b6, o4, hx5, hr5, hl11, hu4, hw4⟩ := Sl.at' (P := Tryz.prog) f11.sl Tryz.underlying57 ti3 Ik.encI_len (k := .i64) (n := ((i + 1 : Nat) : Int)) (i + 1) q146_1 ao
      refine .z rfl (.indexAddr rfl rfl hr5) ?_
      have hx5r := rowL_at hx5
      have hx5g := spread_rng (n := q.length) hk.1 s (i + 1)
      refine .z rfl (.load1 ti3 rfl (fun _ hc => hw4.keepG hc q146_1)) ?_
      refine .z rfl (.addI ((x5 + 1)) rfl rfl (by omega)) ?_
      obtain ⟨x6, b7, o5, hx6, hr6, hl12, hu5, hw5⟩ := Sl.at' (P := Tryz.prog) f12.sl Tryz.underlying57 ti3 Ik.encI_len (k := .i64) (n := ((i : Nat) : Int)) (i) q146_1 ao
      refine .gd 2 rfl ?_
      refine .z rfl (.indexAddr rfl rfl hr6) ?_
      have hx6r := rowL_at (hnx ▸ hx6)
      have hx6g := stepMix_rng (n := q.length) (q := q) (r := r) hk.1 s i i
      refine .z rfl (.load1 ti3 rfl (fun _ hc => hw5.keepG hc q146_1)) ?_
      refine .z rfl (.addI ((x6 + 1)) rfl rfl (by omega)) ?_
      refine .gd 2 rfl ?_
      refine .z rfl (.addI ((k + 1)) rfl rfl (by omega)) ?_
      refine .z rfl (.min4 rfl rfl rfl rfl) ?_
      obtain ⟨hr7, x7, hx7⟩ := Acc.at (P := Tryz.prog) f12 Tryz.underlying57 ti3 (k := .i64) (n := ((i + 1 : Nat) : Int)) (i + 1) q146_1 (by first | assumption | omega | (simp; done))
      refine .z rfl (.indexAddr rfl rfl hr7) ?_
      have hl14 := f15.lt
      refine .ac rfl (.storeA f15 Ik.encI_len (i := (i + 1)) (o := 0) hx7 ((min ((min ((min ((x5 + 1)) ((x6 + 1)))) x4)) ((k + 1)))) ti3 rfl q146_1 rfl rfl rfl rfl (by decide) (by first | rfl | simp [Ik.encI]) fun w7 hm6 hz2 ha2 => ?_)
      have hl15 := f14.lt
      have hl16 := f15.lt
      have f17 := f14.keepG hm6 (by omega)
      have f18 := f16.keepG hm6 (by omega)
      have hE7 := Ext.thenG hE6 hm6 (by omega)
      have hs7 := hm6.size
      refine ⟨.inl rfl, ?_⟩
      have hl13 : (nx.set (i + 1) ((min ((min ((min ((x5 + 1)) ((x6 + 1)))) x4)) ((k + 1))))).length = nx.length := List.length_set
      refine .nil ?_
      refine .go 2 rfl ?_
      refine .z (.addI (((i + 1 : Nat) : Int)) rfl rfl q146_1) ?_
      refine .gi 2 rfl ?_
      exact (ih1 _ _ _ ⟨(i + 1 : Nat), ((nx.set (i + 1) ((min ((min ((min ((x5 + 1)) ((x6 + 1)))) x4)) ((k + 1))))) : List Int), rfl, rfl, hE7, q146_1, f17, ha2, f18, q146_1, q146_2, (by first | (simp only [List.length_set]; omega) | (exfalso; omega))⟩ q146_1).sub ⟨rfl, rfl, rfl, rfl, rfl, rfl, rfl, trivial⟩
    replace hb1 := df hb1
    refine .go 6 rfl ?_
    refine .ac (.callF cl181 rfl (astate_c (w0 := w5) (row := nx) (k) ((f12.sl).iv (Nat.zero_le _) q146_1) oa ao (by exact stp_fin hnx q146_1) (by exact cstep_rng hk.1 (spread_rng hk.1 s)) ao) ?_)
    rintro v3 w6 ⟨⟨gr3, h3, hg3⟩, hm5⟩
    have hl7 := f11.lt
    have hl8 := f12.lt
    have hE6 := hE5.ext hm5
    have hs6 := hm5.size
    have hle_3 := h3.le
    have hlt_3 := h3.lt
    refine .gi 2 rfl ?_
    refine r_ret1 Tryz.func146 rfl rfl ?_
    exact Ret.mk ⟨⟨_, Acc.cast h3 (by rfl), by omega⟩, hE6⟩
theorem q143_1 {p : Prop} (h : p := by first | (rw [if_pos (by omega)]; done) | (rw [if_neg (by omega)]; omega) | exact (decide_eq_false (by omega)).symm | exact (decide_eq_true (by omega)).symm | (exfalso; omega)) : p := h
set_option maxRecDepth 20000 in
set_option maxHeartbeats 4000000 in
theorem adist_c {w0 : World}  {v_q : Value} {q : List Int} (k : Int) {v_s : Value} {s : List Pos} (h_q : Sl encRn w0 (Iv 0 w0.heap.size) v_q q) (h_k : I64 k) (h_s : Sl encPos w0 (Iv 0 w0.heap.size) v_s s) (hk : 0 ≤ k ∧ k ≤ 4) (hq : q.length ≤ 1000) (hsl : s.length ≤ 1000) :
    Calls Tryz.prog 143 #[v_q, .int .i64 k, v_s] w0 (Ret fun rv w1 => ∃ u0 u1, rv = .tuple #[u0, u1] ∧ u0 = .int .i64 (if spreadF q.length k s q.length > k then 0 else spreadF q.length k s q.length) ∧ (∃ rb : Bool, rb = (decide (spreadF q.length k s q.length ≤ k)) ∧ u1 = .bool rb) ∧ Ext w0 w1) := by
  have hE0 : Ext w0 w0 := Mod.refl _ _
  have hle1 := h_q.le
  have hle2 := h_s.le
  refine calls_enter Tryz.func143 rfl Tryz.ntmps143 rfl ?_
  refine .go 9 rfl ?_
  refine .ac (.callF cl177 rfl (amay_c (w0 := w0)  (k) oa ao) ?_)
  rintro _ w1 ⟨⟨_, rfl, rfl⟩, hm1⟩
  have f1 := h_q.ext hm1
  have f2 := h_s.ext hm1
  have hE1 := hE0.ext hm1
  have hs1 := hm1.size
  refine .z (.not rfl) ?_
  refine .go 8 rfl ?_
  refine .ac (.callF cl178 rfl (aspread_c (w0 := w1) (q := q) (s := s) (k) ((f1).iv (Nat.zero_le _) (by omega)) oa ((f2).iv (Nat.zero_le _) (by omega)) ao ao ao) ?_)
  rintro v1 w2 ⟨⟨gr1, h1, hg1⟩, hm2⟩
  have f3 := f1.ext hm2
  have hE2 := hE1.ext hm2
  have hs2 := hm2.size
  have hle_1 := h1.le
  have hlt_1 := h1.lt
  have hrl := rowL_len q.length (spreadF q.length k s)
  refine .go 1 rfl ?_
  refine .z (.lenSl Tryz.underlying179 (f3) rfl) ?_
  obtain ⟨x1, b1, o1, hx1, hr1, hl1, hu1, hw1⟩ := Sl.at' (P := Tryz.prog) h1.sl Tryz.underlying57 ti3 Ik.encI_len (k := .i64) (n := ((q.length : Nat) : Int)) (q.length) (by omega) ao
  refine .z (.indexAddr rfl rfl hr1) ?_
  have hx1r := rowL_at hx1
  have hx1g := spread_rng (n := q.length) hk.1 s q.length
  refine .z (.lr ti3 hw1) ?_
  refine .go 7 rfl ?_
  refine .zb (.gt rfl rfl) fun b2 hb1 => ?_
  refine .gi 1 rfl ?_
  cases b2
  case true =>
    replace hb1 := dt hb1
    refine .gi 6 rfl ?_
    refine r_ret2 Tryz.func143 rfl rfl rfl ?_
    exact Ret.mk ⟨_, _, rfl, (congrArg (Value.int .i64) q143_1), ⟨_, q143_1, rfl⟩, hE2⟩
  replace hb1 := df hb1
  refine .gi 8 rfl ?_
  refine r_ret2 Tryz.func143 rfl rfl rfl ?_
  exact Ret.mk ⟨_, _, rfl, (congrArg (Value.int .i64) q143_1), ⟨_, q143_1, rfl⟩, hE2⟩
set_option maxRecDepth 20000 in
set_option maxHeartbeats 4000000 in
theorem adead_c {w0 : World}  {v_s : Value} {s : List Pos} (h_s : Sl encPos w0 (Iv 0 w0.heap.size) v_s s) :
    Calls Tryz.prog 147 #[v_s] w0 (Ret fun rv w1 => (∃ rb : Bool, rb = s.isEmpty ∧ rv = .bool rb) ∧ Ext w0 w1) := by
  have hE0 : Ext w0 w0 := Mod.refl _ _
  have hle1 := h_s.le
  refine calls_enter Tryz.func147 rfl Tryz.ntmps147 rfl ?_
  refine .go 7 rfl ?_
  refine .z (.lenSl Tryz.underlying225 (h_s) rfl) ?_
  refine .zb (.eq rfl rfl) fun b1 hb1 => ?_
  refine .gi 2 rfl ?_
  refine r_ret1 Tryz.func147 rfl rfl ?_
  exact Ret.mk ⟨⟨_, (by first | exact isEmpty_len (by assumption) | (exfalso; omega)), rfl⟩, hE0⟩
end Go.Proofs
