/-
  What the law PackReads needs, part 4 of 8: theory, and walks through the code.
-/
import Derived.Test.YtajedfbogchkcaaSPackReadsC
set_option linter.unusedVariables false
set_option linter.unusedSimpArgs false
namespace Go.Proofs
open Go.Ik Go.Ml
set_option maxRecDepth 20000 in
set_option maxHeartbeats 4000000 in
theorem whole1_c : ∀ (f : Nat) {w0 : World} {F G : Nat → Prop} {bga bst bfn : Nat} {vS : Value} {st : List Int} {bG : Nat} {vn : Value} {nds : List RNode} {N : List GN} (n : Nat) (d : Int) (hA : (whR (R := fun _ => False) 33 55 3 173 125 bga bst bfn bG vS st).p F w0) (hF : ∀ b, F b → b < w0.heap.size) (hrw : Row w0 bG 0 [vn]) (hGb : G bG) (hsl : Sl encN w0 G vn nds) (hrel : NRel w0 G nds N) (hG : ∀ b, G b → ¬ F b) (hGl : ∀ b, G b → b < w0.heap.size) (hNl : N.length ≤ 1000000) (hel : ∀ x ∈ N, x.2.length ≤ 1000000) (hed : ∀ x ∈ N, ∀ e ∈ x.2, 1 ≤ e.to ∧ e.to < (N.length : Int)) (hst : st.length = N.length) (hn : n < N.length) (hd : 0 ≤ d ∧ d ≤ 13 ∧ 13 ≤ d + f),
    Calls Try.prog 125 #[.int .i64 (n : Int), .int .i64 d, ptr bga 0, ptr bst 0, ptr bfn 0] w0 (Ret fun rv w1 => rv = .bool (goesW N (f + 1) n d st).1 ∧ Mod F w0 w1 ∧ ∃ F2, (whR (R := fun _ => False) 33 55 3 173 125 bga bst bfn bG vS ((goesW N (f + 1) n d st).2)).p F2 w1 ∧ ∀ b, F2 b → b < w1.heap.size ∧ (F b ∨ w0.heap.size ≤ b)) := by
  intro f
  induction f using Nat.strongRecOn with
  | _ f ih0 =>
  intro w0 F G bga bst bfn vS st bG vn nds N n d hA hF hrw hGb hsl hrel hG hGl hNl hel hed hst hn hd
  have hS00 := St.start1 (R := fun _ => False) hA (fun b hb => ⟨hF b hb, id⟩) (fun _ h => h.elim)
  have hnl := (All2.get hrel).1
  change St (fun _ => False) F w0 w0 [boxR [bkR bga [ptr bG 0] 33, bkR bst [vS] 55, accR Ik.encI 3 1 vS st, bkR bfn [.func (.func 125) #[] #[ptr bga 0, ptr bst 0, ptr bfn 0]] 173]] at hS00
  have hS1 : St (fun _ => False) F w0 w0 [bkR bga [ptr bG 0] 33, bkR bst [vS] 55, accR Ik.encI 3 1 vS st, bkR bfn [.func (.func 125) #[] #[ptr bga 0, ptr bst 0, ptr bfn 0]] 173] := St.open (L1 := []) hS00
  refine calls_enter Try.func125 rfl Try.ntmps125 rfl ?_
  refine r_seq ?_
  refine r_region ?_
  refine OL.q (Q1.assign rfl) rfl rfl ?_
  refine OL.nil ?_
  refine r_seq ?_
  refine r_region ?_
  have f1 := hS1.bk (i := 0) rfl
  refine OL.q (Q1.load1 ti33 rfl (fun _ e => e ▸ (f1.cell 0 _ rfl))) rfl rfl ?_
  refine OL.q (Q1.nilCheckP rfl) rfl rfl ?_
  refine OL.q (Q1.fieldAddr fl86_0 rfl) rfl rfl ?_
  refine OL.q (Q1.load1 ti84 rfl (fun _ e => e ▸ hrw)) rfl rfl ?_
  refine OL.q (Q1.move rfl) rfl rfl ?_
  obtain ⟨x1, b1, o1, hx1, hr1, hl1, hw1⟩ := Sl.atF (P := Try.prog) hsl Try.underlying84 ti91 encN_len (k := .i64) (n := ((n : Nat) : Int)) (n) (by omega) (by first | assumption | omega)
  refine OL.q (Q1.indexAddr rfl rfl hr1) rfl rfl ?_
  refine OL.q (Q1.loadN ti91 rfl (fun _ e => e ▸ hw1) rfl) rfl rfl ?_
  obtain ⟨gn1, hgn1, hgf1, hgs1⟩ := hrel.at hx1
  have hel_gn1 := hel _ (List.mem_of_getElem? hgn1)
  obtain ⟨fb1, hfq1⟩ : ∃ b, x1.fin = b := ⟨_, rfl⟩
  first | rw [show encN x1 = [.bool fb1, x1.e.val] from by rw [← hfq1]; rfl] | rw [hfq1]
  have hfb1 : fb1 = gn1.1 := by rw [← hfq1]; first | exact hgf1 | exact hgf1.symm
  refine OL.act rfl rfl (AW.alloc ti91 ?_)
  intro w1 b2 hm1 hb1 hz1 hk1
  have hS2 := hS1.ext hm1
  have hS3 : St (fun _ => False) F w0 w1 [bkR bga [ptr bG 0] 33, bkR bst [vS] 55, accR Ik.encI 3 1 vS st, bkR bfn [.func (.func 125) #[] #[ptr bga 0, ptr bst 0, ptr bfn 0]] 173, bkR b2 [.bool false, .slice none 0 0] 91] := hS1.newBk hm1 hb1 hk1
  have f2 := hS3.bk (i := 4) rfl
  refine OL.act rfl rfl (AW.store ti91 rfl rfl rfl rfl rfl f2 (Nat.le_of_ble_eq_true rfl) ?_)
  intro w2 hm2 hz2 hk2
  have hS4 : St (fun _ => False) F w0 w2 [bkR bga [ptr bG 0] 33, bkR bst [vS] 55, accR Ik.encI 3 1 vS st, bkR bfn [.func (.func 125) #[] #[ptr bga 0, ptr bst 0, ptr bfn 0]] 173, bkR b2 [.bool fb1, x1.e.val] 91] := hS3.bkK (i := 4) rfl hm2 hk2
  refine OL.nil ?_
  refine r_seq ?_
  refine r_seq ?_
  refine r_region ?_
  have f3 := hS4.bk (i := 1) rfl
  refine OL.q (Q1.load1 ti55 rfl (fun _ e => e ▸ (f3.cell 0 _ rfl))) rfl rfl ?_
  refine OL.q (Q1.move rfl) rfl rfl ?_
  obtain ⟨g1, f4, hl2, k1⟩ := hS4.accK (i := 2) rfl
  obtain ⟨x2, b3, o2, hx2, hr2, hl3, hw2⟩ := Sl.atF (P := Try.prog) f4.sl Try.underlying55 ti3 Ik.encI_len (k := .i64) (n := ((n : Nat) : Int)) (n) (by omega) (by first | assumption | omega)
  refine OL.q (Q1.indexAddr rfl rfl hr2) rfl rfl ?_
  refine OL.q (Q1.load1 ti3 rfl (fun _ e => e ▸ hw2)) rfl rfl ?_
  refine OL.qb (Q1.eq rfl rfl) rfl rfl ?_
  intro b4 hb2
  refine OL.nil ?_
  cases b4 with
  | true =>
    replace hb2 := eq_of_beq hb2.symm
    refine r_cond_t rfl ?_
    refine r_seq ?_
    refine r_region ?_
    refine OL.q (Q1.assign rfl) rfl rfl ?_
    refine OL.nil ?_
    refine r_ret1 Try.func125 rfl rfl ?_
    have hS5 : St (fun _ => False) F w0 w2 [bkR b2 [.bool fb1, x1.e.val] 91, bkR bga [ptr bG 0] 33, bkR bst [vS] 55, accR Ik.encI 3 1 vS st, bkR bfn [.func (.func 125) #[] #[ptr bga 0, ptr bst 0, ptr bfn 0]] 173] := hS4.sel [4, 0, 1, 2, 3] (by rfl) (by decide)
    have hS6 : St (fun _ => False) F w0 w2 [bkR b2 [.bool fb1, x1.e.val] 91, boxR [bkR bga [ptr bG 0] 33, bkR bst [vS] 55, accR Ik.encI 3 1 vS st, bkR bfn [.func (.func 125) #[] #[ptr bga 0, ptr bst 0, ptr bfn 0]] 173]] := St.close (L1 := [bkR b2 [.bool fb1, x1.e.val] 91]) hS5
    have hS7 : St (fun _ => False) F w0 w2 [boxR [bkR bga [ptr bG 0] 33, bkR bst [vS] 55, accR Ik.encI 3 1 vS st, bkR bfn [.func (.func 125) #[] #[ptr bga 0, ptr bst 0, ptr bfn 0]] 173]] := hS6.sel [1] (by rfl) (by decide)
    obtain ⟨hmF, F2r, hAr, hFr⟩ := hS7.fin
    have hw : goesW N (f + 1) n d st = (true, st) := by first | exact goesW_done (d := d) hgn1 (by assumption) (by assumption) | exact goesW_no (d := d) hgn1 (by assumption) (by assumption) (by first | exact .inl (by assumption) | exact .inr (.inl (by assumption)) | exact .inr (.inr ⟨by assumption, by first | assumption | exact List.eq_nil_of_length_eq_zero (by omega)⟩))
    exact Ret.mk ⟨by rw [hw], hmF, F2r, by rw [hw]; exact hAr, hFr⟩
  | false =>
    replace hb2 := ne_of_beq_false hb2.symm
    refine r_cond_f rfl ?_
    refine r_skip ?_
    refine r_seq ?_
    refine r_seq ?_
    refine r_region ?_
    refine OL.q (Q1.load1 ti55 rfl (fun _ e => e ▸ (f3.cell 0 _ rfl))) rfl rfl ?_
    refine OL.q (Q1.move rfl) rfl rfl ?_
    obtain ⟨x3, b5, o3, hx3, hr3, hl4, hw3⟩ := Sl.atF (P := Try.prog) f4.sl Try.underlying55 ti3 Ik.encI_len (k := .i64) (n := ((n : Nat) : Int)) (n) (by omega) (by first | assumption | omega)
    obtain rfl : x2 = x3 := Option.some.inj (hx2.symm.trans hx3)
    refine OL.q (Q1.indexAddr rfl rfl hr3) rfl rfl ?_
    refine OL.q (Q1.load1 ti3 rfl (fun _ e => e ▸ hw3)) rfl rfl ?_
    refine OL.qb (Q1.eq rfl rfl) rfl rfl ?_
    intro b6 hb3
    refine OL.q (Q1.move rfl) rfl rfl ?_
    cases b6 with
    | true =>
      replace hb3 := eq_of_beq hb3.symm
      refine OL.sk rfl rfl ?_
      refine OL.sk rfl rfl ?_
      refine OL.q (Q1.pick_t rfl rfl) rfl rfl ?_
      refine OL.q (Q1.move rfl) rfl rfl ?_
      refine OL.sk rfl rfl ?_
      refine OL.sk rfl rfl ?_
      refine OL.sk rfl rfl ?_
      refine OL.sk rfl rfl ?_
      refine OL.sk rfl rfl ?_
      refine OL.sk rfl rfl ?_
      refine OL.sk rfl rfl ?_
      refine OL.sk rfl rfl ?_
      refine OL.sk rfl rfl ?_
      refine OL.q (Q1.pick_t rfl rfl) rfl rfl ?_
      refine OL.nil ?_
      refine r_cond_t rfl ?_
      refine r_seq ?_
      refine r_region ?_
      refine OL.q (Q1.assign rfl) rfl rfl ?_
      refine OL.nil ?_
      refine r_ret1 Try.func125 rfl rfl ?_
      have hS5 : St (fun _ => False) F w0 w2 [bkR b2 [.bool fb1, x1.e.val] 91, bkR bga [ptr bG 0] 33, bkR bst [vS] 55, accR Ik.encI 3 1 vS st, bkR bfn [.func (.func 125) #[] #[ptr bga 0, ptr bst 0, ptr bfn 0]] 173] := hS4.sel [4, 0, 1, 2, 3] (by rfl) (by decide)
      have hS6 : St (fun _ => False) F w0 w2 [bkR b2 [.bool fb1, x1.e.val] 91, boxR [bkR bga [ptr bG 0] 33, bkR bst [vS] 55, accR Ik.encI 3 1 vS st, bkR bfn [.func (.func 125) #[] #[ptr bga 0, ptr bst 0, ptr bfn 0]] 173]] := St.close (L1 := [bkR b2 [.bool fb1, x1.e.val] 91]) hS5
      have hS7 : St (fun _ => False) F w0 w2 [boxR [bkR bga [ptr bG 0] 33, bkR bst [vS] 55, accR Ik.encI 3 1 vS st, bkR bfn [.func (.func 125) #[] #[ptr bga 0, ptr bst 0, ptr bfn 0]] 173]] := hS6.sel [1] (by rfl) (by decide)
      obtain ⟨hmF, F2r, hAr, hFr⟩ := hS7.fin
      have hw : goesW N (f + 1) n d st = (false, st) := by first | exact goesW_done (d := d) hgn1 (by assumption) (by assumption) | exact goesW_no (d := d) hgn1 (by assumption) (by assumption) (by first | exact .inl (by assumption) | exact .inr (.inl (by assumption)) | exact .inr (.inr ⟨by assumption, by first | assumption | exact List.eq_nil_of_length_eq_zero (by omega)⟩))
      exact Ret.mk ⟨by rw [hw], hmF, F2r, by rw [hw]; exact hAr, hFr⟩
    | false =>
      replace hb3 := ne_of_beq_false hb3.symm
      refine OL.q (Q1.move rfl) rfl rfl ?_
      refine OL.qb (Q1.gt rfl rfl) rfl rfl ?_
      intro b7 hb4
      refine OL.q (Q1.pick_f rfl rfl) rfl rfl ?_
      refine OL.q (Q1.move rfl) rfl rfl ?_
      cases b7 with
      | true =>
        replace hb4 := of_decide_eq_true hb4.symm
        refine OL.sk rfl rfl ?_
        refine OL.sk rfl rfl ?_
        refine OL.sk rfl rfl ?_
        refine OL.sk rfl rfl ?_
        refine OL.sk rfl rfl ?_
        refine OL.sk rfl rfl ?_
        refine OL.sk rfl rfl ?_
        refine OL.sk rfl rfl ?_
        refine OL.sk rfl rfl ?_
        refine OL.q (Q1.pick_t rfl rfl) rfl rfl ?_
        refine OL.nil ?_
        refine r_cond_t rfl ?_
        refine r_seq ?_
        refine r_region ?_
        refine OL.q (Q1.assign rfl) rfl rfl ?_
        refine OL.nil ?_
        refine r_ret1 Try.func125 rfl rfl ?_
        have hS5 : St (fun _ => False) F w0 w2 [bkR b2 [.bool fb1, x1.e.val] 91, bkR bga [ptr bG 0] 33, bkR bst [vS] 55, accR Ik.encI 3 1 vS st, bkR bfn [.func (.func 125) #[] #[ptr bga 0, ptr bst 0, ptr bfn 0]] 173] := hS4.sel [4, 0, 1, 2, 3] (by rfl) (by decide)
        have hS6 : St (fun _ => False) F w0 w2 [bkR b2 [.bool fb1, x1.e.val] 91, boxR [bkR bga [ptr bG 0] 33, bkR bst [vS] 55, accR Ik.encI 3 1 vS st, bkR bfn [.func (.func 125) #[] #[ptr bga 0, ptr bst 0, ptr bfn 0]] 173]] := St.close (L1 := [bkR b2 [.bool fb1, x1.e.val] 91]) hS5
        have hS7 : St (fun _ => False) F w0 w2 [boxR [bkR bga [ptr bG 0] 33, bkR bst [vS] 55, accR Ik.encI 3 1 vS st, bkR bfn [.func (.func 125) #[] #[ptr bga 0, ptr bst 0, ptr bfn 0]] 173]] := hS6.sel [1] (by rfl) (by decide)
        obtain ⟨hmF, F2r, hAr, hFr⟩ := hS7.fin
        have hw : goesW N (f + 1) n d st = (false, st) := by first | exact goesW_done (d := d) hgn1 (by assumption) (by assumption) | exact goesW_no (d := d) hgn1 (by assumption) (by assumption) (by first | exact .inl (by assumption) | exact .inr (.inl (by assumption)) | exact .inr (.inr ⟨by assumption, by first | assumption | exact List.eq_nil_of_length_eq_zero (by omega)⟩))
        exact Ret.mk ⟨by rw [hw], hmF, F2r, by rw [hw]; exact hAr, hFr⟩
      | false =>
        replace hb4 := of_decide_eq_false hb4.symm
        refine OL.q (Q1.fieldAddr fl91_0 rfl) rfl rfl ?_
        have f5 := hS4.bk (i := 4) rfl
        refine OL.q (Q1.load1 ti4 rfl (fun _ e => e ▸ (f5.cell 0 _ rfl))) rfl rfl ?_
        cases fb1 with
        | true =>
          replace hfb1 := hfb1.symm
          refine OL.q (Q1.not rfl) rfl rfl ?_
          refine OL.q (Q1.move rfl) rfl rfl ?_
          refine OL.sk rfl rfl ?_
          refine OL.sk rfl rfl ?_
          refine OL.sk rfl rfl ?_
          refine OL.sk rfl rfl ?_
          refine OL.q (Q1.pick_f rfl rfl) rfl rfl ?_
          refine OL.q (Q1.pick_f rfl rfl) rfl rfl ?_
          refine OL.nil ?_
          refine r_cond_f rfl ?_
          refine r_skip ?_
          refine r_seq ?_
          refine r_region ?_
          refine OL.q (Q1.load1 ti55 rfl (fun _ e => e ▸ (f3.cell 0 _ rfl))) rfl rfl ?_
          refine OL.q (Q1.move rfl) rfl rfl ?_
          obtain ⟨hr4, x4, hx4⟩ := Acc.at (P := Try.prog) f4 Try.underlying55 ti3 (k := .i64) (n := ((n : Nat) : Int)) (n) (by omega) (by first | assumption | omega | (simp; done))
          refine OL.q (Q1.indexAddr rfl rfl hr4) rfl rfl ?_
          refine OL.act rfl rfl (AW.storeA f4 Ik.encI_len (i := n) (o := 0) hx4 1 ti3 rfl (by first | omega | rfl) rfl rfl rfl rfl (by decide) (by first | rfl | simp [Ik.encI]) ?_)
          intro w3 hm3 hz3 ha1
          have hl5 : (st.set n 1).length = st.length := List.length_set
          have hS5 : St (fun _ => False) F w0 w3 [bkR bga [ptr bG 0] 33, bkR bst [vS] 55, accR Ik.encI 3 1 vS ((st.set n 1)), bkR bfn [.func (.func 125) #[] #[ptr bga 0, ptr bst 0, ptr bfn 0]] 173, bkR b2 [.bool true, x1.e.val] 91] := k1 _ _ _ _ hm3 ha1 (.inl rfl)
          refine OL.nil ?_
          refine r_seq ?_
          refine r_seq ?_
          refine r_region ?_
          refine OL.q (Q1.fieldAddr fl91_1 rfl) rfl rfl ?_
          have f6 := hS5.bk (i := 4) rfl
          refine OL.q (Q1.load1 ti49 rfl (fun _ e => e ▸ (f6.cell 1 _ rfl))) rfl rfl ?_
          have f7 := hS5.out hgs1 hG
          refine OL.q (Q1.lenSl Try.underlying49 (f7) rfl) rfl rfl ?_
          refine OL.q (Q1.move rfl) rfl rfl ?_
          refine OL.nil ?_
          refine r_block ?_
          have hS7 : St (fun _ => False) F w0 w3 [accR Ik.encI 3 1 vS ((st.set n 1)), bkR bst [vS] 55, bkR bga [ptr bG 0] 33, bkR bfn [.func (.func 125) #[] #[ptr bga 0, ptr bst 0, ptr bfn 0]] 173] := hS5.sel [2, 1, 0, 3] (by rfl) (by decide)
          refine r_loop (I := fun m E W => ∃ (sk : List Int) (k : Nat), E = [(0, .int .i64 (((n : Nat) : Int))), (1, .int .i64 d), (3, ptr bst 0), (4, ptr bfn 0), (47, x1.e.val), (48, .int .i64 (((gn1.2.length : Nat) : Int))), (49, .int .i64 (((k : Nat) : Int)))] ∧ m = gn1.2.length - k ∧ St (fun _ => False) F w0 W [accR Ik.encI 3 1 vS sk, bkR bst [vS] 55, bkR bga [ptr bG 0] 33, bkR bfn [.func (.func 125) #[] #[ptr bga 0, ptr bst 0, ptr bfn 0]] 173] ∧ ((eachW (fun st e => goesW N f e.to.toNat (d + 1) st) (st.set n 1) gn1.2) = eachW (fun st e => goesW N f e.to.toNat (d + 1) st) sk (gn1.2.drop k)) ∧ (sk.length = N.length) ∧ (k ≤ gn1.2.length)) ?_ ?_
          · refine ⟨_, _, ⟨((st.set n 1) : List Int), (0 : Nat), rfl, rfl, hS7, (by rw [List.drop_zero]), (by simp only [List.length_set]; omega), (by omega)⟩, ⟨rfl, rfl, rfl, rfl, rfl, rfl, rfl, trivial⟩⟩
          · rintro _ _ w4 ⟨sk, k, rfl, rfl, hS6, hR, hskl, hkl⟩ ih1
            refine r_seq ?_
            refine r_region ?_
            refine OL.qb (Q1.lt rfl rfl) rfl rfl ?_
            intro b8 hb5
            refine OL.nil ?_
            refine r_seq ?_
            cases b8 with
            | true =>
              replace hb5 := of_decide_eq_true hb5.symm
              refine r_cond_t rfl ?_
              refine r_skip ?_
              refine r_seq ?_
              refine r_block ?_
              refine r_seq ?_
              refine r_region ?_
              have f8 := hS6.out hgs1 hG
              obtain ⟨x5, b9, o4, hx5, hr5, hl6, hw4⟩ := Sl.atF (P := Try.prog) f8 Try.underlying49 ti94 encE_len (k := .i64) (n := ((k : Nat) : Int)) (k) (by omega) (by first | assumption | omega)
              refine OL.q (Q1.indexAddr rfl rfl hr5) rfl rfl ?_
              refine OL.q (Q1.loadN ti94 rfl (fun _ e => e ▸ hw4) rfl) rfl rfl ?_
              have hxE := hx5
              refine OL.act rfl rfl (AW.alloc ti94 ?_)
              intro w5 b10 hm4 hb6 hz4 hk3
              have hS8 := hS6.ext hm4
              have hS9 : St (fun _ => False) F w0 w5 [accR Ik.encI 3 1 vS sk, bkR bst [vS] 55, bkR bga [ptr bG 0] 33, bkR bfn [.func (.func 125) #[] #[ptr bga 0, ptr bst 0, ptr bfn 0]] 173, bkR b10 [.int .i32 0, .int .i64 0] 94] := hS6.newBk hm4 hb6 hk3
              have f9 := hS9.bk (i := 4) rfl
              refine OL.act rfl rfl (AW.store ti94 rfl rfl rfl rfl rfl f9 (Nat.le_of_ble_eq_true rfl) ?_)
              intro w6 hm5 hz5 hk4
              have hS10 : St (fun _ => False) F w0 w6 [accR Ik.encI 3 1 vS sk, bkR bst [vS] 55, bkR bga [ptr bG 0] 33, bkR bfn [.func (.func 125) #[] #[ptr bga 0, ptr bst 0, ptr bfn 0]] 173, bkR b10 [.int .i32 x5.rune, .int .i64 x5.to] 94] := hS9.bkK (i := 4) rfl hm5 hk4
              refine OL.nil ?_
              refine r_seq ?_
              refine r_region ?_
              have f10 := hS10.bk (i := 3) rfl
              refine OL.q (Q1.load1 ti173 rfl (fun _ e => e ▸ (f10.cell 0 _ rfl))) rfl rfl ?_
              refine OL.q (Q1.fieldAddr fl94_1 rfl) rfl rfl ?_
              have f11 := hS10.bk (i := 4) rfl
              refine OL.q (Q1.load1 ti3 rfl (fun _ e => e ▸ (f11.cell 1 _ rfl))) rfl rfl ?_
              refine OL.q (Q1.move rfl) rfl rfl ?_
              refine OL.q (Q1.addI ((d + 1)) rfl rfl (by omega)) rfl rfl ?_
              have hS11 : St (fun _ => False) F w0 w6 [bkR b10 [.int .i32 x5.rune, .int .i64 x5.to] 94, bkR bga [ptr bG 0] 33, bkR bst [vS] 55, accR Ik.encI 3 1 vS sk, bkR bfn [.func (.func 125) #[] #[ptr bga 0, ptr bst 0, ptr bfn 0]] 173] := hS10.sel [4, 2, 1, 0, 3] (by rfl) (by decide)
              have hS12 : St (fun _ => False) F w0 w6 [bkR b10 [.int .i32 x5.rune, .int .i64 x5.to] 94, boxR [bkR bga [ptr bG 0] 33, bkR bst [vS] 55, accR Ik.encI 3 1 vS sk, bkR bfn [.func (.func 125) #[] #[ptr bga 0, ptr bst 0, ptr bfn 0]] 173]] := St.close (L1 := [bkR b10 [.int .i32 x5.rune, .int .i64 x5.to] 94]) hS11
              have hto := hed _ (List.mem_of_getElem? hgn1) _ (List.mem_of_getElem? hx5)
              obtain ⟨f2, hf2⟩ : ∃ f2, f = f2 + 1 := ⟨f - 1, by omega⟩
              obtain ⟨Fy1, hAy1, hFy1, hky1⟩ := hS12.act (i := 1) rfl
              refine OL.act rfl rfl (AW.call (first := []) (cap := [ptr bga 0, ptr bst 0, ptr bfn 0]) cl125 rfl rfl (toArgs (ih0 f2 (by omega) (x5.to).toNat ((d + 1)) hAy1 (fun b hb => (hFy1 b hb).2) (hrw.keep hS12.mod (hG _ hGb)) hGb (hsl.keep hS12.mod hG) (hrel.keep hS12.mod hG) (fun b hb hx => by have := (hFy1 b hx).1.1; rcases this with h | h; exact hG b hb h; have := hGl b hb; omega) (fun b hb => Nat.lt_of_lt_of_le (hGl b hb) hS12.mod.size) hNl hel hed (by first | omega | (simp only [List.length_replicate]; done)) (by omega) (by omega)) (by omega)) ?_)
              rintro _ w7 ⟨rfl, hm6, F1, hB1, hF1⟩
              rw [← hf2] at hB1 ⊢
              have hS13 : St (fun _ => False) F w0 w7 [bkR b10 [.int .i32 x5.rune, .int .i64 x5.to] 94, whR 33 55 3 173 125 bga bst bfn bG vS ((goesW N f ((x5.to).toNat) ((d + 1)) sk).2)] := hky1 _ _ _ hm6 hB1 hF1
              clear hAy1 hFy1 hky1 hB1 hF1
              have hgl := goesW_len N f (x5.to).toNat ((d + 1)) sk
              change St (fun _ => False) F w0 w7 [bkR b10 [.int .i32 x5.rune, .int .i64 x5.to] 94, boxR [bkR bga [ptr bG 0] 33, bkR bst [vS] 55, accR Ik.encI 3 1 vS (goesW N f ((x5.to).toNat) ((d + 1)) sk).2, bkR bfn [.func (.func 125) #[] #[ptr bga 0, ptr bst 0, ptr bfn 0]] 173]] at hS13
              have hS14 : St (fun _ => False) F w0 w7 [bkR b10 [.int .i32 x5.rune, .int .i64 x5.to] 94, bkR bga [ptr bG 0] 33, bkR bst [vS] 55, accR Ik.encI 3 1 vS ((goesW N f ((x5.to).toNat) ((d + 1)) sk).2), bkR bfn [.func (.func 125) #[] #[ptr bga 0, ptr bst 0, ptr bfn 0]] 173] := St.open (L1 := [bkR b10 [.int .i32 x5.rune, .int .i64 x5.to] 94]) hS13
              generalize hb7 : (goesW N f ((x5.to).toNat) ((d + 1)) sk).1 = b11
              replace hb7 := hb7.symm
              cases b11 with
              | true =>
                replace hb7 := hb7.symm
                refine OL.q (Q1.not rfl) rfl rfl ?_
                refine OL.nil ?_
                refine r_cond_f rfl ?_
                refine r_skip ?_
                refine r_inBlock ?_
                refine r_region ?_
                refine OL.q (Q1.addI (((k + 1 : Nat) : Int)) rfl rfl (by omega)) rfl rfl ?_
                refine OL.q (Q1.move rfl) rfl rfl ?_
                refine OL.nil ?_
                have hS15 : St (fun _ => False) F w0 w7 [accR Ik.encI 3 1 vS ((goesW N f ((x5.to).toNat) ((d + 1)) sk).2), bkR bst [vS] 55, bkR bga [ptr bG 0] 33, bkR bfn [.func (.func 125) #[] #[ptr bga 0, ptr bst 0, ptr bfn 0]] 173] := hS14.sel [3, 2, 1, 4] (by rfl) (by decide)
                exact (ih1 _ _ _ ⟨((goesW N f ((x5.to).toNat) ((d + 1)) sk).2 : List Int), (k + 1 : Nat), rfl, rfl, hS15, (by first | exact eachW_step hR hxE (by first | assumption | (symm; assumption)) | (exfalso; omega)), (by first | omega | (exfalso; omega)), (by first | omega | (exfalso; omega))⟩ (by omega)).sub ⟨rfl, rfl, rfl, rfl, rfl, rfl, rfl, trivial⟩
              | false =>
                replace hb7 := hb7.symm
                refine OL.q (Q1.not rfl) rfl rfl ?_
                refine OL.nil ?_
                refine r_cond_t rfl ?_
                refine r_seq ?_
                refine r_region ?_
                refine OL.q (Q1.assign rfl) rfl rfl ?_
                refine OL.nil ?_
                refine r_ret1 Try.func125 rfl rfl ?_
                have hS15 : St (fun _ => False) F w0 w7 [bkR b10 [.int .i32 x5.rune, .int .i64 x5.to] 94, boxR [bkR bga [ptr bG 0] 33, bkR bst [vS] 55, accR Ik.encI 3 1 vS ((goesW N f ((x5.to).toNat) ((d + 1)) sk).2), bkR bfn [.func (.func 125) #[] #[ptr bga 0, ptr bst 0, ptr bfn 0]] 173]] := St.close (L1 := [bkR b10 [.int .i32 x5.rune, .int .i64 x5.to] 94]) hS14
                have hS16 : St (fun _ => False) F w0 w7 [boxR [bkR bga [ptr bG 0] 33, bkR bst [vS] 55, accR Ik.encI 3 1 vS ((goesW N f ((x5.to).toNat) ((d + 1)) sk).2), bkR bfn [.func (.func 125) #[] #[ptr bga 0, ptr bst 0, ptr bfn 0]] 173]] := hS15.sel [1] (by rfl) (by decide)
                obtain ⟨hmF, F2r, hAr, hFr⟩ := hS16.fin
                have hz := eachW_stop hR hxE (by first | assumption | (symm; assumption))
                have hw : goesW N (f + 1) n d st = (false, (goesW N f ((x5.to).toNat) ((d + 1)) sk).2) := goesW_goF (d := d) hgn1 hx2 (by assumption) (by intro h; rcases h with h | h | ⟨h1, h2⟩; omega; omega; first | exact absurd (show false = true from h1.symm.trans (by assumption)) (by decide) | (have := congrArg List.length h2; simp only [List.length_nil] at this; omega)) hz
                exact Ret.mk ⟨by rw [hw], hmF, F2r, by rw [hw]; exact hAr, hFr⟩
            | false =>
              replace hb5 := of_decide_eq_false hb5.symm
              refine r_cond_f rfl ?_
              refine r_exit rfl ?_
              refine r_seq ?_
              refine r_region ?_
              have f8 := hS6.bk (i := 1) rfl
              refine OL.q (Q1.load1 ti55 rfl (fun _ e => e ▸ (f8.cell 0 _ rfl))) rfl rfl ?_
              refine OL.q (Q1.move rfl) rfl rfl ?_
              obtain ⟨g2, f9, hl6, k2⟩ := hS6.accK (i := 0) rfl
              obtain ⟨hr5, x5, hx5⟩ := Acc.at (P := Try.prog) f9 Try.underlying55 ti3 (k := .i64) (n := ((n : Nat) : Int)) (n) (by omega) (by first | assumption | omega | (simp; done))
              refine OL.q (Q1.indexAddr rfl rfl hr5) rfl rfl ?_
              refine OL.act rfl rfl (AW.storeA f9 Ik.encI_len (i := n) (o := 0) hx5 2 ti3 rfl (by first | omega | rfl) rfl rfl rfl rfl (by decide) (by first | rfl | simp [Ik.encI]) ?_)
              intro w5 hm4 hz4 ha2
              have hl7 : (sk.set n 2).length = sk.length := List.length_set
              have hS8 : St (fun _ => False) F w0 w5 [accR Ik.encI 3 1 vS ((sk.set n 2)), bkR bst [vS] 55, bkR bga [ptr bG 0] 33, bkR bfn [.func (.func 125) #[] #[ptr bga 0, ptr bst 0, ptr bfn 0]] 173] := k2 _ _ _ _ hm4 ha2 (.inl rfl)
              refine OL.nil ?_
              refine r_seq ?_
              refine r_region ?_
              refine OL.q (Q1.assign rfl) rfl rfl ?_
              refine OL.nil ?_
              refine r_ret1 Try.func125 rfl rfl ?_
              have hS9 : St (fun _ => False) F w0 w5 [bkR bga [ptr bG 0] 33, bkR bst [vS] 55, accR Ik.encI 3 1 vS ((sk.set n 2)), bkR bfn [.func (.func 125) #[] #[ptr bga 0, ptr bst 0, ptr bfn 0]] 173] := hS8.sel [2, 1, 0, 3] (by rfl) (by decide)
              have hS10 : St (fun _ => False) F w0 w5 [boxR [bkR bga [ptr bG 0] 33, bkR bst [vS] 55, accR Ik.encI 3 1 vS ((sk.set n 2)), bkR bfn [.func (.func 125) #[] #[ptr bga 0, ptr bst 0, ptr bfn 0]] 173]] := St.close (L1 := []) hS9
              obtain ⟨hmF, F2r, hAr, hFr⟩ := hS10.fin
              have hz := eachW_end hR (by omega)
              have hw : goesW N (f + 1) n d st = (true, (sk.set n 2)) := goesW_goT (d := d) hgn1 hx2 (by assumption) (by intro h; rcases h with h | h | ⟨h1, h2⟩; omega; omega; first | exact absurd (show false = true from h1.symm.trans (by assumption)) (by decide) | (have := congrArg List.length h2; simp only [List.length_nil] at this; omega)) hz
              exact Ret.mk ⟨by rw [hw], hmF, F2r, by rw [hw]; exact hAr, hFr⟩
        | false =>
          replace hfb1 := hfb1.symm
          refine OL.q (Q1.not rfl) rfl rfl ?_
          refine OL.q (Q1.move rfl) rfl rfl ?_
          refine OL.q (Q1.fieldAddr fl91_1 rfl) rfl rfl ?_
          refine OL.q (Q1.load1 ti49 rfl (fun _ e => e ▸ (f5.cell 1 _ rfl))) rfl rfl ?_
          have f6 := hS4.out hgs1 hG
          refine OL.q (Q1.lenSl Try.underlying49 (f6) rfl) rfl rfl ?_
          refine OL.qb (Q1.eq rfl rfl) rfl rfl ?_
          intro b8 hb5
          refine OL.q (Q1.pick_t rfl rfl) rfl rfl ?_
          refine OL.q (Q1.pick_f rfl rfl) rfl rfl ?_
          refine OL.nil ?_
          cases b8 with
          | true =>
            replace hb5 := eq_of_beq hb5.symm
            refine r_cond_t rfl ?_
            refine r_seq ?_
            refine r_region ?_
            refine OL.q (Q1.assign rfl) rfl rfl ?_
            refine OL.nil ?_
            refine r_ret1 Try.func125 rfl rfl ?_
            have hS5 : St (fun _ => False) F w0 w2 [bkR b2 [.bool false, x1.e.val] 91, bkR bga [ptr bG 0] 33, bkR bst [vS] 55, accR Ik.encI 3 1 vS st, bkR bfn [.func (.func 125) #[] #[ptr bga 0, ptr bst 0, ptr bfn 0]] 173] := hS4.sel [4, 0, 1, 2, 3] (by rfl) (by decide)
            have hS6 : St (fun _ => False) F w0 w2 [bkR b2 [.bool false, x1.e.val] 91, boxR [bkR bga [ptr bG 0] 33, bkR bst [vS] 55, accR Ik.encI 3 1 vS st, bkR bfn [.func (.func 125) #[] #[ptr bga 0, ptr bst 0, ptr bfn 0]] 173]] := St.close (L1 := [bkR b2 [.bool false, x1.e.val] 91]) hS5
            have hS7 : St (fun _ => False) F w0 w2 [boxR [bkR bga [ptr bG 0] 33, bkR bst [vS] 55, accR Ik.encI 3 1 vS st, bkR bfn [.func (.func 125) #[] #[ptr bga 0, ptr bst 0, ptr bfn 0]] 173]] := hS6.sel [1] (by rfl) (by decide)
            obtain ⟨hmF, F2r, hAr, hFr⟩ := hS7.fin
            have hw : goesW N (f + 1) n d st = (false, st) := by first | exact goesW_done (d := d) hgn1 (by assumption) (by assumption) | exact goesW_no (d := d) hgn1 (by assumption) (by assumption) (by first | exact .inl (by assumption) | exact .inr (.inl (by assumption)) | exact .inr (.inr ⟨by assumption, by first | assumption | exact List.eq_nil_of_length_eq_zero (by omega)⟩))
            exact Ret.mk ⟨by rw [hw], hmF, F2r, by rw [hw]; exact hAr, hFr⟩
          | false =>
            replace hb5 := ne_of_beq_false hb5.symm
            refine r_cond_f rfl ?_
            refine r_skip ?_
            refine r_seq ?_
            refine r_region ?_
            refine OL.q (Q1.load1 ti55 rfl (fun _ e => e ▸ (f3.cell 0 _ rfl))) rfl rfl ?_
            refine OL.q (Q1.move rfl) rfl rfl ?_
            obtain ⟨hr4, x4, hx4⟩ := Acc.at (P := Try.prog) f4 Try.underlying55 ti3 (k := .i64) (n := ((n : Nat) : Int)) (n) (by omega) (by first | assumption | omega | (simp; done))
            refine OL.q (Q1.indexAddr rfl rfl hr4) rfl rfl ?_
            refine OL.act rfl rfl (AW.storeA f4 Ik.encI_len (i := n) (o := 0) hx4 1 ti3 rfl (by first | omega | rfl) rfl rfl rfl rfl (by decide) (by first | rfl | simp [Ik.encI]) ?_)
            intro w3 hm3 hz3 ha1
            have hl5 : (st.set n 1).length = st.length := List.length_set
            have hS5 : St (fun _ => False) F w0 w3 [bkR bga [ptr bG 0] 33, bkR bst [vS] 55, accR Ik.encI 3 1 vS ((st.set n 1)), bkR bfn [.func (.func 125) #[] #[ptr bga 0, ptr bst 0, ptr bfn 0]] 173, bkR b2 [.bool false, x1.e.val] 91] := k1 _ _ _ _ hm3 ha1 (.inl rfl)
            refine OL.nil ?_
            refine r_seq ?_
            refine r_seq ?_
            refine r_region ?_
            refine OL.q (Q1.fieldAddr fl91_1 rfl) rfl rfl ?_
            have f7 := hS5.bk (i := 4) rfl
            refine OL.q (Q1.load1 ti49 rfl (fun _ e => e ▸ (f7.cell 1 _ rfl))) rfl rfl ?_
            have f8 := hS5.out hgs1 hG
            refine OL.q (Q1.lenSl Try.underlying49 (f8) rfl) rfl rfl ?_
            refine OL.q (Q1.move rfl) rfl rfl ?_
            refine OL.nil ?_
            refine r_block ?_
            have hS7 : St (fun _ => False) F w0 w3 [accR Ik.encI 3 1 vS ((st.set n 1)), bkR bst [vS] 55, bkR bga [ptr bG 0] 33, bkR bfn [.func (.func 125) #[] #[ptr bga 0, ptr bst 0, ptr bfn 0]] 173] := hS5.sel [2, 1, 0, 3] (by rfl) (by decide)
            refine r_loop (I := fun m E W => ∃ (sk : List Int) (k : Nat), E = [(0, .int .i64 (((n : Nat) : Int))), (1, .int .i64 d), (3, ptr bst 0), (4, ptr bfn 0), (47, x1.e.val), (48, .int .i64 (((gn1.2.length : Nat) : Int))), (49, .int .i64 (((k : Nat) : Int)))] ∧ m = gn1.2.length - k ∧ St (fun _ => False) F w0 W [accR Ik.encI 3 1 vS sk, bkR bst [vS] 55, bkR bga [ptr bG 0] 33, bkR bfn [.func (.func 125) #[] #[ptr bga 0, ptr bst 0, ptr bfn 0]] 173] ∧ ((eachW (fun st e => goesW N f e.to.toNat (d + 1) st) (st.set n 1) gn1.2) = eachW (fun st e => goesW N f e.to.toNat (d + 1) st) sk (gn1.2.drop k)) ∧ (sk.length = N.length) ∧ (k ≤ gn1.2.length)) ?_ ?_
            · refine ⟨_, _, ⟨((st.set n 1) : List Int), (0 : Nat), rfl, rfl, hS7, (by rw [List.drop_zero]), (by simp only [List.length_set]; omega), (by omega)⟩, ⟨rfl, rfl, rfl, rfl, rfl, rfl, rfl, trivial⟩⟩
            · rintro _ _ w4 ⟨sk, k, rfl, rfl, hS6, hR, hskl, hkl⟩ ih1
              refine r_seq ?_
              refine r_region ?_
              refine OL.qb (Q1.lt rfl rfl) rfl rfl ?_
              intro b9 hb6
              refine OL.nil ?_
              refine r_seq ?_
              cases b9 with
              | true =>
                replace hb6 := of_decide_eq_true hb6.symm
                refine r_cond_t rfl ?_
                refine r_skip ?_
                refine r_seq ?_
                refine r_block ?_
                refine r_seq ?_
                refine r_region ?_
                have f9 := hS6.out hgs1 hG
                obtain ⟨x5, b10, o4, hx5, hr5, hl6, hw4⟩ := Sl.atF (P := Try.prog) f9 Try.underlying49 ti94 encE_len (k := .i64) (n := ((k : Nat) : Int)) (k) (by omega) (by first | assumption | omega)
                refine OL.q (Q1.indexAddr rfl rfl hr5) rfl rfl ?_
                refine OL.q (Q1.loadN ti94 rfl (fun _ e => e ▸ hw4) rfl) rfl rfl ?_
                have hxE := hx5
                refine OL.act rfl rfl (AW.alloc ti94 ?_)
                intro w5 b11 hm4 hb7 hz4 hk3
                have hS8 := hS6.ext hm4
                have hS9 : St (fun _ => False) F w0 w5 [accR Ik.encI 3 1 vS sk, bkR bst [vS] 55, bkR bga [ptr bG 0] 33, bkR bfn [.func (.func 125) #[] #[ptr bga 0, ptr bst 0, ptr bfn 0]] 173, bkR b11 [.int .i32 0, .int .i64 0] 94] := hS6.newBk hm4 hb7 hk3
                have f10 := hS9.bk (i := 4) rfl
                refine OL.act rfl rfl (AW.store ti94 rfl rfl rfl rfl rfl f10 (Nat.le_of_ble_eq_true rfl) ?_)
                intro w6 hm5 hz5 hk4
                have hS10 : St (fun _ => False) F w0 w6 [accR Ik.encI 3 1 vS sk, bkR bst [vS] 55, bkR bga [ptr bG 0] 33, bkR bfn [.func (.func 125) #[] #[ptr bga 0, ptr bst 0, ptr bfn 0]] 173, bkR b11 [.int .i32 x5.rune, .int .i64 x5.to] 94] := hS9.bkK (i := 4) rfl hm5 hk4
                refine OL.nil ?_
                refine r_seq ?_
                refine r_region ?_
                have f11 := hS10.bk (i := 3) rfl
                refine OL.q (Q1.load1 ti173 rfl (fun _ e => e ▸ (f11.cell 0 _ rfl))) rfl rfl ?_
                refine OL.q (Q1.fieldAddr fl94_1 rfl) rfl rfl ?_
                have f12 := hS10.bk (i := 4) rfl
                refine OL.q (Q1.load1 ti3 rfl (fun _ e => e ▸ (f12.cell 1 _ rfl))) rfl rfl ?_
                refine OL.q (Q1.move rfl) rfl rfl ?_
                refine OL.q (Q1.addI ((d + 1)) rfl rfl (by omega)) rfl rfl ?_
                have hS11 : St (fun _ => False) F w0 w6 [bkR b11 [.int .i32 x5.rune, .int .i64 x5.to] 94, bkR bga [ptr bG 0] 33, bkR bst [vS] 55, accR Ik.encI 3 1 vS sk, bkR bfn [.func (.func 125) #[] #[ptr bga 0, ptr bst 0, ptr bfn 0]] 173] := hS10.sel [4, 2, 1, 0, 3] (by rfl) (by decide)
                have hS12 : St (fun _ => False) F w0 w6 [bkR b11 [.int .i32 x5.rune, .int .i64 x5.to] 94, boxR [bkR bga [ptr bG 0] 33, bkR bst [vS] 55, accR Ik.encI 3 1 vS sk, bkR bfn [.func (.func 125) #[] #[ptr bga 0, ptr bst 0, ptr bfn 0]] 173]] := St.close (L1 := [bkR b11 [.int .i32 x5.rune, .int .i64 x5.to] 94]) hS11
                have hto := hed _ (List.mem_of_getElem? hgn1) _ (List.mem_of_getElem? hx5)
                obtain ⟨f2, hf2⟩ : ∃ f2, f = f2 + 1 := ⟨f - 1, by omega⟩
                obtain ⟨Fy1, hAy1, hFy1, hky1⟩ := hS12.act (i := 1) rfl
                refine OL.act rfl rfl (AW.call (first := []) (cap := [ptr bga 0, ptr bst 0, ptr bfn 0]) cl125 rfl rfl (toArgs (ih0 f2 (by omega) (x5.to).toNat ((d + 1)) hAy1 (fun b hb => (hFy1 b hb).2) (hrw.keep hS12.mod (hG _ hGb)) hGb (hsl.keep hS12.mod hG) (hrel.keep hS12.mod hG) (fun b hb hx => by have := (hFy1 b hx).1.1; rcases this with h | h; exact hG b hb h; have := hGl b hb; omega) (fun b hb => Nat.lt_of_lt_of_le (hGl b hb) hS12.mod.size) hNl hel hed (by first | omega | (simp only [List.length_replicate]; done)) (by omega) (by omega)) (by omega)) ?_)
                rintro _ w7 ⟨rfl, hm6, F1, hB1, hF1⟩
                rw [← hf2] at hB1 ⊢
                have hS13 : St (fun _ => False) F w0 w7 [bkR b11 [.int .i32 x5.rune, .int .i64 x5.to] 94, whR 33 55 3 173 125 bga bst bfn bG vS ((goesW N f ((x5.to).toNat) ((d + 1)) sk).2)] := hky1 _ _ _ hm6 hB1 hF1
                clear hAy1 hFy1 hky1 hB1 hF1
                have hgl := goesW_len N f (x5.to).toNat ((d + 1)) sk
                change St (fun _ => False) F w0 w7 [bkR b11 [.int .i32 x5.rune, .int .i64 x5.to] 94, boxR [bkR bga [ptr bG 0] 33, bkR bst [vS] 55, accR Ik.encI 3 1 vS (goesW N f ((x5.to).toNat) ((d + 1)) sk).2, bkR bfn [.func (.func 125) #[] #[ptr bga 0, ptr bst 0, ptr bfn 0]] 173]] at hS13
                have hS14 : St (fun _ => False) F w0 w7 [bkR b11 [.int .i32 x5.rune, .int .i64 x5.to] 94, bkR bga [ptr bG 0] 33, bkR bst [vS] 55, accR Ik.encI 3 1 vS ((goesW N f ((x5.to).toNat) ((d + 1)) sk).2), bkR bfn [.func (.func 125) #[] #[ptr bga 0, ptr bst 0, ptr bfn 0]] 173] := St.open (L1 := [bkR b11 [.int .i32 x5.rune, .int .i64 x5.to] 94]) hS13
                generalize hb8 : (goesW N f ((x5.to).toNat) ((d + 1)) sk).1 = b12
                replace hb8 := hb8.symm
                cases b12 with
                | true =>
                  replace hb8 := hb8.symm
                  refine OL.q (Q1.not rfl) rfl rfl ?_
                  refine OL.nil ?_
                  refine r_cond_f rfl ?_
                  refine r_skip ?_
                  refine r_inBlock ?_
                  refine r_region ?_
                  refine OL.q (Q1.addI (((k + 1 : Nat) : Int)) rfl rfl (by omega)) rfl rfl ?_
                  refine OL.q (Q1.move rfl) rfl rfl ?_
                  refine OL.nil ?_
                  have hS15 : St (fun _ => False) F w0 w7 [accR Ik.encI 3 1 vS ((goesW N f ((x5.to).toNat) ((d + 1)) sk).2), bkR bst [vS] 55, bkR bga [ptr bG 0] 33, bkR bfn [.func (.func 125) #[] #[ptr bga 0, ptr bst 0, ptr bfn 0]] 173] := hS14.sel [3, 2, 1, 4] (by rfl) (by decide)
                  exact (ih1 _ _ _ ⟨((goesW N f ((x5.to).toNat) ((d + 1)) sk).2 : List Int), (k + 1 : Nat), rfl, rfl, hS15, (by first | exact eachW_step hR hxE (by first | assumption | (symm; assumption)) | (exfalso; omega)), (by first | omega | (exfalso; omega)), (by first | omega | (exfalso; omega))⟩ (by omega)).sub ⟨rfl, rfl, rfl, rfl, rfl, rfl, rfl, trivial⟩
                | false =>
                  replace hb8 := hb8.symm
                  refine OL.q (Q1.not rfl) rfl rfl ?_
                  refine OL.nil ?_
                  refine r_cond_t rfl ?_
                  refine r_seq ?_
                  refine r_region ?_
                  refine OL.q (Q1.assign rfl) rfl rfl ?_
                  refine OL.nil ?_
                  refine r_ret1 Try.func125 rfl rfl ?_
                  have hS15 : St (fun _ => False) F w0 w7 [bkR b11 [.int .i32 x5.rune, .int .i64 x5.to] 94, boxR [bkR bga [ptr bG 0] 33, bkR bst [vS] 55, accR Ik.encI 3 1 vS ((goesW N f ((x5.to).toNat) ((d + 1)) sk).2), bkR bfn [.func (.func 125) #[] #[ptr bga 0, ptr bst 0, ptr bfn 0]] 173]] := St.close (L1 := [bkR b11 [.int .i32 x5.rune, .int .i64 x5.to] 94]) hS14
                  have hS16 : St (fun _ => False) F w0 w7 [boxR [bkR bga [ptr bG 0] 33, bkR bst [vS] 55, accR Ik.encI 3 1 vS ((goesW N f ((x5.to).toNat) ((d + 1)) sk).2), bkR bfn [.func (.func 125) #[] #[ptr bga 0, ptr bst 0, ptr bfn 0]] 173]] := hS15.sel [1] (by rfl) (by decide)
                  obtain ⟨hmF, F2r, hAr, hFr⟩ := hS16.fin
                  have hz := eachW_stop hR hxE (by first | assumption | (symm; assumption))
                  have hw : goesW N (f + 1) n d st = (false, (goesW N f ((x5.to).toNat) ((d + 1)) sk).2) := goesW_goF (d := d) hgn1 hx2 (by assumption) (by intro h; rcases h with h | h | ⟨h1, h2⟩; omega; omega; first | exact absurd (show false = true from h1.symm.trans (by assumption)) (by decide) | (have := congrArg List.length h2; simp only [List.length_nil] at this; omega)) hz
                  exact Ret.mk ⟨by rw [hw], hmF, F2r, by rw [hw]; exact hAr, hFr⟩
              | false =>
                replace hb6 := of_decide_eq_false hb6.symm
                refine r_cond_f rfl ?_
                refine r_exit rfl ?_
                refine r_seq ?_
                refine r_region ?_
                have f9 := hS6.bk (i := 1) rfl
                refine OL.q (Q1.load1 ti55 rfl (fun _ e => e ▸ (f9.cell 0 _ rfl))) rfl rfl ?_
                refine OL.q (Q1.move rfl) rfl rfl ?_
                obtain ⟨g2, f10, hl6, k2⟩ := hS6.accK (i := 0) rfl
                obtain ⟨hr5, x5, hx5⟩ := Acc.at (P := Try.prog) f10 Try.underlying55 ti3 (k := .i64) (n := ((n : Nat) : Int)) (n) (by omega) (by first | assumption | omega | (simp; done))
                refine OL.q (Q1.indexAddr rfl rfl hr5) rfl rfl ?_
                refine OL.act rfl rfl (AW.storeA f10 Ik.encI_len (i := n) (o := 0) hx5 2 ti3 rfl (by first | omega | rfl) rfl rfl rfl rfl (by decide) (by first | rfl | simp [Ik.encI]) ?_)
                intro w5 hm4 hz4 ha2
                have hl7 : (sk.set n 2).length = sk.length := List.length_set
                have hS8 : St (fun _ => False) F w0 w5 [accR Ik.encI 3 1 vS ((sk.set n 2)), bkR bst [vS] 55, bkR bga [ptr bG 0] 33, bkR bfn [.func (.func 125) #[] #[ptr bga 0, ptr bst 0, ptr bfn 0]] 173] := k2 _ _ _ _ hm4 ha2 (.inl rfl)
                refine OL.nil ?_
                refine r_seq ?_
                refine r_region ?_
                refine OL.q (Q1.assign rfl) rfl rfl ?_
                refine OL.nil ?_
                refine r_ret1 Try.func125 rfl rfl ?_
                have hS9 : St (fun _ => False) F w0 w5 [bkR bga [ptr bG 0] 33, bkR bst [vS] 55, accR Ik.encI 3 1 vS ((sk.set n 2)), bkR bfn [.func (.func 125) #[] #[ptr bga 0, ptr bst 0, ptr bfn 0]] 173] := hS8.sel [2, 1, 0, 3] (by rfl) (by decide)
                have hS10 : St (fun _ => False) F w0 w5 [boxR [bkR bga [ptr bG 0] 33, bkR bst [vS] 55, accR Ik.encI 3 1 vS ((sk.set n 2)), bkR bfn [.func (.func 125) #[] #[ptr bga 0, ptr bst 0, ptr bfn 0]] 173]] := St.close (L1 := []) hS9
                obtain ⟨hmF, F2r, hAr, hFr⟩ := hS10.fin
                have hz := eachW_end hR (by omega)
                have hw : goesW N (f + 1) n d st = (true, (sk.set n 2)) := goesW_goT (d := d) hgn1 hx2 (by assumption) (by intro h; rcases h with h | h | ⟨h1, h2⟩; omega; omega; first | exact absurd (show false = true from h1.symm.trans (by assumption)) (by decide) | (have := congrArg List.length h2; simp only [List.length_nil] at this; omega)) hz
                exact Ret.mk ⟨by rw [hw], hmF, F2r, by rw [hw]; exact hAr, hFr⟩
set_option maxRecDepth 20000 in
set_option maxHeartbeats 4000000 in
theorem whole_c {w0 : World} {G : Nat → Prop} {bG : Nat} {vn : Value} {nds : List RNode} {N : List GN} (hrw : Row w0 bG 0 [vn]) (hGb : G bG) (hsl : Sl encN w0 G vn nds) (hrel : NRel w0 G nds N) (hGl : ∀ b, G b → b < w0.heap.size) (hNl : N.length ≤ 1000000) (hel : ∀ x ∈ N, x.2.length ≤ 1000000) (hed : ∀ x ∈ N, ∀ e ∈ x.2, 1 ≤ e.to ∧ e.to < (N.length : Int)) (hpos : 0 < N.length) :
    Calls Try.prog 100 #[ptr bG 0] w0 (Ret fun rv w1 => rv = .bool (wholeM N) ∧ Ext w0 w1) := by
  have hG : ∀ b, G b → ¬ (fun _ : Nat => False) b := fun _ _ h => h
  have hS00 := St.start0 w0
  have hnl := (All2.get hrel).1
  refine calls_enter Try.func100 rfl Try.ntmps100 rfl ?_
  refine r_seq ?_
  refine r_region ?_
  refine OL.act rfl rfl (AW.box [ptr bG 0] rfl rfl ?_)
  intro w1 b1 hm1 hb1 hz1 hk1
  have hS1 := hS00.ext hm1
  have hS2 : St (fun _ => False) (fun _ => False) w0 w1 [bkR b1 [ptr bG 0] 33] := hS00.newBk hm1 hb1 hk1
  refine OL.q (Q1.assign rfl) rfl rfl ?_
  refine OL.nil ?_
  refine r_seq ?_
  refine r_region ?_
  have f1 := hS2.bk (i := 0) rfl
  refine OL.q (Q1.load1 ti33 rfl (fun _ e => e ▸ (f1.cell 0 _ rfl))) rfl rfl ?_
  refine OL.q (Q1.nilCheckP rfl) rfl rfl ?_
  refine OL.q (Q1.fieldAddr fl86_0 rfl) rfl rfl ?_
  have f2 := hrw.keep hS2.mod (hG _ hGb)
  refine OL.q (Q1.load1 ti84 rfl (fun _ e => e ▸ f2)) rfl rfl ?_
  have f3 := hS2.out hsl hG
  refine OL.q (Q1.lenSl Try.underlying84 (f3) rfl) rfl rfl ?_
  refine OL.act rfl rfl (AW.makeSlice (enc := Ik.encI) nds.length (0 : Int) Try.underlying55 ti3 (by decide) rfl Ik.encI_len rfl rfl (by omega) (by omega) (by omega) (by unfold maxLen; omega) ?_)
  intro v1 g1 w2 hm2 hg1 hz2 ha1
  have hS3 := hS2.ext hm2
  have hr1 : (List.replicate nds.length (0 : Int)).length = nds.length := List.length_replicate
  have hS4 : St (fun _ => False) (fun _ => False) w0 w2 [bkR b1 [ptr bG 0] 33, accR Ik.encI 3 1 v1 ((List.replicate nds.length (0 : Int)))] := hS2.newAcc hm2 ha1 (.inr (by omega))
  refine OL.act rfl rfl (AW.alloc ti55 ?_)
  intro w3 b2 hm3 hb2 hz3 hk2
  have hS5 := hS4.ext hm3
  have hS6 : St (fun _ => False) (fun _ => False) w0 w3 [bkR b1 [ptr bG 0] 33, accR Ik.encI 3 1 v1 ((List.replicate nds.length (0 : Int))), bkR b2 [.slice none 0 0] 55] := hS4.newBk hm3 hb2 hk2
  obtain ⟨g2, f4, hl1, k1⟩ := hS6.accK (i := 1) rfl
  obtain ⟨ad1, cp1, hv1⟩ := f4.shape
  subst hv1
  have f5 := hS6.bk (i := 2) rfl
  refine OL.act rfl rfl (AW.store ti55 rfl rfl rfl rfl rfl f5 (Nat.le_of_ble_eq_true rfl) ?_)
  intro w4 hm4 hz4 hk3
  have hS7 : St (fun _ => False) (fun _ => False) w0 w4 [bkR b1 [ptr bG 0] 33, accR Ik.encI 3 1 ((.slice ad1 ((List.replicate nds.length (0 : Int))).length cp1)) ((List.replicate nds.length (0 : Int))), bkR b2 [(.slice ad1 ((List.replicate nds.length (0 : Int))).length cp1)] 55] := hS6.bkK (i := 2) rfl hm4 hk3
  refine OL.nil ?_
  refine r_seq ?_
  refine r_region ?_
  refine OL.act rfl rfl (AW.alloc ti173 ?_)
  intro w5 b3 hm5 hb3 hz5 hk4
  have hS8 := hS7.ext hm5
  have hS9 : St (fun _ => False) (fun _ => False) w0 w5 [bkR b1 [ptr bG 0] 33, accR Ik.encI 3 1 ((.slice ad1 ((List.replicate nds.length (0 : Int))).length cp1)) ((List.replicate nds.length (0 : Int))), bkR b2 [(.slice ad1 ((List.replicate nds.length (0 : Int))).length cp1)] 55, bkR b3 [.nilFunc] 173] := hS7.newBk hm5 hb3 hk4
  refine OL.nil ?_
  refine r_seq ?_
  refine r_region ?_
  refine OL.q (Q1.makeFunc (first := []) (cap := [ptr b1 0, ptr b2 0, ptr b3 0]) rfl rfl) rfl rfl ?_
  have f6 := hS9.bk (i := 3) rfl
  refine OL.act rfl rfl (AW.store ti173 rfl rfl rfl rfl rfl f6 (Nat.le_of_ble_eq_true rfl) ?_)
  intro w6 hm6 hz6 hk5
  have hS10 : St (fun _ => False) (fun _ => False) w0 w6 [bkR b1 [ptr bG 0] 33, accR Ik.encI 3 1 ((.slice ad1 ((List.replicate nds.length (0 : Int))).length cp1)) ((List.replicate nds.length (0 : Int))), bkR b2 [(.slice ad1 ((List.replicate nds.length (0 : Int))).length cp1)] 55, bkR b3 [.func (.func 125) #[] #[ptr b1 0, ptr b2 0, ptr b3 0]] 173] := hS9.bkK (i := 3) rfl hm6 hk5
  refine OL.nil ?_
  refine r_seq ?_
  refine r_region ?_
  have f7 := hS10.bk (i := 0) rfl
  refine OL.q (Q1.load1 ti33 rfl (fun _ e => e ▸ (f7.cell 0 _ rfl))) rfl rfl ?_
  refine OL.q (Q1.nilCheckP rfl) rfl rfl ?_
  refine OL.q (Q1.fieldAddr fl86_0 rfl) rfl rfl ?_
  have f8 := hrw.keep hS10.mod (hG _ hGb)
  refine OL.q (Q1.load1 ti84 rfl (fun _ e => e ▸ f8)) rfl rfl ?_
  have f9 := hS10.out hsl hG
  refine OL.q (Q1.lenSl Try.underlying84 (f9) rfl) rfl rfl ?_
  refine OL.qb (Q1.eq rfl rfl) rfl rfl ?_
  intro b4 hb4
  refine OL.q (Q1.move rfl) rfl rfl ?_
  cases b4 with
  | true =>
    replace hb4 := eq_of_beq hb4.symm
    refine OL.q (Q1.load1 ti33 rfl (fun _ e => e ▸ (f7.cell 0 _ rfl))) rfl rfl ?_
    refine OL.q (Q1.nilCheckP rfl) rfl rfl ?_
    refine OL.q (Q1.fieldAddr fl86_0 rfl) rfl rfl ?_
    refine OL.q (Q1.load1 ti84 rfl (fun _ e => e ▸ f8)) rfl rfl ?_
    obtain ⟨x1, b5, o1, hx1, hr2, hl2, hw1⟩ := Sl.atF (P := Try.prog) f9 Try.underlying84 ti91 encN_len (k := .i64) (n := 0) (0) (by omega) (by first | assumption | omega)
    refine OL.q (Q1.indexAddr rfl rfl hr2) rfl rfl ?_
    refine OL.q (Q1.fieldAddr fl91_1 rfl) rfl rfl ?_
    have hr3 := hw1.sub 1 1 (Nat.le_of_ble_eq_true rfl)
    refine OL.q (Q1.load1 ti49 rfl (fun _ e => e ▸ hr3)) rfl rfl ?_
    obtain ⟨gn1, hgn1, hgf1, hgs1⟩ := hrel.at hx1
    have hel_gn1 := hel _ (List.mem_of_getElem? hgn1)
    have f10 := hS10.out hgs1 hG
    refine OL.q (Q1.lenSl Try.underlying49 (f10) rfl) rfl rfl ?_
    refine OL.qb (Q1.eq rfl rfl) rfl rfl ?_
    intro b6 hb5
    refine OL.q (Q1.pick_t rfl rfl) rfl rfl ?_
    refine OL.q (Q1.move rfl) rfl rfl ?_
    cases b6 with
    | true =>
      replace hb5 := eq_of_beq hb5.symm
      refine OL.sk rfl rfl ?_
      refine OL.sk rfl rfl ?_
      refine OL.q (Q1.pick_t rfl rfl) rfl rfl ?_
      refine OL.q (Q1.assign rfl) rfl rfl ?_
      refine OL.nil ?_
      refine r_ret1 Try.func100 rfl rfl ?_
      have hw : wholeM N = true := by first | exact wholeM_one (by omega) (by assumption) (by omega) | (refine wholeM_far (by rw [← hnl]; first | assumption | (symm; assumption)) ?_; first | exact .inl (by omega) | exact .inr ⟨_, by assumption, by omega⟩)
      exact Ret.mk ⟨by rw [hw], hS10.mod⟩
    | false =>
      replace hb5 := ne_of_beq_false hb5.symm
      have f11 := hS10.bk (i := 3) rfl
      refine OL.q (Q1.load1 ti173 rfl (fun _ e => e ▸ (f11.cell 0 _ rfl))) rfl rfl ?_
      have hS11 : St (fun _ => False) (fun _ => False) w0 w6 [bkR b1 [ptr bG 0] 33, bkR b2 [(.slice ad1 ((List.replicate nds.length (0 : Int))).length cp1)] 55, accR Ik.encI 3 1 ((.slice ad1 ((List.replicate nds.length (0 : Int))).length cp1)) ((List.replicate nds.length (0 : Int))), bkR b3 [.func (.func 125) #[] #[ptr b1 0, ptr b2 0, ptr b3 0]] 173] := hS10.sel [0, 2, 1, 3] (by rfl) (by decide)
      have hS12 : St (fun _ => False) (fun _ => False) w0 w6 [boxR [bkR b1 [ptr bG 0] 33, bkR b2 [(.slice ad1 ((List.replicate nds.length (0 : Int))).length cp1)] 55, accR Ik.encI 3 1 ((.slice ad1 ((List.replicate nds.length (0 : Int))).length cp1)) ((List.replicate nds.length (0 : Int))), bkR b3 [.func (.func 125) #[] #[ptr b1 0, ptr b2 0, ptr b3 0]] 173]] := St.close (L1 := []) hS11
      obtain ⟨Fy1, hAy1, hFy1, hky1⟩ := hS12.act (i := 0) rfl
      refine OL.act rfl rfl (AW.call (first := []) (cap := [ptr b1 0, ptr b2 0, ptr b3 0]) cl125 rfl rfl (toArgs (whole1_c 13 0 (0) hAy1 (fun b hb => (hFy1 b hb).2) (hrw.keep hS12.mod (hG _ hGb)) hGb (hsl.keep hS12.mod hG) (hrel.keep hS12.mod hG) (fun b hb hx => by have := (hFy1 b hx).1.1; rcases this with h | h; exact hG b hb h; have := hGl b hb; omega) (fun b hb => Nat.lt_of_lt_of_le (hGl b hb) hS12.mod.size) hNl hel hed (by first | omega | (simp only [List.length_replicate]; done)) (by omega) (by omega)) (by omega)) ?_)
      rintro _ w7 ⟨rfl, hm7, F1, hB1, hF1⟩
      have hS13 : St (fun _ => False) (fun _ => False) w0 w7 [whR 33 55 3 173 125 b1 b2 b3 bG ((.slice ad1 ((List.replicate nds.length (0 : Int))).length cp1)) ((goesW N 14 0 0 ((List.replicate nds.length (0 : Int)))).2)] := hky1 _ _ _ hm7 hB1 hF1
      clear hAy1 hFy1 hky1 hB1 hF1
      generalize hb6 : (goesW N 14 0 0 ((List.replicate nds.length (0 : Int)))).1 = b7
      replace hb6 := hb6.symm
      refine OL.q (Q1.pick_f rfl rfl) rfl rfl ?_
      refine OL.q (Q1.assign rfl) rfl rfl ?_
      refine OL.nil ?_
      refine r_ret1 Try.func100 rfl rfl ?_
      have hw : wholeM N = b7 := by first | exact wholeM_one (by omega) (by assumption) (by omega) | (refine wholeM_far (by rw [← hnl]; first | assumption | (symm; assumption)) ?_; first | exact .inl (by omega) | exact .inr ⟨_, by assumption, by omega⟩)
      exact Ret.mk ⟨by rw [hw], hS13.mod⟩
  | false =>
    replace hb4 := ne_of_beq_false hb4.symm
    refine OL.sk rfl rfl ?_
    refine OL.sk rfl rfl ?_
    refine OL.sk rfl rfl ?_
    refine OL.sk rfl rfl ?_
    refine OL.sk rfl rfl ?_
    refine OL.sk rfl rfl ?_
    refine OL.sk rfl rfl ?_
    refine OL.sk rfl rfl ?_
    refine OL.sk rfl rfl ?_
    refine OL.q (Q1.pick_f rfl rfl) rfl rfl ?_
    refine OL.q (Q1.move rfl) rfl rfl ?_
    have f10 := hS10.bk (i := 3) rfl
    refine OL.q (Q1.load1 ti173 rfl (fun _ e => e ▸ (f10.cell 0 _ rfl))) rfl rfl ?_
    have hS11 : St (fun _ => False) (fun _ => False) w0 w6 [bkR b1 [ptr bG 0] 33, bkR b2 [(.slice ad1 ((List.replicate nds.length (0 : Int))).length cp1)] 55, accR Ik.encI 3 1 ((.slice ad1 ((List.replicate nds.length (0 : Int))).length cp1)) ((List.replicate nds.length (0 : Int))), bkR b3 [.func (.func 125) #[] #[ptr b1 0, ptr b2 0, ptr b3 0]] 173] := hS10.sel [0, 2, 1, 3] (by rfl) (by decide)
    have hS12 : St (fun _ => False) (fun _ => False) w0 w6 [boxR [bkR b1 [ptr bG 0] 33, bkR b2 [(.slice ad1 ((List.replicate nds.length (0 : Int))).length cp1)] 55, accR Ik.encI 3 1 ((.slice ad1 ((List.replicate nds.length (0 : Int))).length cp1)) ((List.replicate nds.length (0 : Int))), bkR b3 [.func (.func 125) #[] #[ptr b1 0, ptr b2 0, ptr b3 0]] 173]] := St.close (L1 := []) hS11
    obtain ⟨Fy1, hAy1, hFy1, hky1⟩ := hS12.act (i := 0) rfl
    refine OL.act rfl rfl (AW.call (first := []) (cap := [ptr b1 0, ptr b2 0, ptr b3 0]) cl125 rfl rfl (toArgs (whole1_c 13 0 (0) hAy1 (fun b hb => (hFy1 b hb).2) (hrw.keep hS12.mod (hG _ hGb)) hGb (hsl.keep hS12.mod hG) (hrel.keep hS12.mod hG) (fun b hb hx => by have := (hFy1 b hx).1.1; rcases this with h | h; exact hG b hb h; have := hGl b hb; omega) (fun b hb => Nat.lt_of_lt_of_le (hGl b hb) hS12.mod.size) hNl hel hed (by first | omega | (simp only [List.length_replicate]; done)) (by omega) (by omega)) (by omega)) ?_)
    rintro _ w7 ⟨rfl, hm7, F1, hB1, hF1⟩
    have hS13 : St (fun _ => False) (fun _ => False) w0 w7 [whR 33 55 3 173 125 b1 b2 b3 bG ((.slice ad1 ((List.replicate nds.length (0 : Int))).length cp1)) ((goesW N 14 0 0 ((List.replicate nds.length (0 : Int)))).2)] := hky1 _ _ _ hm7 hB1 hF1
    clear hAy1 hFy1 hky1 hB1 hF1
    generalize hb5 : (goesW N 14 0 0 ((List.replicate nds.length (0 : Int)))).1 = b5
    replace hb5 := hb5.symm
    refine OL.q (Q1.pick_f rfl rfl) rfl rfl ?_
    refine OL.q (Q1.assign rfl) rfl rfl ?_
    refine OL.nil ?_
    refine r_ret1 Try.func100 rfl rfl ?_
    have hw : wholeM N = b5 := by first | exact wholeM_one (by omega) (by assumption) (by omega) | (refine wholeM_far (by rw [← hnl]; first | assumption | (symm; assumption)) ?_; first | exact .inl (by omega) | exact .inr ⟨_, by assumption, by omega⟩)
    exact Ret.mk ⟨by rw [hw], hS13.mod⟩
set_option maxRecDepth 20000 in
set_option maxHeartbeats 4000000 in
theorem some1_c : ∀ (f : Nat) {w0 : World} {F G : Nat → Prop} {bok bl bga bfn : Nat} {l : List Str} {ok : Bool} {bG : Nat} {vn : Value} {nds : List RNode} {N : List GN} (n : Nat) (a : Str) (d : Int) (hA : (smR (R := fun _ => False) 4 22 33 174 9 126 bok bl bga bfn bG ((l, ok))).p F w0) (hF : ∀ b, F b → b < w0.heap.size) (hrw : Row w0 bG 0 [vn]) (hGb : G bG) (hsl : Sl encN w0 G vn nds) (hrel : NRel w0 G nds N) (hG : ∀ b, G b → ¬ F b) (hGl : ∀ b, G b → b < w0.heap.size) (hNl : N.length ≤ 1000000) (hel : ∀ x ∈ N, x.2.length ≤ 1000000) (hed : ∀ x ∈ N, ∀ e ∈ x.2, 1 ≤ e.to ∧ e.to < (N.length : Int)) (hn : n < N.length) (hd : 0 ≤ d ∧ d ≤ 13 ∧ 13 ≤ d + f) (ha : (a.length : Int) ≤ 4 * d) (hll : l.length ≤ 61),
    Calls Try.prog 126 #[.int .i64 (n : Int), strV a, .int .i64 d, ptr bok 0, ptr bl 0, ptr bga 0, ptr bfn 0] w0 (Ret fun rv w1 => rv = .tuple #[] ∧ Mod F w0 w1 ∧ ∃ F2, (smR (R := fun _ => False) 4 22 33 174 9 126 bok bl bga bfn bG ((goesS N (f + 1) n a d (l, ok)))).p F2 w1 ∧ ∀ b, F2 b → b < w1.heap.size ∧ (F b ∨ w0.heap.size ≤ b)) := by
  intro f
  induction f using Nat.strongRecOn with
  | _ f ih0 =>
  intro w0 F G bok bl bga bfn l ok bG vn nds N n a d hA hF hrw hGb hsl hrel hG hGl hNl hel hed hn hd ha hll
  have hS00 := St.start1 (R := fun _ => False) hA (fun b hb => ⟨hF b hb, id⟩) (fun _ h => h.elim)
  have hnl := (All2.get hrel).1
  change St (fun _ => False) F w0 w0 [boxR [bkR bok [.bool ok] 4, tbR 22 9 1 encS bl l, bkR bga [ptr bG 0] 33, bkR bfn [.func (.func 126) #[] #[ptr bok 0, ptr bl 0, ptr bga 0, ptr bfn 0]] 174]] at hS00
  have hS1 : St (fun _ => False) F w0 w0 [bkR bok [.bool ok] 4, tbR 22 9 1 encS bl l, bkR bga [ptr bG 0] 33, bkR bfn [.func (.func 126) #[] #[ptr bok 0, ptr bl 0, ptr bga 0, ptr bfn 0]] 174] := St.open (L1 := []) hS00
  obtain ⟨vb1, hS2⟩ := hS1.exo (i := 1) rfl
  change St (fun _ => False) F w0 w0 [bkR bok [.bool ok] 4, boxR [bkR bl [vb1] 22, accR encS 9 1 vb1 l], bkR bga [ptr bG 0] 33, bkR bfn [.func (.func 126) #[] #[ptr bok 0, ptr bl 0, ptr bga 0, ptr bfn 0]] 174] at hS2
  have hS3 : St (fun _ => False) F w0 w0 [bkR bok [.bool ok] 4, bkR bga [ptr bG 0] 33, bkR bfn [.func (.func 126) #[] #[ptr bok 0, ptr bl 0, ptr bga 0, ptr bfn 0]] 174, boxR [bkR bl [vb1] 22, accR encS 9 1 vb1 l]] := hS2.sel [0, 2, 3, 1] (by rfl) (by decide)
  have hS4 : St (fun _ => False) F w0 w0 [bkR bok [.bool ok] 4, bkR bga [ptr bG 0] 33, bkR bfn [.func (.func 126) #[] #[ptr bok 0, ptr bl 0, ptr bga 0, ptr bfn 0]] 174, boxR [bkR bl [vb1] 22, accR encS 9 1 vb1 l]] := hS3
  have hS5 : St (fun _ => False) F w0 w0 [bkR bok [.bool ok] 4, bkR bga [ptr bG 0] 33, bkR bfn [.func (.func 126) #[] #[ptr bok 0, ptr bl 0, ptr bga 0, ptr bfn 0]] 174, bkR bl [vb1] 22, accR encS 9 1 vb1 l] := St.open (L1 := [bkR bok [.bool ok] 4, bkR bga [ptr bG 0] 33, bkR bfn [.func (.func 126) #[] #[ptr bok 0, ptr bl 0, ptr bga 0, ptr bfn 0]] 174]) hS4
  refine calls_enter Try.func126 rfl Try.ntmps126 rfl ?_
  refine r_seq ?_
  refine r_seq ?_
  refine r_region ?_
  have f1 := hS5.bk (i := 0) rfl
  refine OL.q (Q1.load1 ti4 rfl (fun _ e => e ▸ (f1.cell 0 _ rfl))) rfl rfl ?_
  cases ok with
  | true =>
    refine OL.q (Q1.not rfl) rfl rfl ?_
    refine OL.q (Q1.move rfl) rfl rfl ?_
    have f2 := hS5.bk (i := 3) rfl
    refine OL.q (Q1.load1 ti22 rfl (fun _ e => e ▸ (f2.cell 0 _ rfl))) rfl rfl ?_
    obtain ⟨g1, f3, hl1, k1⟩ := hS5.accK (i := 4) rfl
    refine OL.q (Q1.lenSl Try.underlying22 (f3.sl) rfl) rfl rfl ?_
    refine OL.qb (Q1.gt rfl rfl) rfl rfl ?_
    intro b1 hb1
    refine OL.q (Q1.pick_f rfl rfl) rfl rfl ?_
    refine OL.q (Q1.move rfl) rfl rfl ?_
    cases b1 with
    | true =>
      replace hb1 := of_decide_eq_true hb1.symm
      refine OL.sk rfl rfl ?_
      refine OL.sk rfl rfl ?_
      refine OL.q (Q1.pick_t rfl rfl) rfl rfl ?_
      refine OL.nil ?_
      refine r_cond_t rfl ?_
      refine r_seq ?_
      refine r_region ?_
      refine OL.act rfl rfl (AW.store ti4 rfl rfl rfl rfl rfl f1 (Nat.le_of_ble_eq_true rfl) ?_)
      intro w1 hm1 hz1 hk1
      have hS6 : St (fun _ => False) F w0 w1 [bkR bok [.bool false] 4, bkR bga [ptr bG 0] 33, bkR bfn [.func (.func 126) #[] #[ptr bok 0, ptr bl 0, ptr bga 0, ptr bfn 0]] 174, bkR bl [vb1] 22, accR encS 9 1 vb1 l] := hS5.bkK (i := 0) rfl hm1 hk1
      refine OL.nil ?_
      refine r_ret0 Try.func126 rfl ?_
      have hS7 : St (fun _ => False) F w0 w1 [bkR bok [.bool false] 4, bkR bga [ptr bG 0] 33, bkR bfn [.func (.func 126) #[] #[ptr bok 0, ptr bl 0, ptr bga 0, ptr bfn 0]] 174, boxR [bkR bl [vb1] 22, accR encS 9 1 vb1 l]] := St.close (L1 := [bkR bok [.bool false] 4, bkR bga [ptr bG 0] 33, bkR bfn [.func (.func 126) #[] #[ptr bok 0, ptr bl 0, ptr bga 0, ptr bfn 0]] 174]) hS6
      have hS8 : St (fun _ => False) F w0 w1 [bkR bok [.bool false] 4, bkR bga [ptr bG 0] 33, bkR bfn [.func (.func 126) #[] #[ptr bok 0, ptr bl 0, ptr bga 0, ptr bfn 0]] 174, tbR 22 9 1 encS bl l] := hS7.exi vb1 (i := 3) rfl
      have hS9 : St (fun _ => False) F w0 w1 [bkR bok [.bool false] 4, tbR 22 9 1 encS bl l, bkR bga [ptr bG 0] 33, bkR bfn [.func (.func 126) #[] #[ptr bok 0, ptr bl 0, ptr bga 0, ptr bfn 0]] 174] := hS8.sel [0, 3, 1, 2] (by rfl) (by decide)
      have hS10 : St (fun _ => False) F w0 w1 [boxR [bkR bok [.bool false] 4, tbR 22 9 1 encS bl l, bkR bga [ptr bG 0] 33, bkR bfn [.func (.func 126) #[] #[ptr bok 0, ptr bl 0, ptr bga 0, ptr bfn 0]] 174]] := St.close (L1 := []) hS9
      obtain ⟨hmF, F2r, hAr, hFr⟩ := hS10.fin
      have hw := goesS_no (N := N) (f := f) (n := n) (a := a) (d := d) (l := l) (ok := true) (by first | exact .inl rfl | exact .inr (.inl (by omega)) | exact .inr (.inr (by omega)))
      exact Ret.mk ⟨rfl, hmF, F2r, by rw [hw]; exact hAr, hFr⟩
    | false =>
      replace hb1 := of_decide_eq_false hb1.symm
      refine OL.q (Q1.move rfl) rfl rfl ?_
      refine OL.qb (Q1.gt rfl rfl) rfl rfl ?_
      intro b2 hb2
      refine OL.q (Q1.pick_f rfl rfl) rfl rfl ?_
      refine OL.nil ?_
      cases b2 with
      | true =>
        replace hb2 := of_decide_eq_true hb2.symm
        refine r_cond_t rfl ?_
        refine r_seq ?_
        refine r_region ?_
        refine OL.act rfl rfl (AW.store ti4 rfl rfl rfl rfl rfl f1 (Nat.le_of_ble_eq_true rfl) ?_)
        intro w1 hm1 hz1 hk1
        have hS6 : St (fun _ => False) F w0 w1 [bkR bok [.bool false] 4, bkR bga [ptr bG 0] 33, bkR bfn [.func (.func 126) #[] #[ptr bok 0, ptr bl 0, ptr bga 0, ptr bfn 0]] 174, bkR bl [vb1] 22, accR encS 9 1 vb1 l] := hS5.bkK (i := 0) rfl hm1 hk1
        refine OL.nil ?_
        refine r_ret0 Try.func126 rfl ?_
        have hS7 : St (fun _ => False) F w0 w1 [bkR bok [.bool false] 4, bkR bga [ptr bG 0] 33, bkR bfn [.func (.func 126) #[] #[ptr bok 0, ptr bl 0, ptr bga 0, ptr bfn 0]] 174, boxR [bkR bl [vb1] 22, accR encS 9 1 vb1 l]] := St.close (L1 := [bkR bok [.bool false] 4, bkR bga [ptr bG 0] 33, bkR bfn [.func (.func 126) #[] #[ptr bok 0, ptr bl 0, ptr bga 0, ptr bfn 0]] 174]) hS6
        have hS8 : St (fun _ => False) F w0 w1 [bkR bok [.bool false] 4, bkR bga [ptr bG 0] 33, bkR bfn [.func (.func 126) #[] #[ptr bok 0, ptr bl 0, ptr bga 0, ptr bfn 0]] 174, tbR 22 9 1 encS bl l] := hS7.exi vb1 (i := 3) rfl
        have hS9 : St (fun _ => False) F w0 w1 [bkR bok [.bool false] 4, tbR 22 9 1 encS bl l, bkR bga [ptr bG 0] 33, bkR bfn [.func (.func 126) #[] #[ptr bok 0, ptr bl 0, ptr bga 0, ptr bfn 0]] 174] := hS8.sel [0, 3, 1, 2] (by rfl) (by decide)
        have hS10 : St (fun _ => False) F w0 w1 [boxR [bkR bok [.bool false] 4, tbR 22 9 1 encS bl l, bkR bga [ptr bG 0] 33, bkR bfn [.func (.func 126) #[] #[ptr bok 0, ptr bl 0, ptr bga 0, ptr bfn 0]] 174]] := St.close (L1 := []) hS9
        obtain ⟨hmF, F2r, hAr, hFr⟩ := hS10.fin
        have hw := goesS_no (N := N) (f := f) (n := n) (a := a) (d := d) (l := l) (ok := true) (by first | exact .inl rfl | exact .inr (.inl (by omega)) | exact .inr (.inr (by omega)))
        exact Ret.mk ⟨rfl, hmF, F2r, by rw [hw]; exact hAr, hFr⟩
      | false =>
        replace hb2 := of_decide_eq_false hb2.symm
        refine r_cond_f rfl ?_
        refine r_skip ?_
        refine r_seq ?_
        refine r_seq ?_
        refine r_region ?_
        have f4 := hS5.bk (i := 1) rfl
        refine OL.q (Q1.load1 ti33 rfl (fun _ e => e ▸ (f4.cell 0 _ rfl))) rfl rfl ?_
        refine OL.q (Q1.nilCheckP rfl) rfl rfl ?_
        refine OL.q (Q1.fieldAddr fl86_0 rfl) rfl rfl ?_
        refine OL.q (Q1.load1 ti84 rfl (fun _ e => e ▸ hrw)) rfl rfl ?_
        refine OL.q (Q1.move rfl) rfl rfl ?_
        obtain ⟨x1, b3, o1, hx1, hr1, hl2, hw1⟩ := Sl.atF (P := Try.prog) hsl Try.underlying84 ti91 encN_len (k := .i64) (n := ((n : Nat) : Int)) (n) (by omega) (by first | assumption | omega)
        refine OL.q (Q1.indexAddr rfl rfl hr1) rfl rfl ?_
        refine OL.q (Q1.fieldAddr fl91_0 rfl) rfl rfl ?_
        have hr2 := hw1.sub 0 1 (Nat.le_of_ble_eq_true rfl)
        refine OL.q (Q1.load1 ti4 rfl (fun _ e => e ▸ hr2)) rfl rfl ?_
        obtain ⟨gn1, hgn1, hgf1, hgs1⟩ := hrel.at hx1
        have hel_gn1 := hel _ (List.mem_of_getElem? hgn1)
        obtain ⟨fb1, hfq1⟩ : ∃ b, x1.fin = b := ⟨_, rfl⟩
        first | rw [show encN x1 = [.bool fb1, x1.e.val] from by rw [← hfq1]; rfl] | rw [hfq1]
        have hfb1 : fb1 = gn1.1 := by rw [← hfq1]; first | exact hgf1 | exact hgf1.symm
        refine OL.nil ?_
        cases fb1 with
        | true =>
          replace hfb1 := hfb1.symm
          refine r_cond_t rfl ?_
          refine r_region ?_
          refine OL.q (Q1.load1 ti22 rfl (fun _ e => e ▸ (f2.cell 0 _ rfl))) rfl rfl ?_
          refine OL.q (Q1.move rfl) rfl rfl ?_
          refine OL.act rfl rfl (AW.buildSlice [strV a] Try.underlying22 ti9 rfl rfl rfl (by decide) ?_)
          intro w1 b4 hm1 hb3 hz1 hk1
          have hS6 := hS5.ext hm1
          have hl3 := Sl.of_blk (enc := encS) hk1 ([a] : List Str) 1 rfl rfl (by unfold maxLen; omega)
          have hS7 : St (fun _ => False) F w0 w1 [bkR bok [.bool true] 4, bkR bga [ptr bG 0] 33, bkR bfn [.func (.func 126) #[] #[ptr bok 0, ptr bl 0, ptr bga 0, ptr bfn 0]] 174, bkR bl [vb1] 22, accR encS 9 1 vb1 l, slR encS [((.slice (some ⟨b4, 0, none⟩) 1 1), [a])]] := hS5.newSlB hm1 hb3 hz1 hl3
          obtain ⟨g3, f5, hl4, k2⟩ := hS7.accK (i := 4) rfl
          have f6 := hS7.sl (i := 5) (k := 0) rfl rfl
          refine OL.act rfl rfl (AW.append f5 Try.underlying22 ti9 rfl encS_len encS_one rfl rfl (f6) (by first | omega | (simp only [List.length_append, List.length_cons, List.length_nil]; omega) | (simp; omega)) (by unfold maxLen; first | omega | (simp only [List.length_append, List.length_cons, List.length_nil]; omega) | (simp; omega)) ?_)
          intro v1 g2 w2 ha1 hm2 hg1 hz2
          have hS8 : St (fun _ => False) F w0 w2 [bkR bok [.bool true] 4, bkR bga [ptr bG 0] 33, bkR bfn [.func (.func 126) #[] #[ptr bok 0, ptr bl 0, ptr bga 0, ptr bfn 0]] 174, bkR bl [vb1] 22, accR encS 9 1 v1 ((l ++ [a])), slR encS [((.slice (some ⟨b4, 0, none⟩) 1 1), [a])]] := k2 _ _ _ _ hm2 ha1 hg1
          clear hg1
          obtain ⟨g4, f7, hl5, k3⟩ := hS8.accK (i := 4) rfl
          obtain ⟨ad1, cp1, hv1⟩ := f7.shape
          subst hv1
          have f8 := hS8.bk (i := 3) rfl
          refine OL.act rfl rfl (AW.store ti22 rfl rfl rfl rfl rfl f8 (Nat.le_of_ble_eq_true rfl) ?_)
          intro w3 hm3 hz3 hk2
          have hS9 : St (fun _ => False) F w0 w3 [bkR bok [.bool true] 4, bkR bga [ptr bG 0] 33, bkR bfn [.func (.func 126) #[] #[ptr bok 0, ptr bl 0, ptr bga 0, ptr bfn 0]] 174, bkR bl [(.slice ad1 ((l ++ [a])).length cp1)] 22, accR encS 9 1 ((.slice ad1 ((l ++ [a])).length cp1)) ((l ++ [a])), slR encS [((.slice (some ⟨b4, 0, none⟩) 1 1), [a])]] := hS8.bkK (i := 3) rfl hm3 hk2
          refine OL.nil ?_
          refine r_seq ?_
          refine r_region ?_
          have f9 := hS9.bk (i := 1) rfl
          refine OL.q (Q1.load1 ti33 rfl (fun _ e => e ▸ (f9.cell 0 _ rfl))) rfl rfl ?_
          refine OL.q (Q1.nilCheckP rfl) rfl rfl ?_
          refine OL.q (Q1.fieldAddr fl86_0 rfl) rfl rfl ?_
          have f10 := hrw.keep hS9.mod (hG _ hGb)
          refine OL.q (Q1.load1 ti84 rfl (fun _ e => e ▸ f10)) rfl rfl ?_
          refine OL.q (Q1.move rfl) rfl rfl ?_
          have f11 := hS9.out hsl hG
          obtain ⟨x2, b5, o2, hx2, hr3, hl6, hw2⟩ := Sl.atF (P := Try.prog) f11 Try.underlying84 ti91 encN_len (k := .i64) (n := ((n : Nat) : Int)) (n) (by omega) (by first | assumption | omega)
          obtain rfl : x1 = x2 := Option.some.inj (hx1.symm.trans hx2)
          refine OL.q (Q1.indexAddr rfl rfl hr3) rfl rfl ?_
          refine OL.q (Q1.fieldAddr fl91_1 rfl) rfl rfl ?_
          have hr4 := hw2.sub 1 1 (Nat.le_of_ble_eq_true rfl)
          refine OL.q (Q1.load1 ti49 rfl (fun _ e => e ▸ hr4)) rfl rfl ?_
          have f12 := hS9.out hgs1 hG
          refine OL.q (Q1.lenSl Try.underlying49 (f12) rfl) rfl rfl ?_
          have hS10 : St (fun _ => False) F w0 w3 [bkR bok [.bool true] 4, bkR bga [ptr bG 0] 33, bkR bfn [.func (.func 126) #[] #[ptr bok 0, ptr bl 0, ptr bga 0, ptr bfn 0]] 174, slR encS [((.slice (some ⟨b4, 0, none⟩) 1 1), [a])], bkR bl [(.slice ad1 ((l ++ [a])).length cp1)] 22, accR encS 9 1 ((.slice ad1 ((l ++ [a])).length cp1)) ((l ++ [a]))] := hS9.sel [0, 1, 2, 5, 3, 4] (by rfl) (by decide)
          have hS11 : St (fun _ => False) F w0 w3 [bkR bok [.bool true] 4, bkR bga [ptr bG 0] 33, bkR bfn [.func (.func 126) #[] #[ptr bok 0, ptr bl 0, ptr bga 0, ptr bfn 0]] 174, slR encS [((.slice (some ⟨b4, 0, none⟩) 1 1), [a])], boxR [bkR bl [(.slice ad1 ((l ++ [a])).length cp1)] 22, accR encS 9 1 ((.slice ad1 ((l ++ [a])).length cp1)) ((l ++ [a]))]] := St.close (L1 := [bkR bok [.bool true] 4, bkR bga [ptr bG 0] 33, bkR bfn [.func (.func 126) #[] #[ptr bok 0, ptr bl 0, ptr bga 0, ptr bfn 0]] 174, slR encS [((.slice (some ⟨b4, 0, none⟩) 1 1), [a])]]) hS10
          have hS12 : St (fun _ => False) F w0 w3 [bkR bok [.bool true] 4, bkR bga [ptr bG 0] 33, bkR bfn [.func (.func 126) #[] #[ptr bok 0, ptr bl 0, ptr bga 0, ptr bfn 0]] 174, slR encS [((.slice (some ⟨b4, 0, none⟩) 1 1), [a])], tbR 22 9 1 encS bl ((l ++ [a]))] := hS11.exi (.slice ad1 ((l ++ [a])).length cp1) (i := 4) rfl
          have hs0 : ((l ++ [a]), true) = if gn1.1 = true then (l ++ [a], true) else (l, true) := by first | (rw [if_pos (by first | assumption | (symm; assumption))]; done) | (rw [if_neg (by simp only [*]; decide)]; done)
          refine OL.q (Q1.move rfl) rfl rfl ?_
          refine OL.nil ?_
          refine r_block ?_
          have hS14 : St (fun _ => False) F w0 w3 [bkR bok [.bool true] 4, tbR 22 9 1 encS bl ((l ++ [a])), bkR bga [ptr bG 0] 33, bkR bfn [.func (.func 126) #[] #[ptr bok 0, ptr bl 0, ptr bga 0, ptr bfn 0]] 174] := hS12.sel [0, 4, 1, 2] (by rfl) (by decide)
          refine r_loop (I := fun m E W => ∃ (okk : Bool) (k : Nat) (sl : List Str), E = [(1, strV a), (2, .int .i64 d), (6, ptr bfn 0), (42, x1.e.val), (43, .int .i64 (((gn1.2.length : Nat) : Int))), (44, .int .i64 (((k : Nat) : Int)))] ∧ m = gn1.2.length - k ∧ St (fun _ => False) F w0 W [bkR bok [.bool okk] 4, tbR 22 9 1 encS bl sl, bkR bga [ptr bG 0] 33, bkR bfn [.func (.func 126) #[] #[ptr bok 0, ptr bl 0, ptr bga 0, ptr bfn 0]] 174] ∧ (gn1.2.foldl (fun s e => goesS N f e.to.toNat (a ++ encR e.rune) (d + 1) s) (if gn1.1 = true then (l ++ [a], true) else (l, true)) = (gn1.2.drop k).foldl (fun s e => goesS N f e.to.toNat (a ++ encR e.rune) (d + 1) s) (sl, okk)) ∧ (sl.length ≤ 61) ∧ (k ≤ gn1.2.length)) ?_ ?_
          · refine ⟨_, _, ⟨(true : Bool), (0 : Nat), ((l ++ [a]) : List Str), rfl, rfl, hS14, (by (rw [List.drop_zero]; exact congrArg (fun q => List.foldl _ q _) hs0.symm)), (by first | omega | (simp only [List.length_append, List.length_cons, List.length_nil]; omega)), (by omega)⟩, ⟨rfl, rfl, rfl, rfl, rfl, rfl, trivial⟩⟩
          · rintro _ _ w4 ⟨okk, k, sl, rfl, rfl, hS13, hR, hsl61, hkl⟩ ih1
            refine r_seq ?_
            refine r_region ?_
            refine OL.qb (Q1.lt rfl rfl) rfl rfl ?_
            intro b6 hb4
            refine OL.nil ?_
            refine r_seq ?_
            cases b6 with
            | true =>
              replace hb4 := of_decide_eq_true hb4.symm
              refine r_cond_t rfl ?_
              refine r_skip ?_
              refine r_seq ?_
              refine r_block ?_
              refine r_seq ?_
              refine r_region ?_
              have f13 := hS13.out hgs1 hG
              obtain ⟨x3, b7, o3, hx3, hr5, hl7, hw3⟩ := Sl.atF (P := Try.prog) f13 Try.underlying49 ti94 encE_len (k := .i64) (n := ((k : Nat) : Int)) (k) (by omega) (by first | assumption | omega)
              refine OL.q (Q1.indexAddr rfl rfl hr5) rfl rfl ?_
              refine OL.q (Q1.loadN ti94 rfl (fun _ e => e ▸ hw3) rfl) rfl rfl ?_
              have hxE := hx3
              have hrl := encR_le x3.rune
              refine OL.act rfl rfl (AW.alloc ti94 ?_)
              intro w5 b8 hm4 hb5 hz4 hk3
              have hS15 := hS13.ext hm4
              have hS16 : St (fun _ => False) F w0 w5 [bkR bok [.bool okk] 4, tbR 22 9 1 encS bl sl, bkR bga [ptr bG 0] 33, bkR bfn [.func (.func 126) #[] #[ptr bok 0, ptr bl 0, ptr bga 0, ptr bfn 0]] 174, bkR b8 [.int .i32 0, .int .i64 0] 94] := hS13.newBk hm4 hb5 hk3
              have f14 := hS16.bk (i := 4) rfl
              refine OL.act rfl rfl (AW.store ti94 rfl rfl rfl rfl rfl f14 (Nat.le_of_ble_eq_true rfl) ?_)
              intro w6 hm5 hz5 hk4
              have hS17 : St (fun _ => False) F w0 w6 [bkR bok [.bool okk] 4, tbR 22 9 1 encS bl sl, bkR bga [ptr bG 0] 33, bkR bfn [.func (.func 126) #[] #[ptr bok 0, ptr bl 0, ptr bga 0, ptr bfn 0]] 174, bkR b8 [.int .i32 x3.rune, .int .i64 x3.to] 94] := hS16.bkK (i := 4) rfl hm5 hk4
              refine OL.nil ?_
              refine r_region ?_
              have f15 := hS17.bk (i := 3) rfl
              refine OL.q (Q1.load1 ti174 rfl (fun _ e => e ▸ (f15.cell 0 _ rfl))) rfl rfl ?_
              refine OL.q (Q1.fieldAddr fl94_1 rfl) rfl rfl ?_
              have f16 := hS17.bk (i := 4) rfl
              refine OL.q (Q1.load1 ti3 rfl (fun _ e => e ▸ (f16.cell 1 _ rfl))) rfl rfl ?_
              refine OL.q (Q1.move rfl) rfl rfl ?_
              refine OL.q (Q1.fieldAddr fl94_0 rfl) rfl rfl ?_
              refine OL.q (Q1.load1 ti21 rfl (fun _ e => e ▸ (f16.cell 0 _ rfl))) rfl rfl ?_
              refine OL.q (Q1.convRS (by kernel_rfl) Try.underlying9 rfl) rfl rfl ?_
              refine OL.q (Q1.catS rfl rfl (by first | omega | (simp only [List.length_append]; omega))) rfl rfl ?_
              refine OL.q (Q1.move rfl) rfl rfl ?_
              refine OL.q (Q1.addI ((d + 1)) rfl rfl (by omega)) rfl rfl ?_
              have hS18 : St (fun _ => False) F w0 w6 [bkR b8 [.int .i32 x3.rune, .int .i64 x3.to] 94, bkR bok [.bool okk] 4, tbR 22 9 1 encS bl sl, bkR bga [ptr bG 0] 33, bkR bfn [.func (.func 126) #[] #[ptr bok 0, ptr bl 0, ptr bga 0, ptr bfn 0]] 174] := hS17.sel [4, 0, 1, 2, 3] (by rfl) (by decide)
              have hS19 : St (fun _ => False) F w0 w6 [bkR b8 [.int .i32 x3.rune, .int .i64 x3.to] 94, boxR [bkR bok [.bool okk] 4, tbR 22 9 1 encS bl sl, bkR bga [ptr bG 0] 33, bkR bfn [.func (.func 126) #[] #[ptr bok 0, ptr bl 0, ptr bga 0, ptr bfn 0]] 174]] := St.close (L1 := [bkR b8 [.int .i32 x3.rune, .int .i64 x3.to] 94]) hS18
              have hto := hed _ (List.mem_of_getElem? hgn1) _ (List.mem_of_getElem? hx3)
              obtain ⟨f2, hf2⟩ : ∃ f2, f = f2 + 1 := ⟨f - 1, by omega⟩
              obtain ⟨Fy1, hAy1, hFy1, hky1⟩ := hS19.act (i := 1) rfl
              refine OL.act rfl rfl (AW.call (first := []) (cap := [ptr bok 0, ptr bl 0, ptr bga 0, ptr bfn 0]) cl126 rfl rfl (toArgs (ih0 f2 (by omega) ((x3.to).toNat) ((a ++ (encR x3.rune))) ((d + 1)) hAy1 (fun b hb => (hFy1 b hb).2) (hrw.keep hS19.mod (hG _ hGb)) hGb (hsl.keep hS19.mod hG) (hrel.keep hS19.mod hG) (fun b hb hx => by have := (hFy1 b hx).1.1; rcases this with h | h; exact hG b hb h; have := hGl b hb; omega) (fun b hb => Nat.lt_of_lt_of_le (hGl b hb) hS19.mod.size) hNl hel hed (by omega) (by omega) (by first | omega | (simp only [List.length_append]; omega) | (simp only [List.length_nil]; omega)) (by first | omega | (simp only [List.length_nil]; omega))) (by omega)) ?_)
              rintro _ w7 ⟨rfl, hm6, F1, hB1, hF1⟩
              rw [← hf2] at hB1
              have hgo1_len := goesS_len N f ((x3.to).toNat) ((a ++ (encR x3.rune))) ((d + 1)) (sl, okk) (by first | omega | (simp only [List.length_nil]; omega))
              obtain ⟨⟨lg1, og1⟩, hgo1⟩ : ∃ x, x = (goesS N f ((x3.to).toNat) ((a ++ (encR x3.rune))) ((d + 1)) (sl, okk)) := ⟨_, rfl⟩
              rw [← hgo1] at hB1 hgo1_len
              dsimp only at hgo1_len
              have hS20 : St (fun _ => False) F w0 w7 [bkR b8 [.int .i32 x3.rune, .int .i64 x3.to] 94, boxR [bkR bok [.bool og1] 4, tbR 22 9 1 encS bl lg1, bkR bga [ptr bG 0] 33, bkR bfn [.func (.func 126) #[] #[ptr bok 0, ptr bl 0, ptr bga 0, ptr bfn 0]] 174]] := hky1 _ _ _ hm6 hB1 hF1
              clear hAy1 hFy1 hky1 hB1 hF1
              have hS21 : St (fun _ => False) F w0 w7 [bkR b8 [.int .i32 x3.rune, .int .i64 x3.to] 94, bkR bok [.bool og1] 4, tbR 22 9 1 encS bl lg1, bkR bga [ptr bG 0] 33, bkR bfn [.func (.func 126) #[] #[ptr bok 0, ptr bl 0, ptr bga 0, ptr bfn 0]] 174] := St.open (L1 := [bkR b8 [.int .i32 x3.rune, .int .i64 x3.to] 94]) hS20
              refine OL.nil ?_
              refine r_inBlock ?_
              refine r_region ?_
              refine OL.q (Q1.addI (((k + 1 : Nat) : Int)) rfl rfl (by omega)) rfl rfl ?_
              refine OL.q (Q1.move rfl) rfl rfl ?_
              refine OL.nil ?_
              have hz := fold_step hR hxE
              try dsimp only at hz
              rw [← hgo1] at hz
              have hS22 : St (fun _ => False) F w0 w7 [bkR bok [.bool og1] 4, tbR 22 9 1 encS bl lg1, bkR bga [ptr bG 0] 33, bkR bfn [.func (.func 126) #[] #[ptr bok 0, ptr bl 0, ptr bga 0, ptr bfn 0]] 174] := hS21.sel [1, 2, 3, 4] (by rfl) (by decide)
              exact (ih1 _ _ _ ⟨(og1 : Bool), (k + 1 : Nat), (lg1 : List Str), rfl, rfl, hS22, (by first | exact hz | (exfalso; omega)), (by first | omega | (exfalso; omega)), (by first | omega | (exfalso; omega))⟩ (by omega)).sub ⟨rfl, rfl, rfl, rfl, rfl, rfl, trivial⟩
            | false =>
              replace hb4 := of_decide_eq_false hb4.symm
              refine r_cond_f rfl ?_
              refine r_exit rfl ?_
              refine r_end0 Try.func126 rfl ?_
              have hS15 : St (fun _ => False) F w0 w4 [boxR [bkR bok [.bool okk] 4, tbR 22 9 1 encS bl sl, bkR bga [ptr bG 0] 33, bkR bfn [.func (.func 126) #[] #[ptr bok 0, ptr bl 0, ptr bga 0, ptr bfn 0]] 174]] := St.close (L1 := []) hS13
              obtain ⟨hmF, F2r, hAr, hFr⟩ := hS15.fin
              have hw := goesS_go (f := f) (d := d) (a := a) (l := l) (ok := true) (by intro h; rcases h with h | h | h; exact absurd h (by decide); omega; omega) hgn1 rfl (fold_end hR (by omega))
              exact Ret.mk ⟨rfl, hmF, F2r, by rw [hw]; exact hAr, hFr⟩
        | false =>
          replace hfb1 := hfb1.symm
          refine r_cond_f rfl ?_
          refine r_skip ?_
          refine r_seq ?_
          refine r_region ?_
          refine OL.q (Q1.load1 ti33 rfl (fun _ e => e ▸ (f4.cell 0 _ rfl))) rfl rfl ?_
          refine OL.q (Q1.nilCheckP rfl) rfl rfl ?_
          refine OL.q (Q1.fieldAddr fl86_0 rfl) rfl rfl ?_
          refine OL.q (Q1.load1 ti84 rfl (fun _ e => e ▸ hrw)) rfl rfl ?_
          refine OL.q (Q1.move rfl) rfl rfl ?_
          obtain ⟨x2, b4, o2, hx2, hr3, hl3, hw2⟩ := Sl.atF (P := Try.prog) hsl Try.underlying84 ti91 encN_len (k := .i64) (n := ((n : Nat) : Int)) (n) (by omega) (by first | assumption | omega)
          obtain rfl : x1 = x2 := Option.some.inj (hx1.symm.trans hx2)
          refine OL.q (Q1.indexAddr rfl rfl hr3) rfl rfl ?_
          refine OL.q (Q1.fieldAddr fl91_1 rfl) rfl rfl ?_
          have hr4 := hw2.sub 1 1 (Nat.le_of_ble_eq_true rfl)
          refine OL.q (Q1.load1 ti49 rfl (fun _ e => e ▸ hr4)) rfl rfl ?_
          refine OL.q (Q1.lenSl Try.underlying49 (hgs1) rfl) rfl rfl ?_
          have hS6 : St (fun _ => False) F w0 w0 [bkR bok [.bool true] 4, bkR bga [ptr bG 0] 33, bkR bfn [.func (.func 126) #[] #[ptr bok 0, ptr bl 0, ptr bga 0, ptr bfn 0]] 174, boxR [bkR bl [vb1] 22, accR encS 9 1 vb1 l]] := St.close (L1 := [bkR bok [.bool true] 4, bkR bga [ptr bG 0] 33, bkR bfn [.func (.func 126) #[] #[ptr bok 0, ptr bl 0, ptr bga 0, ptr bfn 0]] 174]) hS5
          have hS7 : St (fun _ => False) F w0 w0 [bkR bok [.bool true] 4, bkR bga [ptr bG 0] 33, bkR bfn [.func (.func 126) #[] #[ptr bok 0, ptr bl 0, ptr bga 0, ptr bfn 0]] 174, tbR 22 9 1 encS bl l] := hS6.exi vb1 (i := 3) rfl
          have hs0 : (l, true) = if gn1.1 = true then (l ++ [a], true) else (l, true) := by first | (rw [if_pos (by first | assumption | (symm; assumption))]; done) | (rw [if_neg (by simp only [*]; decide)]; done)
          refine OL.q (Q1.move rfl) rfl rfl ?_
          refine OL.nil ?_
          refine r_block ?_
          have hS9 : St (fun _ => False) F w0 w0 [bkR bok [.bool true] 4, tbR 22 9 1 encS bl l, bkR bga [ptr bG 0] 33, bkR bfn [.func (.func 126) #[] #[ptr bok 0, ptr bl 0, ptr bga 0, ptr bfn 0]] 174] := hS7.sel [0, 3, 1, 2] (by rfl) (by decide)
          refine r_loop (I := fun m E W => ∃ (okk : Bool) (k : Nat) (sl : List Str), E = [(1, strV a), (2, .int .i64 d), (6, ptr bfn 0), (42, x1.e.val), (43, .int .i64 (((gn1.2.length : Nat) : Int))), (44, .int .i64 (((k : Nat) : Int)))] ∧ m = gn1.2.length - k ∧ St (fun _ => False) F w0 W [bkR bok [.bool okk] 4, tbR 22 9 1 encS bl sl, bkR bga [ptr bG 0] 33, bkR bfn [.func (.func 126) #[] #[ptr bok 0, ptr bl 0, ptr bga 0, ptr bfn 0]] 174] ∧ (gn1.2.foldl (fun s e => goesS N f e.to.toNat (a ++ encR e.rune) (d + 1) s) (if gn1.1 = true then (l ++ [a], true) else (l, true)) = (gn1.2.drop k).foldl (fun s e => goesS N f e.to.toNat (a ++ encR e.rune) (d + 1) s) (sl, okk)) ∧ (sl.length ≤ 61) ∧ (k ≤ gn1.2.length)) ?_ ?_
          · refine ⟨_, _, ⟨(true : Bool), (0 : Nat), (l : List Str), rfl, rfl, hS9, (by (rw [List.drop_zero]; exact congrArg (fun q => List.foldl _ q _) hs0.symm)), (by first | omega | (simp only [List.length_append, List.length_cons, List.length_nil]; omega)), (by omega)⟩, ⟨rfl, rfl, rfl, rfl, rfl, rfl, trivial⟩⟩
          · rintro _ _ w1 ⟨okk, k, sl, rfl, rfl, hS8, hR, hsl61, hkl⟩ ih1
            refine r_seq ?_
            refine r_region ?_
            refine OL.qb (Q1.lt rfl rfl) rfl rfl ?_
            intro b5 hb3
            refine OL.nil ?_
            refine r_seq ?_
            cases b5 with
            | true =>
              replace hb3 := of_decide_eq_true hb3.symm
              refine r_cond_t rfl ?_
              refine r_skip ?_
              refine r_seq ?_
              refine r_block ?_
              refine r_seq ?_
              refine r_region ?_
              have f5 := hS8.out hgs1 hG
              obtain ⟨x3, b6, o3, hx3, hr5, hl4, hw3⟩ := Sl.atF (P := Try.prog) f5 Try.underlying49 ti94 encE_len (k := .i64) (n := ((k : Nat) : Int)) (k) (by omega) (by first | assumption | omega)
              refine OL.q (Q1.indexAddr rfl rfl hr5) rfl rfl ?_
              refine OL.q (Q1.loadN ti94 rfl (fun _ e => e ▸ hw3) rfl) rfl rfl ?_
              have hxE := hx3
              have hrl := encR_le x3.rune
              refine OL.act rfl rfl (AW.alloc ti94 ?_)
              intro w2 b7 hm1 hb4 hz1 hk1
              have hS10 := hS8.ext hm1
              have hS11 : St (fun _ => False) F w0 w2 [bkR bok [.bool okk] 4, tbR 22 9 1 encS bl sl, bkR bga [ptr bG 0] 33, bkR bfn [.func (.func 126) #[] #[ptr bok 0, ptr bl 0, ptr bga 0, ptr bfn 0]] 174, bkR b7 [.int .i32 0, .int .i64 0] 94] := hS8.newBk hm1 hb4 hk1
              have f6 := hS11.bk (i := 4) rfl
              refine OL.act rfl rfl (AW.store ti94 rfl rfl rfl rfl rfl f6 (Nat.le_of_ble_eq_true rfl) ?_)
              intro w3 hm2 hz2 hk2
              have hS12 : St (fun _ => False) F w0 w3 [bkR bok [.bool okk] 4, tbR 22 9 1 encS bl sl, bkR bga [ptr bG 0] 33, bkR bfn [.func (.func 126) #[] #[ptr bok 0, ptr bl 0, ptr bga 0, ptr bfn 0]] 174, bkR b7 [.int .i32 x3.rune, .int .i64 x3.to] 94] := hS11.bkK (i := 4) rfl hm2 hk2
              refine OL.nil ?_
              refine r_region ?_
              have f7 := hS12.bk (i := 3) rfl
              refine OL.q (Q1.load1 ti174 rfl (fun _ e => e ▸ (f7.cell 0 _ rfl))) rfl rfl ?_
              refine OL.q (Q1.fieldAddr fl94_1 rfl) rfl rfl ?_
              have f8 := hS12.bk (i := 4) rfl
              refine OL.q (Q1.load1 ti3 rfl (fun _ e => e ▸ (f8.cell 1 _ rfl))) rfl rfl ?_
              refine OL.q (Q1.move rfl) rfl rfl ?_
              refine OL.q (Q1.fieldAddr fl94_0 rfl) rfl rfl ?_
              refine OL.q (Q1.load1 ti21 rfl (fun _ e => e ▸ (f8.cell 0 _ rfl))) rfl rfl ?_
              refine OL.q (Q1.convRS (by kernel_rfl) Try.underlying9 rfl) rfl rfl ?_
              refine OL.q (Q1.catS rfl rfl (by first | omega | (simp only [List.length_append]; omega))) rfl rfl ?_
              refine OL.q (Q1.move rfl) rfl rfl ?_
              refine OL.q (Q1.addI ((d + 1)) rfl rfl (by omega)) rfl rfl ?_
              have hS13 : St (fun _ => False) F w0 w3 [bkR b7 [.int .i32 x3.rune, .int .i64 x3.to] 94, bkR bok [.bool okk] 4, tbR 22 9 1 encS bl sl, bkR bga [ptr bG 0] 33, bkR bfn [.func (.func 126) #[] #[ptr bok 0, ptr bl 0, ptr bga 0, ptr bfn 0]] 174] := hS12.sel [4, 0, 1, 2, 3] (by rfl) (by decide)
              have hS14 : St (fun _ => False) F w0 w3 [bkR b7 [.int .i32 x3.rune, .int .i64 x3.to] 94, boxR [bkR bok [.bool okk] 4, tbR 22 9 1 encS bl sl, bkR bga [ptr bG 0] 33, bkR bfn [.func (.func 126) #[] #[ptr bok 0, ptr bl 0, ptr bga 0, ptr bfn 0]] 174]] := St.close (L1 := [bkR b7 [.int .i32 x3.rune, .int .i64 x3.to] 94]) hS13
              have hto := hed _ (List.mem_of_getElem? hgn1) _ (List.mem_of_getElem? hx3)
              obtain ⟨f2, hf2⟩ : ∃ f2, f = f2 + 1 := ⟨f - 1, by omega⟩
              obtain ⟨Fy1, hAy1, hFy1, hky1⟩ := hS14.act (i := 1) rfl
              refine OL.act rfl rfl (AW.call (first := []) (cap := [ptr bok 0, ptr bl 0, ptr bga 0, ptr bfn 0]) cl126 rfl rfl (toArgs (ih0 f2 (by omega) ((x3.to).toNat) ((a ++ (encR x3.rune))) ((d + 1)) hAy1 (fun b hb => (hFy1 b hb).2) (hrw.keep hS14.mod (hG _ hGb)) hGb (hsl.keep hS14.mod hG) (hrel.keep hS14.mod hG) (fun b hb hx => by have := (hFy1 b hx).1.1; rcases this with h | h; exact hG b hb h; have := hGl b hb; omega) (fun b hb => Nat.lt_of_lt_of_le (hGl b hb) hS14.mod.size) hNl hel hed (by omega) (by omega) (by first | omega | (simp only [List.length_append]; omega) | (simp only [List.length_nil]; omega)) (by first | omega | (simp only [List.length_nil]; omega))) (by omega)) ?_)
              rintro _ w4 ⟨rfl, hm3, F1, hB1, hF1⟩
              rw [← hf2] at hB1
              have hgo1_len := goesS_len N f ((x3.to).toNat) ((a ++ (encR x3.rune))) ((d + 1)) (sl, okk) (by first | omega | (simp only [List.length_nil]; omega))
              obtain ⟨⟨lg1, og1⟩, hgo1⟩ : ∃ x, x = (goesS N f ((x3.to).toNat) ((a ++ (encR x3.rune))) ((d + 1)) (sl, okk)) := ⟨_, rfl⟩
              rw [← hgo1] at hB1 hgo1_len
              dsimp only at hgo1_len
              have hS15 : St (fun _ => False) F w0 w4 [bkR b7 [.int .i32 x3.rune, .int .i64 x3.to] 94, boxR [bkR bok [.bool og1] 4, tbR 22 9 1 encS bl lg1, bkR bga [ptr bG 0] 33, bkR bfn [.func (.func 126) #[] #[ptr bok 0, ptr bl 0, ptr bga 0, ptr bfn 0]] 174]] := hky1 _ _ _ hm3 hB1 hF1
              clear hAy1 hFy1 hky1 hB1 hF1
              have hS16 : St (fun _ => False) F w0 w4 [bkR b7 [.int .i32 x3.rune, .int .i64 x3.to] 94, bkR bok [.bool og1] 4, tbR 22 9 1 encS bl lg1, bkR bga [ptr bG 0] 33, bkR bfn [.func (.func 126) #[] #[ptr bok 0, ptr bl 0, ptr bga 0, ptr bfn 0]] 174] := St.open (L1 := [bkR b7 [.int .i32 x3.rune, .int .i64 x3.to] 94]) hS15
              refine OL.nil ?_
              refine r_inBlock ?_
              refine r_region ?_
              refine OL.q (Q1.addI (((k + 1 : Nat) : Int)) rfl rfl (by omega)) rfl rfl ?_
              refine OL.q (Q1.move rfl) rfl rfl ?_
              refine OL.nil ?_
              have hz := fold_step hR hxE
              try dsimp only at hz
              rw [← hgo1] at hz
              have hS17 : St (fun _ => False) F w0 w4 [bkR bok [.bool og1] 4, tbR 22 9 1 encS bl lg1, bkR bga [ptr bG 0] 33, bkR bfn [.func (.func 126) #[] #[ptr bok 0, ptr bl 0, ptr bga 0, ptr bfn 0]] 174] := hS16.sel [1, 2, 3, 4] (by rfl) (by decide)
              exact (ih1 _ _ _ ⟨(og1 : Bool), (k + 1 : Nat), (lg1 : List Str), rfl, rfl, hS17, (by first | exact hz | (exfalso; omega)), (by first | omega | (exfalso; omega)), (by first | omega | (exfalso; omega))⟩ (by omega)).sub ⟨rfl, rfl, rfl, rfl, rfl, rfl, trivial⟩
            | false =>
              replace hb3 := of_decide_eq_false hb3.symm
              refine r_cond_f rfl ?_
              refine r_exit rfl ?_
              refine r_end0 Try.func126 rfl ?_
              have hS10 : St (fun _ => False) F w0 w1 [boxR [bkR bok [.bool okk] 4, tbR 22 9 1 encS bl sl, bkR bga [ptr bG 0] 33, bkR bfn [.func (.func 126) #[] #[ptr bok 0, ptr bl 0, ptr bga 0, ptr bfn 0]] 174]] := St.close (L1 := []) hS8
              obtain ⟨hmF, F2r, hAr, hFr⟩ := hS10.fin
              have hw := goesS_go (f := f) (d := d) (a := a) (l := l) (ok := true) (by intro h; rcases h with h | h | h; exact absurd h (by decide); omega; omega) hgn1 rfl (fold_end hR (by omega))
              exact Ret.mk ⟨rfl, hmF, F2r, by rw [hw]; exact hAr, hFr⟩
  | false =>
    refine OL.q (Q1.not rfl) rfl rfl ?_
    refine OL.q (Q1.move rfl) rfl rfl ?_
    refine OL.sk rfl rfl ?_
    refine OL.sk rfl rfl ?_
    refine OL.sk rfl rfl ?_
    refine OL.q (Q1.pick_t rfl rfl) rfl rfl ?_
    refine OL.q (Q1.move rfl) rfl rfl ?_
    refine OL.sk rfl rfl ?_
    refine OL.sk rfl rfl ?_
    refine OL.q (Q1.pick_t rfl rfl) rfl rfl ?_
    refine OL.nil ?_
    refine r_cond_t rfl ?_
    refine r_seq ?_
    refine r_region ?_
    refine OL.act rfl rfl (AW.store ti4 rfl rfl rfl rfl rfl f1 (Nat.le_of_ble_eq_true rfl) ?_)
    intro w1 hm1 hz1 hk1
    have hS6 : St (fun _ => False) F w0 w1 [bkR bok [.bool false] 4, bkR bga [ptr bG 0] 33, bkR bfn [.func (.func 126) #[] #[ptr bok 0, ptr bl 0, ptr bga 0, ptr bfn 0]] 174, bkR bl [vb1] 22, accR encS 9 1 vb1 l] := hS5.bkK (i := 0) rfl hm1 hk1
    refine OL.nil ?_
    refine r_ret0 Try.func126 rfl ?_
    have hS7 : St (fun _ => False) F w0 w1 [bkR bok [.bool false] 4, bkR bga [ptr bG 0] 33, bkR bfn [.func (.func 126) #[] #[ptr bok 0, ptr bl 0, ptr bga 0, ptr bfn 0]] 174, boxR [bkR bl [vb1] 22, accR encS 9 1 vb1 l]] := St.close (L1 := [bkR bok [.bool false] 4, bkR bga [ptr bG 0] 33, bkR bfn [.func (.func 126) #[] #[ptr bok 0, ptr bl 0, ptr bga 0, ptr bfn 0]] 174]) hS6
    have hS8 : St (fun _ => False) F w0 w1 [bkR bok [.bool false] 4, bkR bga [ptr bG 0] 33, bkR bfn [.func (.func 126) #[] #[ptr bok 0, ptr bl 0, ptr bga 0, ptr bfn 0]] 174, tbR 22 9 1 encS bl l] := hS7.exi vb1 (i := 3) rfl
    have hS9 : St (fun _ => False) F w0 w1 [bkR bok [.bool false] 4, tbR 22 9 1 encS bl l, bkR bga [ptr bG 0] 33, bkR bfn [.func (.func 126) #[] #[ptr bok 0, ptr bl 0, ptr bga 0, ptr bfn 0]] 174] := hS8.sel [0, 3, 1, 2] (by rfl) (by decide)
    have hS10 : St (fun _ => False) F w0 w1 [boxR [bkR bok [.bool false] 4, tbR 22 9 1 encS bl l, bkR bga [ptr bG 0] 33, bkR bfn [.func (.func 126) #[] #[ptr bok 0, ptr bl 0, ptr bga 0, ptr bfn 0]] 174]] := St.close (L1 := []) hS9
    obtain ⟨hmF, F2r, hAr, hFr⟩ := hS10.fin
    have hw := goesS_no (N := N) (f := f) (n := n) (a := a) (d := d) (l := l) (ok := false) (by first | exact .inl rfl | exact .inr (.inl (by omega)) | exact .inr (.inr (by omega)))
    exact Ret.mk ⟨rfl, hmF, F2r, by rw [hw]; exact hAr, hFr⟩
set_option maxRecDepth 20000 in
set_option maxHeartbeats 4000000 in
theorem some_c {w0 : World} {G : Nat → Prop} {bG : Nat} {vn : Value} {nds : List RNode} {N : List GN} (hrw : Row w0 bG 0 [vn]) (hGb : G bG) (hsl : Sl encN w0 G vn nds) (hrel : NRel w0 G nds N) (hGl : ∀ b, G b → b < w0.heap.size) (hNl : N.length ≤ 1000000) (hel : ∀ x ∈ N, x.2.length ≤ 1000000) (hed : ∀ x ∈ N, ∀ e ∈ x.2, 1 ≤ e.to ∧ e.to < (N.length : Int)) (hpos : 0 < N.length) :
    Calls Try.prog 101 #[ptr bG 0] w0 (Ret fun rv w1 => ∃ v gr, rv = .tuple #[v, .bool (someM N).2] ∧ Acc encS 9 1 w1 gr v (someM N).1 ∧ (gr = 0 ∨ w0.heap.size < gr) ∧ Ext w0 w1) := by
  have hG : ∀ b, G b → ¬ (fun _ : Nat => False) b := fun _ _ h => h
  have hS00 := St.start0 w0
  have hnl := (All2.get hrel).1
  refine calls_enter Try.func101 rfl Try.ntmps101 rfl ?_
  refine r_seq ?_
  refine r_region ?_
  refine OL.act rfl rfl (AW.box [ptr bG 0] rfl rfl ?_)
  intro w1 b1 hm1 hb1 hz1 hk1
  have hS1 := hS00.ext hm1
  have hS2 : St (fun _ => False) (fun _ => False) w0 w1 [bkR b1 [ptr bG 0] 33] := hS00.newBk hm1 hb1 hk1
  refine OL.q (Q1.assign rfl) rfl rfl ?_
  refine OL.q (Q1.assign rfl) rfl rfl ?_
  refine OL.nil ?_
  refine r_seq ?_
  refine r_region ?_
  refine OL.act rfl rfl (AW.alloc ti22 ?_)
  intro w2 b2 hm2 hb2 hz2 hk2
  have hS3 := hS2.ext hm2
  have hS4 : St (fun _ => False) (fun _ => False) w0 w2 [bkR b1 [ptr bG 0] 33, bkR b2 [.slice none 0 0] 22] := hS2.newBk hm2 hb2 hk2
  refine OL.nil ?_
  refine r_seq ?_
  refine r_region ?_
  refine OL.act rfl rfl (AW.alloc ti4 ?_)
  intro w3 b3 hm3 hb3 hz3 hk3
  have hS5 := hS4.ext hm3
  have hS6 : St (fun _ => False) (fun _ => False) w0 w3 [bkR b1 [ptr bG 0] 33, bkR b2 [.slice none 0 0] 22, bkR b3 [.bool false] 4] := hS4.newBk hm3 hb3 hk3
  have f1 := hS6.bk (i := 2) rfl
  refine OL.act rfl rfl (AW.store ti4 rfl rfl rfl rfl rfl f1 (Nat.le_of_ble_eq_true rfl) ?_)
  intro w4 hm4 hz4 hk4
  have hS7 : St (fun _ => False) (fun _ => False) w0 w4 [bkR b1 [ptr bG 0] 33, bkR b2 [.slice none 0 0] 22, bkR b3 [.bool true] 4] := hS6.bkK (i := 2) rfl hm4 hk4
  refine OL.nil ?_
  refine r_seq ?_
  refine r_region ?_
  refine OL.act rfl rfl (AW.alloc ti174 ?_)
  intro w5 b4 hm5 hb4 hz5 hk5
  have hS8 := hS7.ext hm5
  have hS9 : St (fun _ => False) (fun _ => False) w0 w5 [bkR b1 [ptr bG 0] 33, bkR b2 [.slice none 0 0] 22, bkR b3 [.bool true] 4, bkR b4 [.nilFunc] 174] := hS7.newBk hm5 hb4 hk5
  refine OL.nil ?_
  refine r_seq ?_
  refine r_region ?_
  refine OL.q (Q1.makeFunc (first := []) (cap := [ptr b3 0, ptr b2 0, ptr b1 0, ptr b4 0]) rfl rfl) rfl rfl ?_
  have f2 := hS9.bk (i := 3) rfl
  refine OL.act rfl rfl (AW.store ti174 rfl rfl rfl rfl rfl f2 (Nat.le_of_ble_eq_true rfl) ?_)
  intro w6 hm6 hz6 hk6
  have hS10 : St (fun _ => False) (fun _ => False) w0 w6 [bkR b1 [ptr bG 0] 33, bkR b2 [.slice none 0 0] 22, bkR b3 [.bool true] 4, bkR b4 [.func (.func 126) #[] #[ptr b3 0, ptr b2 0, ptr b1 0, ptr b4 0]] 174] := hS9.bkK (i := 3) rfl hm6 hk6
  refine OL.nil ?_
  refine r_seq ?_
  refine r_region ?_
  have f3 := hS10.bk (i := 3) rfl
  refine OL.q (Q1.load1 ti174 rfl (fun _ e => e ▸ (f3.cell 0 _ rfl))) rfl rfl ?_
  have hS11 : St (fun _ => False) (fun _ => False) w0 w6 [bkR b1 [ptr bG 0] 33, bkR b2 [.slice none 0 0] 22, bkR b3 [.bool true] 4, bkR b4 [.func (.func 126) #[] #[ptr b3 0, ptr b2 0, ptr b1 0, ptr b4 0]] 174, accR encS 9 1 (.slice none 0 0) []] := hS10.newAcc (Mod.refl _ _) Acc.nil (.inl rfl)
  have hS12 : St (fun _ => False) (fun _ => False) w0 w6 [bkR b1 [ptr bG 0] 33, bkR b3 [.bool true] 4, bkR b4 [.func (.func 126) #[] #[ptr b3 0, ptr b2 0, ptr b1 0, ptr b4 0]] 174, bkR b2 [.slice none 0 0] 22, accR encS 9 1 (.slice none 0 0) []] := hS11.sel [0, 2, 3, 1, 4] (by rfl) (by decide)
  have hS13 : St (fun _ => False) (fun _ => False) w0 w6 [bkR b1 [ptr bG 0] 33, bkR b3 [.bool true] 4, bkR b4 [.func (.func 126) #[] #[ptr b3 0, ptr b2 0, ptr b1 0, ptr b4 0]] 174, boxR [bkR b2 [.slice none 0 0] 22, accR encS 9 1 (.slice none 0 0) []]] := St.close (L1 := [bkR b1 [ptr bG 0] 33, bkR b3 [.bool true] 4, bkR b4 [.func (.func 126) #[] #[ptr b3 0, ptr b2 0, ptr b1 0, ptr b4 0]] 174]) hS12
  have hS14 : St (fun _ => False) (fun _ => False) w0 w6 [bkR b1 [ptr bG 0] 33, bkR b3 [.bool true] 4, bkR b4 [.func (.func 126) #[] #[ptr b3 0, ptr b2 0, ptr b1 0, ptr b4 0]] 174, tbR 22 9 1 encS b2 (([] : List Str))] := hS13.exi (.slice none 0 0) (i := 3) rfl
  have hS15 : St (fun _ => False) (fun _ => False) w0 w6 [bkR b3 [.bool true] 4, tbR 22 9 1 encS b2 (([] : List Str)), bkR b1 [ptr bG 0] 33, bkR b4 [.func (.func 126) #[] #[ptr b3 0, ptr b2 0, ptr b1 0, ptr b4 0]] 174] := hS14.sel [1, 3, 0, 2] (by rfl) (by decide)
  have hS16 : St (fun _ => False) (fun _ => False) w0 w6 [boxR [bkR b3 [.bool true] 4, tbR 22 9 1 encS b2 (([] : List Str)), bkR b1 [ptr bG 0] 33, bkR b4 [.func (.func 126) #[] #[ptr b3 0, ptr b2 0, ptr b1 0, ptr b4 0]] 174]] := St.close (L1 := []) hS15
  obtain ⟨Fy1, hAy1, hFy1, hky1⟩ := hS16.act (i := 0) rfl
  refine OL.act rfl rfl (AW.call (first := []) (cap := [ptr b3 0, ptr b2 0, ptr b1 0, ptr b4 0]) cl126 rfl rfl (toArgs (some1_c 13 (0) (([] : Str)) (0) hAy1 (fun b hb => (hFy1 b hb).2) (hrw.keep hS16.mod (hG _ hGb)) hGb (hsl.keep hS16.mod hG) (hrel.keep hS16.mod hG) (fun b hb hx => by have := (hFy1 b hx).1.1; rcases this with h | h; exact hG b hb h; have := hGl b hb; omega) (fun b hb => Nat.lt_of_lt_of_le (hGl b hb) hS16.mod.size) hNl hel hed (by omega) (by omega) (by first | omega | (simp only [List.length_append]; omega) | (simp only [List.length_nil]; omega)) (by first | omega | (simp only [List.length_nil]; omega))) (by omega)) ?_)
  rintro _ w7 ⟨rfl, hm7, F1, hB1, hF1⟩
  have hgo1_len := goesS_len N 14 0 (([] : Str)) (0) ([], true) (by first | omega | (simp only [List.length_nil]; omega))
  obtain ⟨⟨lg1, og1⟩, hgo1⟩ : ∃ x, x = (goesS N 14 0 (([] : Str)) 0 ([], true)) := ⟨_, rfl⟩
  rw [← hgo1] at hB1 hgo1_len
  dsimp only at hgo1_len
  have hS17 : St (fun _ => False) (fun _ => False) w0 w7 [boxR [bkR b3 [.bool og1] 4, tbR 22 9 1 encS b2 lg1, bkR b1 [ptr bG 0] 33, bkR b4 [.func (.func 126) #[] #[ptr b3 0, ptr b2 0, ptr b1 0, ptr b4 0]] 174]] := hky1 _ _ _ hm7 hB1 hF1
  clear hAy1 hFy1 hky1 hB1 hF1
  have hS18 : St (fun _ => False) (fun _ => False) w0 w7 [bkR b3 [.bool og1] 4, tbR 22 9 1 encS b2 lg1, bkR b1 [ptr bG 0] 33, bkR b4 [.func (.func 126) #[] #[ptr b3 0, ptr b2 0, ptr b1 0, ptr b4 0]] 174] := St.open (L1 := []) hS17
  refine OL.nil ?_
  refine r_seq ?_
  obtain ⟨vb1, hS19⟩ := hS18.exo (i := 1) rfl
  change St (fun _ => False) (fun _ => False) w0 w7 [bkR b3 [.bool og1] 4, boxR [bkR b2 [vb1] 22, accR encS 9 1 vb1 lg1], bkR b1 [ptr bG 0] 33, bkR b4 [.func (.func 126) #[] #[ptr b3 0, ptr b2 0, ptr b1 0, ptr b4 0]] 174] at hS19
  have hS20 : St (fun _ => False) (fun _ => False) w0 w7 [bkR b3 [.bool og1] 4, bkR b1 [ptr bG 0] 33, bkR b4 [.func (.func 126) #[] #[ptr b3 0, ptr b2 0, ptr b1 0, ptr b4 0]] 174, boxR [bkR b2 [vb1] 22, accR encS 9 1 vb1 lg1]] := hS19.sel [0, 2, 3, 1] (by rfl) (by decide)
  have hS21 : St (fun _ => False) (fun _ => False) w0 w7 [bkR b3 [.bool og1] 4, bkR b1 [ptr bG 0] 33, bkR b4 [.func (.func 126) #[] #[ptr b3 0, ptr b2 0, ptr b1 0, ptr b4 0]] 174, boxR [bkR b2 [vb1] 22, accR encS 9 1 vb1 lg1]] := hS20
  have hS22 : St (fun _ => False) (fun _ => False) w0 w7 [bkR b3 [.bool og1] 4, bkR b1 [ptr bG 0] 33, bkR b4 [.func (.func 126) #[] #[ptr b3 0, ptr b2 0, ptr b1 0, ptr b4 0]] 174, bkR b2 [vb1] 22, accR encS 9 1 vb1 lg1] := St.open (L1 := [bkR b3 [.bool og1] 4, bkR b1 [ptr bG 0] 33, bkR b4 [.func (.func 126) #[] #[ptr b3 0, ptr b2 0, ptr b1 0, ptr b4 0]] 174]) hS21
  refine r_draw1 (fun i => false) 9 (fun w' => Mod (Mg 0) w7 w') mixed (by kernel_rfl) ?_
  intro w8 hm8
  have hS23 := hS22.ext hm8
  have hCw8 : Mod (Mg 0) w7 w8 := Mod.ofExt hm8
  refine ⟨hCw8, ?_⟩
  rw [show List.range' 0 (Array.size _) = [0, 1, 2, 3, 4, 5, 6, 7, 8] from rfl]
  have f4 := hS22.bk (i := 3) rfl
  refine OD.q rfl rfl (Q1.load1 ti22 rfl (fun _ hc => (f4.cell 0 _ rfl).keepG hc (Nat.succ_ne_zero _))) rfl rfl ?_
  have f5 := hS22.bk (i := 0) rfl
  refine OD.q rfl rfl (Q1.load1 ti4 rfl (fun _ hc => (f5.cell 0 _ rfl).keepG hc (Nat.succ_ne_zero _))) rfl rfl ?_
  refine OD.q rfl rfl (Q1.move rfl) rfl rfl ?_
  cases og1 with
  | true =>
    refine OD.q rfl rfl (Q1.load1 ti22 rfl (fun _ hc => (f4.cell 0 _ rfl).keepG hc (Nat.succ_ne_zero _))) rfl rfl ?_
    obtain ⟨g1, f6, hl1, k1⟩ := hS22.accK (i := 4) rfl
    refine OD.q rfl rfl (Q1.lenSl Try.underlying22 (f6.sl) rfl) rfl rfl ?_
    refine OD.qb rfl rfl (Q1.le rfl rfl) rfl rfl ?_
    intro b5 hb5
    refine OD.q rfl rfl (Q1.pick_t rfl rfl) rfl rfl ?_
    refine OD.q rfl rfl (Q1.assign rfl) rfl rfl ?_
    refine OD.q rfl rfl (Q1.assign rfl) rfl rfl ?_
    refine OD.nil ?_
    refine r_ret2 Try.func101 rfl rfl rfl ?_
    have hw : someM N = (lg1, b5) := someM_eq hgo1 (by first | rfl | (rw [Bool.true_and]; first | (rw [hb5]; exact decide_eq_decide.2 (by omega)) | (symm; exact decide_eq_true (by omega)) | (symm; exact decide_eq_false (by omega))) | (simp; done))
    obtain ⟨g2, ha1, hg1⟩ := hS23.accOut (i := 4) rfl
    exact Ret.mk ⟨_, g2, by rw [hw], by rw [hw]; exact ha1, hg1, hS23.mod⟩
  | false =>
    refine OD.sk rfl rfl rfl ?_
    refine OD.sk rfl rfl rfl ?_
    refine OD.sk rfl rfl rfl ?_
    refine OD.q rfl rfl (Q1.pick_f rfl rfl) rfl rfl ?_
    refine OD.q rfl rfl (Q1.assign rfl) rfl rfl ?_
    refine OD.q rfl rfl (Q1.assign rfl) rfl rfl ?_
    refine OD.nil ?_
    refine r_ret2 Try.func101 rfl rfl rfl ?_
    have hw : someM N = (lg1, false) := someM_eq hgo1 (by first | rfl | (rw [Bool.true_and]; first | (rw [hll]; exact decide_eq_decide.2 (by omega)) | (symm; exact decide_eq_true (by omega)) | (symm; exact decide_eq_false (by omega))) | (simp; done))
    obtain ⟨g1, ha1, hg1⟩ := hS23.accOut (i := 4) rfl
    exact Ret.mk ⟨_, g1, by rw [hw], by rw [hw]; exact ha1, hg1, hS23.mod⟩
set_option maxRecDepth 20000 in
set_option maxHeartbeats 4000000 in
theorem like_c {w0 : World} {G : Nat → Prop} {bG : Nat} {vn : Value} {nds : List RNode} {N : List GN} {bG2 : Nat} {vn2 : Value} {nds2 : List RNode} {N2 : List GN} (hrw : Row w0 bG 0 [vn]) (hGb : G bG) (hsl : Sl encN w0 G vn nds) (hrel : NRel w0 G nds N) (hGl : ∀ b, G b → b < w0.heap.size) (hNl : N.length ≤ 1000000) (hel : ∀ x ∈ N, x.2.length ≤ 1000000) (hrw2 : Row w0 bG2 0 [vn2]) (hGb2 : G bG2) (hsl2 : Sl encN w0 G vn2 nds2) (hrel2 : NRel w0 G nds2 N2) (hNl2 : N2.length ≤ 1000000) (hel2 : ∀ x ∈ N2, x.2.length ≤ 1000000) :
    Calls Try.prog 102 #[ptr bG 0, ptr bG2 0] w0 (Ret fun rv w1 => rv = .bool (decide (N = N2)) ∧ Ext w0 w1) := by
  have hG : ∀ b, G b → ¬ (fun _ : Nat => False) b := fun _ _ h => h
  have hS00 := St.start0 w0
  have hnl := (All2.get hrel).1
  have hnl2 := (All2.get hrel2).1
  refine calls_enter Try.func102 rfl Try.ntmps102 rfl ?_
  refine r_seq ?_
  refine r_region ?_
  refine OL.q (Q1.assign rfl) rfl rfl ?_
  refine OL.nil ?_
  refine r_seq ?_
  refine r_seq ?_
  refine r_draw1 (fun i => false) 11 (fun w' => Mod (Mg 0) w0 w') mixed (by kernel_rfl) ?_
  intro w1 hm1
  have hS1 := hS00.ext hm1
  have hCw1 : Mod (Mg 0) w0 w1 := Mod.ofExt hm1
  refine ⟨hCw1, ?_⟩
  rw [show List.range' 0 (Array.size _) = [0, 1, 2, 3, 4, 5, 6, 7, 8, 9, 10] from rfl]
  refine OD.q rfl rfl (Q1.move rfl) rfl rfl ?_
  refine OD.q rfl rfl (Q1.nilCheckP rfl) rfl rfl ?_
  refine OD.q rfl rfl (Q1.fieldAddr fl86_0 rfl) rfl rfl ?_
  refine OD.q rfl rfl (Q1.load1 ti84 rfl (fun _ hc => hrw.keepG hc (Nat.succ_ne_zero _))) rfl rfl ?_
  refine OD.q rfl rfl (Q1.lenSl Try.underlying84 (hsl) rfl) rfl rfl ?_
  refine OD.q rfl rfl (Q1.move rfl) rfl rfl ?_
  refine OD.q rfl rfl (Q1.nilCheckP rfl) rfl rfl ?_
  refine OD.q rfl rfl (Q1.fieldAddr fl86_0 rfl) rfl rfl ?_
  refine OD.q rfl rfl (Q1.load1 ti84 rfl (fun _ hc => hrw2.keepG hc (Nat.succ_ne_zero _))) rfl rfl ?_
  refine OD.q rfl rfl (Q1.lenSl Try.underlying84 (hsl2) rfl) rfl rfl ?_
  refine OD.qb rfl rfl (Q1.ne rfl rfl) rfl rfl ?_
  intro b1 hb1
  refine OD.nil ?_
  cases b1 with
  | true =>
    replace hb1 := bne_iff_ne.1 hb1.symm
    refine r_cond_t rfl ?_
    refine r_seq ?_
    refine r_region ?_
    refine OL.q (Q1.assign rfl) rfl rfl ?_
    refine OL.nil ?_
    refine r_ret1 Try.func102 rfl rfl ?_
    have hw : decide (N = N2) = false := by first | exact like_len (by omega) | exact like_edge hgn1 hgn2 hxA hxB (by assumption) | exact like_no hgn1 hgn2 (fun e => by first | (have := congrArg (fun q : GN => q.2.length) e; simp only at this; omega) | (have := congrArg (fun q : GN => q.1) e; simp_all))
    exact Ret.mk ⟨by rw [hw], hS1.mod⟩
  | false =>
    replace hb1 := bne_eq_false_iff_eq.1 hb1.symm
    refine r_cond_f rfl ?_
    refine r_skip ?_
    refine r_seq ?_
    refine r_seq ?_
    refine r_region ?_
    refine OL.q (Q1.move rfl) rfl rfl ?_
    refine OL.q (Q1.nilCheckP rfl) rfl rfl ?_
    refine OL.q (Q1.fieldAddr fl86_0 rfl) rfl rfl ?_
    have f1 := hrw.keep hS1.mod (hG _ hGb)
    refine OL.q (Q1.load1 ti84 rfl (fun _ e => e ▸ f1)) rfl rfl ?_
    have f2 := hS1.out hsl hG
    refine OL.q (Q1.lenSl Try.underlying84 (f2) rfl) rfl rfl ?_
    refine OL.q (Q1.move rfl) rfl rfl ?_
    refine OL.nil ?_
    refine r_block ?_
    refine r_loop (I := fun m E W => ∃ (k : Nat), E = [(1, ptr bG2 0), (24, vn), (25, .int .i64 (((nds.length : Nat) : Int))), (26, .int .i64 (((k : Nat) : Int)))] ∧ m = N.length - k ∧ St (fun _ => False) (fun _ => False) w0 W [] ∧ (N.take k = N2.take k) ∧ (k ≤ N.length)) ?_ ?_
    · refine ⟨_, _, ⟨(0 : Nat), rfl, rfl, hS1, (by rfl), (by omega)⟩, ⟨rfl, rfl, rfl, rfl, trivial⟩⟩
    · rintro _ _ w2 ⟨k, rfl, rfl, hS2, hE1, hkl⟩ ih1
      refine r_seq ?_
      refine r_region ?_
      refine OL.qb (Q1.lt rfl rfl) rfl rfl ?_
      intro b2 hb2
      refine OL.nil ?_
      refine r_seq ?_
      cases b2 with
      | true =>
        replace hb2 := of_decide_eq_true hb2.symm
        refine r_cond_t rfl ?_
        refine r_skip ?_
        refine r_seq ?_
        refine r_block ?_
        refine r_seq ?_
        refine r_region ?_
        refine OL.q (Q1.move rfl) rfl rfl ?_
        have f3 := hS2.out hsl hG
        obtain ⟨x1, b3, o1, hx1, hr1, hl1, hw1⟩ := Sl.atF (P := Try.prog) f3 Try.underlying84 ti91 encN_len (k := .i64) (n := ((k : Nat) : Int)) (k) (by omega) (by first | assumption | omega)
        refine OL.q (Q1.indexAddr rfl rfl hr1) rfl rfl ?_
        refine OL.q (Q1.loadN ti91 rfl (fun _ e => e ▸ hw1) rfl) rfl rfl ?_
        obtain ⟨gn1, hgn1, hgf1, hgs1⟩ := hrel.at hx1
        have hel_gn1 := hel _ (List.mem_of_getElem? hgn1)
        obtain ⟨fb1, hfq1⟩ : ∃ b, x1.fin = b := ⟨_, rfl⟩
        first | rw [show encN x1 = [.bool fb1, x1.e.val] from by rw [← hfq1]; rfl] | rw [hfq1]
        have hfb1 : fb1 = gn1.1 := by rw [← hfq1]; first | exact hgf1 | exact hgf1.symm
        refine OL.act rfl rfl (AW.alloc ti91 ?_)
        intro w3 b4 hm2 hb3 hz1 hk1
        have hS3 := hS2.ext hm2
        have hS4 : St (fun _ => False) (fun _ => False) w0 w3 [bkR b4 [.bool false, .slice none 0 0] 91] := hS2.newBk hm2 hb3 hk1
        refine OL.q (Q1.assign rfl) rfl rfl ?_
        have f4 := hS4.bk (i := 0) rfl
        refine OL.act rfl rfl (AW.store ti91 rfl rfl rfl rfl rfl f4 (Nat.le_of_ble_eq_true rfl) ?_)
        intro w4 hm3 hz2 hk2
        have hS5 : St (fun _ => False) (fun _ => False) w0 w4 [bkR b4 [.bool fb1, x1.e.val] 91] := hS4.bkK (i := 0) rfl hm3 hk2
        refine OL.nil ?_
        refine r_seq ?_
        refine r_region ?_
        refine OL.q (Q1.move rfl) rfl rfl ?_
        refine OL.q (Q1.nilCheckP rfl) rfl rfl ?_
        refine OL.q (Q1.fieldAddr fl86_0 rfl) rfl rfl ?_
        have f5 := hrw2.keep hS5.mod (hG _ hGb2)
        refine OL.q (Q1.load1 ti84 rfl (fun _ e => e ▸ f5)) rfl rfl ?_
        refine OL.q (Q1.move rfl) rfl rfl ?_
        have f6 := hS5.out hsl2 hG
        obtain ⟨x2, b5, o2, hx2, hr2, hl2, hw2⟩ := Sl.atF (P := Try.prog) f6 Try.underlying84 ti91 encN_len (k := .i64) (n := ((k : Nat) : Int)) (k) (by omega) (by first | assumption | omega)
        refine OL.q (Q1.indexAddr rfl rfl hr2) rfl rfl ?_
        refine OL.q (Q1.loadN ti91 rfl (fun _ e => e ▸ hw2) rfl) rfl rfl ?_
        obtain ⟨gn2, hgn2, hgf2, hgs2⟩ := hrel2.at hx2
        have hel_gn2 := hel2 _ (List.mem_of_getElem? hgn2)
        obtain ⟨fb2, hfq2⟩ : ∃ b, x2.fin = b := ⟨_, rfl⟩
        first | rw [show encN x2 = [.bool fb2, x2.e.val] from by rw [← hfq2]; rfl] | rw [hfq2]
        have hfb2 : fb2 = gn2.1 := by rw [← hfq2]; first | exact hgf2 | exact hgf2.symm
        refine OL.act rfl rfl (AW.alloc ti91 ?_)
        intro w5 b6 hm4 hb4 hz3 hk3
        have hS6 := hS5.ext hm4
        have hS7 : St (fun _ => False) (fun _ => False) w0 w5 [bkR b4 [.bool fb1, x1.e.val] 91, bkR b6 [.bool false, .slice none 0 0] 91] := hS5.newBk hm4 hb4 hk3
        have f7 := hS7.bk (i := 1) rfl
        refine OL.act rfl rfl (AW.store ti91 rfl rfl rfl rfl rfl f7 (Nat.le_of_ble_eq_true rfl) ?_)
        intro w6 hm5 hz4 hk4
        have hS8 : St (fun _ => False) (fun _ => False) w0 w6 [bkR b4 [.bool fb1, x1.e.val] 91, bkR b6 [.bool fb2, x2.e.val] 91] := hS7.bkK (i := 1) rfl hm5 hk4
        refine OL.nil ?_
        refine r_seq ?_
        refine r_seq ?_
        refine r_region ?_
        refine OL.q (Q1.fieldAddr fl91_0 rfl) rfl rfl ?_
        have f8 := hS8.bk (i := 0) rfl
        refine OL.q (Q1.load1 ti4 rfl (fun _ e => e ▸ (f8.cell 0 _ rfl))) rfl rfl ?_
        refine OL.q (Q1.fieldAddr fl91_0 rfl) rfl rfl ?_
        have f9 := hS8.bk (i := 1) rfl
        refine OL.q (Q1.load1 ti4 rfl (fun _ e => e ▸ (f9.cell 0 _ rfl))) rfl rfl ?_
        refine OL.qb (Q1.neB Try.underlying4 rfl rfl) rfl rfl ?_
        intro b7 hb5
        refine OL.q (Q1.move rfl) rfl rfl ?_
        cases b7 with
        | true =>
          replace hb5 := nbeq_t hb5
          refine OL.sk rfl rfl ?_
          refine OL.sk rfl rfl ?_
          refine OL.sk rfl rfl ?_
          refine OL.sk rfl rfl ?_
          refine OL.sk rfl rfl ?_
          refine OL.sk rfl rfl ?_
          refine OL.sk rfl rfl ?_
          refine OL.q (Q1.pick_t rfl rfl) rfl rfl ?_
          refine OL.nil ?_
          refine r_cond_t rfl ?_
          refine r_seq ?_
          refine r_region ?_
          refine OL.q (Q1.assign rfl) rfl rfl ?_
          refine OL.nil ?_
          refine r_ret1 Try.func102 rfl rfl ?_
          have hw : decide (N = N2) = false := by first | exact like_len (by omega) | exact like_edge hgn1 hgn2 hxA hxB (by assumption) | exact like_no hgn1 hgn2 (fun e => by first | (have := congrArg (fun q : GN => q.2.length) e; simp only at this; omega) | (have := congrArg (fun q : GN => q.1) e; simp_all))
          exact Ret.mk ⟨by rw [hw], hS8.mod⟩
        | false =>
          replace hb5 := nbeq_f hb5
          refine OL.q (Q1.fieldAddr fl91_1 rfl) rfl rfl ?_
          refine OL.q (Q1.load1 ti49 rfl (fun _ e => e ▸ (f8.cell 1 _ rfl))) rfl rfl ?_
          have f10 := hS8.out hgs1 hG
          refine OL.q (Q1.lenSl Try.underlying49 (f10) rfl) rfl rfl ?_
          refine OL.q (Q1.fieldAddr fl91_1 rfl) rfl rfl ?_
          refine OL.q (Q1.load1 ti49 rfl (fun _ e => e ▸ (f9.cell 1 _ rfl))) rfl rfl ?_
          have f11 := hS8.out hgs2 hG
          refine OL.q (Q1.lenSl Try.underlying49 (f11) rfl) rfl rfl ?_
          refine OL.qb (Q1.ne rfl rfl) rfl rfl ?_
          intro b8 hb6
          refine OL.q (Q1.pick_f rfl rfl) rfl rfl ?_
          refine OL.nil ?_
          cases b8 with
          | true =>
            replace hb6 := bne_iff_ne.1 hb6.symm
            refine r_cond_t rfl ?_
            refine r_seq ?_
            refine r_region ?_
            refine OL.q (Q1.assign rfl) rfl rfl ?_
            refine OL.nil ?_
            refine r_ret1 Try.func102 rfl rfl ?_
            have hw : decide (N = N2) = false := by first | exact like_len (by omega) | exact like_edge hgn1 hgn2 hxA hxB (by assumption) | exact like_no hgn1 hgn2 (fun e => by first | (have := congrArg (fun q : GN => q.2.length) e; simp only at this; omega) | (have := congrArg (fun q : GN => q.1) e; simp_all))
            exact Ret.mk ⟨by rw [hw], hS8.mod⟩
          | false =>
            replace hb6 := bne_eq_false_iff_eq.1 hb6.symm
            refine r_cond_f rfl ?_
            refine r_skip ?_
            refine r_seq ?_
            refine r_region ?_
            refine OL.q (Q1.fieldAddr fl91_1 rfl) rfl rfl ?_
            refine OL.q (Q1.load1 ti49 rfl (fun _ e => e ▸ (f8.cell 1 _ rfl))) rfl rfl ?_
            refine OL.q (Q1.lenSl Try.underlying49 (f10) rfl) rfl rfl ?_
            refine OL.q (Q1.move rfl) rfl rfl ?_
            refine OL.nil ?_
            refine r_block ?_
            have hS10 : St (fun _ => False) (fun _ => False) w0 w6 [bkR b6 [.bool fb2, x2.e.val] 91] := hS8.sel [1] (by rfl) (by decide)
            refine r_loop (I := fun m E W => ∃ (j : Nat), E = [(1, ptr bG2 0), (7, ptr b6 0), (24, vn), (25, .int .i64 (((nds.length : Nat) : Int))), (26, .int .i64 (((k : Nat) : Int))), (53, x1.e.val), (54, .int .i64 (((gn1.2.length : Nat) : Int))), (55, .int .i64 (((j : Nat) : Int)))] ∧ m = gn1.2.length - j ∧ St (fun _ => False) (fun _ => False) w0 W [bkR b6 [.bool fb2, x2.e.val] 91] ∧ (gn1.2.take j = gn2.2.take j) ∧ (j ≤ gn1.2.length)) ?_ ?_
            · refine ⟨_, _, ⟨(0 : Nat), rfl, rfl, hS10, (by rfl), (by omega)⟩, ⟨rfl, rfl, rfl, rfl, rfl, rfl, rfl, rfl, trivial⟩⟩
            · rintro _ _ w7 ⟨j, rfl, rfl, hS9, hE2, hjl⟩ ih2
              refine r_seq ?_
              refine r_region ?_
              refine OL.qb (Q1.lt rfl rfl) rfl rfl ?_
              intro b9 hb7
              refine OL.nil ?_
              refine r_seq ?_
              cases b9 with
              | true =>
                replace hb7 := of_decide_eq_true hb7.symm
                refine r_cond_t rfl ?_
                refine r_skip ?_
                refine r_seq ?_
                refine r_block ?_
                refine r_seq ?_
                refine r_region ?_
                refine OL.q (Q1.move rfl) rfl rfl ?_
                have f12 := hS9.out hgs1 hG
                obtain ⟨x3, b10, o3, hx3, hr3, hl3, hw3⟩ := Sl.atF (P := Try.prog) f12 Try.underlying49 ti94 encE_len (k := .i64) (n := ((j : Nat) : Int)) (j) (by omega) (by first | assumption | omega)
                refine OL.q (Q1.indexAddr rfl rfl hr3) rfl rfl ?_
                refine OL.q (Q1.loadN ti94 rfl (fun _ e => e ▸ hw3) rfl) rfl rfl ?_
                have hxA := hx3
                refine OL.act rfl rfl (AW.alloc ti94 ?_)
                intro w8 b11 hm6 hb8 hz5 hk5
                have hS11 := hS9.ext hm6
                have hS12 : St (fun _ => False) (fun _ => False) w0 w8 [bkR b6 [.bool fb2, x2.e.val] 91, bkR b11 [.int .i32 0, .int .i64 0] 94] := hS9.newBk hm6 hb8 hk5
                refine OL.q (Q1.assign rfl) rfl rfl ?_
                have f13 := hS12.bk (i := 1) rfl
                refine OL.act rfl rfl (AW.store ti94 rfl rfl rfl rfl rfl f13 (Nat.le_of_ble_eq_true rfl) ?_)
                intro w9 hm7 hz6 hk6
                have hS13 : St (fun _ => False) (fun _ => False) w0 w9 [bkR b6 [.bool fb2, x2.e.val] 91, bkR b11 [.int .i32 x3.rune, .int .i64 x3.to] 94] := hS12.bkK (i := 1) rfl hm7 hk6
                refine OL.nil ?_
                refine r_seq ?_
                refine r_draw1 (fun i => false) 7 (fun w' => Mod (Mg 0) w9 w') mixed (by kernel_rfl) ?_
                intro w10 hm8
                have hS14 := hS13.ext hm8
                have hCw10 : Mod (Mg 0) w9 w10 := Mod.ofExt hm8
                refine ⟨hCw10, ?_⟩
                rw [show List.range' 0 (Array.size _) = [0, 1, 2, 3, 4, 5, 6] from rfl]
                have f14 := hS13.bk (i := 1) rfl
                refine OD.q rfl rfl (Q1.loadN ti94 rfl (fun _ hc => f14.row.keepG hc (Nat.succ_ne_zero _)) rfl) rfl rfl ?_
                refine OD.q rfl rfl (Q1.fieldAddr fl91_1 rfl) rfl rfl ?_
                have f15 := hS13.bk (i := 0) rfl
                refine OD.q rfl rfl (Q1.load1 ti49 rfl (fun _ hc => (f15.cell 1 _ rfl).keepG hc (Nat.succ_ne_zero _))) rfl rfl ?_
                refine OD.q rfl rfl (Q1.move rfl) rfl rfl ?_
                have f16 := hS13.out hgs2 hG
                obtain ⟨x4, b12, o4, hx4, hr4, hl4, hw4⟩ := Sl.atF (P := Try.prog) f16 Try.underlying49 ti94 encE_len (k := .i64) (n := ((j : Nat) : Int)) (j) (by omega) (by first | assumption | omega)
                refine OD.q rfl rfl (Q1.indexAddr rfl rfl hr4) rfl rfl ?_
                refine OD.q rfl rfl (Q1.loadN ti94 rfl (fun _ hc => hw4.keepG hc (Nat.succ_ne_zero _)) rfl) rfl rfl ?_
                have hxB := hx4
                refine OD.qb rfl rfl (Q1.neStruct (by kernel_rfl) (eqS94 x3 x4) rfl rfl) rfl rfl ?_
                intro b13 hb9
                refine OD.nil ?_
                cases b13 with
                | true =>
                  replace hb9 := ndec_t hb9
                  refine r_cond_t rfl ?_
                  refine r_seq ?_
                  refine r_region ?_
                  refine OL.q (Q1.assign rfl) rfl rfl ?_
                  refine OL.nil ?_
                  refine r_ret1 Try.func102 rfl rfl ?_
                  have hw : decide (N = N2) = false := by first | exact like_len (by omega) | exact like_edge hgn1 hgn2 hxA hxB (by assumption) | exact like_no hgn1 hgn2 (fun e => by first | (have := congrArg (fun q : GN => q.2.length) e; simp only at this; omega) | (have := congrArg (fun q : GN => q.1) e; simp_all))
                  exact Ret.mk ⟨by rw [hw], hS14.mod⟩
                | false =>
                  replace hb9 := ndec_f hb9
                  refine r_cond_f rfl ?_
                  refine r_skip ?_
                  refine r_inBlock ?_
                  refine r_region ?_
                  refine OL.q (Q1.addI (((j + 1 : Nat) : Int)) rfl rfl (by omega)) rfl rfl ?_
                  refine OL.q (Q1.move rfl) rfl rfl ?_
                  refine OL.nil ?_
                  have hS15 : St (fun _ => False) (fun _ => False) w0 w10 [bkR b6 [.bool fb2, x2.e.val] 91] := hS14.sel [0] (by rfl) (by decide)
                  exact (ih2 _ _ _ ⟨(j + 1 : Nat), rfl, rfl, hS15, (by first | (refine take_step hE2 hxA ?_; first | (rw [show x3 = x4 from by assumption]; exact hxB) | exact hxB) | (exfalso; omega)), (by first | omega | (exfalso; omega))⟩ (by omega)).sub ⟨rfl, rfl, rfl, rfl, rfl, rfl, rfl, rfl, trivial⟩
              | false =>
                replace hb7 := of_decide_eq_false hb7.symm
                refine r_cond_f rfl ?_
                refine r_exit rfl ?_
                refine r_inBlock ?_
                refine r_region ?_
                refine OL.q (Q1.addI (((k + 1 : Nat) : Int)) rfl rfl (by omega)) rfl rfl ?_
                refine OL.q (Q1.move rfl) rfl rfl ?_
                refine OL.nil ?_
                have hq : gn1 = gn2 := gn_eq (by rw [← hfb1, ← hfb2]; assumption) (take_all hE2 (by omega) (by omega))
                have hS11 : St (fun _ => False) (fun _ => False) w0 w7 [] := hS9.sel [] (by rfl) (by decide)
                exact (ih1 _ _ _ ⟨(k + 1 : Nat), rfl, rfl, hS11, (by first | exact take_step hE1 hgn1 (hq ▸ hgn2) | (exfalso; omega)), (by first | omega | (exfalso; omega))⟩ (by omega)).sub ⟨rfl, rfl, rfl, rfl, trivial⟩
      | false =>
        replace hb2 := of_decide_eq_false hb2.symm
        refine r_cond_f rfl ?_
        refine r_exit rfl ?_
        refine r_seq ?_
        refine r_region ?_
        refine OL.q (Q1.assign rfl) rfl rfl ?_
        refine OL.nil ?_
        refine r_ret1 Try.func102 rfl rfl ?_
        have hw : decide (N = N2) = true := decide_eq_true (take_all hE1 (by omega) (by omega))
        exact Ret.mk ⟨by rw [hw], hS2.mod⟩
set_option maxRecDepth 20000 in
set_option maxHeartbeats 4000000 in
theorem made_c {w0 : World} {G : Nat → Prop} {v_n : Value} {nds : List RNode} {N : List GN} (hsl : Sl encN w0 G v_n nds) (hrel : NRel w0 G nds N) (hGl : ∀ b, G b → b < w0.heap.size) (hNl : N.length ≤ 1000000) (hel : ∀ x ∈ N, x.2.length ≤ 1000000) :
    Calls Try.prog 69 #[v_n] w0 (Ret fun rv w1 => (∃ lo hi, Gr 0 w1 lo hi rv (madeG N) ∧ w0.heap.size ≤ lo ∧ hi ≤ w1.heap.size) ∧ Ext w0 w1) := by
  have hG : ∀ b, G b → ¬ (fun _ : Nat => False) b := fun _ _ h => h
  have hS00 := St.start0 w0
  have hnl := (All2.get hrel).1
  have hle := hsl.le
  refine calls_enter Try.func69 rfl Try.ntmps69 rfl ?_
  refine r_seq ?_
  refine r_region ?_
  refine OL.q (Q1.assign rfl) rfl rfl ?_
  refine OL.nil ?_
  refine r_seq ?_
  refine r_region ?_
  refine OL.q (Q1.build (vs := #[]) (v := .agg #[.slice none 0 0]) rfl (fun _ => by kernel_rfl)) rfl rfl ?_
  refine OL.act rfl rfl (AW.box [.slice none 0 0] rfl rfl ?_)
  intro w1 b1 hm1 hb1 hz1 hk1
  have hS1 := hS00.ext hm1
  have hS2 : St (fun _ => False) (fun _ => False) w0 w1 [bkR b1 [.slice none 0 0] 86] := hS00.newBk hm1 hb1 hk1
  refine OL.q (Q1.assign rfl) rfl rfl ?_
  refine OL.nil ?_
  refine r_seq ?_
  refine r_seq ?_
  refine r_region ?_
  have hS3 : St (fun _ => False) (fun _ => False) w0 w1 [bkR b1 [.slice none 0 0] 86, accR encN 91 2 (.slice none 0 0) []] := hS2.newAcc (Mod.refl _ _) Acc.nil (.inl rfl)
  have hS4 : St (fun _ => False) (fun _ => False) w0 w1 [boxR [bkR b1 [.slice none 0 0] 86, accR encN 91 2 (.slice none 0 0) []]] := St.close (L1 := []) hS3
  have hS5 : St (fun _ => False) (fun _ => False) w0 w1 [tbR 86 91 2 encN b1 (([] : List RNode))] := hS4.exi (.slice none 0 0) (i := 0) rfl
  have hS6 : St (fun _ => False) (fun _ => False) w0 w1 [tbR 86 91 2 encN b1 ((nds.take 0))] := hS5.imp (i := 0) rfl (fun F_ h_ => by rw [List.take_zero]; exact h_)
  refine OL.q (Q1.move rfl) rfl rfl ?_
  have f1 := hS6.out hsl hG
  refine OL.q (Q1.lenSl Try.underlying102 (f1) rfl) rfl rfl ?_
  refine OL.q (Q1.move rfl) rfl rfl ?_
  refine OL.nil ?_
  refine r_block ?_
  refine r_loop (I := fun m E W => ∃ (k : Nat), E = [(0, v_n), (3, ptr b1 0), (14, v_n), (15, .int .i64 (((nds.length : Nat) : Int))), (16, .int .i64 (((k : Nat) : Int)))] ∧ m = nds.length - k ∧ St (fun _ => False) (fun _ => False) w0 W [tbR 86 91 2 encN b1 ((nds.take k))] ∧ ((N.take k).all (fun x : GN => x.2.all (fun e : Ed => decide (1 ≤ e.to ∧ e.to < (N.length : Int)))) = true) ∧ (k ≤ nds.length)) ?_ ?_
  · refine ⟨_, _, ⟨(0 : Nat), rfl, rfl, hS6, (by rfl), (by omega)⟩, ⟨rfl, rfl, rfl, rfl, rfl, trivial⟩⟩
  · rintro _ _ w2 ⟨k, rfl, rfl, hS7, hR1, hkl⟩ ih1
    refine r_seq ?_
    refine r_region ?_
    refine OL.qb (Q1.lt rfl rfl) rfl rfl ?_
    intro b2 hb2
    refine OL.nil ?_
    refine r_seq ?_
    cases b2 with
    | true =>
      replace hb2 := of_decide_eq_true hb2.symm
      refine r_cond_t rfl ?_
      refine r_skip ?_
      refine r_seq ?_
      refine r_block ?_
      refine r_seq ?_
      refine r_region ?_
      have f2 := hS7.out hsl hG
      obtain ⟨x1, b3, o1, hx1, hr1, hl1, hw1⟩ := Sl.atF (P := Try.prog) f2 Try.underlying102 ti105 encN_len (k := .i64) (n := ((k : Nat) : Int)) (k) (by omega) (by first | assumption | omega)
      refine OL.q (Q1.indexAddr rfl rfl hr1) rfl rfl ?_
      refine OL.q (Q1.loadN ti105 rfl (fun _ e => e ▸ hw1) rfl) rfl rfl ?_
      obtain ⟨gn1, hgn1, hgf1, hgs1⟩ := hrel.at hx1
      have hel_gn1 := hel _ (List.mem_of_getElem? hgn1)
      obtain ⟨fb1, hfq1⟩ : ∃ b, x1.fin = b := ⟨_, rfl⟩
      first | rw [show encN x1 = [.bool fb1, x1.e.val] from by rw [← hfq1]; rfl] | rw [hfq1]
      have hfb1 : fb1 = gn1.1 := by rw [← hfq1]; first | exact hgf1 | exact hgf1.symm
      refine OL.act rfl rfl (AW.alloc ti105 ?_)
      intro w3 b4 hm2 hb3 hz2 hk2
      have hS8 := hS7.ext hm2
      have hS9 : St (fun _ => False) (fun _ => False) w0 w3 [tbR 86 91 2 encN b1 ((nds.take k)), bkR b4 [.bool false, .slice none 0 0] 105] := hS7.newBk hm2 hb3 hk2
      have f3 := hS9.bk (i := 1) rfl
      refine OL.act rfl rfl (AW.store ti105 rfl rfl rfl rfl rfl f3 (Nat.le_of_ble_eq_true rfl) ?_)
      intro w4 hm3 hz3 hk3
      have hS10 : St (fun _ => False) (fun _ => False) w0 w4 [tbR 86 91 2 encN b1 ((nds.take k)), bkR b4 [.bool fb1, x1.e.val] 105] := hS9.bkK (i := 1) rfl hm3 hk3
      refine OL.nil ?_
      refine r_seq ?_
      refine r_seq ?_
      refine r_region ?_
      refine OL.q (Q1.fieldAddr fl105_1 rfl) rfl rfl ?_
      have f4 := hS10.bk (i := 1) rfl
      refine OL.q (Q1.load1 ti49 rfl (fun _ e => e ▸ (f4.cell 1 _ rfl))) rfl rfl ?_
      have f5 := hS10.out hgs1 hG
      refine OL.q (Q1.lenSl Try.underlying49 (f5) rfl) rfl rfl ?_
      refine OL.q (Q1.move rfl) rfl rfl ?_
      refine OL.nil ?_
      refine r_block ?_
      refine r_loop (I := fun m E W => ∃ (j : Nat), E = [(0, v_n), (3, ptr b1 0), (5, ptr b4 0), (14, v_n), (15, .int .i64 (((nds.length : Nat) : Int))), (16, .int .i64 (((k : Nat) : Int))), (21, x1.e.val), (22, .int .i64 (((gn1.2.length : Nat) : Int))), (23, .int .i64 (((j : Nat) : Int)))] ∧ m = gn1.2.length - j ∧ St (fun _ => False) (fun _ => False) w0 W [tbR 86 91 2 encN b1 ((nds.take k)), bkR b4 [.bool fb1, x1.e.val] 105] ∧ ((gn1.2.take j).all (fun e : Ed => decide (1 ≤ e.to ∧ e.to < (N.length : Int))) = true) ∧ (j ≤ gn1.2.length)) ?_ ?_
      · refine ⟨_, _, ⟨(0 : Nat), rfl, rfl, hS10, (by rfl), (by omega)⟩, ⟨rfl, rfl, rfl, rfl, rfl, rfl, rfl, rfl, rfl, trivial⟩⟩
      · rintro _ _ w5 ⟨j, rfl, rfl, hS11, hR2, hjl⟩ ih2
        refine r_seq ?_
        refine r_region ?_
        refine OL.qb (Q1.lt rfl rfl) rfl rfl ?_
        intro b5 hb4
        refine OL.nil ?_
        refine r_seq ?_
        cases b5 with
        | true =>
          replace hb4 := of_decide_eq_true hb4.symm
          refine r_cond_t rfl ?_
          refine r_skip ?_
          refine r_seq ?_
          refine r_block ?_
          refine r_seq ?_
          refine r_region ?_
          have f6 := hS11.out hgs1 hG
          obtain ⟨x2, b6, o2, hx2, hr2, hl2, hw2⟩ := Sl.atF (P := Try.prog) f6 Try.underlying49 ti94 encE_len (k := .i64) (n := ((j : Nat) : Int)) (j) (by omega) (by first | assumption | omega)
          refine OL.q (Q1.indexAddr rfl rfl hr2) rfl rfl ?_
          refine OL.q (Q1.loadN ti94 rfl (fun _ e => e ▸ hw2) rfl) rfl rfl ?_
          have hxE := hx2
          refine OL.act rfl rfl (AW.alloc ti94 ?_)
          intro w6 b7 hm4 hb5 hz4 hk4
          have hS12 := hS11.ext hm4
          have hS13 : St (fun _ => False) (fun _ => False) w0 w6 [tbR 86 91 2 encN b1 ((nds.take k)), bkR b4 [.bool fb1, x1.e.val] 105, bkR b7 [.int .i32 0, .int .i64 0] 94] := hS11.newBk hm4 hb5 hk4
          have f7 := hS13.bk (i := 2) rfl
          refine OL.act rfl rfl (AW.store ti94 rfl rfl rfl rfl rfl f7 (Nat.le_of_ble_eq_true rfl) ?_)
          intro w7 hm5 hz5 hk5
          have hS14 : St (fun _ => False) (fun _ => False) w0 w7 [tbR 86 91 2 encN b1 ((nds.take k)), bkR b4 [.bool fb1, x1.e.val] 105, bkR b7 [.int .i32 x2.rune, .int .i64 x2.to] 94] := hS13.bkK (i := 2) rfl hm5 hk5
          refine OL.nil ?_
          refine r_seq ?_
          refine r_region ?_
          refine OL.q (Q1.fieldAddr fl94_1 rfl) rfl rfl ?_
          have f8 := hS14.bk (i := 2) rfl
          refine OL.q (Q1.load1 ti3 rfl (fun _ e => e ▸ (f8.cell 1 _ rfl))) rfl rfl ?_
          refine OL.qb (Q1.lt rfl rfl) rfl rfl ?_
          intro b8 hb6
          refine OL.q (Q1.move rfl) rfl rfl ?_
          cases b8 with
          | true =>
            replace hb6 := of_decide_eq_true hb6.symm
            refine OL.sk rfl rfl ?_
            refine OL.sk rfl rfl ?_
            refine OL.sk rfl rfl ?_
            refine OL.sk rfl rfl ?_
            refine OL.sk rfl rfl ?_
            refine OL.q (Q1.pick_t rfl rfl) rfl rfl ?_
            refine OL.nil ?_
            refine r_cond_t rfl ?_
            refine r_seq ?_
            refine r_region ?_
            refine OL.q (Q1.assign rfl) rfl rfl ?_
            refine OL.nil ?_
            refine r_ret1 Try.func69 rfl rfl ?_
            have hw : madeG N = [] := madeG_no (fun ⟨q1, q2, q3, q4, q5, q6, q7⟩ => by first | exact absurd q1 (rightE_no hgn1 hxE (by omega)) | omega | (rw [q4] at *; simp_all; done) | (rw [q5] at *; simp_all; done) | (simp_all; done))
            exact Ret.mk ⟨⟨w0.heap.size, w0.heap.size, .inl ⟨rfl, hw⟩, Nat.le_refl _, hS14.mod.size⟩, hS14.mod⟩
          | false =>
            replace hb6 := of_decide_eq_false hb6.symm
            refine OL.q (Q1.fieldAddr fl94_1 rfl) rfl rfl ?_
            refine OL.q (Q1.load1 ti3 rfl (fun _ e => e ▸ (f8.cell 1 _ rfl))) rfl rfl ?_
            refine OL.q (Q1.move rfl) rfl rfl ?_
            have f9 := hS14.out hsl hG
            refine OL.q (Q1.lenSl Try.underlying102 (f9) rfl) rfl rfl ?_
            refine OL.qb (Q1.ge rfl rfl) rfl rfl ?_
            intro b9 hb7
            refine OL.q (Q1.pick_f rfl rfl) rfl rfl ?_
            refine OL.nil ?_
            cases b9 with
            | true =>
              replace hb7 := of_decide_eq_true hb7.symm
              refine r_cond_t rfl ?_
              refine r_seq ?_
              refine r_region ?_
              refine OL.q (Q1.assign rfl) rfl rfl ?_
              refine OL.nil ?_
              refine r_ret1 Try.func69 rfl rfl ?_
              have hw : madeG N = [] := madeG_no (fun ⟨q1, q2, q3, q4, q5, q6, q7⟩ => by first | exact absurd q1 (rightE_no hgn1 hxE (by omega)) | omega | (rw [q4] at *; simp_all; done) | (rw [q5] at *; simp_all; done) | (simp_all; done))
              exact Ret.mk ⟨⟨w0.heap.size, w0.heap.size, .inl ⟨rfl, hw⟩, Nat.le_refl _, hS14.mod.size⟩, hS14.mod⟩
            | false =>
              replace hb7 := of_decide_eq_false hb7.symm
              refine r_cond_f rfl ?_
              refine r_skip ?_
              refine r_inBlock ?_
              refine r_region ?_
              refine OL.q (Q1.addI (((j + 1 : Nat) : Int)) rfl rfl (by omega)) rfl rfl ?_
              refine OL.q (Q1.move rfl) rfl rfl ?_
              refine OL.nil ?_
              have hS15 : St (fun _ => False) (fun _ => False) w0 w7 [tbR 86 91 2 encN b1 ((nds.take k)), bkR b4 [.bool fb1, x1.e.val] 105] := hS14.sel [0, 1] (by rfl) (by decide)
              exact (ih2 _ _ _ ⟨(j + 1 : Nat), rfl, rfl, hS15, (by first | exact all_take_succ hR2 hxE (decide_eq_true ⟨by omega, by omega⟩) | (exfalso; omega)), (by first | omega | (exfalso; omega))⟩ (by omega)).sub ⟨rfl, rfl, rfl, rfl, rfl, rfl, rfl, rfl, rfl, trivial⟩
        | false =>
          replace hb4 := of_decide_eq_false hb4.symm
          refine r_cond_f rfl ?_
          refine r_exit rfl ?_
          obtain ⟨vb1, hS12⟩ := hS11.exo (i := 0) rfl
          change St (fun _ => False) (fun _ => False) w0 w5 [boxR [bkR b1 [vb1] 86, accR encN 91 2 vb1 ((nds.take k))], bkR b4 [.bool fb1, x1.e.val] 105] at hS12
          have hS13 : St (fun _ => False) (fun _ => False) w0 w5 [bkR b4 [.bool fb1, x1.e.val] 105, boxR [bkR b1 [vb1] 86, accR encN 91 2 vb1 ((nds.take k))]] := hS12.sel [1, 0] (by rfl) (by decide)
          have hS14 : St (fun _ => False) (fun _ => False) w0 w5 [bkR b4 [.bool fb1, x1.e.val] 105, boxR [bkR b1 [vb1] 86, accR encN 91 2 vb1 ((nds.take k))]] := hS13
          have hS15 : St (fun _ => False) (fun _ => False) w0 w5 [bkR b4 [.bool fb1, x1.e.val] 105, bkR b1 [vb1] 86, accR encN 91 2 vb1 ((nds.take k))] := St.open (L1 := [bkR b4 [.bool fb1, x1.e.val] 105]) hS14
          obtain ⟨g1, f6, hl2, k1⟩ := hS15.accK (i := 2) rfl
          refine r_draw1 (fun i => Nat.beq i 10 || Nat.beq i 11 || Nat.beq i 14) 14 (fun w' => Mod (Mg g1) w5 w') mixed (by kernel_rfl) ?_
          intro w6 hm4
          have hS16 := hS15.ext hm4
          have hCw6 : Mod (Mg g1) w5 w6 := Mod.ofExt hm4
          refine ⟨hCw6, ?_⟩
          rw [show List.range' 0 (Array.size _) = [0, 1, 2, 3, 4, 5, 6, 7, 8, 9, 10, 11, 12, 13, 14] from rfl]
          refine OD.q rfl rfl (Q1.move rfl) rfl rfl ?_
          refine OD.q rfl rfl (Q1.move rfl) rfl rfl ?_
          refine OD.q rfl rfl (Q1.nilCheckP rfl) rfl rfl ?_
          refine OD.q rfl rfl (Q1.fieldAddr fl86_0 rfl) rfl rfl ?_
          have f7 := hS15.bk (i := 1) rfl
          refine OD.q rfl rfl (Q1.load1 ti84 rfl (fun _ hc => (f7.cell 0 _ rfl).keepG hc (hS15.ne (i := 2) (j := 1) rfl rfl (by decide) f6))) rfl rfl ?_
          refine OD.q rfl rfl (Q1.fieldAddr fl105_0 rfl) rfl rfl ?_
          have f8 := hS15.bk (i := 0) rfl
          refine OD.q rfl rfl (Q1.load1 ti4 rfl (fun _ hc => (f8.cell 0 _ rfl).keepG hc (hS15.ne (i := 2) (j := 0) rfl rfl (by decide) f6))) rfl rfl ?_
          refine OD.q rfl rfl (Q1.fieldAddr fl105_1 rfl) rfl rfl ?_
          refine OD.q rfl rfl (Q1.load1 ti49 rfl (fun _ hc => (f8.cell 1 _ rfl).keepG hc (hS15.ne (i := 2) (j := 0) rfl rfl (by decide) f6))) rfl rfl ?_
          refine OD.q rfl rfl (Q1.build (vs := #[(0, (.bool fb1 : Value)), (1, x1.e.val)]) (v := .agg #[.bool fb1, x1.e.val]) rfl (fun _ => by kernel_rfl)) rfl rfl ?_
          refine OD.act rfl rfl rfl rfl (AW.buildSlice [(.agg #[.bool fb1, x1.e.val] : Value)] Try.underlying84 ti91 rfl rfl rfl (by decide) ?_)
          intro w7 b6 hm5 hb5 hz4 hk4
          have hS17 := hS16.ext hm5
          have hl3 := Sl.of_blk (enc := encN) hk4 ([(RNode.mk fb1 x1.e)] : List RNode) 1 rfl rfl (by unfold maxLen; omega)
          have hS18 : St (fun _ => False) (fun _ => False) w0 w7 [bkR b4 [.bool fb1, x1.e.val] 105, bkR b1 [vb1] 86, accR encN 91 2 vb1 ((nds.take k)), slR encN [((.slice (some ⟨b6, 0, none⟩) 1 1), [(RNode.mk fb1 x1.e)])]] := hS16.newSlB hm5 hb5 hz4 hl3
          have hCw7 := hCw6.ext hm5
          refine ⟨.inr hCw7, ?_⟩
          obtain ⟨g3, f9, hl4, k2⟩ := hS18.accK (i := 2) rfl
          have he1 := Acc.uniq f6 f9
          subst he1
          have f10 := hS18.sl (i := 3) (k := 0) rfl rfl
          refine OD.act rfl rfl rfl rfl (AW.append f9 Try.underlying84 ti91 rfl encN_len encN_one rfl rfl (f10) (by first | omega | (simp only [List.length_append, List.length_cons, List.length_nil]; omega) | (simp; omega)) (by unfold maxLen; first | omega | (simp only [List.length_append, List.length_cons, List.length_nil]; omega) | (simp; omega)) ?_)
          intro v1 g2 w8 ha1 hm6 hg1 hz5
          have hS19 : St (fun _ => False) (fun _ => False) w0 w8 [bkR b4 [.bool fb1, x1.e.val] 105, bkR b1 [vb1] 86, accR encN 91 2 v1 (((nds.take k) ++ [(RNode.mk fb1 x1.e)])), slR encN [((.slice (some ⟨b6, 0, none⟩) 1 1), [(RNode.mk fb1 x1.e)])]] := k2 _ _ _ _ hm6 ha1 hg1
          have hCw8 := hCw7.trans hm6
          refine ⟨.inr hCw8, ?_⟩
          clear hg1
          refine OD.q rfl rfl (Q1.nilCheckP rfl) rfl rfl ?_
          refine OD.q rfl rfl (Q1.fieldAddr fl86_0 rfl) rfl rfl ?_
          obtain ⟨g4, f11, hl5, k3⟩ := hS19.accK (i := 2) rfl
          obtain ⟨ad1, cp1, hv1⟩ := f11.shape
          subst hv1
          have f12 := hS19.bk (i := 1) rfl
          refine OD.act rfl rfl rfl rfl (AW.store ti84 rfl rfl rfl rfl rfl f12 (Nat.le_of_ble_eq_true rfl) ?_)
          intro w9 hm7 hz6 hk5
          have hS20 : St (fun _ => False) (fun _ => False) w0 w9 [bkR b4 [.bool fb1, x1.e.val] 105, bkR b1 [(.slice ad1 (((nds.take k) ++ [(RNode.mk fb1 x1.e)])).length cp1)] 86, accR encN 91 2 ((.slice ad1 (((nds.take k) ++ [(RNode.mk fb1 x1.e)])).length cp1)) (((nds.take k) ++ [(RNode.mk fb1 x1.e)])), slR encN [((.slice (some ⟨b6, 0, none⟩) 1 1), [(RNode.mk fb1 x1.e)])]] := hS19.bkK (i := 1) rfl hm7 hk5
          refine ⟨.inl rfl, ?_⟩
          refine OD.nil ?_
          refine r_inBlock ?_
          refine r_region ?_
          have hS21 : St (fun _ => False) (fun _ => False) w0 w9 [bkR b4 [.bool fb1, x1.e.val] 105, slR encN [((.slice (some ⟨b6, 0, none⟩) 1 1), [(RNode.mk fb1 x1.e)])], bkR b1 [(.slice ad1 (((nds.take k) ++ [(RNode.mk fb1 x1.e)])).length cp1)] 86, accR encN 91 2 ((.slice ad1 (((nds.take k) ++ [(RNode.mk fb1 x1.e)])).length cp1)) (((nds.take k) ++ [(RNode.mk fb1 x1.e)]))] := hS20.sel [0, 3, 1, 2] (by rfl) (by decide)
          have hS22 : St (fun _ => False) (fun _ => False) w0 w9 [bkR b4 [.bool fb1, x1.e.val] 105, slR encN [((.slice (some ⟨b6, 0, none⟩) 1 1), [(RNode.mk fb1 x1.e)])], boxR [bkR b1 [(.slice ad1 (((nds.take k) ++ [(RNode.mk fb1 x1.e)])).length cp1)] 86, accR encN 91 2 ((.slice ad1 (((nds.take k) ++ [(RNode.mk fb1 x1.e)])).length cp1)) (((nds.take k) ++ [(RNode.mk fb1 x1.e)]))]] := St.close (L1 := [bkR b4 [.bool fb1, x1.e.val] 105, slR encN [((.slice (some ⟨b6, 0, none⟩) 1 1), [(RNode.mk fb1 x1.e)])]]) hS21
          have hS23 : St (fun _ => False) (fun _ => False) w0 w9 [bkR b4 [.bool fb1, x1.e.val] 105, slR encN [((.slice (some ⟨b6, 0, none⟩) 1 1), [(RNode.mk fb1 x1.e)])], tbR 86 91 2 encN b1 (((nds.take k) ++ [(RNode.mk fb1 x1.e)]))] := hS22.exi (.slice ad1 (((nds.take k) ++ [(RNode.mk fb1 x1.e)])).length cp1) (i := 2) rfl
          have hS24 : St (fun _ => False) (fun _ => False) w0 w9 [bkR b4 [.bool fb1, x1.e.val] 105, slR encN [((.slice (some ⟨b6, 0, none⟩) 1 1), [(RNode.mk fb1 x1.e)])], tbR 86 91 2 encN b1 ((nds.take (k + 1)))] := hS23.imp (i := 2) rfl (fun F_ h_ => by rw [List.take_add_one, hx1]; first | exact h_ | (rw [← hfq1] at h_; exact h_))
          refine OL.q (Q1.addI (((k + 1 : Nat) : Int)) rfl rfl (by omega)) rfl rfl ?_
          refine OL.q (Q1.move rfl) rfl rfl ?_
          refine OL.nil ?_
          have hS25 : St (fun _ => False) (fun _ => False) w0 w9 [tbR 86 91 2 encN b1 ((nds.take (k + 1)))] := hS24.sel [2] (by rfl) (by decide)
          exact (ih1 _ _ _ ⟨(k + 1 : Nat), rfl, rfl, hS25, (by first | exact all_take_succ hR1 hgn1 (by rwa [List.take_of_length_le (by omega)] at hR2) | (exfalso; omega)), (by first | omega | (exfalso; omega))⟩ (by omega)).sub ⟨rfl, rfl, rfl, rfl, rfl, trivial⟩
    | false =>
      replace hb2 := of_decide_eq_false hb2.symm
      refine r_cond_f rfl ?_
      refine r_exit rfl ?_
      refine r_seq ?_
      refine r_seq ?_
      refine r_region ?_
      have hS8 : St (fun _ => False) (fun _ => False) w0 w2 [tbR 86 91 2 encN b1 nds] := hS7.imp (i := 0) rfl (fun F_ h_ => by rw [List.take_of_length_le (by omega)] at h_; exact h_)
      have hright : rightE N = true := by unfold rightE; rwa [List.take_of_length_le (by omega)] at hR1
      obtain ⟨vb1, hS9⟩ := hS8.exo (i := 0) rfl
      change St (fun _ => False) (fun _ => False) w0 w2 [boxR [bkR b1 [vb1] 86, accR encN 91 2 vb1 nds]] at hS9
      have hS10 : St (fun _ => False) (fun _ => False) w0 w2 [bkR b1 [vb1] 86, accR encN 91 2 vb1 nds] := St.open (L1 := []) hS9
      refine OL.q (Q1.move rfl) rfl rfl ?_
      have f2 := hS10.out hsl hG
      refine OL.q (Q1.lenSl Try.underlying102 (f2) rfl) rfl rfl ?_
      refine OL.qb (Q1.eq rfl rfl) rfl rfl ?_
      intro b3 hb3
      refine OL.q (Q1.move rfl) rfl rfl ?_
      cases b3 with
      | true =>
        replace hb3 := eq_of_beq hb3.symm
        refine OL.sk rfl rfl ?_
        refine OL.sk rfl rfl ?_
        refine OL.sk rfl rfl ?_
        refine OL.q (Q1.pick_t rfl rfl) rfl rfl ?_
        refine OL.q (Q1.move rfl) rfl rfl ?_
        refine OL.sk rfl rfl ?_
        refine OL.sk rfl rfl ?_
        refine OL.sk rfl rfl ?_
        refine OL.q (Q1.pick_t rfl rfl) rfl rfl ?_
        refine OL.nil ?_
        refine r_cond_t rfl ?_
        refine r_seq ?_
        refine r_region ?_
        refine OL.q (Q1.assign rfl) rfl rfl ?_
        refine OL.nil ?_
        refine r_ret1 Try.func69 rfl rfl ?_
        have hw : madeG N = [] := madeG_no (fun ⟨q1, q2, q3, q4, q5, q6, q7⟩ => by first | exact absurd q1 (rightE_no hgn1 hxE (by omega)) | omega | (rw [q4] at *; simp_all; done) | (rw [q5] at *; simp_all; done) | (simp_all; done))
        exact Ret.mk ⟨⟨w0.heap.size, w0.heap.size, .inl ⟨rfl, hw⟩, Nat.le_refl _, hS10.mod.size⟩, hS10.mod⟩
      | false =>
        replace hb3 := ne_of_beq_false hb3.symm
        refine OL.q (Q1.move rfl) rfl rfl ?_
        refine OL.q (Q1.lenSl Try.underlying102 (f2) rfl) rfl rfl ?_
        refine OL.qb (Q1.gt rfl rfl) rfl rfl ?_
        intro b4 hb4
        refine OL.q (Q1.pick_f rfl rfl) rfl rfl ?_
        refine OL.q (Q1.move rfl) rfl rfl ?_
        cases b4 with
        | true =>
          replace hb4 := of_decide_eq_true hb4.symm
          refine OL.sk rfl rfl ?_
          refine OL.sk rfl rfl ?_
          refine OL.sk rfl rfl ?_
          refine OL.q (Q1.pick_t rfl rfl) rfl rfl ?_
          refine OL.nil ?_
          refine r_cond_t rfl ?_
          refine r_seq ?_
          refine r_region ?_
          refine OL.q (Q1.assign rfl) rfl rfl ?_
          refine OL.nil ?_
          refine r_ret1 Try.func69 rfl rfl ?_
          have hw : madeG N = [] := madeG_no (fun ⟨q1, q2, q3, q4, q5, q6, q7⟩ => by first | exact absurd q1 (rightE_no hgn1 hxE (by omega)) | omega | (rw [q4] at *; simp_all; done) | (rw [q5] at *; simp_all; done) | (simp_all; done))
          exact Ret.mk ⟨⟨w0.heap.size, w0.heap.size, .inl ⟨rfl, hw⟩, Nat.le_refl _, hS10.mod.size⟩, hS10.mod⟩
        | false =>
          replace hb4 := of_decide_eq_false hb4.symm
          refine OL.q (Q1.move rfl) rfl rfl ?_
          have f3 := hS10.bk (i := 0) rfl
          obtain ⟨gq1, haq1, hlq1, _⟩ := hS10.accK (i := 1) rfl
          have ht1 := gr_held f3 haq1 hlq1 (hrel.keep hS10.mod hG) (fun b hb => Nat.lt_of_lt_of_le (hGl b hb) hS10.mod.size)
          refine OL.act rfl rfl (AW.callF cl100 rfl (whole_c (w0 := w2) (G := fun b => b < w2.heap.size) ht1.1 ht1.2.1 ht1.2.2.1 ht1.2.2.2 (fun _ h => h) hNl hel (rightE_iff.1 hright) (by omega)) ?_)
          rintro _ w3 ⟨rfl, hm2⟩
          have hS11 := hS10.ext hm2
          generalize hb5 : wholeM N = b5
          replace hb5 := hb5.symm
          cases b5 with
          | true =>
            replace hb5 := hb5.symm
            refine OL.q (Q1.not rfl) rfl rfl ?_
            refine OL.q (Q1.pick_f rfl rfl) rfl rfl ?_
            refine OL.nil ?_
            refine r_cond_f rfl ?_
            refine r_skip ?_
            refine r_seq ?_
            refine r_region ?_
            refine OL.q (Q1.move rfl) rfl rfl ?_
            have f4 := hS11.bk (i := 0) rfl
            obtain ⟨gq2, haq2, hlq2, _⟩ := hS11.accK (i := 1) rfl
            have ht2 := gr_held f4 haq2 hlq2 (hrel.keep hS11.mod hG) (fun b hb => Nat.lt_of_lt_of_le (hGl b hb) hS11.mod.size)
            refine OL.act rfl rfl (AW.callF cl101 rfl (some_c (w0 := w3) (G := fun b => b < w3.heap.size) ht2.1 ht2.2.1 ht2.2.2.1 ht2.2.2.2 (fun _ h => h) hNl hel (rightE_iff.1 hright) (by omega)) ?_)
            rintro _ w4 ⟨v1, gr1, rfl, ha1, hg1, hm3⟩
            have hS12 := hS11.ext hm3
            have hS13 : St (fun _ => False) (fun _ => False) w0 w4 [bkR b1 [vb1] 86, accR encN 91 2 vb1 nds, accR encS 9 1 v1 ((someM N).1)] := hS11.newAcc hm3 ha1 hg1
            clear hg1
            have := someM_len N
            generalize hb6 : (someM N).2 = b6
            replace hb6 := hb6.symm
            refine OL.q (Q1.move rfl) rfl rfl ?_
            refine OL.q (Q1.extract rfl rfl) rfl rfl ?_
            refine OL.q (Q1.extract rfl rfl) rfl rfl ?_
            refine OL.q (Q1.assign rfl) rfl rfl ?_
            refine OL.q (Q1.assign rfl) rfl rfl ?_
            refine OL.nil ?_
            refine r_seq ?_
            refine r_seq ?_
            refine r_region ?_
            refine OL.q (Q1.move rfl) rfl rfl ?_
            cases b6 with
            | true =>
              replace hb6 := hb6.symm
              refine OL.q (Q1.not rfl) rfl rfl ?_
              refine OL.nil ?_
              refine r_cond_f rfl ?_
              refine r_skip ?_
              refine r_seq ?_
              refine r_region ?_
              refine OL.q (Q1.move rfl) rfl rfl ?_
              obtain ⟨g1, f5, hl1, k1⟩ := hS13.accK (i := 2) rfl
              refine OL.act rfl rfl (AW.callF cl19 rfl (build_c (w0 := w4) (words := (someM N).1) (f5.sl.iv (Nat.zero_le _) f5.lt) (someM_ok N) (by omega)) ?_)
              rintro _ w5 ⟨vg1, _, rfl, ⟨lo1, hi1, hgr1, hlo1, hhi1⟩, rfl, hm4⟩
              have hS14 := hS13.ext hm4
              have := goodL_range (someM N).1
              have hS15 : St (fun _ => False) (fun _ => False) w0 w5 [bkR b1 [vb1] 86, accR encN 91 2 vb1 nds, accR encS 9 1 v1 ((someM N).1), grR vg1 (gnodes (someM N).1)] := hS13.newGr hm4 hgr1 hlo1 hhi1
              refine OL.q (Q1.move rfl) rfl rfl ?_
              refine OL.q (Q1.extract rfl rfl) rfl rfl ?_
              refine OL.q (Q1.extract rfl rfl) rfl rfl ?_
              refine OL.q (Q1.assign rfl) rfl rfl ?_
              refine OL.q (Q1.assign rfl) rfl rfl ?_
              refine OL.nil ?_
              refine r_seq ?_
              refine r_seq ?_
              refine r_region ?_
              refine OL.q (Q1.move rfl) rfl rfl ?_
              refine OL.qb (Q1.ne rfl rfl) rfl rfl ?_
              intro b7 hb7
              refine OL.q (Q1.move rfl) rfl rfl ?_
              cases b7 with
              | true =>
                replace hb7 := bne_iff_ne.1 hb7.symm
                refine OL.sk rfl rfl ?_
                refine OL.sk rfl rfl ?_
                refine OL.sk rfl rfl ?_
                refine OL.sk rfl rfl ?_
                refine OL.q (Q1.pick_t rfl rfl) rfl rfl ?_
                refine OL.nil ?_
                refine r_cond_t rfl ?_
                refine r_seq ?_
                refine r_region ?_
                refine OL.q (Q1.assign rfl) rfl rfl ?_
                refine OL.nil ?_
                refine r_ret1 Try.func69 rfl rfl ?_
                have hw : madeG N = [] := madeG_no (fun ⟨q1, q2, q3, q4, q5, q6, q7⟩ => by first | exact absurd q1 (rightE_no hgn1 hxE (by omega)) | omega | (rw [q4] at *; simp_all; done) | (rw [q5] at *; simp_all; done) | (simp_all; done))
                exact Ret.mk ⟨⟨w0.heap.size, w0.heap.size, .inl ⟨rfl, hw⟩, Nat.le_refl _, hS15.mod.size⟩, hS15.mod⟩
              | false =>
                replace hb7 := bne_eq_false_iff_eq.1 hb7.symm
                refine OL.q (Q1.move rfl) rfl rfl ?_
                refine OL.q (Q1.move rfl) rfl rfl ?_
                have f6 := hS15.bk (i := 0) rfl
                obtain ⟨gq3, haq3, hlq3, _⟩ := hS15.accK (i := 1) rfl
                have ht3 := gr_held f6 haq3 hlq3 (hrel.keep hS15.mod hG) (fun b hb => Nat.lt_of_lt_of_le (hGl b hb) hS15.mod.size)
                obtain ⟨lo2, hi2, hgr2, hhi2⟩ := hS15.grAt (i := 3) rfl
                have hg0 : goodL (someM N).1 = 0 := by first | assumption | omega
                have hgok := gok_of hg0
                obtain ⟨bsm1, vnm1, ndm1, hv1, km1, km2, km3, km4⟩ := gr_told hgr2 (gnodes_ne hg0) hhi2
                subst hv1
                refine OL.act rfl rfl (AW.callF cl102 rfl (like_c (w0 := w5) (G := fun b => b < w5.heap.size) km1 km2 km3 km4 (fun _ h => h) hgok.edges.2.1 hgok.edges.2.2 ht3.1 ht3.2.1 ht3.2.2.1 ht3.2.2.2 hNl hel) ?_)
                rintro _ w6 ⟨rfl, hm5⟩
                have hS16 := hS15.ext hm5
                generalize hb8 : decide (gnodes (someM N).1 = N) = b8
                replace hb8 := hb8.symm
                cases b8 with
                | true =>
                  replace hb8 := of_decide_eq_true hb8.symm
                  refine OL.q (Q1.not rfl) rfl rfl ?_
                  refine OL.q (Q1.pick_f rfl rfl) rfl rfl ?_
                  refine OL.nil ?_
                  refine r_cond_f rfl ?_
                  refine r_skip ?_
                  refine r_seq ?_
                  refine r_region ?_
                  refine OL.q (Q1.move rfl) rfl rfl ?_
                  refine OL.q (Q1.assign rfl) rfl rfl ?_
                  refine OL.nil ?_
                  refine r_ret1 Try.func69 rfl rfl ?_
                  have hw : madeG N = gnodes (someM N).1 := madeG_yes ⟨hright, by omega, by omega, by assumption, by assumption, hg0, by assumption⟩
                  obtain ⟨lo3, hi3, hgr3, hlo2, hhi3⟩ := hS16.grOut (i := 3) rfl (gnodes_ne hg0)
                  exact Ret.mk ⟨⟨lo3, hi3, by rw [hw]; exact hgr3, hlo2, hhi3⟩, hS16.mod⟩
                | false =>
                  replace hb8 := of_decide_eq_false hb8.symm
                  refine OL.q (Q1.not rfl) rfl rfl ?_
                  refine OL.q (Q1.pick_f rfl rfl) rfl rfl ?_
                  refine OL.nil ?_
                  refine r_cond_t rfl ?_
                  refine r_seq ?_
                  refine r_region ?_
                  refine OL.q (Q1.assign rfl) rfl rfl ?_
                  refine OL.nil ?_
                  refine r_ret1 Try.func69 rfl rfl ?_
                  have hw : madeG N = [] := madeG_no (fun ⟨q1, q2, q3, q4, q5, q6, q7⟩ => by first | exact absurd q1 (rightE_no hgn1 hxE (by omega)) | omega | (rw [q4] at *; simp_all; done) | (rw [q5] at *; simp_all; done) | (simp_all; done))
                  exact Ret.mk ⟨⟨w0.heap.size, w0.heap.size, .inl ⟨rfl, hw⟩, Nat.le_refl _, hS16.mod.size⟩, hS16.mod⟩
            | false =>
              replace hb6 := hb6.symm
              refine OL.q (Q1.not rfl) rfl rfl ?_
              refine OL.nil ?_
              refine r_cond_t rfl ?_
              refine r_seq ?_
              refine r_region ?_
              refine OL.q (Q1.assign rfl) rfl rfl ?_
              refine OL.nil ?_
              refine r_ret1 Try.func69 rfl rfl ?_
              have hw : madeG N = [] := madeG_no (fun ⟨q1, q2, q3, q4, q5, q6, q7⟩ => by first | exact absurd q1 (rightE_no hgn1 hxE (by omega)) | omega | (rw [q4] at *; simp_all; done) | (rw [q5] at *; simp_all; done) | (simp_all; done))
              exact Ret.mk ⟨⟨w0.heap.size, w0.heap.size, .inl ⟨rfl, hw⟩, Nat.le_refl _, hS13.mod.size⟩, hS13.mod⟩
          | false =>
            replace hb5 := hb5.symm
            refine OL.q (Q1.not rfl) rfl rfl ?_
            refine OL.q (Q1.pick_f rfl rfl) rfl rfl ?_
            refine OL.nil ?_
            refine r_cond_t rfl ?_
            refine r_seq ?_
            refine r_region ?_
            refine OL.q (Q1.assign rfl) rfl rfl ?_
            refine OL.nil ?_
            refine r_ret1 Try.func69 rfl rfl ?_
            have hw : madeG N = [] := madeG_no (fun ⟨q1, q2, q3, q4, q5, q6, q7⟩ => by first | exact absurd q1 (rightE_no hgn1 hxE (by omega)) | omega | (rw [q4] at *; simp_all; done) | (rw [q5] at *; simp_all; done) | (simp_all; done))
            exact Ret.mk ⟨⟨w0.heap.size, w0.heap.size, .inl ⟨rfl, hw⟩, Nat.le_refl _, hS11.mod.size⟩, hS11.mod⟩
end Go.Proofs
namespace Go.Proofs
open Go.Ik Go.Ml
set_option maxRecDepth 20000 in
set_option maxHeartbeats 4000000 in
theorem turn_c {w0 : World}  (c : Nat) (b : UInt8) (h_c : c < 4294967296) :
    Calls Try.prog 124 #[.int .u32 (((c : Nat) : Int)), .int .u8 ((b.toNat : Int))] w0 (Ret fun rv w1 => rv = .int .u32 (((turnN c b.toNat : Nat) : Int)) ∧ Ext w0 w1) := by
  have hE0 : Ext w0 w0 := Mod.refl _ _
  have hbb := b.toNat_lt
  refine calls_enter Try.func124 rfl Try.ntmps124 rfl ?_
  refine r_seq ?_
  refine r_region ?_
  refine OL.q (Q1.assign rfl) rfl rfl ?_
  refine OL.nil ?_
  refine r_seq ?_
  refine r_region ?_
  refine OL.q (Q1.move rfl) rfl rfl ?_
  refine OL.q (Q1.move rfl) rfl rfl ?_
  refine OL.q (Q1.convN (by kernel_rfl) Try.underlying95 rfl (IntWalk.u32_in _ (by omega))) rfl rfl ?_
  have hxl1 := xor_lt32 (a := c) (b := b.toNat) (by omega) (by omega)
  refine OL.q (Q1.xor32 (a := c) (b := b.toNat) rfl rfl (by omega) (by omega)) rfl rfl ?_
  refine OL.q (Q1.assign rfl) rfl rfl ?_
  refine OL.nil ?_
  refine r_seq ?_
  refine r_seq ?_
  refine r_region ?_
  refine OL.q (Q1.move rfl) rfl rfl ?_
  refine OL.nil ?_
  refine r_block ?_
  refine r_loop (I := fun m E W => ∃ (c1 : Nat) (k : Nat), E = [(0, .int .u32 (((c1 : Nat) : Int))), (10, .int .i64 (((k : Nat) : Int)))] ∧ m = 8 - k ∧ Ext w0 W ∧ w0.heap.size ≤ W.heap.size ∧ (c1 = crcK k (c ^^^ b.toNat)) ∧ (c1 < 4294967296) ∧ (k ≤ 8)) ?_ ?_
  · refine ⟨_, _, ⟨(c ^^^ b.toNat : Nat), (0 : Nat), rfl, rfl, hE0, Nat.le_refl _, (by rfl), (by omega), (by omega)⟩, ⟨rfl, rfl, trivial⟩⟩
  · rintro _ _ w1 ⟨c1, k, rfl, rfl, hE1, hs1, hc, hcl, hk8⟩ ih1
    refine r_seq ?_
    refine r_region ?_
    refine OL.qb (Q1.lt rfl rfl) rfl rfl ?_
    intro b1 hb1
    refine OL.nil ?_
    refine r_seq ?_
    cases b1 with
    | true =>
      replace hb1 := of_decide_eq_true hb1.symm
      refine r_cond_t rfl ?_
      refine r_skip ?_
      refine r_seq ?_
      refine r_block ?_
      refine r_seq ?_
      refine r_region ?_
      refine OL.q (Q1.move rfl) rfl rfl ?_
      refine OL.q (Q1.and1 (a := c1) rfl rfl (by omega)) rfl rfl ?_
      refine OL.q (Q1.assign rfl) rfl rfl ?_
      refine OL.nil ?_
      refine r_seq ?_
      refine r_region ?_
      refine OL.q (Q1.move rfl) rfl rfl ?_
      refine OL.q (Q1.shr1 (((c1 / 2 : Nat) : Int)) rfl rfl (by omega)) rfl rfl ?_
      refine OL.q (Q1.assign rfl) rfl rfl ?_
      refine OL.nil ?_
      refine r_seq ?_
      refine r_region ?_
      refine OL.q (Q1.move rfl) rfl rfl ?_
      refine OL.qb (Q1.eq rfl rfl) rfl rfl ?_
      intro b2 hb2
      refine OL.nil ?_
      cases b2 with
      | true =>
        replace hb2 := eq_of_beq hb2.symm
        refine r_cond_t rfl ?_
        refine r_region ?_
        refine OL.q (Q1.move rfl) rfl rfl ?_
        have hxl2 := xor_lt32 (a := c1 / 2) (b := 3988292384) (by omega) (by omega)
        refine OL.q (Q1.xor32 (a := c1 / 2) (b := 3988292384) rfl rfl (by omega) (by omega)) rfl rfl ?_
        refine OL.q (Q1.assign rfl) rfl rfl ?_
        refine OL.nil ?_
        refine r_inBlock ?_
        refine r_region ?_
        refine OL.q (Q1.addI (((k + 1 : Nat) : Int)) rfl rfl (by omega)) rfl rfl ?_
        refine OL.q (Q1.move rfl) rfl rfl ?_
        refine OL.nil ?_
        exact (ih1 _ _ _ ⟨((c1 / 2) ^^^ 3988292384 : Nat), (k + 1 : Nat), rfl, rfl, hE1, (by omega), (by first | exact crc_one hc (by omega) | exact crc_nil hc (by omega) | (exfalso; omega)), (by first | omega | (exfalso; omega)), (by first | omega | (exfalso; omega))⟩ (by omega)).sub ⟨rfl, rfl, trivial⟩
      | false =>
        replace hb2 := ne_of_beq_false hb2.symm
        refine r_cond_f rfl ?_
        refine r_skip ?_
        refine r_inBlock ?_
        refine r_region ?_
        refine OL.q (Q1.addI (((k + 1 : Nat) : Int)) rfl rfl (by omega)) rfl rfl ?_
        refine OL.q (Q1.move rfl) rfl rfl ?_
        refine OL.nil ?_
        exact (ih1 _ _ _ ⟨(c1 / 2 : Nat), (k + 1 : Nat), rfl, rfl, hE1, (by omega), (by first | exact crc_one hc (by omega) | exact crc_nil hc (by omega) | (exfalso; omega)), (by first | omega | (exfalso; omega)), (by first | omega | (exfalso; omega))⟩ (by omega)).sub ⟨rfl, rfl, trivial⟩
    | false =>
      replace hb1 := of_decide_eq_false hb1.symm
      refine r_cond_f rfl ?_
      refine r_exit rfl ?_
      refine r_seq ?_
      refine r_region ?_
      refine OL.q (Q1.move rfl) rfl rfl ?_
      refine OL.q (Q1.assign rfl) rfl rfl ?_
      refine OL.nil ?_
      refine r_ret1 Try.func124 rfl rfl ?_
      exact Ret.mk ⟨(congrArg (Value.int .u32) (by first | (rw [hc, show k = 8 from by omega]; rfl) | (exfalso; omega))), hE1⟩
set_option maxRecDepth 20000 in
set_option maxHeartbeats 4000000 in
theorem sumadd_c {w0 : World}  (c : Nat) {v_b : Value} {b : List UInt8} (h_c : c < 4294967296) (h_b : Sl encB w0 (Iv 0 w0.heap.size) v_b b) (hbl : b.length ≤ 4000000) :
    Calls Try.prog 99 #[.int .u32 (((c : Nat) : Int)), v_b] w0 (Ret fun rv w1 => rv = .int .u32 (((sumF c b : Nat) : Int)) ∧ Ext w0 w1) := by
  have hE0 : Ext w0 w0 := Mod.refl _ _
  have hle1 := h_b.le
  refine calls_enter Try.func99 rfl Try.ntmps99 rfl ?_
  refine r_seq ?_
  refine r_region ?_
  refine OL.q (Q1.assign rfl) rfl rfl ?_
  refine OL.nil ?_
  refine r_seq ?_
  refine r_region ?_
  refine OL.q (Q1.move rfl) rfl rfl ?_
  refine OL.q (Q1.not32 (a := c) rfl (by omega)) rfl rfl ?_
  refine OL.q (Q1.assign rfl) rfl rfl ?_
  refine OL.nil ?_
  refine r_seq ?_
  refine r_seq ?_
  refine r_region ?_
  refine OL.q (Q1.move rfl) rfl rfl ?_
  refine OL.q (Q1.lenSl Try.underlying25 (h_b) rfl) rfl rfl ?_
  refine OL.q (Q1.move rfl) rfl rfl ?_
  refine OL.nil ?_
  refine r_block ?_
  refine r_loop (I := fun m E W => ∃ (c1 : Nat) (k : Nat), E = [(0, .int .u32 (((c1 : Nat) : Int))), (9, v_b), (10, .int .i64 (((b.length : Nat) : Int))), (11, .int .i64 (((k : Nat) : Int)))] ∧ m = b.length - k ∧ Ext w0 W ∧ w0.heap.size ≤ W.heap.size ∧ Sl encB W (Iv 0 w0.heap.size) v_b b ∧ (c1 = crcF (4294967295 - c) (b.take k)) ∧ (c1 < 4294967296) ∧ (k ≤ b.length)) ?_ ?_
  · refine ⟨_, _, ⟨(4294967295 - c : Nat), (0 : Nat), rfl, rfl, hE0, Nat.le_refl _, h_b, (by rfl), (by omega), (by omega)⟩, ⟨rfl, rfl, rfl, rfl, trivial⟩⟩
  · rintro _ _ w1 ⟨c1, k, rfl, rfl, hE1, hs1, f1, hc, hcl, hkl⟩ ih1
    refine r_seq ?_
    refine r_region ?_
    refine OL.qb (Q1.lt rfl rfl) rfl rfl ?_
    intro b1 hb1
    refine OL.nil ?_
    refine r_seq ?_
    cases b1 with
    | true =>
      replace hb1 := of_decide_eq_true hb1.symm
      refine r_cond_t rfl ?_
      refine r_skip ?_
      refine r_seq ?_
      refine r_block ?_
      refine r_seq ?_
      refine r_region ?_
      obtain ⟨x1, b2, o1, hx1, hr1, hl1, hu1, hw1⟩ := Sl.at' (P := Try.prog) f1 Try.underlying25 ti5 encB_len (k := .i64) (n := ((k : Nat) : Int)) (k) (by omega) (by first | assumption | omega)
      refine OL.q (Q1.indexAddr rfl rfl hr1) rfl rfl ?_
      refine OL.q (Q1.load1 ti5 rfl (fun _ e => e ▸ hw1)) rfl rfl ?_
      have hx1b := x1.toNat_lt
      refine OL.q (Q1.assign rfl) rfl rfl ?_
      refine OL.nil ?_
      refine r_region ?_
      refine OL.q (Q1.move rfl) rfl rfl ?_
      refine OL.q (Q1.move rfl) rfl rfl ?_
      refine OL.act rfl rfl (AW.callF cl124 rfl (turn_c (w0 := w1)  (c1) (x1) (by first | omega | assumption)) ?_)
      rintro _ w2 ⟨rfl, hm1⟩
      have f2 := f1.ext hm1
      have hE2 := hE1.ext hm1
      have hs2 := hm1.size
      have := turnN_ltE c1 x1 (by omega)
      refine OL.q (Q1.assign rfl) rfl rfl ?_
      refine OL.nil ?_
      refine r_inBlock ?_
      refine r_region ?_
      refine OL.q (Q1.addI (((k + 1 : Nat) : Int)) rfl rfl (by omega)) rfl rfl ?_
      refine OL.q (Q1.move rfl) rfl rfl ?_
      refine OL.nil ?_
      exact (ih1 _ _ _ ⟨(turnN c1 x1.toNat : Nat), (k + 1 : Nat), rfl, rfl, hE2, (by omega), f2, (by first | (rw [crcF_take hx1, ← hc]) | (exfalso; omega)), (by first | exact turnN_lt hcl x1.toNat_lt | (exfalso; omega)), (by first | omega | (exfalso; omega))⟩ (by omega)).sub ⟨rfl, rfl, rfl, rfl, trivial⟩
    | false =>
      replace hb1 := of_decide_eq_false hb1.symm
      refine r_cond_f rfl ?_
      refine r_exit rfl ?_
      refine r_seq ?_
      refine r_region ?_
      refine OL.q (Q1.move rfl) rfl rfl ?_
      refine OL.q (Q1.not32 (a := c1) rfl (by omega)) rfl rfl ?_
      refine OL.q (Q1.assign rfl) rfl rfl ?_
      refine OL.nil ?_
      refine r_ret1 Try.func99 rfl rfl ?_
      exact Ret.mk ⟨(congrArg (Value.int .u32) (by first | (rw [hc, List.take_of_length_le (by omega)]; rfl) | (exfalso; omega))), hE1⟩
set_option maxRecDepth 20000 in
set_option maxHeartbeats 4000000 in
theorem sumof_c {w0 : World}  {v_b : Value} {b : List UInt8} (h_b : Sl encB w0 (Iv 0 w0.heap.size) v_b b) (hbl : b.length ≤ 4000000) :
    Calls Try.prog 65 #[v_b] w0 (Ret fun rv w1 => rv = .int .u32 (((sumN b : Nat) : Int)) ∧ Ext w0 w1) := by
  have hE0 : Ext w0 w0 := Mod.refl _ _
  have hle1 := h_b.le
  refine calls_enter Try.func65 rfl Try.ntmps65 rfl ?_
  refine r_seq ?_
  refine r_region ?_
  refine OL.q (Q1.assign rfl) rfl rfl ?_
  refine OL.nil ?_
  refine r_seq ?_
  refine r_region ?_
  refine OL.q (Q1.move rfl) rfl rfl ?_
  refine OL.act rfl rfl (AW.callF cl99 rfl (sumadd_c (w0 := w0) (b := b) (0) (by first | omega | assumption) ((h_b).iv (Nat.zero_le _) (by omega)) (by first | assumption | omega | (simp only [List.length_append, putN_len, List.length_cons, List.length_nil]; omega))) ?_)
  rintro _ w1 ⟨rfl, hm1⟩
  have f1 := h_b.ext hm1
  have hE1 := hE0.ext hm1
  have hs1 := hm1.size
  have := sumF_lt 0 b
  refine OL.q (Q1.assign rfl) rfl rfl ?_
  refine OL.nil ?_
  refine r_ret1 Try.func65 rfl rfl ?_
  exact Ret.mk ⟨(congrArg (Value.int .u32) (by rfl)), hE1⟩
set_option maxRecDepth 20000 in
set_option maxHeartbeats 4000000 in
theorem cloneB_c {w0 : World}  {v_s : Value} {s : List UInt8} (h_s : Sl encB w0 (Iv 0 w0.heap.size) v_s s) (hln : s.length ≤ 4000000) :
    Calls Try.prog 90 #[v_s] w0 (Ret fun rv w1 => (∃ gr, Acc encB 5 1 w1 gr rv (s) ∧ (gr = 0 ∨ w0.heap.size < gr)) ∧ Ext w0 w1) := by
  have hE0 : Ext w0 w0 := Mod.refl _ _
  have hle1 := h_s.le
  refine calls_enter Try.func90 rfl Try.ntmps90 rfl ?_
  refine r_seq ?_
  refine r_region ?_
  refine OL.q (Q1.assign rfl) rfl rfl ?_
  refine OL.nil ?_
  refine r_seq ?_
  refine r_seq ?_
  refine r_region ?_
  refine OL.q (Q1.move rfl) rfl rfl ?_
  obtain ⟨ad1, cp1, hv1, hz1⟩ := Sl.isNil (h_s)
  subst hv1
  refine OL.qb (Q1.eqNilSl Try.underlying25 rfl rfl) rfl rfl ?_
  intro b1 hb1
  refine OL.nil ?_
  cases b1 with
  | true =>
    replace hb1 := hb1.symm
    replace hz1 := hz1 hb1
    refine r_cond_t rfl ?_
    refine r_seq ?_
    refine r_region ?_
    refine OL.q (Q1.assign rfl) rfl rfl ?_
    refine OL.nil ?_
    refine r_ret1 Try.func90 rfl rfl ?_
    exact Ret.mk ⟨⟨0, Acc.cast Acc.nil (by first | (symm; assumption) | simp | (exfalso; omega)), .inl rfl⟩, hE0⟩
  | false =>
    replace hb1 := hb1.symm
    refine r_cond_f rfl ?_
    refine r_skip ?_
    refine r_seq ?_
    refine r_region ?_
    refine OL.act rfl rfl (AW.buildSlice [] Try.underlying25 ti5 rfl rfl rfl (by decide) ?_)
    intro w1 b2 hm1 hb2 hz2 hk1
    have f1 := h_s.ext hm1
    have hE1 := hE0.ext hm1
    have hs1 := hm1.size
    have hl1 := Acc.of_blk (enc := encB) hk1 ([] : List UInt8) 0 rfl encB_len rfl (by unfold maxLen; omega)
    refine OL.q (Q1.move rfl) rfl rfl ?_
    have hl2 := hl1.lt
    refine OL.act rfl rfl (AW.append hl1 Try.underlying25 ti5 rfl encB_len encB_one rfl rfl (f1) (by first | omega | (simp only [List.length_append, List.length_cons, List.length_nil]; omega) | (simp; omega)) (by unfold maxLen; first | omega | (simp only [List.length_append, List.length_cons, List.length_nil]; omega) | (simp; omega)) ?_)
    intro v1 g1 w2 ha1 hm2 hg1 hz3
    have hl3 := hl1.lt
    have f2 := f1.keepG hm2 (by omega)
    have hE2 := Ext.thenG hE1 hm2 (by omega)
    have hs2 := hm2.size
    refine OL.q (Q1.assign rfl) rfl rfl ?_
    refine OL.nil ?_
    refine r_ret1 Try.func90 rfl rfl ?_
    exact Ret.mk ⟨⟨_, Acc.cast ha1 (by first | (symm; assumption) | simp | (exfalso; omega)), by omega⟩, hE2⟩
set_option maxRecDepth 20000 in
set_option maxHeartbeats 4000000 in
theorem put_c {w0 : World}  {v_b : Value} {b : List UInt8} (n : Int) (size : Nat) (h_b : Sl encB w0 (Iv 0 w0.heap.size) v_b b) (hbl : b.length ≤ 4000000) (hsz : size ≤ 8) :
    Calls Try.prog 63 #[v_b, .int .i64 n, .int .i64 (((size : Nat) : Int))] w0 (Ret fun rv w1 => (∃ gr, Acc encB 5 1 w1 gr rv (b ++ putN n size) ∧ (gr = 0 ∨ w0.heap.size < gr)) ∧ Ext w0 w1) := by
  have hE0 : Ext w0 w0 := Mod.refl _ _
  have hle1 := h_b.le
  refine calls_enter Try.func63 rfl Try.ntmps63 rfl ?_
  refine r_seq ?_
  refine r_region ?_
  refine OL.q (Q1.assign rfl) rfl rfl ?_
  refine OL.nil ?_
  refine r_seq ?_
  refine r_region ?_
  refine OL.q (Q1.move rfl) rfl rfl ?_
  refine OL.act rfl rfl (AW.callF cl90 rfl (cloneB_c (w0 := w0) (s := b)  ((h_b).iv (Nat.zero_le _) (by omega)) (by first | assumption | omega)) ?_)
  rintro v1 w1 ⟨⟨gr1, h1, hg1⟩, hm1⟩
  have f1 := h_b.ext hm1
  have hE1 := hE0.ext hm1
  have hs1 := hm1.size
  have hle_1 := h1.le
  have hlt_1 := h1.lt
  refine OL.q (Q1.assign rfl) rfl rfl ?_
  refine OL.nil ?_
  refine r_seq ?_
  refine r_region ?_
  refine OL.q (Q1.move rfl) rfl rfl ?_
  refine OL.q (Q1.max rfl rfl) rfl rfl ?_
  refine OL.q (Q1.min rfl rfl) rfl rfl ?_
  rw [show (min (max (size : Int) 0) 8) = ((size : Nat) : Int) from by omega]
  refine OL.q (Q1.assign rfl) rfl rfl ?_
  refine OL.nil ?_
  refine r_seq ?_
  refine r_seq ?_
  refine r_region ?_
  refine OL.q (Q1.move rfl) rfl rfl ?_
  refine OL.q (Q1.move rfl) rfl rfl ?_
  refine OL.nil ?_
  refine r_block ?_
  refine r_loop (I := fun m E W => ∃ (v_out : Value) (g_out : Nat) (out : List UInt8) (i : Nat), E = [(1, .int .i64 n), (2, .int .i64 (((size : Nat) : Int))), (7, v_out), (14, .int .i64 (((size : Nat) : Int))), (15, .int .i64 (((i : Nat) : Int)))] ∧ m = size - i ∧ Ext w0 W ∧ w1.heap.size ≤ W.heap.size ∧ Acc encB 5 1 W g_out v_out out ∧ (g_out = 0 ∨ w0.heap.size < g_out) ∧ (out = b ++ (putN n size).take i) ∧ (out.length = b.length + i) ∧ (i ≤ size)) ?_ ?_
  · refine ⟨_, _, ⟨(v1 : Value), (gr1 : Nat), ((b) : List UInt8), (0 : Nat), rfl, rfl, hE1, Nat.le_refl _, h1, (by omega), (by simp), (by simp), (by omega)⟩, ⟨rfl, rfl, rfl, rfl, rfl, trivial⟩⟩
  · rintro _ _ w2 ⟨v_out, g_out, out, i, rfl, rfl, hE2, hs2, ha1, hg2, ho, hol, hil⟩ ih1
    refine r_seq ?_
    refine r_region ?_
    refine OL.qb (Q1.lt rfl rfl) rfl rfl ?_
    intro b1 hb1
    refine OL.nil ?_
    refine r_seq ?_
    cases b1 with
    | true =>
      replace hb1 := of_decide_eq_true hb1.symm
      refine r_cond_t rfl ?_
      refine r_skip ?_
      refine r_seq ?_
      refine r_block ?_
      refine r_seq ?_
      refine r_region ?_
      refine OL.q (Q1.move rfl) rfl rfl ?_
      refine OL.q (Q1.assign rfl) rfl rfl ?_
      refine OL.nil ?_
      refine r_region ?_
      refine OL.q (Q1.move rfl) rfl rfl ?_
      refine OL.q (Q1.move rfl) rfl rfl ?_
      refine OL.q (Q1.convI (by kernel_rfl) Try.underlying149 rfl) rfl rfl ?_
      refine OL.q (Q1.move rfl) rfl rfl ?_
      refine OL.q (Q1.subI ((((size : Nat) : Int) - 1)) rfl rfl (by omega)) rfl rfl ?_
      refine OL.q (Q1.move rfl) rfl rfl ?_
      refine OL.q (Q1.subI (((((size : Nat) : Int) - 1) - (((i : Nat) : Int)))) rfl rfl (by omega)) rfl rfl ?_
      refine OL.q (Q1.mulI (((8 * (((size - 1) - i)) : Nat) : Int)) rfl rfl (by omega)) rfl rfl ?_
      refine OL.q (Q1.convN (by kernel_rfl) Try.underlying108 rfl (IntWalk.u64_in _ (by omega))) rfl rfl ?_
      refine OL.q (Q1.shrN (8 * (((size - 1) - i))) rfl rfl (by omega) (by simp only [IntKind.bits]; omega)) rfl rfl ?_
      refine OL.q (Q1.convB (by kernel_rfl) Try.underlying5 rfl) rfl rfl ?_
      refine OL.act rfl rfl (AW.buildSlice [(.int .u8 (((byN (((IntKind.u64.wrap n) / 2 ^ (8 * (((size - 1) - i)))))).toNat : Int)) : Value)] Try.underlying25 ti5 rfl rfl rfl (by decide) ?_)
      intro w3 b2 hm2 hb2 hz1 hk1
      have hl1 := ha1.lt
      have f2 := ha1.ext hm2
      have hE3 := hE2.ext hm2
      have hs3 := hm2.size
      have hl2 := Sl.of_blk (enc := encB) hk1 ([(byN (((IntKind.u64.wrap n) / 2 ^ (8 * (((size - 1) - i))))))] : List UInt8) 1 rfl rfl (by unfold maxLen; omega)
      have hl3 := f2.lt
      refine OL.act rfl rfl (AW.append f2 Try.underlying25 ti5 rfl encB_len encB_one rfl rfl (hl2) (by first | omega | (simp only [List.length_append, List.length_cons, List.length_nil]; omega) | (simp; omega)) (by unfold maxLen; first | omega | (simp only [List.length_append, List.length_cons, List.length_nil]; omega) | (simp; omega)) ?_)
      intro v2 g1 w4 ha2 hm3 hg3 hz2
      have hl4 := f2.lt
      have f3 := hl2.keepG hm3 (by omega)
      have hE4 := Ext.thenG hE3 hm3 (by omega)
      have hs4 := hm3.size
      refine OL.q (Q1.assign rfl) rfl rfl ?_
      refine OL.nil ?_
      refine r_inBlock ?_
      refine r_region ?_
      refine OL.q (Q1.addI (((i + 1 : Nat) : Int)) rfl rfl (by omega)) rfl rfl ?_
      refine OL.q (Q1.move rfl) rfl rfl ?_
      refine OL.nil ?_
      exact (ih1 _ _ _ ⟨(v2 : Value), (g1 : Nat), ((out ++ [(byN (((IntKind.u64.wrap n) / 2 ^ (8 * (((size - 1) - i))))))]) : List UInt8), (i + 1 : Nat), rfl, rfl, hE4, (by omega), ha2, (by omega), (by first | exact putN_take ho (by omega) rfl | (exfalso; omega)), (by first | (simp only [List.length_append, List.length_cons, List.length_nil]; omega) | (exfalso; omega)), (by first | omega | (exfalso; omega))⟩ (by omega)).sub ⟨rfl, rfl, rfl, rfl, rfl, trivial⟩
    | false =>
      replace hb1 := of_decide_eq_false hb1.symm
      refine r_cond_f rfl ?_
      refine r_exit rfl ?_
      refine r_seq ?_
      refine r_region ?_
      refine OL.q (Q1.move rfl) rfl rfl ?_
      refine OL.q (Q1.assign rfl) rfl rfl ?_
      refine OL.nil ?_
      refine r_ret1 Try.func63 rfl rfl ?_
      exact Ret.mk ⟨⟨_, Acc.cast ha1 (by first | (rw [ho, List.take_of_length_le (by rw [putN_len]; omega)]) | (exfalso; omega)), by omega⟩, hE2⟩
set_option maxRecDepth 20000 in
set_option maxHeartbeats 4000000 in
theorem num4_c {w0 : World}  {v_b : Value} {b : List UInt8} (at_ : Int) (size : Nat) (h_b : Sl encB w0 (Iv 0 w0.heap.size) v_b b) (h_at_ : I64 at_) (hbl : b.length ≤ 4000000) (hsz : 1 ≤ size ∧ size ≤ 4) :
    Calls Try.prog 66 #[v_b, .int .i64 at_, .int .i64 (((size : Nat) : Int))] w0 (Ret fun rv w1 => ∃ u0 u1, rv = .tuple #[u0, u1] ∧ u0 = .int .i64 (numV b at_ size) ∧ (∃ rb : Bool, rb = (numOk b at_ size) ∧ u1 = .bool rb) ∧ Ext w0 w1) := by
  have hE0 : Ext w0 w0 := Mod.refl _ _
  have hle1 := h_b.le
  refine calls_enter Try.func66 rfl Try.ntmps66 rfl ?_
  refine r_seq ?_
  refine r_region ?_
  refine OL.q (Q1.assign rfl) rfl rfl ?_
  refine OL.q (Q1.assign rfl) rfl rfl ?_
  refine OL.nil ?_
  refine r_seq ?_
  refine r_seq ?_
  refine r_region ?_
  refine OL.q (Q1.move rfl) rfl rfl ?_
  refine OL.qb (Q1.lt rfl rfl) rfl rfl ?_
  intro b1 hb1
  refine OL.q (Q1.move rfl) rfl rfl ?_
  cases b1 with
  | true =>
    replace hb1 := of_decide_eq_true hb1.symm
    refine OL.sk rfl rfl ?_
    refine OL.sk rfl rfl ?_
    refine OL.q (Q1.pick_t rfl rfl) rfl rfl ?_
    refine OL.q (Q1.move rfl) rfl rfl ?_
    refine OL.sk rfl rfl ?_
    refine OL.sk rfl rfl ?_
    refine OL.q (Q1.pick_t rfl rfl) rfl rfl ?_
    refine OL.q (Q1.move rfl) rfl rfl ?_
    refine OL.sk rfl rfl ?_
    refine OL.sk rfl rfl ?_
    refine OL.sk rfl rfl ?_
    refine OL.sk rfl rfl ?_
    refine OL.q (Q1.pick_t rfl rfl) rfl rfl ?_
    refine OL.q (Q1.move rfl) rfl rfl ?_
    refine OL.sk rfl rfl ?_
    refine OL.sk rfl rfl ?_
    refine OL.sk rfl rfl ?_
    refine OL.sk rfl rfl ?_
    refine OL.sk rfl rfl ?_
    refine OL.sk rfl rfl ?_
    refine OL.q (Q1.pick_t rfl rfl) rfl rfl ?_
    refine OL.nil ?_
    refine r_cond_t rfl ?_
    refine r_seq ?_
    refine r_region ?_
    refine OL.q (Q1.assign rfl) rfl rfl ?_
    refine OL.q (Q1.assign rfl) rfl rfl ?_
    refine OL.nil ?_
    refine r_ret2 Try.func66 rfl rfl rfl ?_
    exact Ret.mk ⟨_, _, rfl, (congrArg (Value.int .i64) (by first | exact (numV_no (by omega)).1 | exact (numV_no (by omega)).2 | (rw [hn, ← (numV_yes (by omega)).1, show i = size from by omega]; simp) | exact (numV_yes (by omega)).2 | (exfalso; omega))), ⟨_, (by first | exact (numV_no (by omega)).1 | exact (numV_no (by omega)).2 | (rw [hn, ← (numV_yes (by omega)).1, show i = size from by omega]; simp) | exact (numV_yes (by omega)).2 | (exfalso; omega)), rfl⟩, hE0⟩
  | false =>
    replace hb1 := of_decide_eq_false hb1.symm
    refine OL.q (Q1.move rfl) rfl rfl ?_
    refine OL.qb (Q1.gt rfl rfl) rfl rfl ?_
    intro b2 hb2
    refine OL.q (Q1.pick_f rfl rfl) rfl rfl ?_
    refine OL.q (Q1.move rfl) rfl rfl ?_
    cases b2 with
    | true =>
      replace hb2 := of_decide_eq_true hb2.symm
      refine OL.sk rfl rfl ?_
      refine OL.sk rfl rfl ?_
      refine OL.q (Q1.pick_t rfl rfl) rfl rfl ?_
      refine OL.q (Q1.move rfl) rfl rfl ?_
      refine OL.sk rfl rfl ?_
      refine OL.sk rfl rfl ?_
      refine OL.sk rfl rfl ?_
      refine OL.sk rfl rfl ?_
      refine OL.q (Q1.pick_t rfl rfl) rfl rfl ?_
      refine OL.q (Q1.move rfl) rfl rfl ?_
      refine OL.sk rfl rfl ?_
      refine OL.sk rfl rfl ?_
      refine OL.sk rfl rfl ?_
      refine OL.sk rfl rfl ?_
      refine OL.sk rfl rfl ?_
      refine OL.sk rfl rfl ?_
      refine OL.q (Q1.pick_t rfl rfl) rfl rfl ?_
      refine OL.nil ?_
      refine r_cond_t rfl ?_
      refine r_seq ?_
      refine r_region ?_
      refine OL.q (Q1.assign rfl) rfl rfl ?_
      refine OL.q (Q1.assign rfl) rfl rfl ?_
      refine OL.nil ?_
      refine r_ret2 Try.func66 rfl rfl rfl ?_
      exact Ret.mk ⟨_, _, rfl, (congrArg (Value.int .i64) (by first | exact (numV_no (by omega)).1 | exact (numV_no (by omega)).2 | (rw [hn, ← (numV_yes (by omega)).1, show i = size from by omega]; simp) | exact (numV_yes (by omega)).2 | (exfalso; omega))), ⟨_, (by first | exact (numV_no (by omega)).1 | exact (numV_no (by omega)).2 | (rw [hn, ← (numV_yes (by omega)).1, show i = size from by omega]; simp) | exact (numV_yes (by omega)).2 | (exfalso; omega)), rfl⟩, hE0⟩
    | false =>
      replace hb2 := of_decide_eq_false hb2.symm
      refine OL.q (Q1.move rfl) rfl rfl ?_
      refine OL.qb (Q1.lt rfl rfl) rfl rfl ?_
      intro b3 hb3
      refine OL.q (Q1.pick_f rfl rfl) rfl rfl ?_
      refine OL.q (Q1.move rfl) rfl rfl ?_
      cases b3 with
      | true =>
        replace hb3 := of_decide_eq_true hb3.symm
        refine OL.sk rfl rfl ?_
        refine OL.sk rfl rfl ?_
        refine OL.sk rfl rfl ?_
        refine OL.sk rfl rfl ?_
        refine OL.q (Q1.pick_t rfl rfl) rfl rfl ?_
        refine OL.q (Q1.move rfl) rfl rfl ?_
        refine OL.sk rfl rfl ?_
        refine OL.sk rfl rfl ?_
        refine OL.sk rfl rfl ?_
        refine OL.sk rfl rfl ?_
        refine OL.sk rfl rfl ?_
        refine OL.sk rfl rfl ?_
        refine OL.q (Q1.pick_t rfl rfl) rfl rfl ?_
        refine OL.nil ?_
        refine r_cond_t rfl ?_
        refine r_seq ?_
        refine r_region ?_
        refine OL.q (Q1.assign rfl) rfl rfl ?_
        refine OL.q (Q1.assign rfl) rfl rfl ?_
        refine OL.nil ?_
        refine r_ret2 Try.func66 rfl rfl rfl ?_
        exact Ret.mk ⟨_, _, rfl, (congrArg (Value.int .i64) (by first | exact (numV_no (by omega)).1 | exact (numV_no (by omega)).2 | (rw [hn, ← (numV_yes (by omega)).1, show i = size from by omega]; simp) | exact (numV_yes (by omega)).2 | (exfalso; omega))), ⟨_, (by first | exact (numV_no (by omega)).1 | exact (numV_no (by omega)).2 | (rw [hn, ← (numV_yes (by omega)).1, show i = size from by omega]; simp) | exact (numV_yes (by omega)).2 | (exfalso; omega)), rfl⟩, hE0⟩
      | false =>
        replace hb3 := of_decide_eq_false hb3.symm
        refine OL.q (Q1.move rfl) rfl rfl ?_
        refine OL.q (Q1.move rfl) rfl rfl ?_
        refine OL.q (Q1.lenSl Try.underlying25 (h_b) rfl) rfl rfl ?_
        refine OL.qb (Q1.gt rfl rfl) rfl rfl ?_
        intro b4 hb4
        refine OL.q (Q1.pick_f rfl rfl) rfl rfl ?_
        refine OL.q (Q1.move rfl) rfl rfl ?_
        cases b4 with
        | true =>
          replace hb4 := of_decide_eq_true hb4.symm
          refine OL.sk rfl rfl ?_
          refine OL.sk rfl rfl ?_
          refine OL.sk rfl rfl ?_
          refine OL.sk rfl rfl ?_
          refine OL.sk rfl rfl ?_
          refine OL.sk rfl rfl ?_
          refine OL.q (Q1.pick_t rfl rfl) rfl rfl ?_
          refine OL.nil ?_
          refine r_cond_t rfl ?_
          refine r_seq ?_
          refine r_region ?_
          refine OL.q (Q1.assign rfl) rfl rfl ?_
          refine OL.q (Q1.assign rfl) rfl rfl ?_
          refine OL.nil ?_
          refine r_ret2 Try.func66 rfl rfl rfl ?_
          exact Ret.mk ⟨_, _, rfl, (congrArg (Value.int .i64) (by first | exact (numV_no (by omega)).1 | exact (numV_no (by omega)).2 | (rw [hn, ← (numV_yes (by omega)).1, show i = size from by omega]; simp) | exact (numV_yes (by omega)).2 | (exfalso; omega))), ⟨_, (by first | exact (numV_no (by omega)).1 | exact (numV_no (by omega)).2 | (rw [hn, ← (numV_yes (by omega)).1, show i = size from by omega]; simp) | exact (numV_yes (by omega)).2 | (exfalso; omega)), rfl⟩, hE0⟩
        | false =>
          replace hb4 := of_decide_eq_false hb4.symm
          refine OL.q (Q1.move rfl) rfl rfl ?_
          refine OL.q (Q1.move rfl) rfl rfl ?_
          refine OL.q (Q1.lenSl Try.underlying25 (h_b) rfl) rfl rfl ?_
          refine OL.q (Q1.move rfl) rfl rfl ?_
          refine OL.q (Q1.subI ((((b.length : Nat) : Int) - at_)) rfl rfl (by omega)) rfl rfl ?_
          refine OL.qb (Q1.gt rfl rfl) rfl rfl ?_
          intro b5 hb5
          refine OL.q (Q1.pick_f rfl rfl) rfl rfl ?_
          refine OL.nil ?_
          cases b5 with
          | true =>
            replace hb5 := of_decide_eq_true hb5.symm
            refine r_cond_t rfl ?_
            refine r_seq ?_
            refine r_region ?_
            refine OL.q (Q1.assign rfl) rfl rfl ?_
            refine OL.q (Q1.assign rfl) rfl rfl ?_
            refine OL.nil ?_
            refine r_ret2 Try.func66 rfl rfl rfl ?_
            exact Ret.mk ⟨_, _, rfl, (congrArg (Value.int .i64) (by first | exact (numV_no (by omega)).1 | exact (numV_no (by omega)).2 | (rw [hn, ← (numV_yes (by omega)).1, show i = size from by omega]; simp) | exact (numV_yes (by omega)).2 | (exfalso; omega))), ⟨_, (by first | exact (numV_no (by omega)).1 | exact (numV_no (by omega)).2 | (rw [hn, ← (numV_yes (by omega)).1, show i = size from by omega]; simp) | exact (numV_yes (by omega)).2 | (exfalso; omega)), rfl⟩, hE0⟩
          | false =>
            replace hb5 := of_decide_eq_false hb5.symm
            refine r_cond_f rfl ?_
            refine r_skip ?_
            refine r_seq ?_
            refine r_region ?_
            refine OL.q (Q1.assign rfl) rfl rfl ?_
            refine OL.nil ?_
            refine r_seq ?_
            refine r_seq ?_
            refine r_region ?_
            refine OL.q (Q1.move rfl) rfl rfl ?_
            refine OL.q (Q1.move rfl) rfl rfl ?_
            refine OL.nil ?_
            refine r_block ?_
            refine r_loop (I := fun m E W => ∃ (n : Nat) (i : Nat), E = [(0, v_b), (1, .int .i64 at_), (8, .int .u64 (((n : Nat) : Int))), (34, .int .i64 (((size : Nat) : Int))), (35, .int .i64 (((i : Nat) : Int)))] ∧ m = size - i ∧ Ext w0 W ∧ w0.heap.size ≤ W.heap.size ∧ Sl encB W (Iv 0 w0.heap.size) v_b b ∧ (n = numN ((b.drop at_.toNat).take i)) ∧ (i ≤ size)) ?_ ?_
            · refine ⟨_, _, ⟨(0 : Nat), (0 : Nat), rfl, rfl, hE0, Nat.le_refl _, h_b, (by rfl), (by omega)⟩, ⟨rfl, rfl, rfl, rfl, rfl, trivial⟩⟩
            · rintro _ _ w1 ⟨n, i, rfl, rfl, hE1, hs1, f1, hn, hil⟩ ih1
              have hnb := num_small (i := i) (l := b.drop at_.toNat) (by omega)
              rw [← hn] at hnb
              refine r_seq ?_
              refine r_region ?_
              refine OL.qb (Q1.lt rfl rfl) rfl rfl ?_
              intro b6 hb6
              refine OL.nil ?_
              refine r_seq ?_
              cases b6 with
              | true =>
                replace hb6 := of_decide_eq_true hb6.symm
                refine r_cond_t rfl ?_
                refine r_skip ?_
                refine r_seq ?_
                refine r_block ?_
                refine r_seq ?_
                refine r_region ?_
                refine OL.q (Q1.move rfl) rfl rfl ?_
                refine OL.q (Q1.assign rfl) rfl rfl ?_
                refine OL.nil ?_
                refine r_region ?_
                refine OL.q (Q1.move rfl) rfl rfl ?_
                refine OL.q (Q1.shl8 (a := n) rfl rfl (by omega)) rfl rfl ?_
                refine OL.q (Q1.move rfl) rfl rfl ?_
                refine OL.q (Q1.move rfl) rfl rfl ?_
                refine OL.q (Q1.move rfl) rfl rfl ?_
                refine OL.q (Q1.addI ((at_ + (((i : Nat) : Int)))) rfl rfl (by omega)) rfl rfl ?_
                obtain ⟨x1, b7, o1, hx1, hr1, hl1, hu1, hw1⟩ := Sl.at' (P := Try.prog) f1 Try.underlying25 ti5 encB_len (k := .i64) (n := (at_ + (((i : Nat) : Int)))) (((at_ + (((i : Nat) : Int)))).toNat) (by omega) (by first | assumption | omega)
                refine OL.q (Q1.indexAddr rfl rfl hr1) rfl rfl ?_
                refine OL.q (Q1.load1 ti5 rfl (fun _ e => e ▸ hw1)) rfl rfl ?_
                have hx1b := x1.toNat_lt
                refine OL.q (Q1.convN (by kernel_rfl) Try.underlying149 rfl (IntWalk.u64_in _ (by omega))) rfl rfl ?_
                refine OL.q (Q1.orB (a := n) (b := x1.toNat) rfl rfl (by omega) (by omega)) rfl rfl ?_
                refine OL.q (Q1.assign rfl) rfl rfl ?_
                refine OL.nil ?_
                refine r_inBlock ?_
                refine r_region ?_
                refine OL.q (Q1.addI (((i + 1 : Nat) : Int)) rfl rfl (by omega)) rfl rfl ?_
                refine OL.q (Q1.move rfl) rfl rfl ?_
                refine OL.nil ?_
                exact (ih1 _ _ _ ⟨(n * 256 + x1.toNat : Nat), (i + 1 : Nat), rfl, rfl, hE1, (by omega), f1, (by first | refine num_step hn hx1 ?_; omega | (exfalso; omega)), (by first | omega | (exfalso; omega))⟩ (by omega)).sub ⟨rfl, rfl, rfl, rfl, rfl, trivial⟩
              | false =>
                replace hb6 := of_decide_eq_false hb6.symm
                refine r_cond_f rfl ?_
                refine r_exit rfl ?_
                refine r_seq ?_
                refine r_region ?_
                refine OL.q (Q1.move rfl) rfl rfl ?_
                refine OL.q (Q1.convN (by kernel_rfl) Try.underlying3 rfl (IntWalk.i64_in _ (by omega))) rfl rfl ?_
                refine OL.q (Q1.assign rfl) rfl rfl ?_
                refine OL.q (Q1.assign rfl) rfl rfl ?_
                refine OL.nil ?_
                refine r_ret2 Try.func66 rfl rfl rfl ?_
                exact Ret.mk ⟨_, _, rfl, (congrArg (Value.int .i64) (by first | exact (numV_no (by omega)).1 | exact (numV_no (by omega)).2 | (rw [hn, ← (numV_yes (by omega)).1, show i = size from by omega]; simp) | exact (numV_yes (by omega)).2 | (exfalso; omega))), ⟨_, (by first | exact (numV_no (by omega)).1 | exact (numV_no (by omega)).2 | (rw [hn, ← (numV_yes (by omega)).1, show i = size from by omega]; simp) | exact (numV_yes (by omega)).2 | (exfalso; omega)), rfl⟩, hE1⟩
set_option maxRecDepth 20000 in
set_option maxHeartbeats 4000000 in
theorem r2of_c {w0 : World}  {v_b : Value} {b : List UInt8} (h_b : Sl encB w0 (Iv 0 w0.heap.size) v_b b) (hbl : b.length ≤ 4000000) :
    Calls Try.prog 104 #[v_b] w0 (Ret fun rv w1 => rv = .int .u32 (((sumN b : Nat) : Int)) ∧ Ext w0 w1) := by
  have hE0 : Ext w0 w0 := Mod.refl _ _
  have hle1 := h_b.le
  refine calls_enter Try.func104 rfl Try.ntmps104 rfl ?_
  refine r_seq ?_
  refine r_region ?_
  refine OL.q (Q1.assign rfl) rfl rfl ?_
  refine OL.nil ?_
  refine r_seq ?_
  refine r_region ?_
  refine OL.q (Q1.assign rfl) rfl rfl ?_
  refine OL.nil ?_
  refine r_seq ?_
  refine r_seq ?_
  refine r_region ?_
  refine OL.q (Q1.assign rfl) rfl rfl ?_
  refine OL.nil ?_
  refine r_block ?_
  refine r_loop (I := fun m E W => ∃ (c : Nat) (i : Nat), E = [(0, v_b), (3, .int .u32 (((c : Nat) : Int))), (4, .int .i64 (((i : Nat) : Int)))] ∧ m = b.length - i ∧ Ext w0 W ∧ w0.heap.size ≤ W.heap.size ∧ Sl encB W (Iv 0 w0.heap.size) v_b b ∧ (c = crcF 4294967295 (b.take i)) ∧ (c < 4294967296) ∧ (i ≤ b.length)) ?_ ?_
  · refine ⟨_, _, ⟨(4294967295 : Nat), (0 : Nat), rfl, rfl, hE0, Nat.le_refl _, h_b, (by rfl), (by omega), (by omega)⟩, ⟨rfl, rfl, rfl, trivial⟩⟩
  · rintro _ _ w1 ⟨c, i, rfl, rfl, hE1, hs1, f1, hc, hcl, hil⟩ ih1
    refine r_seq ?_
    refine r_seq ?_
    refine r_region ?_
    refine OL.q (Q1.move rfl) rfl rfl ?_
    refine OL.q (Q1.move rfl) rfl rfl ?_
    refine OL.q (Q1.lenSl Try.underlying25 (f1) rfl) rfl rfl ?_
    refine OL.qb (Q1.lt rfl rfl) rfl rfl ?_
    intro b1 hb1
    refine OL.nil ?_
    cases b1 with
    | true =>
      replace hb1 := of_decide_eq_true hb1.symm
      refine r_cond_t rfl ?_
      refine r_skip ?_
      refine r_seq ?_
      refine r_block ?_
      refine r_seq ?_
      refine r_region ?_
      refine OL.q (Q1.assign rfl) rfl rfl ?_
      obtain ⟨xi, hxi⟩ : ∃ x, b[i]? = some x := ⟨_, List.getElem?_eq_getElem (by omega)⟩
      have hxib := xi.toNat_lt
      refine OL.nil ?_
      refine r_block ?_
      refine r_loop (I := fun m E W => ∃ (c1 : Nat) (k : Nat), E = [(0, v_b), (3, .int .u32 (((c1 : Nat) : Int))), (4, .int .i64 (((i : Nat) : Int))), (5, .int .i64 (((k : Nat) : Int)))] ∧ m = 8 - k ∧ Ext w0 W ∧ w1.heap.size ≤ W.heap.size ∧ Sl encB W (Iv 0 w0.heap.size) v_b b ∧ (RefK c xi.toNat k c1) ∧ (k ≤ 8)) ?_ ?_
      · refine ⟨_, _, ⟨(c : Nat), (0 : Nat), rfl, rfl, hE1, Nat.le_refl _, f1, (by exact RefK.start hcl), (by omega)⟩, ⟨rfl, rfl, rfl, rfl, trivial⟩⟩
      · rintro _ _ w2 ⟨c1, k, rfl, rfl, hE2, hs2, f2, hr, hk8⟩ ih2
        have hcl1 := hr.2
        refine r_seq ?_
        refine r_seq ?_
        refine r_region ?_
        refine OL.q (Q1.move rfl) rfl rfl ?_
        refine OL.qb (Q1.lt rfl rfl) rfl rfl ?_
        intro b2 hb2
        refine OL.nil ?_
        cases b2 with
        | true =>
          replace hb2 := of_decide_eq_true hb2.symm
          refine r_cond_t rfl ?_
          refine r_skip ?_
          refine r_seq ?_
          refine r_block ?_
          refine r_seq ?_
          refine r_region ?_
          refine OL.q (Q1.move rfl) rfl rfl ?_
          refine OL.q (Q1.remI (((c1 % 2 : Nat) : Int)) rfl rfl ⟨Int.natCast_nonneg _, by omega, rfl⟩) rfl rfl ?_
          refine OL.q (Q1.move rfl) rfl rfl ?_
          refine OL.q (Q1.move rfl) rfl rfl ?_
          obtain ⟨x1, b3, o1, hx1, hr1, hl1, hu1, hw1⟩ := Sl.at' (P := Try.prog) f2 Try.underlying25 ti5 encB_len (k := .i64) (n := ((i : Nat) : Int)) (i) (by omega) (by first | assumption | omega)
          refine OL.q (Q1.indexAddr rfl rfl hr1) rfl rfl ?_
          obtain rfl : x1 = xi := Option.some.inj (hx1.symm.trans hxi)
          refine OL.q (Q1.load1 ti5 rfl (fun _ e => e ▸ hw1)) rfl rfl ?_
          refine OL.q (Q1.convN (by kernel_rfl) Try.underlying95 rfl (IntWalk.u32_in _ (by omega))) rfl rfl ?_
          refine OL.q (Q1.move rfl) rfl rfl ?_
          refine OL.q (Q1.shrN k rfl rfl (by omega) (by simp only [IntKind.bits]; omega)) rfl rfl ?_
          rw [show (((x1.toNat : Int) : Int) / 2 ^ k) = ((x1.toNat / 2 ^ k : Nat) : Int) from by norm_cast]
          refine OL.q (Q1.remI ((((x1.toNat / 2 ^ k) % 2 : Nat) : Int)) rfl rfl ⟨Int.natCast_nonneg _, by omega, rfl⟩) rfl rfl ?_
          refine OL.qb (Q1.ne rfl rfl) rfl rfl ?_
          intro b4 hb3
          refine OL.q (Q1.assign rfl) rfl rfl ?_
          refine OL.nil ?_
          refine r_seq ?_
          refine r_region ?_
          refine OL.q (Q1.move rfl) rfl rfl ?_
          refine OL.q (Q1.quoU32 (a := c1) 2 rfl rfl (by omega) (by omega)) rfl rfl ?_
          refine OL.q (Q1.assign rfl) rfl rfl ?_
          refine OL.nil ?_
          refine r_seq ?_
          refine r_region ?_
          refine OL.q (Q1.move rfl) rfl rfl ?_
          refine OL.nil ?_
          cases b4 with
          | true =>
            replace hb3 := bne_iff_ne.1 hb3.symm
            refine r_cond_t rfl ?_
            refine r_region ?_
            refine OL.q (Q1.move rfl) rfl rfl ?_
            have hxl1 := xor_lt32 (a := c1 / 2) (b := 3988292384) (by omega) (by omega)
            refine OL.q (Q1.xor32 (a := c1 / 2) (b := 3988292384) rfl rfl (by omega) (by omega)) rfl rfl ?_
            refine OL.q (Q1.assign rfl) rfl rfl ?_
            refine OL.nil ?_
            refine r_inBlock ?_
            refine r_region ?_
            refine OL.q (Q1.move rfl) rfl rfl ?_
            refine OL.q (Q1.addI (((k + 1 : Nat) : Int)) rfl rfl (by omega)) rfl rfl ?_
            refine OL.q (Q1.assign rfl) rfl rfl ?_
            refine OL.nil ?_
            exact (ih2 _ _ _ ⟨((c1 / 2) ^^^ 3988292384 : Nat), (k + 1 : Nat), rfl, rfl, hE2, (by omega), f2, (by first | exact hr.one (UInt8.toNat_lt _) (by omega) | exact hr.nil (UInt8.toNat_lt _) (by omega) | (exfalso; omega)), (by first | omega | (exfalso; omega))⟩ (by omega)).sub ⟨rfl, rfl, rfl, rfl, trivial⟩
          | false =>
            replace hb3 := bne_eq_false_iff_eq.1 hb3.symm
            refine r_cond_f rfl ?_
            refine r_skip ?_
            refine r_inBlock ?_
            refine r_region ?_
            refine OL.q (Q1.move rfl) rfl rfl ?_
            refine OL.q (Q1.addI (((k + 1 : Nat) : Int)) rfl rfl (by omega)) rfl rfl ?_
            refine OL.q (Q1.assign rfl) rfl rfl ?_
            refine OL.nil ?_
            exact (ih2 _ _ _ ⟨(c1 / 2 : Nat), (k + 1 : Nat), rfl, rfl, hE2, (by omega), f2, (by first | exact hr.one (UInt8.toNat_lt _) (by omega) | exact hr.nil (UInt8.toNat_lt _) (by omega) | (exfalso; omega)), (by first | omega | (exfalso; omega))⟩ (by omega)).sub ⟨rfl, rfl, rfl, rfl, trivial⟩
        | false =>
          replace hb2 := of_decide_eq_false hb2.symm
          refine r_cond_f rfl ?_
          refine r_exit rfl ?_
          refine r_inBlock ?_
          refine r_region ?_
          refine OL.q (Q1.move rfl) rfl rfl ?_
          refine OL.q (Q1.addI (((i + 1 : Nat) : Int)) rfl rfl (by omega)) rfl rfl ?_
          refine OL.q (Q1.assign rfl) rfl rfl ?_
          refine OL.nil ?_
          exact (ih1 _ _ _ ⟨(c1 : Nat), (i + 1 : Nat), rfl, rfl, hE2, (by omega), f2, (by first | (rw [crcF_take hxi, ← hc]; exact RefK.fin (by rw [show k = 8 from by omega] at hr; exact hr) xi.toNat_lt) | (exfalso; omega)), (by first | exact hr.2 | (exfalso; omega)), (by first | omega | (exfalso; omega))⟩ (by omega)).sub ⟨rfl, rfl, rfl, trivial⟩
    | false =>
      replace hb1 := of_decide_eq_false hb1.symm
      refine r_cond_f rfl ?_
      refine r_exit rfl ?_
      refine r_seq ?_
      refine r_region ?_
      refine OL.q (Q1.move rfl) rfl rfl ?_
      refine OL.q (Q1.subU32 (a := 4294967295) (b := c) rfl rfl (by omega) (by omega)) rfl rfl ?_
      refine OL.q (Q1.assign rfl) rfl rfl ?_
      refine OL.nil ?_
      refine r_ret1 Try.func104 rfl rfl ?_
      exact Ret.mk ⟨(congrArg (Value.int .u32) (by first | (rw [hc, List.take_of_length_le (by omega)]; rfl) | (exfalso; omega))), hE1⟩
set_option maxRecDepth 20000 in
set_option maxHeartbeats 4000000 in
theorem r3put_c {w0 : World}  {v_b : Value} {b : List UInt8} (n : Int) (size : Nat) (h_b : Sl encB w0 (Iv 0 w0.heap.size) v_b b) (hbl : b.length ≤ 4000000) (hsz : size ≤ 8) :
    Calls Try.prog 93 #[v_b, .int .i64 n, .int .i64 (((size : Nat) : Int))] w0 (Ret fun rv w1 => (∃ gr, Acc encB 5 1 w1 gr rv (b ++ putN n size) ∧ (gr = 0 ∨ w0.heap.size < gr)) ∧ Ext w0 w1) := by
  have hE0 : Ext w0 w0 := Mod.refl _ _
  have hle1 := h_b.le
  refine calls_enter Try.func93 rfl Try.ntmps93 rfl ?_
  refine r_seq ?_
  refine r_region ?_
  refine OL.q (Q1.assign rfl) rfl rfl ?_
  refine OL.nil ?_
  refine r_seq ?_
  refine r_region ?_
  refine OL.q (Q1.move rfl) rfl rfl ?_
  refine OL.act rfl rfl (AW.append (Acc.nil (enc := encB) (e := 5) (sz := 1) (w := w0)) Try.underlying25 ti5 rfl encB_len encB_one rfl rfl (h_b) (by first | omega | (simp only [List.length_append, List.length_cons, List.length_nil]; omega) | (simp; omega)) (by unfold maxLen; first | omega | (simp only [List.length_append, List.length_cons, List.length_nil]; omega) | (simp; omega)) ?_)
  intro v1 g1 w1 ha1 hm1 hg1 hz1
  replace hm1 := hm1.toExt
  have f1 := h_b.ext hm1
  have hE1 := hE0.ext hm1
  have hs1 := hm1.size
  refine OL.q (Q1.assign rfl) rfl rfl ?_
  refine OL.nil ?_
  refine r_seq ?_
  refine r_region ?_
  refine OL.q (Q1.move rfl) rfl rfl ?_
  refine OL.q (Q1.convI (by kernel_rfl) Try.underlying149 rfl) rfl rfl ?_
  refine OL.q (Q1.assign rfl) rfl rfl ?_
  refine OL.nil ?_
  refine r_seq ?_
  refine r_seq ?_
  refine r_region ?_
  refine OL.q (Q1.move rfl) rfl rfl ?_
  refine OL.q (Q1.max rfl rfl) rfl rfl ?_
  refine OL.q (Q1.min rfl rfl) rfl rfl ?_
  rw [show (min (max (size : Int) 0) 8) = ((size : Nat) : Int) from by omega]
  refine OL.q (Q1.subI ((((size : Nat) : Int) - 1)) rfl rfl (by omega)) rfl rfl ?_
  refine OL.q (Q1.assign rfl) rfl rfl ?_
  refine OL.nil ?_
  refine r_block ?_
  refine r_loop (I := fun m E W => ∃ (v_out : Value) (g_out : Nat) (out : List UInt8) (i : Int), E = [(7, v_out), (8, .int .u64 ((IntKind.u64.wrap n))), (9, .int .i64 i)] ∧ m = (i + 1).toNat ∧ Ext w0 W ∧ w1.heap.size ≤ W.heap.size ∧ Acc encB 5 1 W g_out v_out out ∧ (g_out = 0 ∨ w0.heap.size < g_out) ∧ (out = b ++ (putN n size).take (size - 1 - i).toNat) ∧ (out.length ≤ b.length + (size - 1 - i).toNat) ∧ (-1 ≤ i ∧ i < (size : Int))) ?_ ?_
  · refine ⟨_, _, ⟨(v1 : Value), (g1 : Nat), (([] ++ b) : List UInt8), ((((size : Nat) : Int) - 1) : Int), rfl, rfl, hE1, Nat.le_refl _, ha1, (by omega), (by (rw [show ((size : Int) - 1 - ((size : Int) - 1)).toNat = 0 from by omega]; simp)), (by simp), (by omega)⟩, ⟨rfl, rfl, rfl, trivial⟩⟩
  · rintro _ _ w2 ⟨v_out, g_out, out, i, rfl, rfl, hE2, hs2, ha2, hg2, ho, hol, hil⟩ ih1
    refine r_seq ?_
    refine r_seq ?_
    refine r_region ?_
    refine OL.q (Q1.move rfl) rfl rfl ?_
    refine OL.qb (Q1.ge rfl rfl) rfl rfl ?_
    intro b1 hb1
    refine OL.nil ?_
    cases b1 with
    | true =>
      replace hb1 := of_decide_eq_true hb1.symm
      refine r_cond_t rfl ?_
      refine r_skip ?_
      refine r_seq ?_
      refine r_block ?_
      refine r_region ?_
      refine OL.q (Q1.move rfl) rfl rfl ?_
      refine OL.q (Q1.move rfl) rfl rfl ?_
      refine OL.q (Q1.move rfl) rfl rfl ?_
      refine OL.q (Q1.mulI ((8 * i)) rfl rfl (by omega)) rfl rfl ?_
      refine OL.q (Q1.shrN (((8 * i)).toNat) rfl rfl (by omega) (by simp only [IntKind.bits]; omega)) rfl rfl ?_
      refine OL.q (Q1.convB (by kernel_rfl) Try.underlying5 rfl) rfl rfl ?_
      refine OL.act rfl rfl (AW.buildSlice [(.int .u8 (((byN (((IntKind.u64.wrap n) / 2 ^ (((8 * i)).toNat)))).toNat : Int)) : Value)] Try.underlying25 ti5 rfl rfl rfl (by decide) ?_)
      intro w3 b2 hm2 hb2 hz2 hk1
      have hl1 := ha2.lt
      have f2 := ha2.ext hm2
      have hE3 := hE2.ext hm2
      have hs3 := hm2.size
      have hl2 := Sl.of_blk (enc := encB) hk1 ([(byN (((IntKind.u64.wrap n) / 2 ^ (((8 * i)).toNat))))] : List UInt8) 1 rfl rfl (by unfold maxLen; omega)
      have hl3 := f2.lt
      refine OL.act rfl rfl (AW.append f2 Try.underlying25 ti5 rfl encB_len encB_one rfl rfl (hl2) (by first | omega | (simp only [List.length_append, List.length_cons, List.length_nil]; omega) | (simp; omega)) (by unfold maxLen; first | omega | (simp only [List.length_append, List.length_cons, List.length_nil]; omega) | (simp; omega)) ?_)
      intro v2 g2 w4 ha3 hm3 hg3 hz3
      have hl4 := f2.lt
      have f3 := hl2.keepG hm3 (by omega)
      have hE4 := Ext.thenG hE3 hm3 (by omega)
      have hs4 := hm3.size
      refine OL.q (Q1.assign rfl) rfl rfl ?_
      refine OL.nil ?_
      refine r_inBlock ?_
      refine r_region ?_
      refine OL.q (Q1.move rfl) rfl rfl ?_
      refine OL.q (Q1.subI ((i - 1)) rfl rfl (by omega)) rfl rfl ?_
      refine OL.q (Q1.assign rfl) rfl rfl ?_
      refine OL.nil ?_
      exact (ih1 _ _ _ ⟨(v2 : Value), (g2 : Nat), ((out ++ [(byN (((IntKind.u64.wrap n) / 2 ^ (((8 * i)).toNat))))]) : List UInt8), ((i - 1) : Int), rfl, rfl, hE4, (by omega), ha3, (by omega), (by first | exact put_down ho (by omega) (by omega) | (exfalso; omega)), (by first | (simp only [List.length_append, List.length_cons, List.length_nil]; omega) | (exfalso; omega)), (by first | omega | (exfalso; omega))⟩ (by omega)).sub ⟨rfl, rfl, rfl, trivial⟩
    | false =>
      replace hb1 := of_decide_eq_false hb1.symm
      refine r_cond_f rfl ?_
      refine r_exit rfl ?_
      refine r_seq ?_
      refine r_region ?_
      refine OL.q (Q1.move rfl) rfl rfl ?_
      refine OL.q (Q1.assign rfl) rfl rfl ?_
      refine OL.nil ?_
      refine r_ret1 Try.func93 rfl rfl ?_
      exact Ret.mk ⟨⟨_, Acc.cast ha2 (by first | (rw [ho, List.take_of_length_le (by rw [putN_len]; omega)]) | (exfalso; omega)), by omega⟩, hE2⟩
set_option maxRecDepth 20000 in
set_option maxHeartbeats 4000000 in
theorem r3num_c {w0 : World}  {v_b : Value} {b : List UInt8} (at_ : Int) (size : Nat) (h_b : Sl encB w0 (Iv 0 w0.heap.size) v_b b) (h_at_ : I64 at_) (hbl : b.length ≤ 4000000) (hsz : 1 ≤ size ∧ size ≤ 4) :
    Calls Try.prog 103 #[v_b, .int .i64 at_, .int .i64 (((size : Nat) : Int))] w0 (Ret fun rv w1 => ∃ u0 u1, rv = .tuple #[u0, u1] ∧ u0 = .int .i64 (numV b at_ size) ∧ (∃ rb : Bool, rb = (numOk b at_ size) ∧ u1 = .bool rb) ∧ Ext w0 w1) := by
  have hE0 : Ext w0 w0 := Mod.refl _ _
  have hle1 := h_b.le
  refine calls_enter Try.func103 rfl Try.ntmps103 rfl ?_
  refine r_seq ?_
  refine r_region ?_
  refine OL.q (Q1.assign rfl) rfl rfl ?_
  refine OL.q (Q1.assign rfl) rfl rfl ?_
  refine OL.nil ?_
  refine r_seq ?_
  refine r_seq ?_
  refine r_region ?_
  refine OL.q (Q1.move rfl) rfl rfl ?_
  refine OL.qb (Q1.lt rfl rfl) rfl rfl ?_
  intro b1 hb1
  refine OL.q (Q1.move rfl) rfl rfl ?_
  cases b1 with
  | true =>
    replace hb1 := of_decide_eq_true hb1.symm
    refine OL.sk rfl rfl ?_
    refine OL.sk rfl rfl ?_
    refine OL.q (Q1.pick_t rfl rfl) rfl rfl ?_
    refine OL.q (Q1.move rfl) rfl rfl ?_
    refine OL.sk rfl rfl ?_
    refine OL.sk rfl rfl ?_
    refine OL.q (Q1.pick_t rfl rfl) rfl rfl ?_
    refine OL.q (Q1.move rfl) rfl rfl ?_
    refine OL.sk rfl rfl ?_
    refine OL.sk rfl rfl ?_
    refine OL.sk rfl rfl ?_
    refine OL.sk rfl rfl ?_
    refine OL.q (Q1.pick_t rfl rfl) rfl rfl ?_
    refine OL.q (Q1.move rfl) rfl rfl ?_
    refine OL.sk rfl rfl ?_
    refine OL.sk rfl rfl ?_
    refine OL.sk rfl rfl ?_
    refine OL.sk rfl rfl ?_
    refine OL.sk rfl rfl ?_
    refine OL.sk rfl rfl ?_
    refine OL.q (Q1.pick_t rfl rfl) rfl rfl ?_
    refine OL.nil ?_
    refine r_cond_t rfl ?_
    refine r_seq ?_
    refine r_region ?_
    refine OL.q (Q1.assign rfl) rfl rfl ?_
    refine OL.q (Q1.assign rfl) rfl rfl ?_
    refine OL.nil ?_
    refine r_ret2 Try.func103 rfl rfl rfl ?_
    exact Ret.mk ⟨_, _, rfl, (congrArg (Value.int .i64) (by first | exact (numV_no (by omega)).1 | exact (numV_no (by omega)).2 | (rw [hn, ← (numV_yes (by omega)).1, show i = size from by omega]; simp) | exact (numV_yes (by omega)).2 | (exfalso; omega))), ⟨_, (by first | exact (numV_no (by omega)).1 | exact (numV_no (by omega)).2 | (rw [hn, ← (numV_yes (by omega)).1, show i = size from by omega]; simp) | exact (numV_yes (by omega)).2 | (exfalso; omega)), rfl⟩, hE0⟩
  | false =>
    replace hb1 := of_decide_eq_false hb1.symm
    refine OL.q (Q1.move rfl) rfl rfl ?_
    refine OL.qb (Q1.gt rfl rfl) rfl rfl ?_
    intro b2 hb2
    refine OL.q (Q1.pick_f rfl rfl) rfl rfl ?_
    refine OL.q (Q1.move rfl) rfl rfl ?_
    cases b2 with
    | true =>
      replace hb2 := of_decide_eq_true hb2.symm
      refine OL.sk rfl rfl ?_
      refine OL.sk rfl rfl ?_
      refine OL.q (Q1.pick_t rfl rfl) rfl rfl ?_
      refine OL.q (Q1.move rfl) rfl rfl ?_
      refine OL.sk rfl rfl ?_
      refine OL.sk rfl rfl ?_
      refine OL.sk rfl rfl ?_
      refine OL.sk rfl rfl ?_
      refine OL.q (Q1.pick_t rfl rfl) rfl rfl ?_
      refine OL.q (Q1.move rfl) rfl rfl ?_
      refine OL.sk rfl rfl ?_
      refine OL.sk rfl rfl ?_
      refine OL.sk rfl rfl ?_
      refine OL.sk rfl rfl ?_
      refine OL.sk rfl rfl ?_
      refine OL.sk rfl rfl ?_
      refine OL.q (Q1.pick_t rfl rfl) rfl rfl ?_
      refine OL.nil ?_
      refine r_cond_t rfl ?_
      refine r_seq ?_
      refine r_region ?_
      refine OL.q (Q1.assign rfl) rfl rfl ?_
      refine OL.q (Q1.assign rfl) rfl rfl ?_
      refine OL.nil ?_
      refine r_ret2 Try.func103 rfl rfl rfl ?_
      exact Ret.mk ⟨_, _, rfl, (congrArg (Value.int .i64) (by first | exact (numV_no (by omega)).1 | exact (numV_no (by omega)).2 | (rw [hn, ← (numV_yes (by omega)).1, show i = size from by omega]; simp) | exact (numV_yes (by omega)).2 | (exfalso; omega))), ⟨_, (by first | exact (numV_no (by omega)).1 | exact (numV_no (by omega)).2 | (rw [hn, ← (numV_yes (by omega)).1, show i = size from by omega]; simp) | exact (numV_yes (by omega)).2 | (exfalso; omega)), rfl⟩, hE0⟩
    | false =>
      replace hb2 := of_decide_eq_false hb2.symm
      refine OL.q (Q1.move rfl) rfl rfl ?_
      refine OL.qb (Q1.lt rfl rfl) rfl rfl ?_
      intro b3 hb3
      refine OL.q (Q1.pick_f rfl rfl) rfl rfl ?_
      refine OL.q (Q1.move rfl) rfl rfl ?_
      cases b3 with
      | true =>
        replace hb3 := of_decide_eq_true hb3.symm
        refine OL.sk rfl rfl ?_
        refine OL.sk rfl rfl ?_
        refine OL.sk rfl rfl ?_
        refine OL.sk rfl rfl ?_
        refine OL.q (Q1.pick_t rfl rfl) rfl rfl ?_
        refine OL.q (Q1.move rfl) rfl rfl ?_
        refine OL.sk rfl rfl ?_
        refine OL.sk rfl rfl ?_
        refine OL.sk rfl rfl ?_
        refine OL.sk rfl rfl ?_
        refine OL.sk rfl rfl ?_
        refine OL.sk rfl rfl ?_
        refine OL.q (Q1.pick_t rfl rfl) rfl rfl ?_
        refine OL.nil ?_
        refine r_cond_t rfl ?_
        refine r_seq ?_
        refine r_region ?_
        refine OL.q (Q1.assign rfl) rfl rfl ?_
        refine OL.q (Q1.assign rfl) rfl rfl ?_
        refine OL.nil ?_
        refine r_ret2 Try.func103 rfl rfl rfl ?_
        exact Ret.mk ⟨_, _, rfl, (congrArg (Value.int .i64) (by first | exact (numV_no (by omega)).1 | exact (numV_no (by omega)).2 | (rw [hn, ← (numV_yes (by omega)).1, show i = size from by omega]; simp) | exact (numV_yes (by omega)).2 | (exfalso; omega))), ⟨_, (by first | exact (numV_no (by omega)).1 | exact (numV_no (by omega)).2 | (rw [hn, ← (numV_yes (by omega)).1, show i = size from by omega]; simp) | exact (numV_yes (by omega)).2 | (exfalso; omega)), rfl⟩, hE0⟩
      | false =>
        replace hb3 := of_decide_eq_false hb3.symm
        refine OL.q (Q1.move rfl) rfl rfl ?_
        refine OL.q (Q1.move rfl) rfl rfl ?_
        refine OL.q (Q1.lenSl Try.underlying25 (h_b) rfl) rfl rfl ?_
        refine OL.qb (Q1.gt rfl rfl) rfl rfl ?_
        intro b4 hb4
        refine OL.q (Q1.pick_f rfl rfl) rfl rfl ?_
        refine OL.q (Q1.move rfl) rfl rfl ?_
        cases b4 with
        | true =>
          replace hb4 := of_decide_eq_true hb4.symm
          refine OL.sk rfl rfl ?_
          refine OL.sk rfl rfl ?_
          refine OL.sk rfl rfl ?_
          refine OL.sk rfl rfl ?_
          refine OL.sk rfl rfl ?_
          refine OL.sk rfl rfl ?_
          refine OL.q (Q1.pick_t rfl rfl) rfl rfl ?_
          refine OL.nil ?_
          refine r_cond_t rfl ?_
          refine r_seq ?_
          refine r_region ?_
          refine OL.q (Q1.assign rfl) rfl rfl ?_
          refine OL.q (Q1.assign rfl) rfl rfl ?_
          refine OL.nil ?_
          refine r_ret2 Try.func103 rfl rfl rfl ?_
          exact Ret.mk ⟨_, _, rfl, (congrArg (Value.int .i64) (by first | exact (numV_no (by omega)).1 | exact (numV_no (by omega)).2 | (rw [hn, ← (numV_yes (by omega)).1, show i = size from by omega]; simp) | exact (numV_yes (by omega)).2 | (exfalso; omega))), ⟨_, (by first | exact (numV_no (by omega)).1 | exact (numV_no (by omega)).2 | (rw [hn, ← (numV_yes (by omega)).1, show i = size from by omega]; simp) | exact (numV_yes (by omega)).2 | (exfalso; omega)), rfl⟩, hE0⟩
        | false =>
          replace hb4 := of_decide_eq_false hb4.symm
          refine OL.q (Q1.move rfl) rfl rfl ?_
          refine OL.q (Q1.move rfl) rfl rfl ?_
          refine OL.q (Q1.lenSl Try.underlying25 (h_b) rfl) rfl rfl ?_
          refine OL.q (Q1.move rfl) rfl rfl ?_
          refine OL.q (Q1.subI ((((b.length : Nat) : Int) - at_)) rfl rfl (by omega)) rfl rfl ?_
          refine OL.qb (Q1.gt rfl rfl) rfl rfl ?_
          intro b5 hb5
          refine OL.q (Q1.pick_f rfl rfl) rfl rfl ?_
          refine OL.nil ?_
          cases b5 with
          | true =>
            replace hb5 := of_decide_eq_true hb5.symm
            refine r_cond_t rfl ?_
            refine r_seq ?_
            refine r_region ?_
            refine OL.q (Q1.assign rfl) rfl rfl ?_
            refine OL.q (Q1.assign rfl) rfl rfl ?_
            refine OL.nil ?_
            refine r_ret2 Try.func103 rfl rfl rfl ?_
            exact Ret.mk ⟨_, _, rfl, (congrArg (Value.int .i64) (by first | exact (numV_no (by omega)).1 | exact (numV_no (by omega)).2 | (rw [hn, ← (numV_yes (by omega)).1, show i = size from by omega]; simp) | exact (numV_yes (by omega)).2 | (exfalso; omega))), ⟨_, (by first | exact (numV_no (by omega)).1 | exact (numV_no (by omega)).2 | (rw [hn, ← (numV_yes (by omega)).1, show i = size from by omega]; simp) | exact (numV_yes (by omega)).2 | (exfalso; omega)), rfl⟩, hE0⟩
          | false =>
            replace hb5 := of_decide_eq_false hb5.symm
            refine r_cond_f rfl ?_
            refine r_skip ?_
            refine r_seq ?_
            refine r_region ?_
            refine OL.q (Q1.assign rfl) rfl rfl ?_
            refine OL.nil ?_
            refine r_seq ?_
            refine r_seq ?_
            refine r_region ?_
            refine OL.q (Q1.assign rfl) rfl rfl ?_
            refine OL.nil ?_
            refine r_block ?_
            refine r_loop (I := fun m E W => ∃ (n : Nat) (i : Nat), E = [(0, v_b), (1, .int .i64 at_), (2, .int .i64 (((size : Nat) : Int))), (8, .int .u64 (((n : Nat) : Int))), (9, .int .i64 (((i : Nat) : Int)))] ∧ m = size - i ∧ Ext w0 W ∧ w0.heap.size ≤ W.heap.size ∧ Sl encB W (Iv 0 w0.heap.size) v_b b ∧ (n = numN ((b.drop at_.toNat).take i)) ∧ (i ≤ size)) ?_ ?_
            · refine ⟨_, _, ⟨(0 : Nat), (0 : Nat), rfl, rfl, hE0, Nat.le_refl _, h_b, (by rfl), (by omega)⟩, ⟨rfl, rfl, rfl, rfl, rfl, trivial⟩⟩
            · rintro _ _ w1 ⟨n, i, rfl, rfl, hE1, hs1, f1, hn, hil⟩ ih1
              have hnb := num_small (i := i) (l := b.drop at_.toNat) (by omega)
              rw [← hn] at hnb
              refine r_seq ?_
              refine r_seq ?_
              refine r_region ?_
              refine OL.q (Q1.move rfl) rfl rfl ?_
              refine OL.q (Q1.move rfl) rfl rfl ?_
              refine OL.qb (Q1.lt rfl rfl) rfl rfl ?_
              intro b6 hb6
              refine OL.nil ?_
              cases b6 with
              | true =>
                replace hb6 := of_decide_eq_true hb6.symm
                refine r_cond_t rfl ?_
                refine r_skip ?_
                refine r_seq ?_
                refine r_block ?_
                refine r_region ?_
                refine OL.q (Q1.move rfl) rfl rfl ?_
                refine OL.q (Q1.shl8 (a := n) rfl rfl (by omega)) rfl rfl ?_
                refine OL.q (Q1.move rfl) rfl rfl ?_
                refine OL.q (Q1.move rfl) rfl rfl ?_
                refine OL.q (Q1.move rfl) rfl rfl ?_
                refine OL.q (Q1.addI ((at_ + (((i : Nat) : Int)))) rfl rfl (by omega)) rfl rfl ?_
                obtain ⟨x1, b7, o1, hx1, hr1, hl1, hu1, hw1⟩ := Sl.at' (P := Try.prog) f1 Try.underlying25 ti5 encB_len (k := .i64) (n := (at_ + (((i : Nat) : Int)))) (((at_ + (((i : Nat) : Int)))).toNat) (by omega) (by first | assumption | omega)
                refine OL.q (Q1.indexAddr rfl rfl hr1) rfl rfl ?_
                refine OL.q (Q1.load1 ti5 rfl (fun _ e => e ▸ hw1)) rfl rfl ?_
                have hx1b := x1.toNat_lt
                refine OL.q (Q1.convN (by kernel_rfl) Try.underlying149 rfl (IntWalk.u64_in _ (by omega))) rfl rfl ?_
                refine OL.q (Q1.orB (a := n) (b := x1.toNat) rfl rfl (by omega) (by omega)) rfl rfl ?_
                refine OL.q (Q1.assign rfl) rfl rfl ?_
                refine OL.nil ?_
                refine r_inBlock ?_
                refine r_region ?_
                refine OL.q (Q1.move rfl) rfl rfl ?_
                refine OL.q (Q1.addI (((i + 1 : Nat) : Int)) rfl rfl (by omega)) rfl rfl ?_
                refine OL.q (Q1.assign rfl) rfl rfl ?_
                refine OL.nil ?_
                exact (ih1 _ _ _ ⟨(n * 256 + x1.toNat : Nat), (i + 1 : Nat), rfl, rfl, hE1, (by omega), f1, (by first | refine num_step hn hx1 ?_; omega | (exfalso; omega)), (by first | omega | (exfalso; omega))⟩ (by omega)).sub ⟨rfl, rfl, rfl, rfl, rfl, trivial⟩
              | false =>
                replace hb6 := of_decide_eq_false hb6.symm
                refine r_cond_f rfl ?_
                refine r_exit rfl ?_
                refine r_seq ?_
                refine r_region ?_
                refine OL.q (Q1.move rfl) rfl rfl ?_
                refine OL.q (Q1.convN (by kernel_rfl) Try.underlying3 rfl (IntWalk.i64_in _ (by omega))) rfl rfl ?_
                refine OL.q (Q1.assign rfl) rfl rfl ?_
                refine OL.q (Q1.assign rfl) rfl rfl ?_
                refine OL.nil ?_
                refine r_ret2 Try.func103 rfl rfl rfl ?_
                exact Ret.mk ⟨_, _, rfl, (congrArg (Value.int .i64) (by first | exact (numV_no (by omega)).1 | exact (numV_no (by omega)).2 | (rw [hn, ← (numV_yes (by omega)).1, show i = size from by omega]; simp) | exact (numV_yes (by omega)).2 | (exfalso; omega))), ⟨_, (by first | exact (numV_no (by omega)).1 | exact (numV_no (by omega)).2 | (rw [hn, ← (numV_yes (by omega)).1, show i = size from by omega]; simp) | exact (numV_yes (by omega)).2 | (exfalso; omega)), rfl⟩, hE1⟩
end Go.Proofs
