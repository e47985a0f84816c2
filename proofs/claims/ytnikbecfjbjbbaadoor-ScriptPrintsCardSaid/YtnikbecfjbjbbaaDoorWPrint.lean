/-
  Walks through a script printed.
-/
import Derived.Test.YtnikbecfjbjbbaaDoorWLaws
set_option linter.unusedVariables false
set_option linter.unusedSimpArgs false
namespace Go.Proofs
open Go.Ik Go.Ml
set_option maxRecDepth 20000 in
set_option maxHeartbeats 4000000 in
theorem pword_c_ {w0 : World} {F : Nat → Prop} {b : Nat} {bad0 : Bool} {txt : Str} (s : Str) (hA : (bdR (R := fun _ => False) 5 76 b [.bool bad0] txt).p F w0) (hF : ∀ b, F b → b < w0.heap.size) (hl : txt.length ≤ 2000000000000) (hs : s.length ≤ 1000000) :
    Calls Tryd.prog 32 #[ptr b 0, strV s] w0 (Ret fun rv w1 => rv = .tuple #[] ∧ Mod F w0 w1 ∧ ∃ F2, (bdR (R := fun _ => False) 5 76 b [.bool bad0] (txt ++ s)).p F2 w1 ∧ ∀ b, F2 b → b < w1.heap.size ∧ (F b ∨ w0.heap.size ≤ b)) := by
  obtain ⟨bad, hbd⟩ : ∃ x, x = bad0 := ⟨_, rfl⟩
  rw [← hbd] at hA
  have hS00 := St.start1 (R := fun _ => False) hA (fun b hb => ⟨hF b hb, id⟩) (fun _ h => h.elim)
  have hS1 : St (fun _ => False) F w0 w0 [bdR 5 76 b ([.bool bad]) txt] := hS00
  refine calls_enter Tryd.func32 rfl Tryd.ntmps32 rfl ?_
  refine r_region ?_
  refine OL.q (Q1.move rfl) rfl rfl ?_
  refine OL.q (Q1.nilCheckP rfl) rfl rfl ?_
  refine OL.q (Q1.fieldAddr fl76_0 rfl) rfl rfl ?_
  refine OL.q (Q1.move rfl) rfl rfl ?_
  obtain ⟨Fy1, hAy1, hFy1, hky1⟩ := hS1.act (i := 0) rfl
  refine OL.act rfl rfl (AW.callF cl50 rfl (bwstr_c (w0 := w0) s hAy1 (fun b hb => (hFy1 b hb).2) (by kernel_rfl) (by first | omega | (simp only [List.length_append, List.length_cons, List.length_nil]; omega)) (by first | omega | (simp only [List.length_append, List.length_cons, List.length_nil]; omega) | (simp; done))) ?_)
  rintro _ w1 ⟨rfl, hm1, F1, hA1, hF1⟩
  have hS2 : St (fun _ => False) F w0 w1 [bdR 5 76 b ([.bool bad]) ((txt ++ s))] := hky1 _ _ _ hm1 hA1 hF1
  clear hky1 hA1
  refine OL.nil ?_
  refine r_end0 Tryd.func32 rfl ?_
  obtain ⟨hmF, F2r, hAr, hFr⟩ := hS2.fin
  have e1 : ((txt ++ s) : Str) = txt ++ s := by first | rfl | (exfalso; omega)
  have e2 : (bad : Bool) = bad0 := by first | exact hbd | (exfalso; omega)
  exact Ret.mk ⟨rfl, hmF, F2r, e1 ▸ e2 ▸ hAr, hFr⟩
set_option maxRecDepth 20000 in
set_option maxHeartbeats 4000000 in
theorem pquoted_c {w0 : World} {F : Nat → Prop} {b : Nat} {bad0 : Bool} {txt : Str} (s : Str) (hA : (bdR (R := fun _ => False) 5 76 b [.bool bad0] txt).p F w0) (hF : ∀ b, F b → b < w0.heap.size) (hl : txt.length ≤ 2000000000000) (hsl : s.length ≤ 100000) :
    Calls Tryd.prog 33 #[ptr b 0, strV s] w0 (Ret fun rv w1 => rv = .tuple #[] ∧ Mod F w0 w1 ∧ ∃ F2, (bdR (R := fun _ => False) 5 76 b [.bool bad0] (txt ++ (32 :: quoteM s))).p F2 w1 ∧ ∀ b, F2 b → b < w1.heap.size ∧ (F b ∨ w0.heap.size ≤ b)) := by
  obtain ⟨bad, hbd⟩ : ∃ x, x = bad0 := ⟨_, rfl⟩
  rw [← hbd] at hA
  have hS00 := St.start1 (R := fun _ => False) hA (fun b hb => ⟨hF b hb, id⟩) (fun _ h => h.elim)
  have hS1 : St (fun _ => False) F w0 w0 [bdR 5 76 b ([.bool bad]) txt] := hS00
  refine calls_enter Tryd.func33 rfl Tryd.ntmps33 rfl ?_
  have hql := quote_len s
  refine r_draw1 (fun i => Nat.beq i 4 || Nat.beq i 6) 6 (fun w' => Mod (Mg 0) w0 w') mixed (by kernel_rfl) ?_
  intro w1 hm1
  have hS2 := hS1.ext hm1
  have hCw1 : Mod (Mg 0) w0 w1 := Mod.ofExt hm1
  refine ⟨hCw1, ?_⟩
  rw [show List.range' 0 (Array.size _) = [0, 1, 2, 3, 4, 5, 6] from rfl]
  refine OD.q rfl rfl (Q1.move rfl) rfl rfl ?_
  refine OD.q rfl rfl (Q1.nilCheckP rfl) rfl rfl ?_
  refine OD.q rfl rfl (Q1.fieldAddr fl76_0 rfl) rfl rfl ?_
  refine OD.q rfl rfl (Q1.move rfl) rfl rfl ?_
  refine OD.act rfl rfl rfl rfl (AW.callF cl9 rfl (quote_c (w0 := w1)  s (by first | assumption | omega | decide)) ?_)
  rintro _ w2 ⟨rfl, hm2⟩
  have hS3 := hS2.ext hm2
  have hCw2 := hCw1.ext hm2
  refine ⟨.inr hCw2, ?_⟩
  have := quote_len s
  refine OD.q rfl rfl (Q1.catS rfl rfl (by first | omega | (simp only [List.length_append]; omega) | (simp only [List.length_append, List.length_cons, List.length_nil]; omega))) rfl rfl ?_
  obtain ⟨Fy1, hAy1, hFy1, hky1⟩ := hS3.act (i := 0) rfl
  refine OD.act rfl rfl rfl rfl (AW.callF cl50 rfl (bwstr_c (w0 := w2) ((([32] : Str) ++ (quoteM s))) hAy1 (fun b hb => (hFy1 b hb).2) (by kernel_rfl) (by first | omega | (simp only [List.length_append, List.length_cons, List.length_nil]; omega)) (by first | omega | (simp only [List.length_append, List.length_cons, List.length_nil]; omega) | (simp; done))) ?_)
  rintro _ w3 ⟨rfl, hm3, F1, hA1, hF1⟩
  have hS4 : St (fun _ => False) F w0 w3 [bdR 5 76 b ([.bool bad]) ((txt ++ (([32] : Str) ++ (quoteM s))))] := hky1 _ _ _ hm3 hA1 hF1
  clear hky1 hA1
  refine ⟨.inl rfl, ?_⟩
  refine OD.nil ?_
  refine r_end0 Tryd.func33 rfl ?_
  obtain ⟨hmF, F2r, hAr, hFr⟩ := hS4.fin
  have e1 : ((txt ++ (([32] : Str) ++ (quoteM s))) : Str) = txt ++ (32 :: quoteM s) := by first | rfl | (exfalso; omega)
  have e2 : (bad : Bool) = bad0 := by first | exact hbd | (exfalso; omega)
  exact Ret.mk ⟨rfl, hmF, F2r, e1 ▸ e2 ▸ hAr, hFr⟩
set_option maxRecDepth 20000 in
set_option maxHeartbeats 4000000 in
theorem pend_c {w0 : World} {F : Nat → Prop} {b : Nat} {bad0 : Bool} {txt : Str}  (hA : (bdR (R := fun _ => False) 5 76 b [.bool bad0] txt).p F w0) (hF : ∀ b, F b → b < w0.heap.size) (hl : txt.length ≤ 2000000000000)  :
    Calls Tryd.prog 34 #[ptr b 0] w0 (Ret fun rv w1 => rv = .tuple #[] ∧ Mod F w0 w1 ∧ ∃ F2, (bdR (R := fun _ => False) 5 76 b [.bool bad0] (txt ++ [10])).p F2 w1 ∧ ∀ b, F2 b → b < w1.heap.size ∧ (F b ∨ w0.heap.size ≤ b)) := by
  obtain ⟨bad, hbd⟩ : ∃ x, x = bad0 := ⟨_, rfl⟩
  rw [← hbd] at hA
  have hS00 := St.start1 (R := fun _ => False) hA (fun b hb => ⟨hF b hb, id⟩) (fun _ h => h.elim)
  have hS1 : St (fun _ => False) F w0 w0 [bdR 5 76 b ([.bool bad]) txt] := hS00
  refine calls_enter Tryd.func34 rfl Tryd.ntmps34 rfl ?_
  refine r_region ?_
  refine OL.q (Q1.move rfl) rfl rfl ?_
  refine OL.q (Q1.nilCheckP rfl) rfl rfl ?_
  refine OL.q (Q1.fieldAddr fl76_0 rfl) rfl rfl ?_
  obtain ⟨Fy1, hAy1, hFy1, hky1⟩ := hS1.act (i := 0) rfl
  refine OL.act rfl rfl (AW.callF cl22 rfl (bwbyte_c (w0 := w0) (10 : UInt8) hAy1 (fun b hb => (hFy1 b hb).2) (by kernel_rfl) (by first | omega | (simp only [List.length_append, List.length_cons, List.length_nil]; omega)) ) ?_)
  rintro _ w1 ⟨rfl, hm1, F1, hA1, hF1⟩
  have hS2 : St (fun _ => False) F w0 w1 [bdR 5 76 b ([.bool bad]) ((txt ++ [(10 : UInt8)]))] := hky1 _ _ _ hm1 hA1 hF1
  clear hky1 hA1
  refine OL.nil ?_
  refine r_end0 Tryd.func34 rfl ?_
  obtain ⟨hmF, F2r, hAr, hFr⟩ := hS2.fin
  have e1 : ((txt ++ [(10 : UInt8)]) : Str) = txt ++ [10] := by first | rfl | (exfalso; omega)
  have e2 : (bad : Bool) = bad0 := by first | exact hbd | (exfalso; omega)
  exact Ret.mk ⟨rfl, hmF, F2r, e1 ▸ e2 ▸ hAr, hFr⟩
set_option maxRecDepth 20000 in
set_option maxHeartbeats 4000000 in
theorem pnums_c {w0 : World} {F : Nat → Prop} {b : Nat} {bad0 : Bool} {txt : Str} {v_ns : Value} {ns : List Int} {G : Nat → Prop} (hA : (bdR (R := fun _ => False) 5 76 b [.bool bad0] txt).p F w0) (hF : ∀ b, F b → b < w0.heap.size) (hl : txt.length ≤ 2000000000000) (hG : GS w0) (hFg : ∀ b, b = gB ∨ b = gS ∨ b = gR → ¬ F b) (hns_ : Sl Ik.encI w0 G v_ns ns) (hGF : ∀ b, G b → ¬ F b) (hnI : ∀ n ∈ ns, I64 n) (hnl : ns.length ≤ 1000) :
    Calls Tryd.prog 35 #[ptr b 0, v_ns] w0 (Ret fun rv w1 => rv = .tuple #[] ∧ Mod F w0 w1 ∧ ∃ F2, (bdR (R := fun _ => False) 5 76 b [.bool ((bad0 || ns.any badN))] (txt ++ numsP ns)).p F2 w1 ∧ ∀ b, F2 b → b < w1.heap.size ∧ (F b ∨ w0.heap.size ≤ b)) := by
  obtain ⟨bad, hbd⟩ : ∃ x, x = bad0 := ⟨_, rfl⟩
  rw [← hbd] at hA
  have hS00 := St.start1 (R := fun _ => False) hA (fun b hb => ⟨hF b hb, id⟩) (fun _ h => h.elim)
  have hS1 : St (fun _ => False) F w0 w0 [bdR 5 76 b ([.bool bad]) txt] := hS00
  have hle_ns := hns_.le
  refine calls_enter Tryd.func35 rfl Tryd.ntmps35 rfl ?_
  refine r_seq ?_
  refine r_region ?_
  refine OL.q (Q1.move rfl) rfl rfl ?_
  refine OL.q (Q1.lenSl Tryd.underlying82 (hns_) rfl) rfl rfl ?_
  refine OL.q (Q1.move rfl) rfl rfl ?_
  refine OL.nil ?_
  refine r_block ?_
  refine r_loop (I := fun m E W => ∃ (i : Nat) (tx : Str) (bd : Bool), E = [(0, ptr b 0), (6, v_ns), (7, .int .i64 (((ns.length : Nat) : Int))), (8, .int .i64 (((i : Nat) : Int)))] ∧ m = ns.length - i ∧ St (fun _ => False) F w0 W [bdR 5 76 b ([.bool bd]) tx] ∧ (tx = txt ++ numsP (ns.take i)) ∧ (bd = (bad0 || (ns.take i).any badN)) ∧ (tx.length ≤ 2000000000000 + i * 22)) ?_ ?_
  · refine ⟨_, _, ⟨(0 : Nat), (txt : Str), (bad : Bool), rfl, rfl, hS1, (by simp [numsP]), (by simp [hbd]), (by omega)⟩, ⟨rfl, rfl, rfl, rfl, trivial⟩⟩
  · rintro _ _ w1 ⟨i, tx, bd, rfl, rfl, hS2, htx, hbad, htl⟩ ih1
    refine r_seq ?_
    refine r_region ?_
    refine OL.qb (Q1.lt rfl rfl) rfl rfl ?_
    intro b1 hb1
    refine OL.nil ?_
    refine r_seq ?_
    cases b1 with
    | true =>
      replace hb1 := of_decide_eq_true hb1.symm
      refine r_cond_t rfl ?_
      refine r_skip ?_
      refine r_seq ?_
      refine r_block ?_
      refine r_seq ?_
      refine r_region ?_
      have f1 := hS2.out hns_ hGF
      obtain ⟨x1, b2, o1, hx1, hr1, hl1, hw1⟩ := Sl.atF (P := Tryd.prog) f1 Tryd.underlying82 ti3 Ik.encI_len (k := .i64) (n := ((i : Nat) : Int)) (i) (by omega) (by first | assumption | omega)
      refine OL.q (Q1.indexAddr rfl rfl hr1) rfl rfl ?_
      refine OL.q (Q1.load1 ti3 rfl (fun _ e => e ▸ hw1)) rfl rfl ?_
      have hxI : I64 x1 := hnI _ (List.mem_of_getElem? hx1)
      have hxl := itoa_l hxI
      refine OL.q (Q1.assign rfl) rfl rfl ?_
      refine OL.nil ?_
      refine r_seq ?_
      refine r_region ?_
      obtain ⟨⟨pb1, vb1⟩, hS3⟩ := hS2.exo (i := 0) rfl
      change St (fun _ => False) F w0 w1 [andR (pb1 = .pointer none ∨ pb1 = ptr b 0) (boxR [bkR b (pb1 :: vb1 :: [.bool bd]) 76, accR encB 5 1 vb1 tx])] at hS3
      obtain ⟨hpb1, hS4⟩ := hS3.and (i := 0) rfl
      change St (fun _ => False) F w0 w1 [boxR [bkR b (pb1 :: vb1 :: [.bool bd]) 76, accR encB 5 1 vb1 tx]] at hS4
      have hS5 : St (fun _ => False) F w0 w1 [bkR b [pb1, vb1, .bool bd] 76, accR encB 5 1 vb1 tx] := St.open (L1 := []) hS4
      refine OL.q (Q1.move rfl) rfl rfl ?_
      refine OL.q (Q1.move rfl) rfl rfl ?_
      refine OL.q (Q1.nilCheckP rfl) rfl rfl ?_
      refine OL.q (Q1.fieldAddr fl76_1 rfl) rfl rfl ?_
      have f2 := hS5.bk (i := 0) rfl
      refine OL.q (Q1.load1 ti4 rfl (fun _ e => e ▸ (f2.cell 2 _ rfl))) rfl rfl ?_
      refine OL.q (Q1.move rfl) rfl rfl ?_
      cases bd with
      | true =>
        refine OL.sk rfl rfl ?_
        refine OL.sk rfl rfl ?_
        refine OL.q (Q1.pick_t rfl rfl) rfl rfl ?_
        refine OL.q (Q1.move rfl) rfl rfl ?_
        refine OL.sk rfl rfl ?_
        refine OL.sk rfl rfl ?_
        refine OL.q (Q1.pick_t rfl rfl) rfl rfl ?_
        refine OL.q (Q1.nilCheckP rfl) rfl rfl ?_
        refine OL.q (Q1.fieldAddr fl76_1 rfl) rfl rfl ?_
        refine OL.act rfl rfl (AW.store ti4 rfl rfl rfl rfl rfl f2 (Nat.le_of_ble_eq_true rfl) ?_)
        intro w2 hm1 hz1 hk1
        have hS6 : St (fun _ => False) F w0 w2 [bkR b [pb1, vb1, .bool true] 76, accR encB 5 1 vb1 tx] := hS5.bkK (i := 0) rfl hm1 hk1
        have hS7 : St (fun _ => False) F w0 w2 [boxR [bkR b [pb1, vb1, .bool true] 76, accR encB 5 1 vb1 tx]] := St.close (L1 := []) hS6
        have hS8 : St (fun _ => False) F w0 w2 [andR (pb1 = .pointer none ∨ pb1 = ptr b 0) (boxR [bkR b (pb1 :: vb1 :: [.bool true]) 76, accR encB 5 1 vb1 tx])] := hS7.imp (i := 0) rfl (fun F_ h_ => ⟨hpb1, h_⟩)
        have hS9 : St (fun _ => False) F w0 w2 [bdR 5 76 b ([.bool true]) tx] := hS8.exi (A := fun pv : Value × Value => andR (pv.1 = .pointer none ∨ pv.1 = ptr b 0) (boxR [bkR b (pv.1 :: pv.2 :: [.bool true]) 76, accR encB 5 1 pv.2 tx])) (pb1, vb1) (i := 0) rfl
        refine OL.nil ?_
        refine r_draw1 (fun i => Nat.beq i 4 || Nat.beq i 6) 6 (fun w' => Mod (Mg 0) w2 w') mixed (by kernel_rfl) ?_
        intro w3 hm2
        have hS10 := hS9.ext hm2
        have hCw3 : Mod (Mg 0) w2 w3 := Mod.ofExt hm2
        refine ⟨hCw3, ?_⟩
        rw [show List.range' 0 (Array.size _) = [0, 1, 2, 3, 4, 5, 6] from rfl]
        refine OD.q rfl rfl (Q1.move rfl) rfl rfl ?_
        refine OD.q rfl rfl (Q1.nilCheckP rfl) rfl rfl ?_
        refine OD.q rfl rfl (Q1.fieldAddr fl76_0 rfl) rfl rfl ?_
        refine OD.q rfl rfl (Q1.move rfl) rfl rfl ?_
        refine OD.act rfl rfl rfl rfl (AW.callF cl51 rfl (itoa_c (w0 := w3)  (x1) (by first | omega | assumption) (by exact hG.keep hgp (hS10.mod) hFg)) ?_)
        rintro _ w4 ⟨rfl, hm3⟩
        have hS11 := hS10.ext hm3
        have hCw4 := hCw3.ext hm3
        refine ⟨.inr hCw4, ?_⟩
        refine OD.q rfl rfl (Q1.catS rfl rfl (by first | omega | (simp only [List.length_append]; omega) | (simp only [List.length_append, List.length_cons, List.length_nil]; omega))) rfl rfl ?_
        obtain ⟨Fy1, hAy1, hFy1, hky1⟩ := hS11.act (i := 0) rfl
        refine OD.act rfl rfl rfl rfl (AW.callF cl50 rfl (bwstr_c (w0 := w4) ((([32] : Str) ++ (Lib.itoa x1))) hAy1 (fun b hb => (hFy1 b hb).2) (by kernel_rfl) (by first | omega | (simp only [List.length_append, List.length_cons, List.length_nil]; omega)) (by first | omega | (simp only [List.length_append, List.length_cons, List.length_nil]; omega) | (simp; done))) ?_)
        rintro _ w5 ⟨rfl, hm4, F1, hA1, hF1⟩
        have hS12 : St (fun _ => False) F w0 w5 [bdR 5 76 b ([.bool true]) ((tx ++ (([32] : Str) ++ (Lib.itoa x1))))] := hky1 _ _ _ hm4 hA1 hF1
        clear hky1 hA1
        refine ⟨.inl rfl, ?_⟩
        refine OD.nil ?_
        refine r_inBlock ?_
        refine r_region ?_
        refine OL.q (Q1.addI (((i + 1 : Nat) : Int)) rfl rfl (by omega)) rfl rfl ?_
        refine OL.q (Q1.move rfl) rfl rfl ?_
        refine OL.nil ?_
        exact (ih1 _ _ _ ⟨(i + 1 : Nat), ((tx ++ (([32] : Str) ++ (Lib.itoa x1))) : Str), (true : Bool), rfl, rfl, hS12, (by first | rw [htx, numsP_step hx1]; simp | (exfalso; omega)), (by first | exact nb_step hbad hx1 rfl | exact nb_step hbad hx1 (nb1 (by assumption)) | exact nb_step hbad hx1 (nb2 (by assumption) (by assumption)) | (exfalso; omega)), (by first | (simp only [List.length_append, List.length_cons, List.length_nil]; omega) | (exfalso; omega))⟩ (by omega)).sub ⟨rfl, rfl, rfl, rfl, trivial⟩
      | false =>
        refine OL.q (Q1.move rfl) rfl rfl ?_
        refine OL.qb (Q1.lt rfl rfl) rfl rfl ?_
        intro b3 hb2
        refine OL.q (Q1.pick_f rfl rfl) rfl rfl ?_
        refine OL.q (Q1.move rfl) rfl rfl ?_
        cases b3 with
        | true =>
          replace hb2 := of_decide_eq_true hb2.symm
          refine OL.sk rfl rfl ?_
          refine OL.sk rfl rfl ?_
          refine OL.q (Q1.pick_t rfl rfl) rfl rfl ?_
          refine OL.q (Q1.nilCheckP rfl) rfl rfl ?_
          refine OL.q (Q1.fieldAddr fl76_1 rfl) rfl rfl ?_
          refine OL.act rfl rfl (AW.store ti4 rfl rfl rfl rfl rfl f2 (Nat.le_of_ble_eq_true rfl) ?_)
          intro w2 hm1 hz1 hk1
          have hS6 : St (fun _ => False) F w0 w2 [bkR b [pb1, vb1, .bool true] 76, accR encB 5 1 vb1 tx] := hS5.bkK (i := 0) rfl hm1 hk1
          have hS7 : St (fun _ => False) F w0 w2 [boxR [bkR b [pb1, vb1, .bool true] 76, accR encB 5 1 vb1 tx]] := St.close (L1 := []) hS6
          have hS8 : St (fun _ => False) F w0 w2 [andR (pb1 = .pointer none ∨ pb1 = ptr b 0) (boxR [bkR b (pb1 :: vb1 :: [.bool true]) 76, accR encB 5 1 vb1 tx])] := hS7.imp (i := 0) rfl (fun F_ h_ => ⟨hpb1, h_⟩)
          have hS9 : St (fun _ => False) F w0 w2 [bdR 5 76 b ([.bool true]) tx] := hS8.exi (A := fun pv : Value × Value => andR (pv.1 = .pointer none ∨ pv.1 = ptr b 0) (boxR [bkR b (pv.1 :: pv.2 :: [.bool true]) 76, accR encB 5 1 pv.2 tx])) (pb1, vb1) (i := 0) rfl
          refine OL.nil ?_
          refine r_draw1 (fun i => Nat.beq i 4 || Nat.beq i 6) 6 (fun w' => Mod (Mg 0) w2 w') mixed (by kernel_rfl) ?_
          intro w3 hm2
          have hS10 := hS9.ext hm2
          have hCw3 : Mod (Mg 0) w2 w3 := Mod.ofExt hm2
          refine ⟨hCw3, ?_⟩
          rw [show List.range' 0 (Array.size _) = [0, 1, 2, 3, 4, 5, 6] from rfl]
          refine OD.q rfl rfl (Q1.move rfl) rfl rfl ?_
          refine OD.q rfl rfl (Q1.nilCheckP rfl) rfl rfl ?_
          refine OD.q rfl rfl (Q1.fieldAddr fl76_0 rfl) rfl rfl ?_
          refine OD.q rfl rfl (Q1.move rfl) rfl rfl ?_
          refine OD.act rfl rfl rfl rfl (AW.callF cl51 rfl (itoa_c (w0 := w3)  (x1) (by first | omega | assumption) (by exact hG.keep hgp (hS10.mod) hFg)) ?_)
          rintro _ w4 ⟨rfl, hm3⟩
          have hS11 := hS10.ext hm3
          have hCw4 := hCw3.ext hm3
          refine ⟨.inr hCw4, ?_⟩
          refine OD.q rfl rfl (Q1.catS rfl rfl (by first | omega | (simp only [List.length_append]; omega) | (simp only [List.length_append, List.length_cons, List.length_nil]; omega))) rfl rfl ?_
          obtain ⟨Fy1, hAy1, hFy1, hky1⟩ := hS11.act (i := 0) rfl
          refine OD.act rfl rfl rfl rfl (AW.callF cl50 rfl (bwstr_c (w0 := w4) ((([32] : Str) ++ (Lib.itoa x1))) hAy1 (fun b hb => (hFy1 b hb).2) (by kernel_rfl) (by first | omega | (simp only [List.length_append, List.length_cons, List.length_nil]; omega)) (by first | omega | (simp only [List.length_append, List.length_cons, List.length_nil]; omega) | (simp; done))) ?_)
          rintro _ w5 ⟨rfl, hm4, F1, hA1, hF1⟩
          have hS12 : St (fun _ => False) F w0 w5 [bdR 5 76 b ([.bool true]) ((tx ++ (([32] : Str) ++ (Lib.itoa x1))))] := hky1 _ _ _ hm4 hA1 hF1
          clear hky1 hA1
          refine ⟨.inl rfl, ?_⟩
          refine OD.nil ?_
          refine r_inBlock ?_
          refine r_region ?_
          refine OL.q (Q1.addI (((i + 1 : Nat) : Int)) rfl rfl (by omega)) rfl rfl ?_
          refine OL.q (Q1.move rfl) rfl rfl ?_
          refine OL.nil ?_
          exact (ih1 _ _ _ ⟨(i + 1 : Nat), ((tx ++ (([32] : Str) ++ (Lib.itoa x1))) : Str), (true : Bool), rfl, rfl, hS12, (by first | rw [htx, numsP_step hx1]; simp | (exfalso; omega)), (by first | exact nb_step hbad hx1 rfl | exact nb_step hbad hx1 (nb1 (by assumption)) | exact nb_step hbad hx1 (nb2 (by assumption) (by assumption)) | (exfalso; omega)), (by first | (simp only [List.length_append, List.length_cons, List.length_nil]; omega) | (exfalso; omega))⟩ (by omega)).sub ⟨rfl, rfl, rfl, rfl, trivial⟩
        | false =>
          replace hb2 := of_decide_eq_false hb2.symm
          refine OL.q (Q1.move rfl) rfl rfl ?_
          refine OL.qb (Q1.gt rfl rfl) rfl rfl ?_
          intro b4 hb3
          refine OL.q (Q1.pick_f rfl rfl) rfl rfl ?_
          refine OL.q (Q1.nilCheckP rfl) rfl rfl ?_
          refine OL.q (Q1.fieldAddr fl76_1 rfl) rfl rfl ?_
          refine OL.act rfl rfl (AW.store ti4 rfl rfl rfl rfl rfl f2 (Nat.le_of_ble_eq_true rfl) ?_)
          intro w2 hm1 hz1 hk1
          have hS6 : St (fun _ => False) F w0 w2 [bkR b [pb1, vb1, .bool b4] 76, accR encB 5 1 vb1 tx] := hS5.bkK (i := 0) rfl hm1 hk1
          have hS7 : St (fun _ => False) F w0 w2 [boxR [bkR b [pb1, vb1, .bool b4] 76, accR encB 5 1 vb1 tx]] := St.close (L1 := []) hS6
          have hS8 : St (fun _ => False) F w0 w2 [andR (pb1 = .pointer none ∨ pb1 = ptr b 0) (boxR [bkR b (pb1 :: vb1 :: [.bool b4]) 76, accR encB 5 1 vb1 tx])] := hS7.imp (i := 0) rfl (fun F_ h_ => ⟨hpb1, h_⟩)
          have hS9 : St (fun _ => False) F w0 w2 [bdR 5 76 b ([.bool b4]) tx] := hS8.exi (A := fun pv : Value × Value => andR (pv.1 = .pointer none ∨ pv.1 = ptr b 0) (boxR [bkR b (pv.1 :: pv.2 :: [.bool b4]) 76, accR encB 5 1 pv.2 tx])) (pb1, vb1) (i := 0) rfl
          refine OL.nil ?_
          refine r_draw1 (fun i => Nat.beq i 4 || Nat.beq i 6) 6 (fun w' => Mod (Mg 0) w2 w') mixed (by kernel_rfl) ?_
          intro w3 hm2
          have hS10 := hS9.ext hm2
          have hCw3 : Mod (Mg 0) w2 w3 := Mod.ofExt hm2
          refine ⟨hCw3, ?_⟩
          rw [show List.range' 0 (Array.size _) = [0, 1, 2, 3, 4, 5, 6] from rfl]
          refine OD.q rfl rfl (Q1.move rfl) rfl rfl ?_
          refine OD.q rfl rfl (Q1.nilCheckP rfl) rfl rfl ?_
          refine OD.q rfl rfl (Q1.fieldAddr fl76_0 rfl) rfl rfl ?_
          refine OD.q rfl rfl (Q1.move rfl) rfl rfl ?_
          refine OD.act rfl rfl rfl rfl (AW.callF cl51 rfl (itoa_c (w0 := w3)  (x1) (by first | omega | assumption) (by exact hG.keep hgp (hS10.mod) hFg)) ?_)
          rintro _ w4 ⟨rfl, hm3⟩
          have hS11 := hS10.ext hm3
          have hCw4 := hCw3.ext hm3
          refine ⟨.inr hCw4, ?_⟩
          refine OD.q rfl rfl (Q1.catS rfl rfl (by first | omega | (simp only [List.length_append]; omega) | (simp only [List.length_append, List.length_cons, List.length_nil]; omega))) rfl rfl ?_
          obtain ⟨Fy1, hAy1, hFy1, hky1⟩ := hS11.act (i := 0) rfl
          refine OD.act rfl rfl rfl rfl (AW.callF cl50 rfl (bwstr_c (w0 := w4) ((([32] : Str) ++ (Lib.itoa x1))) hAy1 (fun b hb => (hFy1 b hb).2) (by kernel_rfl) (by first | omega | (simp only [List.length_append, List.length_cons, List.length_nil]; omega)) (by first | omega | (simp only [List.length_append, List.length_cons, List.length_nil]; omega) | (simp; done))) ?_)
          rintro _ w5 ⟨rfl, hm4, F1, hA1, hF1⟩
          have hS12 : St (fun _ => False) F w0 w5 [bdR 5 76 b ([.bool b4]) ((tx ++ (([32] : Str) ++ (Lib.itoa x1))))] := hky1 _ _ _ hm4 hA1 hF1
          clear hky1 hA1
          refine ⟨.inl rfl, ?_⟩
          refine OD.nil ?_
          refine r_inBlock ?_
          refine r_region ?_
          refine OL.q (Q1.addI (((i + 1 : Nat) : Int)) rfl rfl (by omega)) rfl rfl ?_
          refine OL.q (Q1.move rfl) rfl rfl ?_
          refine OL.nil ?_
          exact (ih1 _ _ _ ⟨(i + 1 : Nat), ((tx ++ (([32] : Str) ++ (Lib.itoa x1))) : Str), (b4 : Bool), rfl, rfl, hS12, (by first | rw [htx, numsP_step hx1]; simp | (exfalso; omega)), (by first | exact nb_step hbad hx1 rfl | exact nb_step hbad hx1 (nb1 (by assumption)) | exact nb_step hbad hx1 (nb2 (by assumption) (by assumption)) | (exfalso; omega)), (by first | (simp only [List.length_append, List.length_cons, List.length_nil]; omega) | (exfalso; omega))⟩ (by omega)).sub ⟨rfl, rfl, rfl, rfl, trivial⟩
    | false =>
      replace hb1 := of_decide_eq_false hb1.symm
      refine r_cond_f rfl ?_
      refine r_exit rfl ?_
      refine r_end0 Tryd.func35 rfl ?_
      obtain ⟨hmF, F2r, hAr, hFr⟩ := hS2.fin
      have e1 : (tx : Str) = txt ++ numsP ns := by first | exact htx.trans (by rw [List.take_of_length_le (by omega)]) | (exfalso; omega)
      have e2 : (bd : Bool) = (bad0 || ns.any badN) := by first | exact hbad.trans (by rw [List.take_of_length_le (by omega)]) | (exfalso; omega)
      exact Ret.mk ⟨rfl, hmF, F2r, e1 ▸ e2 ▸ hAr, hFr⟩
set_option maxRecDepth 20000 in
set_option maxHeartbeats 4000000 in
theorem pevent_c {w0 : World} {F : Nat → Prop} {b : Nat} {bad0 : Bool} {txt : Str} {e : Evt} (hA : (bdR (R := fun _ => False) 5 76 b [.bool bad0] txt).p F w0) (hF : ∀ b, F b → b < w0.heap.size) (hl : txt.length ≤ 1000000000000) (hG : GS w0) (hFg : ∀ b, b = gB ∨ b = gS ∨ b = gR → ¬ F b) (he : EvI e) :
    Calls Tryd.prog 36 #[ptr b 0, .agg #[.int .i64 e.kind, .int .i64 e.node, .int .i64 e.at_, .int .i64 e.x, strV e.q.text, .int .i64 e.q.k, .int .i64 e.q.n]] w0 (Ret fun rv w1 => rv = .tuple #[] ∧ Mod F w0 w1 ∧ ∃ F2, (bdR (R := fun _ => False) 5 76 b [.bool ((bad0 || badE e))] (txt ++ (evB e ++ [10]))).p F2 w1 ∧ ∀ b, F2 b → b < w1.heap.size ∧ (F b ∨ w0.heap.size ≤ b)) := by
  obtain ⟨bad, hbd⟩ : ∃ x, x = bad0 := ⟨_, rfl⟩
  rw [← hbd] at hA
  have hS00 := St.start1 (R := fun _ => False) hA (fun b hb => ⟨hF b hb, id⟩) (fun _ h => h.elim)
  have hS1 : St (fun _ => False) F w0 w0 [bdR 5 76 b ([.bool bad]) txt] := hS00
  have het := he.text
  have hql := quote_len e.q.text
  refine calls_enter Tryd.func36 rfl Tryd.ntmps36 rfl ?_
  refine r_seq ?_
  refine r_region ?_
  refine OL.act rfl rfl (AW.box [.int .i64 e.kind, .int .i64 e.node, .int .i64 e.at_, .int .i64 e.x, strV e.q.text, .int .i64 e.q.k, .int .i64 e.q.n] rfl rfl ?_)
  intro w1 b1 hm1 hb1 hz1 hk1
  have hS2 := hS1.ext hm1
  have hS3 : St (fun _ => False) F w0 w1 [bdR 5 76 b ([.bool bad]) txt, bkR b1 [.int .i64 e.kind, .int .i64 e.node, .int .i64 e.at_, .int .i64 e.x, strV e.q.text, .int .i64 e.q.k, .int .i64 e.q.n] 50] := hS1.newBk hm1 hb1 hk1
  refine OL.nil ?_
  refine r_seq ?_
  refine r_seq ?_
  refine r_region ?_
  refine OL.q (Q1.fieldAddr fl50_0 rfl) rfl rfl ?_
  have f1 := hS3.bk (i := 1) rfl
  refine OL.q (Q1.load1 ti3 rfl (fun _ e => e ▸ (f1.cell 0 _ rfl))) rfl rfl ?_
  refine OL.qb (Q1.eq rfl rfl) rfl rfl ?_
  intro b2 hb2
  refine OL.nil ?_
  cases b2 with
  | true =>
    replace hb2 := eq_of_beq hb2.symm
    refine r_cond_t rfl ?_
    refine r_seq ?_
    refine r_region ?_
    obtain ⟨⟨pb1, vb1⟩, hS4⟩ := hS3.exo (i := 0) rfl
    change St (fun _ => False) F w0 w1 [andR (pb1 = .pointer none ∨ pb1 = ptr b 0) (boxR [bkR b (pb1 :: vb1 :: [.bool bad]) 76, accR encB 5 1 vb1 txt]), bkR b1 [.int .i64 e.kind, .int .i64 e.node, .int .i64 e.at_, .int .i64 e.x, strV e.q.text, .int .i64 e.q.k, .int .i64 e.q.n] 50] at hS4
    obtain ⟨hpb1, hS5⟩ := hS4.and (i := 0) rfl
    change St (fun _ => False) F w0 w1 [boxR [bkR b (pb1 :: vb1 :: [.bool bad]) 76, accR encB 5 1 vb1 txt], bkR b1 [.int .i64 e.kind, .int .i64 e.node, .int .i64 e.at_, .int .i64 e.x, strV e.q.text, .int .i64 e.q.k, .int .i64 e.q.n] 50] at hS5
    have hS6 : St (fun _ => False) F w0 w1 [bkR b1 [.int .i64 e.kind, .int .i64 e.node, .int .i64 e.at_, .int .i64 e.x, strV e.q.text, .int .i64 e.q.k, .int .i64 e.q.n] 50, boxR [bkR b (pb1 :: vb1 :: [.bool bad]) 76, accR encB 5 1 vb1 txt]] := hS5.sel [1, 0] (by rfl) (by decide)
    have hS7 : St (fun _ => False) F w0 w1 [bkR b1 [.int .i64 e.kind, .int .i64 e.node, .int .i64 e.at_, .int .i64 e.x, strV e.q.text, .int .i64 e.q.k, .int .i64 e.q.n] 50, boxR [bkR b (pb1 :: vb1 :: [.bool bad]) 76, accR encB 5 1 vb1 txt]] := hS6
    have hS8 : St (fun _ => False) F w0 w1 [bkR b1 [.int .i64 e.kind, .int .i64 e.node, .int .i64 e.at_, .int .i64 e.x, strV e.q.text, .int .i64 e.q.k, .int .i64 e.q.n] 50, bkR b [pb1, vb1, .bool bad] 76, accR encB 5 1 vb1 txt] := St.open (L1 := [bkR b1 [.int .i64 e.kind, .int .i64 e.node, .int .i64 e.at_, .int .i64 e.x, strV e.q.text, .int .i64 e.q.k, .int .i64 e.q.n] 50]) hS7
    refine OL.q (Q1.move rfl) rfl rfl ?_
    refine OL.q (Q1.move rfl) rfl rfl ?_
    refine OL.q (Q1.nilCheckP rfl) rfl rfl ?_
    refine OL.q (Q1.fieldAddr fl76_1 rfl) rfl rfl ?_
    have f2 := hS8.bk (i := 1) rfl
    refine OL.q (Q1.load1 ti4 rfl (fun _ e => e ▸ (f2.cell 2 _ rfl))) rfl rfl ?_
    refine OL.q (Q1.move rfl) rfl rfl ?_
    cases bad with
    | true =>
      refine OL.sk rfl rfl ?_
      refine OL.sk rfl rfl ?_
      refine OL.sk rfl rfl ?_
      refine OL.q (Q1.pick_t rfl rfl) rfl rfl ?_
      refine OL.q (Q1.move rfl) rfl rfl ?_
      refine OL.sk rfl rfl ?_
      refine OL.sk rfl rfl ?_
      refine OL.sk rfl rfl ?_
      refine OL.q (Q1.pick_t rfl rfl) rfl rfl ?_
      refine OL.q (Q1.move rfl) rfl rfl ?_
      refine OL.sk rfl rfl ?_
      refine OL.sk rfl rfl ?_
      refine OL.sk rfl rfl ?_
      refine OL.q (Q1.pick_t rfl rfl) rfl rfl ?_
      refine OL.q (Q1.nilCheckP rfl) rfl rfl ?_
      refine OL.q (Q1.fieldAddr fl76_1 rfl) rfl rfl ?_
      refine OL.act rfl rfl (AW.store ti4 rfl rfl rfl rfl rfl f2 (Nat.le_of_ble_eq_true rfl) ?_)
      intro w2 hm2 hz2 hk2
      have hS9 : St (fun _ => False) F w0 w2 [bkR b1 [.int .i64 e.kind, .int .i64 e.node, .int .i64 e.at_, .int .i64 e.x, strV e.q.text, .int .i64 e.q.k, .int .i64 e.q.n] 50, bkR b [pb1, vb1, .bool true] 76, accR encB 5 1 vb1 txt] := hS8.bkK (i := 1) rfl hm2 hk2
      have hS10 : St (fun _ => False) F w0 w2 [bkR b1 [.int .i64 e.kind, .int .i64 e.node, .int .i64 e.at_, .int .i64 e.x, strV e.q.text, .int .i64 e.q.k, .int .i64 e.q.n] 50, boxR [bkR b [pb1, vb1, .bool true] 76, accR encB 5 1 vb1 txt]] := St.close (L1 := [bkR b1 [.int .i64 e.kind, .int .i64 e.node, .int .i64 e.at_, .int .i64 e.x, strV e.q.text, .int .i64 e.q.k, .int .i64 e.q.n] 50]) hS9
      have hS11 : St (fun _ => False) F w0 w2 [bkR b1 [.int .i64 e.kind, .int .i64 e.node, .int .i64 e.at_, .int .i64 e.x, strV e.q.text, .int .i64 e.q.k, .int .i64 e.q.n] 50, andR (pb1 = .pointer none ∨ pb1 = ptr b 0) (boxR [bkR b (pb1 :: vb1 :: [.bool true]) 76, accR encB 5 1 vb1 txt])] := hS10.imp (i := 1) rfl (fun F_ h_ => ⟨hpb1, h_⟩)
      have hS12 : St (fun _ => False) F w0 w2 [bkR b1 [.int .i64 e.kind, .int .i64 e.node, .int .i64 e.at_, .int .i64 e.x, strV e.q.text, .int .i64 e.q.k, .int .i64 e.q.n] 50, bdR 5 76 b ([.bool true]) txt] := hS11.exi (A := fun pv : Value × Value => andR (pv.1 = .pointer none ∨ pv.1 = ptr b 0) (boxR [bkR b (pv.1 :: pv.2 :: [.bool true]) 76, accR encB 5 1 pv.2 txt])) (pb1, vb1) (i := 1) rfl
      refine OL.nil ?_
      refine r_seq ?_
      refine r_region ?_
      refine OL.q (Q1.move rfl) rfl rfl ?_
      obtain ⟨Fy1, hAy1, hFy1, hky1⟩ := hS12.act (i := 1) rfl
      refine OL.act rfl rfl (AW.callF cl32 rfl (pword_c_ (w0 := w2) (([97, 115, 107] : Str)) hAy1 (fun b hb => (hFy1 b hb).2) (by first | omega | (simp only [List.length_append, List.length_cons, List.length_nil]; omega)) (by first | omega | decide)) ?_)
      rintro _ w3 ⟨rfl, hm3, F1, hA1, hF1⟩
      have hS13 : St (fun _ => False) F w0 w3 [bkR b1 [.int .i64 e.kind, .int .i64 e.node, .int .i64 e.at_, .int .i64 e.x, strV e.q.text, .int .i64 e.q.k, .int .i64 e.q.n] 50, bdR 5 76 b ([.bool true]) ((txt ++ ([97, 115, 107] : Str)))] := hky1 _ _ _ hm3 hA1 hF1
      clear hky1 hA1
      refine OL.nil ?_
      refine r_seq ?_
      refine r_region ?_
      refine OL.q (Q1.move rfl) rfl rfl ?_
      refine OL.q (Q1.fieldAddr fl50_4 rfl) rfl rfl ?_
      refine OL.q (Q1.fieldAddr fl48_0 rfl) rfl rfl ?_
      have f3 := hS13.bk (i := 0) rfl
      refine OL.q (Q1.load1 ti9 rfl (fun _ e => e ▸ (f3.cell 4 _ rfl))) rfl rfl ?_
      obtain ⟨Fy2, hAy2, hFy2, hky2⟩ := hS13.act (i := 1) rfl
      refine OL.act rfl rfl (AW.callF cl33 rfl (pquoted_c (w0 := w3) e.q.text hAy2 (fun b hb => (hFy2 b hb).2) (by first | omega | (simp only [List.length_append, List.length_cons, List.length_nil]; omega)) (by first | omega | assumption)) ?_)
      rintro _ w4 ⟨rfl, hm4, F2, hA2, hF2⟩
      have hS14 : St (fun _ => False) F w0 w4 [bkR b1 [.int .i64 e.kind, .int .i64 e.node, .int .i64 e.at_, .int .i64 e.x, strV e.q.text, .int .i64 e.q.k, .int .i64 e.q.n] 50, bdR 5 76 b ([.bool true]) (((txt ++ ([97, 115, 107] : Str)) ++ (32 :: quoteM e.q.text)))] := hky2 _ _ _ hm4 hA2 hF2
      clear hky2 hA2
      refine OL.nil ?_
      refine r_region ?_
      refine OL.q (Q1.move rfl) rfl rfl ?_
      refine OL.q (Q1.fieldAddr fl50_4 rfl) rfl rfl ?_
      refine OL.q (Q1.fieldAddr fl48_1 rfl) rfl rfl ?_
      have f4 := hS14.bk (i := 0) rfl
      refine OL.q (Q1.load1 ti3 rfl (fun _ e => e ▸ (f4.cell 5 _ rfl))) rfl rfl ?_
      refine OL.q (Q1.fieldAddr fl50_4 rfl) rfl rfl ?_
      refine OL.q (Q1.fieldAddr fl48_2 rfl) rfl rfl ?_
      refine OL.q (Q1.load1 ti3 rfl (fun _ e => e ▸ (f4.cell 6 _ rfl))) rfl rfl ?_
      refine OL.act rfl rfl (AW.buildSlice [(.int .i64 e.q.k : Value), (.int .i64 e.q.n : Value)] Tryd.underlying82 ti3 rfl rfl rfl (by decide) ?_)
      intro w5 b3 hm5 hb3 hz3 hk3
      have hS15 := hS14.ext hm5
      have hl1 := Sl.of_blk (enc := Ik.encI) hk3 ([e.q.k, e.q.n] : List Int) 2 rfl rfl (by unfold maxLen; omega)
      have hS16 : St (fun _ => False) F w0 w5 [bkR b1 [.int .i64 e.kind, .int .i64 e.node, .int .i64 e.at_, .int .i64 e.x, strV e.q.text, .int .i64 e.q.k, .int .i64 e.q.n] 50, bdR 5 76 b ([.bool true]) (((txt ++ ([97, 115, 107] : Str)) ++ (32 :: quoteM e.q.text))), slR Ik.encI [((.slice (some ⟨b3, 0, none⟩) 2 2), [e.q.k, e.q.n])]] := hS14.newSlB hm5 hb3 hz3 hl1
      obtain ⟨Fy3, Gy1, hAy3, hGy1, hap1, hFy3, hGl1, hky3⟩ := hS16.act2 (i := 1) (j := 2) rfl rfl (by decide)
      have hsl1 := slR_one hGy1
      have hnq1 : ∀ n ∈ ([e.q.k, e.q.n] : List Int), I64 n := by (intro n hn; simp at hn; rcases hn with rfl | rfl; exact he.k; exact he.n)
      refine OL.act rfl rfl (AW.callF cl35 rfl (pnums_c (w0 := w5) hAy3 (fun b hb => (hFy3 b hb).2) (by first | omega | (simp only [List.length_append, List.length_cons, List.length_nil]; omega)) (hG.keep hgp hS16.mod hFg) (glob_no hG hgp hFg hFy3) hsl1 (fun b hb => hb.elim (hap1 b) (fun h => h.elim)) hnq1 (by first | exact Nat.le_of_ble_eq_true rfl | omega)) ?_)
      rintro _ w6 ⟨rfl, hm6, F3, hA3, hF3⟩
      have hS17 : St (fun _ => False) F w0 w6 [bkR b1 [.int .i64 e.kind, .int .i64 e.node, .int .i64 e.at_, .int .i64 e.x, strV e.q.text, .int .i64 e.q.k, .int .i64 e.q.n] 50, bdR 5 76 b ([.bool ((true || ([e.q.k, e.q.n]).any badN))]) ((((txt ++ ([97, 115, 107] : Str)) ++ (32 :: quoteM e.q.text)) ++ numsP ([e.q.k, e.q.n]))), slR Ik.encI [((.slice (some ⟨b3, 0, none⟩) 2 2), [e.q.k, e.q.n])]] := hky3 _ _ _ hm6 hA3 hF3
      clear hky3 hA3
      have hnpl1 := numsP_len hnq1
      simp only [List.length_cons, List.length_nil] at hnpl1
      refine OL.nil ?_
      refine r_region ?_
      refine OL.q (Q1.move rfl) rfl rfl ?_
      obtain ⟨Fy4, hAy4, hFy4, hky4⟩ := hS17.act (i := 1) rfl
      refine OL.act rfl rfl (AW.callF cl34 rfl (pend_c (w0 := w6)  hAy4 (fun b hb => (hFy4 b hb).2) (by first | omega | (simp only [List.length_append, List.length_cons, List.length_nil]; omega)) ) ?_)
      rintro _ w7 ⟨rfl, hm7, F4, hA4, hF4⟩
      have hS18 : St (fun _ => False) F w0 w7 [bkR b1 [.int .i64 e.kind, .int .i64 e.node, .int .i64 e.at_, .int .i64 e.x, strV e.q.text, .int .i64 e.q.k, .int .i64 e.q.n] 50, bdR 5 76 b ([.bool ((true || ([e.q.k, e.q.n]).any badN))]) (((((txt ++ ([97, 115, 107] : Str)) ++ (32 :: quoteM e.q.text)) ++ numsP ([e.q.k, e.q.n])) ++ [10])), slR Ik.encI [((.slice (some ⟨b3, 0, none⟩) 2 2), [e.q.k, e.q.n])]] := hky4 _ _ _ hm7 hA4 hF4
      clear hky4 hA4
      refine OL.nil ?_
      refine r_end0 Tryd.func36 rfl ?_
      have hS19 : St (fun _ => False) F w0 w7 [bdR 5 76 b ([.bool ((true || ([e.q.k, e.q.n]).any badN))]) (((((txt ++ ([97, 115, 107] : Str)) ++ (32 :: quoteM e.q.text)) ++ numsP ([e.q.k, e.q.n])) ++ [10]))] := hS18.sel [1] (by rfl) (by decide)
      obtain ⟨hmF, F2r, hAr, hFr⟩ := hS19.fin
      have e1 : (((((txt ++ ([97, 115, 107] : Str)) ++ (32 :: quoteM e.q.text)) ++ numsP ([e.q.k, e.q.n])) ++ [10]) : Str) = txt ++ (evB e ++ [10]) := by first | exact evB_one (by assumption) txt | exact evB_two (by assumption) txt | (exfalso; omega)
      have e2 : ((true || ([e.q.k, e.q.n]).any badN) : Bool) = (bad0 || badE e) := by first | first | exact ev1 (by assumption) (eq_a hbd) | exact ev1 (by assumption) (eq_b (by assumption)) | exact ev1 (by assumption) (eq_c (by assumption)) | exact ev1 (by assumption) (eq_d hbd (by assumption) (by assumption) (by assumption)) | exact ev2 (by assumption) (eq_a hbd) | exact ev2 (by assumption) (eq_e hbd (by assumption)) | (exfalso; omega)
      exact Ret.mk ⟨rfl, hmF, F2r, e1 ▸ e2 ▸ hAr, hFr⟩
    | false =>
      refine OL.q (Q1.fieldAddr fl50_1 rfl) rfl rfl ?_
      have f3 := hS8.bk (i := 0) rfl
      refine OL.q (Q1.load1 ti3 rfl (fun _ e => e ▸ (f3.cell 1 _ rfl))) rfl rfl ?_
      refine OL.qb (Q1.ne rfl rfl) rfl rfl ?_
      intro b3 hb3
      refine OL.q (Q1.pick_f rfl rfl) rfl rfl ?_
      refine OL.q (Q1.move rfl) rfl rfl ?_
      cases b3 with
      | true =>
        replace hb3 := bne_iff_ne.1 hb3.symm
        refine OL.sk rfl rfl ?_
        refine OL.sk rfl rfl ?_
        refine OL.sk rfl rfl ?_
        refine OL.q (Q1.pick_t rfl rfl) rfl rfl ?_
        refine OL.q (Q1.move rfl) rfl rfl ?_
        refine OL.sk rfl rfl ?_
        refine OL.sk rfl rfl ?_
        refine OL.sk rfl rfl ?_
        refine OL.q (Q1.pick_t rfl rfl) rfl rfl ?_
        refine OL.q (Q1.nilCheckP rfl) rfl rfl ?_
        refine OL.q (Q1.fieldAddr fl76_1 rfl) rfl rfl ?_
        refine OL.act rfl rfl (AW.store ti4 rfl rfl rfl rfl rfl f2 (Nat.le_of_ble_eq_true rfl) ?_)
        intro w2 hm2 hz2 hk2
        have hS9 : St (fun _ => False) F w0 w2 [bkR b1 [.int .i64 e.kind, .int .i64 e.node, .int .i64 e.at_, .int .i64 e.x, strV e.q.text, .int .i64 e.q.k, .int .i64 e.q.n] 50, bkR b [pb1, vb1, .bool true] 76, accR encB 5 1 vb1 txt] := hS8.bkK (i := 1) rfl hm2 hk2
        have hS10 : St (fun _ => False) F w0 w2 [bkR b1 [.int .i64 e.kind, .int .i64 e.node, .int .i64 e.at_, .int .i64 e.x, strV e.q.text, .int .i64 e.q.k, .int .i64 e.q.n] 50, boxR [bkR b [pb1, vb1, .bool true] 76, accR encB 5 1 vb1 txt]] := St.close (L1 := [bkR b1 [.int .i64 e.kind, .int .i64 e.node, .int .i64 e.at_, .int .i64 e.x, strV e.q.text, .int .i64 e.q.k, .int .i64 e.q.n] 50]) hS9
        have hS11 : St (fun _ => False) F w0 w2 [bkR b1 [.int .i64 e.kind, .int .i64 e.node, .int .i64 e.at_, .int .i64 e.x, strV e.q.text, .int .i64 e.q.k, .int .i64 e.q.n] 50, andR (pb1 = .pointer none ∨ pb1 = ptr b 0) (boxR [bkR b (pb1 :: vb1 :: [.bool true]) 76, accR encB 5 1 vb1 txt])] := hS10.imp (i := 1) rfl (fun F_ h_ => ⟨hpb1, h_⟩)
        have hS12 : St (fun _ => False) F w0 w2 [bkR b1 [.int .i64 e.kind, .int .i64 e.node, .int .i64 e.at_, .int .i64 e.x, strV e.q.text, .int .i64 e.q.k, .int .i64 e.q.n] 50, bdR 5 76 b ([.bool true]) txt] := hS11.exi (A := fun pv : Value × Value => andR (pv.1 = .pointer none ∨ pv.1 = ptr b 0) (boxR [bkR b (pv.1 :: pv.2 :: [.bool true]) 76, accR encB 5 1 pv.2 txt])) (pb1, vb1) (i := 1) rfl
        refine OL.nil ?_
        refine r_seq ?_
        refine r_region ?_
        refine OL.q (Q1.move rfl) rfl rfl ?_
        obtain ⟨Fy1, hAy1, hFy1, hky1⟩ := hS12.act (i := 1) rfl
        refine OL.act rfl rfl (AW.callF cl32 rfl (pword_c_ (w0 := w2) (([97, 115, 107] : Str)) hAy1 (fun b hb => (hFy1 b hb).2) (by first | omega | (simp only [List.length_append, List.length_cons, List.length_nil]; omega)) (by first | omega | decide)) ?_)
        rintro _ w3 ⟨rfl, hm3, F1, hA1, hF1⟩
        have hS13 : St (fun _ => False) F w0 w3 [bkR b1 [.int .i64 e.kind, .int .i64 e.node, .int .i64 e.at_, .int .i64 e.x, strV e.q.text, .int .i64 e.q.k, .int .i64 e.q.n] 50, bdR 5 76 b ([.bool true]) ((txt ++ ([97, 115, 107] : Str)))] := hky1 _ _ _ hm3 hA1 hF1
        clear hky1 hA1
        refine OL.nil ?_
        refine r_seq ?_
        refine r_region ?_
        refine OL.q (Q1.move rfl) rfl rfl ?_
        refine OL.q (Q1.fieldAddr fl50_4 rfl) rfl rfl ?_
        refine OL.q (Q1.fieldAddr fl48_0 rfl) rfl rfl ?_
        have f4 := hS13.bk (i := 0) rfl
        refine OL.q (Q1.load1 ti9 rfl (fun _ e => e ▸ (f4.cell 4 _ rfl))) rfl rfl ?_
        obtain ⟨Fy2, hAy2, hFy2, hky2⟩ := hS13.act (i := 1) rfl
        refine OL.act rfl rfl (AW.callF cl33 rfl (pquoted_c (w0 := w3) e.q.text hAy2 (fun b hb => (hFy2 b hb).2) (by first | omega | (simp only [List.length_append, List.length_cons, List.length_nil]; omega)) (by first | omega | assumption)) ?_)
        rintro _ w4 ⟨rfl, hm4, F2, hA2, hF2⟩
        have hS14 : St (fun _ => False) F w0 w4 [bkR b1 [.int .i64 e.kind, .int .i64 e.node, .int .i64 e.at_, .int .i64 e.x, strV e.q.text, .int .i64 e.q.k, .int .i64 e.q.n] 50, bdR 5 76 b ([.bool true]) (((txt ++ ([97, 115, 107] : Str)) ++ (32 :: quoteM e.q.text)))] := hky2 _ _ _ hm4 hA2 hF2
        clear hky2 hA2
        refine OL.nil ?_
        refine r_region ?_
        refine OL.q (Q1.move rfl) rfl rfl ?_
        refine OL.q (Q1.fieldAddr fl50_4 rfl) rfl rfl ?_
        refine OL.q (Q1.fieldAddr fl48_1 rfl) rfl rfl ?_
        have f5 := hS14.bk (i := 0) rfl
        refine OL.q (Q1.load1 ti3 rfl (fun _ e => e ▸ (f5.cell 5 _ rfl))) rfl rfl ?_
        refine OL.q (Q1.fieldAddr fl50_4 rfl) rfl rfl ?_
        refine OL.q (Q1.fieldAddr fl48_2 rfl) rfl rfl ?_
        refine OL.q (Q1.load1 ti3 rfl (fun _ e => e ▸ (f5.cell 6 _ rfl))) rfl rfl ?_
        refine OL.act rfl rfl (AW.buildSlice [(.int .i64 e.q.k : Value), (.int .i64 e.q.n : Value)] Tryd.underlying82 ti3 rfl rfl rfl (by decide) ?_)
        intro w5 b4 hm5 hb4 hz3 hk3
        have hS15 := hS14.ext hm5
        have hl1 := Sl.of_blk (enc := Ik.encI) hk3 ([e.q.k, e.q.n] : List Int) 2 rfl rfl (by unfold maxLen; omega)
        have hS16 : St (fun _ => False) F w0 w5 [bkR b1 [.int .i64 e.kind, .int .i64 e.node, .int .i64 e.at_, .int .i64 e.x, strV e.q.text, .int .i64 e.q.k, .int .i64 e.q.n] 50, bdR 5 76 b ([.bool true]) (((txt ++ ([97, 115, 107] : Str)) ++ (32 :: quoteM e.q.text))), slR Ik.encI [((.slice (some ⟨b4, 0, none⟩) 2 2), [e.q.k, e.q.n])]] := hS14.newSlB hm5 hb4 hz3 hl1
        obtain ⟨Fy3, Gy1, hAy3, hGy1, hap1, hFy3, hGl1, hky3⟩ := hS16.act2 (i := 1) (j := 2) rfl rfl (by decide)
        have hsl1 := slR_one hGy1
        have hnq1 : ∀ n ∈ ([e.q.k, e.q.n] : List Int), I64 n := by (intro n hn; simp at hn; rcases hn with rfl | rfl; exact he.k; exact he.n)
        refine OL.act rfl rfl (AW.callF cl35 rfl (pnums_c (w0 := w5) hAy3 (fun b hb => (hFy3 b hb).2) (by first | omega | (simp only [List.length_append, List.length_cons, List.length_nil]; omega)) (hG.keep hgp hS16.mod hFg) (glob_no hG hgp hFg hFy3) hsl1 (fun b hb => hb.elim (hap1 b) (fun h => h.elim)) hnq1 (by first | exact Nat.le_of_ble_eq_true rfl | omega)) ?_)
        rintro _ w6 ⟨rfl, hm6, F3, hA3, hF3⟩
        have hS17 : St (fun _ => False) F w0 w6 [bkR b1 [.int .i64 e.kind, .int .i64 e.node, .int .i64 e.at_, .int .i64 e.x, strV e.q.text, .int .i64 e.q.k, .int .i64 e.q.n] 50, bdR 5 76 b ([.bool ((true || ([e.q.k, e.q.n]).any badN))]) ((((txt ++ ([97, 115, 107] : Str)) ++ (32 :: quoteM e.q.text)) ++ numsP ([e.q.k, e.q.n]))), slR Ik.encI [((.slice (some ⟨b4, 0, none⟩) 2 2), [e.q.k, e.q.n])]] := hky3 _ _ _ hm6 hA3 hF3
        clear hky3 hA3
        have hnpl1 := numsP_len hnq1
        simp only [List.length_cons, List.length_nil] at hnpl1
        refine OL.nil ?_
        refine r_region ?_
        refine OL.q (Q1.move rfl) rfl rfl ?_
        obtain ⟨Fy4, hAy4, hFy4, hky4⟩ := hS17.act (i := 1) rfl
        refine OL.act rfl rfl (AW.callF cl34 rfl (pend_c (w0 := w6)  hAy4 (fun b hb => (hFy4 b hb).2) (by first | omega | (simp only [List.length_append, List.length_cons, List.length_nil]; omega)) ) ?_)
        rintro _ w7 ⟨rfl, hm7, F4, hA4, hF4⟩
        have hS18 : St (fun _ => False) F w0 w7 [bkR b1 [.int .i64 e.kind, .int .i64 e.node, .int .i64 e.at_, .int .i64 e.x, strV e.q.text, .int .i64 e.q.k, .int .i64 e.q.n] 50, bdR 5 76 b ([.bool ((true || ([e.q.k, e.q.n]).any badN))]) (((((txt ++ ([97, 115, 107] : Str)) ++ (32 :: quoteM e.q.text)) ++ numsP ([e.q.k, e.q.n])) ++ [10])), slR Ik.encI [((.slice (some ⟨b4, 0, none⟩) 2 2), [e.q.k, e.q.n])]] := hky4 _ _ _ hm7 hA4 hF4
        clear hky4 hA4
        refine OL.nil ?_
        refine r_end0 Tryd.func36 rfl ?_
        have hS19 : St (fun _ => False) F w0 w7 [bdR 5 76 b ([.bool ((true || ([e.q.k, e.q.n]).any badN))]) (((((txt ++ ([97, 115, 107] : Str)) ++ (32 :: quoteM e.q.text)) ++ numsP ([e.q.k, e.q.n])) ++ [10]))] := hS18.sel [1] (by rfl) (by decide)
        obtain ⟨hmF, F2r, hAr, hFr⟩ := hS19.fin
        have e1 : (((((txt ++ ([97, 115, 107] : Str)) ++ (32 :: quoteM e.q.text)) ++ numsP ([e.q.k, e.q.n])) ++ [10]) : Str) = txt ++ (evB e ++ [10]) := by first | exact evB_one (by assumption) txt | exact evB_two (by assumption) txt | (exfalso; omega)
        have e2 : ((true || ([e.q.k, e.q.n]).any badN) : Bool) = (bad0 || badE e) := by first | first | exact ev1 (by assumption) (eq_a hbd) | exact ev1 (by assumption) (eq_b (by assumption)) | exact ev1 (by assumption) (eq_c (by assumption)) | exact ev1 (by assumption) (eq_d hbd (by assumption) (by assumption) (by assumption)) | exact ev2 (by assumption) (eq_a hbd) | exact ev2 (by assumption) (eq_e hbd (by assumption)) | (exfalso; omega)
        exact Ret.mk ⟨rfl, hmF, F2r, e1 ▸ e2 ▸ hAr, hFr⟩
      | false =>
        replace hb3 := bne_eq_false_iff_eq.1 hb3.symm
        refine OL.q (Q1.fieldAddr fl50_2 rfl) rfl rfl ?_
        refine OL.q (Q1.load1 ti3 rfl (fun _ e => e ▸ (f3.cell 2 _ rfl))) rfl rfl ?_
        refine OL.qb (Q1.ne rfl rfl) rfl rfl ?_
        intro b4 hb4
        refine OL.q (Q1.pick_f rfl rfl) rfl rfl ?_
        refine OL.q (Q1.move rfl) rfl rfl ?_
        cases b4 with
        | true =>
          replace hb4 := bne_iff_ne.1 hb4.symm
          refine OL.sk rfl rfl ?_
          refine OL.sk rfl rfl ?_
          refine OL.sk rfl rfl ?_
          refine OL.q (Q1.pick_t rfl rfl) rfl rfl ?_
          refine OL.q (Q1.nilCheckP rfl) rfl rfl ?_
          refine OL.q (Q1.fieldAddr fl76_1 rfl) rfl rfl ?_
          refine OL.act rfl rfl (AW.store ti4 rfl rfl rfl rfl rfl f2 (Nat.le_of_ble_eq_true rfl) ?_)
          intro w2 hm2 hz2 hk2
          have hS9 : St (fun _ => False) F w0 w2 [bkR b1 [.int .i64 e.kind, .int .i64 e.node, .int .i64 e.at_, .int .i64 e.x, strV e.q.text, .int .i64 e.q.k, .int .i64 e.q.n] 50, bkR b [pb1, vb1, .bool true] 76, accR encB 5 1 vb1 txt] := hS8.bkK (i := 1) rfl hm2 hk2
          have hS10 : St (fun _ => False) F w0 w2 [bkR b1 [.int .i64 e.kind, .int .i64 e.node, .int .i64 e.at_, .int .i64 e.x, strV e.q.text, .int .i64 e.q.k, .int .i64 e.q.n] 50, boxR [bkR b [pb1, vb1, .bool true] 76, accR encB 5 1 vb1 txt]] := St.close (L1 := [bkR b1 [.int .i64 e.kind, .int .i64 e.node, .int .i64 e.at_, .int .i64 e.x, strV e.q.text, .int .i64 e.q.k, .int .i64 e.q.n] 50]) hS9
          have hS11 : St (fun _ => False) F w0 w2 [bkR b1 [.int .i64 e.kind, .int .i64 e.node, .int .i64 e.at_, .int .i64 e.x, strV e.q.text, .int .i64 e.q.k, .int .i64 e.q.n] 50, andR (pb1 = .pointer none ∨ pb1 = ptr b 0) (boxR [bkR b (pb1 :: vb1 :: [.bool true]) 76, accR encB 5 1 vb1 txt])] := hS10.imp (i := 1) rfl (fun F_ h_ => ⟨hpb1, h_⟩)
          have hS12 : St (fun _ => False) F w0 w2 [bkR b1 [.int .i64 e.kind, .int .i64 e.node, .int .i64 e.at_, .int .i64 e.x, strV e.q.text, .int .i64 e.q.k, .int .i64 e.q.n] 50, bdR 5 76 b ([.bool true]) txt] := hS11.exi (A := fun pv : Value × Value => andR (pv.1 = .pointer none ∨ pv.1 = ptr b 0) (boxR [bkR b (pv.1 :: pv.2 :: [.bool true]) 76, accR encB 5 1 pv.2 txt])) (pb1, vb1) (i := 1) rfl
          refine OL.nil ?_
          refine r_seq ?_
          refine r_region ?_
          refine OL.q (Q1.move rfl) rfl rfl ?_
          obtain ⟨Fy1, hAy1, hFy1, hky1⟩ := hS12.act (i := 1) rfl
          refine OL.act rfl rfl (AW.callF cl32 rfl (pword_c_ (w0 := w2) (([97, 115, 107] : Str)) hAy1 (fun b hb => (hFy1 b hb).2) (by first | omega | (simp only [List.length_append, List.length_cons, List.length_nil]; omega)) (by first | omega | decide)) ?_)
          rintro _ w3 ⟨rfl, hm3, F1, hA1, hF1⟩
          have hS13 : St (fun _ => False) F w0 w3 [bkR b1 [.int .i64 e.kind, .int .i64 e.node, .int .i64 e.at_, .int .i64 e.x, strV e.q.text, .int .i64 e.q.k, .int .i64 e.q.n] 50, bdR 5 76 b ([.bool true]) ((txt ++ ([97, 115, 107] : Str)))] := hky1 _ _ _ hm3 hA1 hF1
          clear hky1 hA1
          refine OL.nil ?_
          refine r_seq ?_
          refine r_region ?_
          refine OL.q (Q1.move rfl) rfl rfl ?_
          refine OL.q (Q1.fieldAddr fl50_4 rfl) rfl rfl ?_
          refine OL.q (Q1.fieldAddr fl48_0 rfl) rfl rfl ?_
          have f4 := hS13.bk (i := 0) rfl
          refine OL.q (Q1.load1 ti9 rfl (fun _ e => e ▸ (f4.cell 4 _ rfl))) rfl rfl ?_
          obtain ⟨Fy2, hAy2, hFy2, hky2⟩ := hS13.act (i := 1) rfl
          refine OL.act rfl rfl (AW.callF cl33 rfl (pquoted_c (w0 := w3) e.q.text hAy2 (fun b hb => (hFy2 b hb).2) (by first | omega | (simp only [List.length_append, List.length_cons, List.length_nil]; omega)) (by first | omega | assumption)) ?_)
          rintro _ w4 ⟨rfl, hm4, F2, hA2, hF2⟩
          have hS14 : St (fun _ => False) F w0 w4 [bkR b1 [.int .i64 e.kind, .int .i64 e.node, .int .i64 e.at_, .int .i64 e.x, strV e.q.text, .int .i64 e.q.k, .int .i64 e.q.n] 50, bdR 5 76 b ([.bool true]) (((txt ++ ([97, 115, 107] : Str)) ++ (32 :: quoteM e.q.text)))] := hky2 _ _ _ hm4 hA2 hF2
          clear hky2 hA2
          refine OL.nil ?_
          refine r_region ?_
          refine OL.q (Q1.move rfl) rfl rfl ?_
          refine OL.q (Q1.fieldAddr fl50_4 rfl) rfl rfl ?_
          refine OL.q (Q1.fieldAddr fl48_1 rfl) rfl rfl ?_
          have f5 := hS14.bk (i := 0) rfl
          refine OL.q (Q1.load1 ti3 rfl (fun _ e => e ▸ (f5.cell 5 _ rfl))) rfl rfl ?_
          refine OL.q (Q1.fieldAddr fl50_4 rfl) rfl rfl ?_
          refine OL.q (Q1.fieldAddr fl48_2 rfl) rfl rfl ?_
          refine OL.q (Q1.load1 ti3 rfl (fun _ e => e ▸ (f5.cell 6 _ rfl))) rfl rfl ?_
          refine OL.act rfl rfl (AW.buildSlice [(.int .i64 e.q.k : Value), (.int .i64 e.q.n : Value)] Tryd.underlying82 ti3 rfl rfl rfl (by decide) ?_)
          intro w5 b5 hm5 hb5 hz3 hk3
          have hS15 := hS14.ext hm5
          have hl1 := Sl.of_blk (enc := Ik.encI) hk3 ([e.q.k, e.q.n] : List Int) 2 rfl rfl (by unfold maxLen; omega)
          have hS16 : St (fun _ => False) F w0 w5 [bkR b1 [.int .i64 e.kind, .int .i64 e.node, .int .i64 e.at_, .int .i64 e.x, strV e.q.text, .int .i64 e.q.k, .int .i64 e.q.n] 50, bdR 5 76 b ([.bool true]) (((txt ++ ([97, 115, 107] : Str)) ++ (32 :: quoteM e.q.text))), slR Ik.encI [((.slice (some ⟨b5, 0, none⟩) 2 2), [e.q.k, e.q.n])]] := hS14.newSlB hm5 hb5 hz3 hl1
          obtain ⟨Fy3, Gy1, hAy3, hGy1, hap1, hFy3, hGl1, hky3⟩ := hS16.act2 (i := 1) (j := 2) rfl rfl (by decide)
          have hsl1 := slR_one hGy1
          have hnq1 : ∀ n ∈ ([e.q.k, e.q.n] : List Int), I64 n := by (intro n hn; simp at hn; rcases hn with rfl | rfl; exact he.k; exact he.n)
          refine OL.act rfl rfl (AW.callF cl35 rfl (pnums_c (w0 := w5) hAy3 (fun b hb => (hFy3 b hb).2) (by first | omega | (simp only [List.length_append, List.length_cons, List.length_nil]; omega)) (hG.keep hgp hS16.mod hFg) (glob_no hG hgp hFg hFy3) hsl1 (fun b hb => hb.elim (hap1 b) (fun h => h.elim)) hnq1 (by first | exact Nat.le_of_ble_eq_true rfl | omega)) ?_)
          rintro _ w6 ⟨rfl, hm6, F3, hA3, hF3⟩
          have hS17 : St (fun _ => False) F w0 w6 [bkR b1 [.int .i64 e.kind, .int .i64 e.node, .int .i64 e.at_, .int .i64 e.x, strV e.q.text, .int .i64 e.q.k, .int .i64 e.q.n] 50, bdR 5 76 b ([.bool ((true || ([e.q.k, e.q.n]).any badN))]) ((((txt ++ ([97, 115, 107] : Str)) ++ (32 :: quoteM e.q.text)) ++ numsP ([e.q.k, e.q.n]))), slR Ik.encI [((.slice (some ⟨b5, 0, none⟩) 2 2), [e.q.k, e.q.n])]] := hky3 _ _ _ hm6 hA3 hF3
          clear hky3 hA3
          have hnpl1 := numsP_len hnq1
          simp only [List.length_cons, List.length_nil] at hnpl1
          refine OL.nil ?_
          refine r_region ?_
          refine OL.q (Q1.move rfl) rfl rfl ?_
          obtain ⟨Fy4, hAy4, hFy4, hky4⟩ := hS17.act (i := 1) rfl
          refine OL.act rfl rfl (AW.callF cl34 rfl (pend_c (w0 := w6)  hAy4 (fun b hb => (hFy4 b hb).2) (by first | omega | (simp only [List.length_append, List.length_cons, List.length_nil]; omega)) ) ?_)
          rintro _ w7 ⟨rfl, hm7, F4, hA4, hF4⟩
          have hS18 : St (fun _ => False) F w0 w7 [bkR b1 [.int .i64 e.kind, .int .i64 e.node, .int .i64 e.at_, .int .i64 e.x, strV e.q.text, .int .i64 e.q.k, .int .i64 e.q.n] 50, bdR 5 76 b ([.bool ((true || ([e.q.k, e.q.n]).any badN))]) (((((txt ++ ([97, 115, 107] : Str)) ++ (32 :: quoteM e.q.text)) ++ numsP ([e.q.k, e.q.n])) ++ [10])), slR Ik.encI [((.slice (some ⟨b5, 0, none⟩) 2 2), [e.q.k, e.q.n])]] := hky4 _ _ _ hm7 hA4 hF4
          clear hky4 hA4
          refine OL.nil ?_
          refine r_end0 Tryd.func36 rfl ?_
          have hS19 : St (fun _ => False) F w0 w7 [bdR 5 76 b ([.bool ((true || ([e.q.k, e.q.n]).any badN))]) (((((txt ++ ([97, 115, 107] : Str)) ++ (32 :: quoteM e.q.text)) ++ numsP ([e.q.k, e.q.n])) ++ [10]))] := hS18.sel [1] (by rfl) (by decide)
          obtain ⟨hmF, F2r, hAr, hFr⟩ := hS19.fin
          have e1 : (((((txt ++ ([97, 115, 107] : Str)) ++ (32 :: quoteM e.q.text)) ++ numsP ([e.q.k, e.q.n])) ++ [10]) : Str) = txt ++ (evB e ++ [10]) := by first | exact evB_one (by assumption) txt | exact evB_two (by assumption) txt | (exfalso; omega)
          have e2 : ((true || ([e.q.k, e.q.n]).any badN) : Bool) = (bad0 || badE e) := by first | first | exact ev1 (by assumption) (eq_a hbd) | exact ev1 (by assumption) (eq_b (by assumption)) | exact ev1 (by assumption) (eq_c (by assumption)) | exact ev1 (by assumption) (eq_d hbd (by assumption) (by assumption) (by assumption)) | exact ev2 (by assumption) (eq_a hbd) | exact ev2 (by assumption) (eq_e hbd (by assumption)) | (exfalso; omega)
          exact Ret.mk ⟨rfl, hmF, F2r, e1 ▸ e2 ▸ hAr, hFr⟩
        | false =>
          replace hb4 := bne_eq_false_iff_eq.1 hb4.symm
          refine OL.q (Q1.fieldAddr fl50_3 rfl) rfl rfl ?_
          refine OL.q (Q1.load1 ti3 rfl (fun _ e => e ▸ (f3.cell 3 _ rfl))) rfl rfl ?_
          refine OL.qb (Q1.ne rfl rfl) rfl rfl ?_
          intro b5 hb5
          refine OL.q (Q1.pick_f rfl rfl) rfl rfl ?_
          refine OL.q (Q1.nilCheckP rfl) rfl rfl ?_
          refine OL.q (Q1.fieldAddr fl76_1 rfl) rfl rfl ?_
          refine OL.act rfl rfl (AW.store ti4 rfl rfl rfl rfl rfl f2 (Nat.le_of_ble_eq_true rfl) ?_)
          intro w2 hm2 hz2 hk2
          have hS9 : St (fun _ => False) F w0 w2 [bkR b1 [.int .i64 e.kind, .int .i64 e.node, .int .i64 e.at_, .int .i64 e.x, strV e.q.text, .int .i64 e.q.k, .int .i64 e.q.n] 50, bkR b [pb1, vb1, .bool b5] 76, accR encB 5 1 vb1 txt] := hS8.bkK (i := 1) rfl hm2 hk2
          have hS10 : St (fun _ => False) F w0 w2 [bkR b1 [.int .i64 e.kind, .int .i64 e.node, .int .i64 e.at_, .int .i64 e.x, strV e.q.text, .int .i64 e.q.k, .int .i64 e.q.n] 50, boxR [bkR b [pb1, vb1, .bool b5] 76, accR encB 5 1 vb1 txt]] := St.close (L1 := [bkR b1 [.int .i64 e.kind, .int .i64 e.node, .int .i64 e.at_, .int .i64 e.x, strV e.q.text, .int .i64 e.q.k, .int .i64 e.q.n] 50]) hS9
          have hS11 : St (fun _ => False) F w0 w2 [bkR b1 [.int .i64 e.kind, .int .i64 e.node, .int .i64 e.at_, .int .i64 e.x, strV e.q.text, .int .i64 e.q.k, .int .i64 e.q.n] 50, andR (pb1 = .pointer none ∨ pb1 = ptr b 0) (boxR [bkR b (pb1 :: vb1 :: [.bool b5]) 76, accR encB 5 1 vb1 txt])] := hS10.imp (i := 1) rfl (fun F_ h_ => ⟨hpb1, h_⟩)
          have hS12 : St (fun _ => False) F w0 w2 [bkR b1 [.int .i64 e.kind, .int .i64 e.node, .int .i64 e.at_, .int .i64 e.x, strV e.q.text, .int .i64 e.q.k, .int .i64 e.q.n] 50, bdR 5 76 b ([.bool b5]) txt] := hS11.exi (A := fun pv : Value × Value => andR (pv.1 = .pointer none ∨ pv.1 = ptr b 0) (boxR [bkR b (pv.1 :: pv.2 :: [.bool b5]) 76, accR encB 5 1 pv.2 txt])) (pb1, vb1) (i := 1) rfl
          refine OL.nil ?_
          refine r_seq ?_
          refine r_region ?_
          refine OL.q (Q1.move rfl) rfl rfl ?_
          obtain ⟨Fy1, hAy1, hFy1, hky1⟩ := hS12.act (i := 1) rfl
          refine OL.act rfl rfl (AW.callF cl32 rfl (pword_c_ (w0 := w2) (([97, 115, 107] : Str)) hAy1 (fun b hb => (hFy1 b hb).2) (by first | omega | (simp only [List.length_append, List.length_cons, List.length_nil]; omega)) (by first | omega | decide)) ?_)
          rintro _ w3 ⟨rfl, hm3, F1, hA1, hF1⟩
          have hS13 : St (fun _ => False) F w0 w3 [bkR b1 [.int .i64 e.kind, .int .i64 e.node, .int .i64 e.at_, .int .i64 e.x, strV e.q.text, .int .i64 e.q.k, .int .i64 e.q.n] 50, bdR 5 76 b ([.bool b5]) ((txt ++ ([97, 115, 107] : Str)))] := hky1 _ _ _ hm3 hA1 hF1
          clear hky1 hA1
          refine OL.nil ?_
          refine r_seq ?_
          refine r_region ?_
          refine OL.q (Q1.move rfl) rfl rfl ?_
          refine OL.q (Q1.fieldAddr fl50_4 rfl) rfl rfl ?_
          refine OL.q (Q1.fieldAddr fl48_0 rfl) rfl rfl ?_
          have f4 := hS13.bk (i := 0) rfl
          refine OL.q (Q1.load1 ti9 rfl (fun _ e => e ▸ (f4.cell 4 _ rfl))) rfl rfl ?_
          obtain ⟨Fy2, hAy2, hFy2, hky2⟩ := hS13.act (i := 1) rfl
          refine OL.act rfl rfl (AW.callF cl33 rfl (pquoted_c (w0 := w3) e.q.text hAy2 (fun b hb => (hFy2 b hb).2) (by first | omega | (simp only [List.length_append, List.length_cons, List.length_nil]; omega)) (by first | omega | assumption)) ?_)
          rintro _ w4 ⟨rfl, hm4, F2, hA2, hF2⟩
          have hS14 : St (fun _ => False) F w0 w4 [bkR b1 [.int .i64 e.kind, .int .i64 e.node, .int .i64 e.at_, .int .i64 e.x, strV e.q.text, .int .i64 e.q.k, .int .i64 e.q.n] 50, bdR 5 76 b ([.bool b5]) (((txt ++ ([97, 115, 107] : Str)) ++ (32 :: quoteM e.q.text)))] := hky2 _ _ _ hm4 hA2 hF2
          clear hky2 hA2
          refine OL.nil ?_
          refine r_region ?_
          refine OL.q (Q1.move rfl) rfl rfl ?_
          refine OL.q (Q1.fieldAddr fl50_4 rfl) rfl rfl ?_
          refine OL.q (Q1.fieldAddr fl48_1 rfl) rfl rfl ?_
          have f5 := hS14.bk (i := 0) rfl
          refine OL.q (Q1.load1 ti3 rfl (fun _ e => e ▸ (f5.cell 5 _ rfl))) rfl rfl ?_
          refine OL.q (Q1.fieldAddr fl50_4 rfl) rfl rfl ?_
          refine OL.q (Q1.fieldAddr fl48_2 rfl) rfl rfl ?_
          refine OL.q (Q1.load1 ti3 rfl (fun _ e => e ▸ (f5.cell 6 _ rfl))) rfl rfl ?_
          refine OL.act rfl rfl (AW.buildSlice [(.int .i64 e.q.k : Value), (.int .i64 e.q.n : Value)] Tryd.underlying82 ti3 rfl rfl rfl (by decide) ?_)
          intro w5 b6 hm5 hb6 hz3 hk3
          have hS15 := hS14.ext hm5
          have hl1 := Sl.of_blk (enc := Ik.encI) hk3 ([e.q.k, e.q.n] : List Int) 2 rfl rfl (by unfold maxLen; omega)
          have hS16 : St (fun _ => False) F w0 w5 [bkR b1 [.int .i64 e.kind, .int .i64 e.node, .int .i64 e.at_, .int .i64 e.x, strV e.q.text, .int .i64 e.q.k, .int .i64 e.q.n] 50, bdR 5 76 b ([.bool b5]) (((txt ++ ([97, 115, 107] : Str)) ++ (32 :: quoteM e.q.text))), slR Ik.encI [((.slice (some ⟨b6, 0, none⟩) 2 2), [e.q.k, e.q.n])]] := hS14.newSlB hm5 hb6 hz3 hl1
          obtain ⟨Fy3, Gy1, hAy3, hGy1, hap1, hFy3, hGl1, hky3⟩ := hS16.act2 (i := 1) (j := 2) rfl rfl (by decide)
          have hsl1 := slR_one hGy1
          have hnq1 : ∀ n ∈ ([e.q.k, e.q.n] : List Int), I64 n := by (intro n hn; simp at hn; rcases hn with rfl | rfl; exact he.k; exact he.n)
          refine OL.act rfl rfl (AW.callF cl35 rfl (pnums_c (w0 := w5) hAy3 (fun b hb => (hFy3 b hb).2) (by first | omega | (simp only [List.length_append, List.length_cons, List.length_nil]; omega)) (hG.keep hgp hS16.mod hFg) (glob_no hG hgp hFg hFy3) hsl1 (fun b hb => hb.elim (hap1 b) (fun h => h.elim)) hnq1 (by first | exact Nat.le_of_ble_eq_true rfl | omega)) ?_)
          rintro _ w6 ⟨rfl, hm6, F3, hA3, hF3⟩
          have hS17 : St (fun _ => False) F w0 w6 [bkR b1 [.int .i64 e.kind, .int .i64 e.node, .int .i64 e.at_, .int .i64 e.x, strV e.q.text, .int .i64 e.q.k, .int .i64 e.q.n] 50, bdR 5 76 b ([.bool ((b5 || ([e.q.k, e.q.n]).any badN))]) ((((txt ++ ([97, 115, 107] : Str)) ++ (32 :: quoteM e.q.text)) ++ numsP ([e.q.k, e.q.n]))), slR Ik.encI [((.slice (some ⟨b6, 0, none⟩) 2 2), [e.q.k, e.q.n])]] := hky3 _ _ _ hm6 hA3 hF3
          clear hky3 hA3
          have hnpl1 := numsP_len hnq1
          simp only [List.length_cons, List.length_nil] at hnpl1
          refine OL.nil ?_
          refine r_region ?_
          refine OL.q (Q1.move rfl) rfl rfl ?_
          obtain ⟨Fy4, hAy4, hFy4, hky4⟩ := hS17.act (i := 1) rfl
          refine OL.act rfl rfl (AW.callF cl34 rfl (pend_c (w0 := w6)  hAy4 (fun b hb => (hFy4 b hb).2) (by first | omega | (simp only [List.length_append, List.length_cons, List.length_nil]; omega)) ) ?_)
          rintro _ w7 ⟨rfl, hm7, F4, hA4, hF4⟩
          have hS18 : St (fun _ => False) F w0 w7 [bkR b1 [.int .i64 e.kind, .int .i64 e.node, .int .i64 e.at_, .int .i64 e.x, strV e.q.text, .int .i64 e.q.k, .int .i64 e.q.n] 50, bdR 5 76 b ([.bool ((b5 || ([e.q.k, e.q.n]).any badN))]) (((((txt ++ ([97, 115, 107] : Str)) ++ (32 :: quoteM e.q.text)) ++ numsP ([e.q.k, e.q.n])) ++ [10])), slR Ik.encI [((.slice (some ⟨b6, 0, none⟩) 2 2), [e.q.k, e.q.n])]] := hky4 _ _ _ hm7 hA4 hF4
          clear hky4 hA4
          refine OL.nil ?_
          refine r_end0 Tryd.func36 rfl ?_
          have hS19 : St (fun _ => False) F w0 w7 [bdR 5 76 b ([.bool ((b5 || ([e.q.k, e.q.n]).any badN))]) (((((txt ++ ([97, 115, 107] : Str)) ++ (32 :: quoteM e.q.text)) ++ numsP ([e.q.k, e.q.n])) ++ [10]))] := hS18.sel [1] (by rfl) (by decide)
          obtain ⟨hmF, F2r, hAr, hFr⟩ := hS19.fin
          have e1 : (((((txt ++ ([97, 115, 107] : Str)) ++ (32 :: quoteM e.q.text)) ++ numsP ([e.q.k, e.q.n])) ++ [10]) : Str) = txt ++ (evB e ++ [10]) := by first | exact evB_one (by assumption) txt | exact evB_two (by assumption) txt | (exfalso; omega)
          have e2 : ((b5 || ([e.q.k, e.q.n]).any badN) : Bool) = (bad0 || badE e) := by first | first | exact ev1 (by assumption) (eq_a hbd) | exact ev1 (by assumption) (eq_b (by assumption)) | exact ev1 (by assumption) (eq_c (by assumption)) | exact ev1 (by assumption) (eq_d hbd (by assumption) (by assumption) (by assumption)) | exact ev2 (by assumption) (eq_a hbd) | exact ev2 (by assumption) (eq_e hbd (by assumption)) | (exfalso; omega)
          exact Ret.mk ⟨rfl, hmF, F2r, e1 ▸ e2 ▸ hAr, hFr⟩
  | false =>
    replace hb2 := ne_of_beq_false hb2.symm
    refine r_cond_f rfl ?_
    refine r_seq ?_
    refine r_region ?_
    obtain ⟨⟨pb1, vb1⟩, hS4⟩ := hS3.exo (i := 0) rfl
    change St (fun _ => False) F w0 w1 [andR (pb1 = .pointer none ∨ pb1 = ptr b 0) (boxR [bkR b (pb1 :: vb1 :: [.bool bad]) 76, accR encB 5 1 vb1 txt]), bkR b1 [.int .i64 e.kind, .int .i64 e.node, .int .i64 e.at_, .int .i64 e.x, strV e.q.text, .int .i64 e.q.k, .int .i64 e.q.n] 50] at hS4
    obtain ⟨hpb1, hS5⟩ := hS4.and (i := 0) rfl
    change St (fun _ => False) F w0 w1 [boxR [bkR b (pb1 :: vb1 :: [.bool bad]) 76, accR encB 5 1 vb1 txt], bkR b1 [.int .i64 e.kind, .int .i64 e.node, .int .i64 e.at_, .int .i64 e.x, strV e.q.text, .int .i64 e.q.k, .int .i64 e.q.n] 50] at hS5
    have hS6 : St (fun _ => False) F w0 w1 [bkR b1 [.int .i64 e.kind, .int .i64 e.node, .int .i64 e.at_, .int .i64 e.x, strV e.q.text, .int .i64 e.q.k, .int .i64 e.q.n] 50, boxR [bkR b (pb1 :: vb1 :: [.bool bad]) 76, accR encB 5 1 vb1 txt]] := hS5.sel [1, 0] (by rfl) (by decide)
    have hS7 : St (fun _ => False) F w0 w1 [bkR b1 [.int .i64 e.kind, .int .i64 e.node, .int .i64 e.at_, .int .i64 e.x, strV e.q.text, .int .i64 e.q.k, .int .i64 e.q.n] 50, boxR [bkR b (pb1 :: vb1 :: [.bool bad]) 76, accR encB 5 1 vb1 txt]] := hS6
    have hS8 : St (fun _ => False) F w0 w1 [bkR b1 [.int .i64 e.kind, .int .i64 e.node, .int .i64 e.at_, .int .i64 e.x, strV e.q.text, .int .i64 e.q.k, .int .i64 e.q.n] 50, bkR b [pb1, vb1, .bool bad] 76, accR encB 5 1 vb1 txt] := St.open (L1 := [bkR b1 [.int .i64 e.kind, .int .i64 e.node, .int .i64 e.at_, .int .i64 e.x, strV e.q.text, .int .i64 e.q.k, .int .i64 e.q.n] 50]) hS7
    refine OL.q (Q1.move rfl) rfl rfl ?_
    refine OL.q (Q1.move rfl) rfl rfl ?_
    refine OL.q (Q1.nilCheckP rfl) rfl rfl ?_
    refine OL.q (Q1.fieldAddr fl76_1 rfl) rfl rfl ?_
    have f2 := hS8.bk (i := 1) rfl
    refine OL.q (Q1.load1 ti4 rfl (fun _ e => e ▸ (f2.cell 2 _ rfl))) rfl rfl ?_
    refine OL.q (Q1.move rfl) rfl rfl ?_
    cases bad with
    | true =>
      refine OL.sk rfl rfl ?_
      refine OL.sk rfl rfl ?_
      refine OL.sk rfl rfl ?_
      refine OL.sk rfl rfl ?_
      refine OL.q (Q1.pick_t rfl rfl) rfl rfl ?_
      refine OL.q (Q1.nilCheckP rfl) rfl rfl ?_
      refine OL.q (Q1.fieldAddr fl76_1 rfl) rfl rfl ?_
      refine OL.act rfl rfl (AW.store ti4 rfl rfl rfl rfl rfl f2 (Nat.le_of_ble_eq_true rfl) ?_)
      intro w2 hm2 hz2 hk2
      have hS9 : St (fun _ => False) F w0 w2 [bkR b1 [.int .i64 e.kind, .int .i64 e.node, .int .i64 e.at_, .int .i64 e.x, strV e.q.text, .int .i64 e.q.k, .int .i64 e.q.n] 50, bkR b [pb1, vb1, .bool true] 76, accR encB 5 1 vb1 txt] := hS8.bkK (i := 1) rfl hm2 hk2
      have hS10 : St (fun _ => False) F w0 w2 [bkR b1 [.int .i64 e.kind, .int .i64 e.node, .int .i64 e.at_, .int .i64 e.x, strV e.q.text, .int .i64 e.q.k, .int .i64 e.q.n] 50, boxR [bkR b [pb1, vb1, .bool true] 76, accR encB 5 1 vb1 txt]] := St.close (L1 := [bkR b1 [.int .i64 e.kind, .int .i64 e.node, .int .i64 e.at_, .int .i64 e.x, strV e.q.text, .int .i64 e.q.k, .int .i64 e.q.n] 50]) hS9
      have hS11 : St (fun _ => False) F w0 w2 [bkR b1 [.int .i64 e.kind, .int .i64 e.node, .int .i64 e.at_, .int .i64 e.x, strV e.q.text, .int .i64 e.q.k, .int .i64 e.q.n] 50, andR (pb1 = .pointer none ∨ pb1 = ptr b 0) (boxR [bkR b (pb1 :: vb1 :: [.bool true]) 76, accR encB 5 1 vb1 txt])] := hS10.imp (i := 1) rfl (fun F_ h_ => ⟨hpb1, h_⟩)
      have hS12 : St (fun _ => False) F w0 w2 [bkR b1 [.int .i64 e.kind, .int .i64 e.node, .int .i64 e.at_, .int .i64 e.x, strV e.q.text, .int .i64 e.q.k, .int .i64 e.q.n] 50, bdR 5 76 b ([.bool true]) txt] := hS11.exi (A := fun pv : Value × Value => andR (pv.1 = .pointer none ∨ pv.1 = ptr b 0) (boxR [bkR b (pv.1 :: pv.2 :: [.bool true]) 76, accR encB 5 1 pv.2 txt])) (pb1, vb1) (i := 1) rfl
      refine OL.nil ?_
      refine r_seq ?_
      refine r_region ?_
      refine OL.q (Q1.move rfl) rfl rfl ?_
      obtain ⟨Fy1, hAy1, hFy1, hky1⟩ := hS12.act (i := 1) rfl
      refine OL.act rfl rfl (AW.callF cl32 rfl (pword_c_ (w0 := w2) (([101, 118] : Str)) hAy1 (fun b hb => (hFy1 b hb).2) (by first | omega | (simp only [List.length_append, List.length_cons, List.length_nil]; omega)) (by first | omega | decide)) ?_)
      rintro _ w3 ⟨rfl, hm3, F1, hA1, hF1⟩
      have hS13 : St (fun _ => False) F w0 w3 [bkR b1 [.int .i64 e.kind, .int .i64 e.node, .int .i64 e.at_, .int .i64 e.x, strV e.q.text, .int .i64 e.q.k, .int .i64 e.q.n] 50, bdR 5 76 b ([.bool true]) ((txt ++ ([101, 118] : Str)))] := hky1 _ _ _ hm3 hA1 hF1
      clear hky1 hA1
      refine OL.nil ?_
      refine r_region ?_
      refine OL.q (Q1.move rfl) rfl rfl ?_
      refine OL.q (Q1.fieldAddr fl50_0 rfl) rfl rfl ?_
      have f3 := hS13.bk (i := 0) rfl
      refine OL.q (Q1.load1 ti3 rfl (fun _ e => e ▸ (f3.cell 0 _ rfl))) rfl rfl ?_
      refine OL.q (Q1.fieldAddr fl50_1 rfl) rfl rfl ?_
      refine OL.q (Q1.load1 ti3 rfl (fun _ e => e ▸ (f3.cell 1 _ rfl))) rfl rfl ?_
      refine OL.q (Q1.fieldAddr fl50_2 rfl) rfl rfl ?_
      refine OL.q (Q1.load1 ti3 rfl (fun _ e => e ▸ (f3.cell 2 _ rfl))) rfl rfl ?_
      refine OL.q (Q1.fieldAddr fl50_3 rfl) rfl rfl ?_
      refine OL.q (Q1.load1 ti3 rfl (fun _ e => e ▸ (f3.cell 3 _ rfl))) rfl rfl ?_
      refine OL.act rfl rfl (AW.buildSlice [(.int .i64 e.kind : Value), (.int .i64 e.node : Value), (.int .i64 e.at_ : Value), (.int .i64 e.x : Value)] Tryd.underlying82 ti3 rfl rfl rfl (by decide) ?_)
      intro w4 b3 hm4 hb3 hz3 hk3
      have hS14 := hS13.ext hm4
      have hl1 := Sl.of_blk (enc := Ik.encI) hk3 ([e.kind, e.node, e.at_, e.x] : List Int) 4 rfl rfl (by unfold maxLen; omega)
      have hS15 : St (fun _ => False) F w0 w4 [bkR b1 [.int .i64 e.kind, .int .i64 e.node, .int .i64 e.at_, .int .i64 e.x, strV e.q.text, .int .i64 e.q.k, .int .i64 e.q.n] 50, bdR 5 76 b ([.bool true]) ((txt ++ ([101, 118] : Str))), slR Ik.encI [((.slice (some ⟨b3, 0, none⟩) 4 4), [e.kind, e.node, e.at_, e.x])]] := hS13.newSlB hm4 hb3 hz3 hl1
      obtain ⟨Fy2, Gy1, hAy2, hGy1, hap1, hFy2, hGl1, hky2⟩ := hS15.act2 (i := 1) (j := 2) rfl rfl (by decide)
      have hsl1 := slR_one hGy1
      have hnq1 : ∀ n ∈ ([e.kind, e.node, e.at_, e.x] : List Int), I64 n := by (intro n hn; simp at hn; rcases hn with rfl | rfl | rfl | rfl; exact he.kind; exact he.node; exact he.at_; exact he.x)
      refine OL.act rfl rfl (AW.callF cl35 rfl (pnums_c (w0 := w4) hAy2 (fun b hb => (hFy2 b hb).2) (by first | omega | (simp only [List.length_append, List.length_cons, List.length_nil]; omega)) (hG.keep hgp hS15.mod hFg) (glob_no hG hgp hFg hFy2) hsl1 (fun b hb => hb.elim (hap1 b) (fun h => h.elim)) hnq1 (by first | exact Nat.le_of_ble_eq_true rfl | omega)) ?_)
      rintro _ w5 ⟨rfl, hm5, F2, hA2, hF2⟩
      have hS16 : St (fun _ => False) F w0 w5 [bkR b1 [.int .i64 e.kind, .int .i64 e.node, .int .i64 e.at_, .int .i64 e.x, strV e.q.text, .int .i64 e.q.k, .int .i64 e.q.n] 50, bdR 5 76 b ([.bool ((true || ([e.kind, e.node, e.at_, e.x]).any badN))]) (((txt ++ ([101, 118] : Str)) ++ numsP ([e.kind, e.node, e.at_, e.x]))), slR Ik.encI [((.slice (some ⟨b3, 0, none⟩) 4 4), [e.kind, e.node, e.at_, e.x])]] := hky2 _ _ _ hm5 hA2 hF2
      clear hky2 hA2
      have hnpl1 := numsP_len hnq1
      simp only [List.length_cons, List.length_nil] at hnpl1
      refine OL.nil ?_
      refine r_region ?_
      refine OL.q (Q1.move rfl) rfl rfl ?_
      obtain ⟨Fy3, hAy3, hFy3, hky3⟩ := hS16.act (i := 1) rfl
      refine OL.act rfl rfl (AW.callF cl34 rfl (pend_c (w0 := w5)  hAy3 (fun b hb => (hFy3 b hb).2) (by first | omega | (simp only [List.length_append, List.length_cons, List.length_nil]; omega)) ) ?_)
      rintro _ w6 ⟨rfl, hm6, F3, hA3, hF3⟩
      have hS17 : St (fun _ => False) F w0 w6 [bkR b1 [.int .i64 e.kind, .int .i64 e.node, .int .i64 e.at_, .int .i64 e.x, strV e.q.text, .int .i64 e.q.k, .int .i64 e.q.n] 50, bdR 5 76 b ([.bool ((true || ([e.kind, e.node, e.at_, e.x]).any badN))]) ((((txt ++ ([101, 118] : Str)) ++ numsP ([e.kind, e.node, e.at_, e.x])) ++ [10])), slR Ik.encI [((.slice (some ⟨b3, 0, none⟩) 4 4), [e.kind, e.node, e.at_, e.x])]] := hky3 _ _ _ hm6 hA3 hF3
      clear hky3 hA3
      refine OL.nil ?_
      refine r_end0 Tryd.func36 rfl ?_
      have hS18 : St (fun _ => False) F w0 w6 [bdR 5 76 b ([.bool ((true || ([e.kind, e.node, e.at_, e.x]).any badN))]) ((((txt ++ ([101, 118] : Str)) ++ numsP ([e.kind, e.node, e.at_, e.x])) ++ [10]))] := hS17.sel [1] (by rfl) (by decide)
      obtain ⟨hmF, F2r, hAr, hFr⟩ := hS18.fin
      have e1 : ((((txt ++ ([101, 118] : Str)) ++ numsP ([e.kind, e.node, e.at_, e.x])) ++ [10]) : Str) = txt ++ (evB e ++ [10]) := by first | exact evB_one (by assumption) txt | exact evB_two (by assumption) txt | (exfalso; omega)
      have e2 : ((true || ([e.kind, e.node, e.at_, e.x]).any badN) : Bool) = (bad0 || badE e) := by first | first | exact ev1 (by assumption) (eq_a hbd) | exact ev1 (by assumption) (eq_b (by assumption)) | exact ev1 (by assumption) (eq_c (by assumption)) | exact ev1 (by assumption) (eq_d hbd (by assumption) (by assumption) (by assumption)) | exact ev2 (by assumption) (eq_a hbd) | exact ev2 (by assumption) (eq_e hbd (by assumption)) | (exfalso; omega)
      exact Ret.mk ⟨rfl, hmF, F2r, e1 ▸ e2 ▸ hAr, hFr⟩
    | false =>
      refine OL.q (Q1.fieldAddr fl50_4 rfl) rfl rfl ?_
      have f3 := hS8.bk (i := 0) rfl
      refine OL.q (Q1.loadN ti48 rfl (fun _ e => e ▸ (f3.part 4 3 (Nat.le_of_ble_eq_true rfl))) rfl) rfl rfl ?_
      refine OL.q (Q1.build (vs := #[]) (v := .agg #[strV [], .int .i64 0, .int .i64 0]) rfl (fun _ => by kernel_rfl)) rfl rfl ?_
      refine OL.qb (Q1.neStruct (by kernel_rfl) (eqS48 ((Qry.mk e.q.text e.q.k e.q.n)) ((Qry.mk [] 0 0))) rfl rfl) rfl rfl ?_
      intro b3 hb3
      refine OL.q (Q1.pick_f rfl rfl) rfl rfl ?_
      refine OL.q (Q1.nilCheckP rfl) rfl rfl ?_
      refine OL.q (Q1.fieldAddr fl76_1 rfl) rfl rfl ?_
      refine OL.act rfl rfl (AW.store ti4 rfl rfl rfl rfl rfl f2 (Nat.le_of_ble_eq_true rfl) ?_)
      intro w2 hm2 hz2 hk2
      have hS9 : St (fun _ => False) F w0 w2 [bkR b1 [.int .i64 e.kind, .int .i64 e.node, .int .i64 e.at_, .int .i64 e.x, strV e.q.text, .int .i64 e.q.k, .int .i64 e.q.n] 50, bkR b [pb1, vb1, .bool b3] 76, accR encB 5 1 vb1 txt] := hS8.bkK (i := 1) rfl hm2 hk2
      have hS10 : St (fun _ => False) F w0 w2 [bkR b1 [.int .i64 e.kind, .int .i64 e.node, .int .i64 e.at_, .int .i64 e.x, strV e.q.text, .int .i64 e.q.k, .int .i64 e.q.n] 50, boxR [bkR b [pb1, vb1, .bool b3] 76, accR encB 5 1 vb1 txt]] := St.close (L1 := [bkR b1 [.int .i64 e.kind, .int .i64 e.node, .int .i64 e.at_, .int .i64 e.x, strV e.q.text, .int .i64 e.q.k, .int .i64 e.q.n] 50]) hS9
      have hS11 : St (fun _ => False) F w0 w2 [bkR b1 [.int .i64 e.kind, .int .i64 e.node, .int .i64 e.at_, .int .i64 e.x, strV e.q.text, .int .i64 e.q.k, .int .i64 e.q.n] 50, andR (pb1 = .pointer none ∨ pb1 = ptr b 0) (boxR [bkR b (pb1 :: vb1 :: [.bool b3]) 76, accR encB 5 1 vb1 txt])] := hS10.imp (i := 1) rfl (fun F_ h_ => ⟨hpb1, h_⟩)
      have hS12 : St (fun _ => False) F w0 w2 [bkR b1 [.int .i64 e.kind, .int .i64 e.node, .int .i64 e.at_, .int .i64 e.x, strV e.q.text, .int .i64 e.q.k, .int .i64 e.q.n] 50, bdR 5 76 b ([.bool b3]) txt] := hS11.exi (A := fun pv : Value × Value => andR (pv.1 = .pointer none ∨ pv.1 = ptr b 0) (boxR [bkR b (pv.1 :: pv.2 :: [.bool b3]) 76, accR encB 5 1 pv.2 txt])) (pb1, vb1) (i := 1) rfl
      refine OL.nil ?_
      refine r_seq ?_
      refine r_region ?_
      refine OL.q (Q1.move rfl) rfl rfl ?_
      obtain ⟨Fy1, hAy1, hFy1, hky1⟩ := hS12.act (i := 1) rfl
      refine OL.act rfl rfl (AW.callF cl32 rfl (pword_c_ (w0 := w2) (([101, 118] : Str)) hAy1 (fun b hb => (hFy1 b hb).2) (by first | omega | (simp only [List.length_append, List.length_cons, List.length_nil]; omega)) (by first | omega | decide)) ?_)
      rintro _ w3 ⟨rfl, hm3, F1, hA1, hF1⟩
      have hS13 : St (fun _ => False) F w0 w3 [bkR b1 [.int .i64 e.kind, .int .i64 e.node, .int .i64 e.at_, .int .i64 e.x, strV e.q.text, .int .i64 e.q.k, .int .i64 e.q.n] 50, bdR 5 76 b ([.bool b3]) ((txt ++ ([101, 118] : Str)))] := hky1 _ _ _ hm3 hA1 hF1
      clear hky1 hA1
      refine OL.nil ?_
      refine r_region ?_
      refine OL.q (Q1.move rfl) rfl rfl ?_
      refine OL.q (Q1.fieldAddr fl50_0 rfl) rfl rfl ?_
      have f4 := hS13.bk (i := 0) rfl
      refine OL.q (Q1.load1 ti3 rfl (fun _ e => e ▸ (f4.cell 0 _ rfl))) rfl rfl ?_
      refine OL.q (Q1.fieldAddr fl50_1 rfl) rfl rfl ?_
      refine OL.q (Q1.load1 ti3 rfl (fun _ e => e ▸ (f4.cell 1 _ rfl))) rfl rfl ?_
      refine OL.q (Q1.fieldAddr fl50_2 rfl) rfl rfl ?_
      refine OL.q (Q1.load1 ti3 rfl (fun _ e => e ▸ (f4.cell 2 _ rfl))) rfl rfl ?_
      refine OL.q (Q1.fieldAddr fl50_3 rfl) rfl rfl ?_
      refine OL.q (Q1.load1 ti3 rfl (fun _ e => e ▸ (f4.cell 3 _ rfl))) rfl rfl ?_
      refine OL.act rfl rfl (AW.buildSlice [(.int .i64 e.kind : Value), (.int .i64 e.node : Value), (.int .i64 e.at_ : Value), (.int .i64 e.x : Value)] Tryd.underlying82 ti3 rfl rfl rfl (by decide) ?_)
      intro w4 b4 hm4 hb4 hz3 hk3
      have hS14 := hS13.ext hm4
      have hl1 := Sl.of_blk (enc := Ik.encI) hk3 ([e.kind, e.node, e.at_, e.x] : List Int) 4 rfl rfl (by unfold maxLen; omega)
      have hS15 : St (fun _ => False) F w0 w4 [bkR b1 [.int .i64 e.kind, .int .i64 e.node, .int .i64 e.at_, .int .i64 e.x, strV e.q.text, .int .i64 e.q.k, .int .i64 e.q.n] 50, bdR 5 76 b ([.bool b3]) ((txt ++ ([101, 118] : Str))), slR Ik.encI [((.slice (some ⟨b4, 0, none⟩) 4 4), [e.kind, e.node, e.at_, e.x])]] := hS13.newSlB hm4 hb4 hz3 hl1
      obtain ⟨Fy2, Gy1, hAy2, hGy1, hap1, hFy2, hGl1, hky2⟩ := hS15.act2 (i := 1) (j := 2) rfl rfl (by decide)
      have hsl1 := slR_one hGy1
      have hnq1 : ∀ n ∈ ([e.kind, e.node, e.at_, e.x] : List Int), I64 n := by (intro n hn; simp at hn; rcases hn with rfl | rfl | rfl | rfl; exact he.kind; exact he.node; exact he.at_; exact he.x)
      refine OL.act rfl rfl (AW.callF cl35 rfl (pnums_c (w0 := w4) hAy2 (fun b hb => (hFy2 b hb).2) (by first | omega | (simp only [List.length_append, List.length_cons, List.length_nil]; omega)) (hG.keep hgp hS15.mod hFg) (glob_no hG hgp hFg hFy2) hsl1 (fun b hb => hb.elim (hap1 b) (fun h => h.elim)) hnq1 (by first | exact Nat.le_of_ble_eq_true rfl | omega)) ?_)
      rintro _ w5 ⟨rfl, hm5, F2, hA2, hF2⟩
      have hS16 : St (fun _ => False) F w0 w5 [bkR b1 [.int .i64 e.kind, .int .i64 e.node, .int .i64 e.at_, .int .i64 e.x, strV e.q.text, .int .i64 e.q.k, .int .i64 e.q.n] 50, bdR 5 76 b ([.bool ((b3 || ([e.kind, e.node, e.at_, e.x]).any badN))]) (((txt ++ ([101, 118] : Str)) ++ numsP ([e.kind, e.node, e.at_, e.x]))), slR Ik.encI [((.slice (some ⟨b4, 0, none⟩) 4 4), [e.kind, e.node, e.at_, e.x])]] := hky2 _ _ _ hm5 hA2 hF2
      clear hky2 hA2
      have hnpl1 := numsP_len hnq1
      simp only [List.length_cons, List.length_nil] at hnpl1
      refine OL.nil ?_
      refine r_region ?_
      refine OL.q (Q1.move rfl) rfl rfl ?_
      obtain ⟨Fy3, hAy3, hFy3, hky3⟩ := hS16.act (i := 1) rfl
      refine OL.act rfl rfl (AW.callF cl34 rfl (pend_c (w0 := w5)  hAy3 (fun b hb => (hFy3 b hb).2) (by first | omega | (simp only [List.length_append, List.length_cons, List.length_nil]; omega)) ) ?_)
      rintro _ w6 ⟨rfl, hm6, F3, hA3, hF3⟩
      have hS17 : St (fun _ => False) F w0 w6 [bkR b1 [.int .i64 e.kind, .int .i64 e.node, .int .i64 e.at_, .int .i64 e.x, strV e.q.text, .int .i64 e.q.k, .int .i64 e.q.n] 50, bdR 5 76 b ([.bool ((b3 || ([e.kind, e.node, e.at_, e.x]).any badN))]) ((((txt ++ ([101, 118] : Str)) ++ numsP ([e.kind, e.node, e.at_, e.x])) ++ [10])), slR Ik.encI [((.slice (some ⟨b4, 0, none⟩) 4 4), [e.kind, e.node, e.at_, e.x])]] := hky3 _ _ _ hm6 hA3 hF3
      clear hky3 hA3
      refine OL.nil ?_
      refine r_end0 Tryd.func36 rfl ?_
      have hS18 : St (fun _ => False) F w0 w6 [bdR 5 76 b ([.bool ((b3 || ([e.kind, e.node, e.at_, e.x]).any badN))]) ((((txt ++ ([101, 118] : Str)) ++ numsP ([e.kind, e.node, e.at_, e.x])) ++ [10]))] := hS17.sel [1] (by rfl) (by decide)
      obtain ⟨hmF, F2r, hAr, hFr⟩ := hS18.fin
      have e1 : ((((txt ++ ([101, 118] : Str)) ++ numsP ([e.kind, e.node, e.at_, e.x])) ++ [10]) : Str) = txt ++ (evB e ++ [10]) := by first | exact evB_one (by assumption) txt | exact evB_two (by assumption) txt | (exfalso; omega)
      have e2 : ((b3 || ([e.kind, e.node, e.at_, e.x]).any badN) : Bool) = (bad0 || badE e) := by first | first | exact ev1 (by assumption) (eq_a hbd) | exact ev1 (by assumption) (eq_b (by assumption)) | exact ev1 (by assumption) (eq_c (by assumption)) | exact ev1 (by assumption) (eq_d hbd (by assumption) (by assumption) (by assumption)) | exact ev2 (by assumption) (eq_a hbd) | exact ev2 (by assumption) (eq_e hbd (by assumption)) | (exfalso; omega)
      exact Ret.mk ⟨rfl, hmF, F2r, e1 ▸ e2 ▸ hAr, hFr⟩
set_option maxRecDepth 20000 in
set_option maxHeartbeats 4000000 in
theorem print_c {w0 : World}  {c : Cfg} {v_c_words : Value} {v_c_cuts : Value} {v_es : Value} {es : List Evt} (h_c_words : Sl encS w0 (Iv 0 w0.heap.size) v_c_words c.words) (h_c_cuts : Sl encKey w0 (Iv 0 w0.heap.size) v_c_cuts c.cuts) (h_es : Sl encEvt w0 (Iv 0 w0.heap.size) v_es es) (hG : GS w0) (hpr : PrOk c es) :
    Calls Tryd.prog 17 #[.agg #[v_c_words, v_c_cuts, .int .i64 c.workers, .int .i64 c.copies, .int .i64 c.slots, .int .i64 c.batch, .int .i64 c.lease, .int .i64 c.hedge, .int .i64 c.first, .int .i64 c.cap, .int .i64 c.jitter, .int .i64 c.net], v_es] w0 (Ret fun rv w1 => ∃ u0 u1, rv = .tuple #[u0, u1] ∧ u0 = strV ((printM c es).1) ∧ u1 = .int .i64 ((printM c es).2) ∧ Ext w0 w1) := by
  have hle_c_words := h_c_words.le
  have hle_c_cuts := h_c_cuts.le
  have hle_es := h_es.le
  have hFg : ∀ b, b = gB ∨ b = gS ∨ b = gR → ¬ (fun _ : Nat => False) b := fun _ _ h => h
  have hwl := hpr.wl
  have hcl := hpr.cl
  have hel := hpr.el
  have hsbl := setB_len hpr.ns
  have hS0 := St.start0 w0
  refine calls_enter Tryd.func17 rfl Tryd.ntmps17 rfl ?_
  refine r_seq ?_
  refine r_region ?_
  refine OL.act rfl rfl (AW.box [v_c_words, v_c_cuts, .int .i64 c.workers, .int .i64 c.copies, .int .i64 c.slots, .int .i64 c.batch, .int .i64 c.lease, .int .i64 c.hedge, .int .i64 c.first, .int .i64 c.cap, .int .i64 c.jitter, .int .i64 c.net] rfl rfl ?_)
  intro w1 b1 hm1 hb1 hz1 hk1
  have hS1 := hS0.ext hm1
  have hS2 : St (fun _ => False) (fun _ => False) w0 w1 [bkR b1 [v_c_words, v_c_cuts, .int .i64 c.workers, .int .i64 c.copies, .int .i64 c.slots, .int .i64 c.batch, .int .i64 c.lease, .int .i64 c.hedge, .int .i64 c.first, .int .i64 c.cap, .int .i64 c.jitter, .int .i64 c.net] 30] := hS0.newBk hm1 hb1 hk1
  refine OL.q (Q1.assign rfl) rfl rfl ?_
  refine OL.q (Q1.assign rfl) rfl rfl ?_
  refine OL.nil ?_
  refine r_seq ?_
  refine r_region ?_
  refine OL.q (Q1.build (vs := #[]) (v := .agg #[.pointer none, .slice none 0 0, .bool false]) rfl (fun _ => by kernel_rfl)) rfl rfl ?_
  refine OL.act rfl rfl (AW.box [.pointer none, .slice none 0 0, .bool false] rfl rfl ?_)
  intro w2 b2 hm2 hb2 hz2 hk2
  have hS3 := hS2.ext hm2
  have hS4 : St (fun _ => False) (fun _ => False) w0 w2 [bkR b1 [v_c_words, v_c_cuts, .int .i64 c.workers, .int .i64 c.copies, .int .i64 c.slots, .int .i64 c.batch, .int .i64 c.lease, .int .i64 c.hedge, .int .i64 c.first, .int .i64 c.cap, .int .i64 c.jitter, .int .i64 c.net] 30, bkR b2 [.pointer none, .slice none 0 0, .bool false] 76] := hS2.newBk hm2 hb2 hk2
  refine OL.q (Q1.assign rfl) rfl rfl ?_
  have hS5 : St (fun _ => False) (fun _ => False) w0 w2 [bkR b1 [v_c_words, v_c_cuts, .int .i64 c.workers, .int .i64 c.copies, .int .i64 c.slots, .int .i64 c.batch, .int .i64 c.lease, .int .i64 c.hedge, .int .i64 c.first, .int .i64 c.cap, .int .i64 c.jitter, .int .i64 c.net] 30, bkR b2 [.pointer none, .slice none 0 0, .bool false] 76, accR encB 5 1 (.slice none 0 0) []] := hS4.newAcc (Mod.refl _ _) Acc.nil (.inl rfl)
  have hS6 : St (fun _ => False) (fun _ => False) w0 w2 [bkR b1 [v_c_words, v_c_cuts, .int .i64 c.workers, .int .i64 c.copies, .int .i64 c.slots, .int .i64 c.batch, .int .i64 c.lease, .int .i64 c.hedge, .int .i64 c.first, .int .i64 c.cap, .int .i64 c.jitter, .int .i64 c.net] 30, boxR [bkR b2 [.pointer none, .slice none 0 0, .bool false] 76, accR encB 5 1 (.slice none 0 0) []]] := St.close (L1 := [bkR b1 [v_c_words, v_c_cuts, .int .i64 c.workers, .int .i64 c.copies, .int .i64 c.slots, .int .i64 c.batch, .int .i64 c.lease, .int .i64 c.hedge, .int .i64 c.first, .int .i64 c.cap, .int .i64 c.jitter, .int .i64 c.net] 30]) hS5
  have hS7 : St (fun _ => False) (fun _ => False) w0 w2 [bkR b1 [v_c_words, v_c_cuts, .int .i64 c.workers, .int .i64 c.copies, .int .i64 c.slots, .int .i64 c.batch, .int .i64 c.lease, .int .i64 c.hedge, .int .i64 c.first, .int .i64 c.cap, .int .i64 c.jitter, .int .i64 c.net] 30, andR ((.pointer none : Value) = .pointer none ∨ (.pointer none : Value) = ptr b2 0) (boxR [bkR b2 ((.pointer none : Value) :: (.slice none 0 0 : Value) :: [.bool false]) 76, accR encB 5 1 (.slice none 0 0 : Value) []])] := hS6.imp (i := 1) rfl (fun F_ h_ => ⟨.inl rfl, h_⟩)
  have hS8 : St (fun _ => False) (fun _ => False) w0 w2 [bkR b1 [v_c_words, v_c_cuts, .int .i64 c.workers, .int .i64 c.copies, .int .i64 c.slots, .int .i64 c.batch, .int .i64 c.lease, .int .i64 c.hedge, .int .i64 c.first, .int .i64 c.cap, .int .i64 c.jitter, .int .i64 c.net] 30, bdR 5 76 b2 ([.bool false]) []] := hS7.exi (A := fun pv : Value × Value => andR (pv.1 = .pointer none ∨ pv.1 = ptr b2 0) (boxR [bkR b2 (pv.1 :: pv.2 :: [.bool false]) 76, accR encB 5 1 pv.2 []])) ((.pointer none : Value), (.slice none 0 0 : Value)) (i := 1) rfl
  refine OL.nil ?_
  refine r_seq ?_
  refine r_seq ?_
  refine r_region ?_
  refine OL.q (Q1.fieldAddr fl30_0 rfl) rfl rfl ?_
  have f1 := hS8.bk (i := 0) rfl
  refine OL.q (Q1.load1 ti27 rfl (fun _ e => e ▸ (f1.cell 0 _ rfl))) rfl rfl ?_
  have f2 := hS8.out h_c_words (fun _ _ h => h)
  refine OL.q (Q1.lenSl Tryd.underlying27 (f2) rfl) rfl rfl ?_
  refine OL.q (Q1.move rfl) rfl rfl ?_
  refine OL.nil ?_
  refine r_block ?_
  refine r_loop (I := fun m E W => ∃ (i : Nat) (tx : Str), E = [(1, v_es), (2, ptr b1 0), (6, ptr b2 0), (16, v_c_words), (17, .int .i64 (((c.words.length : Nat) : Int))), (18, .int .i64 (((i : Nat) : Int)))] ∧ m = c.words.length - i ∧ St (fun _ => False) (fun _ => False) w0 W [bkR b1 [v_c_words, v_c_cuts, .int .i64 c.workers, .int .i64 c.copies, .int .i64 c.slots, .int .i64 c.batch, .int .i64 c.lease, .int .i64 c.hedge, .int .i64 c.first, .int .i64 c.cap, .int .i64 c.jitter, .int .i64 c.net] 30, bdR 5 76 b2 ([.bool false]) tx] ∧ (i ≤ c.words.length) ∧ (tx = wT (c.words.take i)) ∧ (tx.length ≤ i * 300011)) ?_ ?_
  · refine ⟨_, _, ⟨(0 : Nat), ([] : Str), rfl, rfl, hS8, (by omega), (by rfl), (by exact Nat.zero_le _)⟩, ⟨rfl, rfl, rfl, rfl, rfl, rfl, trivial⟩⟩
  · rintro _ _ w3 ⟨i, tx, rfl, rfl, hS9, hil, htx, htl⟩ ih1
    refine r_seq ?_
    refine r_region ?_
    refine OL.qb (Q1.lt rfl rfl) rfl rfl ?_
    intro b3 hb3
    refine OL.nil ?_
    refine r_seq ?_
    cases b3 with
    | true =>
      replace hb3 := of_decide_eq_true hb3.symm
      refine r_cond_t rfl ?_
      refine r_skip ?_
      refine r_seq ?_
      refine r_block ?_
      refine r_seq ?_
      refine r_region ?_
      have f3 := hS9.out h_c_words (fun _ _ h => h)
      obtain ⟨x1, b4, o1, hx1, hr1, hl1, hw1⟩ := Sl.atF (P := Tryd.prog) f3 Tryd.underlying27 ti9 encS_len (k := .i64) (n := ((i : Nat) : Int)) (i) (by omega) (by first | assumption | omega)
      refine OL.q (Q1.indexAddr rfl rfl hr1) rfl rfl ?_
      refine OL.q (Q1.load1 ti9 rfl (fun _ e => e ▸ hw1)) rfl rfl ?_
      have hxl := hpr.ws _ (List.mem_of_getElem? hx1)
      have hwbl := wordB_len hxl
      have hql := quote_len x1
      refine OL.q (Q1.assign rfl) rfl rfl ?_
      refine OL.nil ?_
      refine r_seq ?_
      refine r_region ?_
      refine OL.q (Q1.move rfl) rfl rfl ?_
      obtain ⟨Fy1, hAy1, hFy1, hky1⟩ := hS9.act (i := 1) rfl
      refine OL.act rfl rfl (AW.callF cl32 rfl (pword_c_ (w0 := w3) (([119, 111, 114, 100] : Str)) hAy1 (fun b hb => (hFy1 b hb).2) (by first | omega | (simp only [List.length_append, List.length_cons, List.length_nil]; omega)) (by first | omega | decide)) ?_)
      rintro _ w4 ⟨rfl, hm3, F1, hA1, hF1⟩
      have hS10 : St (fun _ => False) (fun _ => False) w0 w4 [bkR b1 [v_c_words, v_c_cuts, .int .i64 c.workers, .int .i64 c.copies, .int .i64 c.slots, .int .i64 c.batch, .int .i64 c.lease, .int .i64 c.hedge, .int .i64 c.first, .int .i64 c.cap, .int .i64 c.jitter, .int .i64 c.net] 30, bdR 5 76 b2 ([.bool false]) ((tx ++ ([119, 111, 114, 100] : Str)))] := hky1 _ _ _ hm3 hA1 hF1
      clear hky1 hA1
      refine OL.nil ?_
      refine r_seq ?_
      refine r_region ?_
      refine OL.q (Q1.move rfl) rfl rfl ?_
      refine OL.q (Q1.move rfl) rfl rfl ?_
      obtain ⟨Fy2, hAy2, hFy2, hky2⟩ := hS10.act (i := 1) rfl
      refine OL.act rfl rfl (AW.callF cl33 rfl (pquoted_c (w0 := w4) x1 hAy2 (fun b hb => (hFy2 b hb).2) (by first | omega | (simp only [List.length_append, List.length_cons, List.length_nil]; omega)) (by first | omega | assumption)) ?_)
      rintro _ w5 ⟨rfl, hm4, F2, hA2, hF2⟩
      have hS11 : St (fun _ => False) (fun _ => False) w0 w5 [bkR b1 [v_c_words, v_c_cuts, .int .i64 c.workers, .int .i64 c.copies, .int .i64 c.slots, .int .i64 c.batch, .int .i64 c.lease, .int .i64 c.hedge, .int .i64 c.first, .int .i64 c.cap, .int .i64 c.jitter, .int .i64 c.net] 30, bdR 5 76 b2 ([.bool false]) (((tx ++ ([119, 111, 114, 100] : Str)) ++ (32 :: quoteM x1)))] := hky2 _ _ _ hm4 hA2 hF2
      clear hky2 hA2
      refine OL.nil ?_
      refine r_region ?_
      refine OL.q (Q1.move rfl) rfl rfl ?_
      obtain ⟨Fy3, hAy3, hFy3, hky3⟩ := hS11.act (i := 1) rfl
      refine OL.act rfl rfl (AW.callF cl34 rfl (pend_c (w0 := w5)  hAy3 (fun b hb => (hFy3 b hb).2) (by first | omega | (simp only [List.length_append, List.length_cons, List.length_nil]; omega)) ) ?_)
      rintro _ w6 ⟨rfl, hm5, F3, hA3, hF3⟩
      have hS12 : St (fun _ => False) (fun _ => False) w0 w6 [bkR b1 [v_c_words, v_c_cuts, .int .i64 c.workers, .int .i64 c.copies, .int .i64 c.slots, .int .i64 c.batch, .int .i64 c.lease, .int .i64 c.hedge, .int .i64 c.first, .int .i64 c.cap, .int .i64 c.jitter, .int .i64 c.net] 30, bdR 5 76 b2 ([.bool false]) ((((tx ++ ([119, 111, 114, 100] : Str)) ++ (32 :: quoteM x1)) ++ [10]))] := hky3 _ _ _ hm5 hA3 hF3
      clear hky3 hA3
      refine OL.nil ?_
      refine r_inBlock ?_
      refine r_region ?_
      refine OL.q (Q1.addI (((i + 1 : Nat) : Int)) rfl rfl (by omega)) rfl rfl ?_
      refine OL.q (Q1.move rfl) rfl rfl ?_
      refine OL.nil ?_
      exact (ih1 _ _ _ ⟨(i + 1 : Nat), ((((tx ++ ([119, 111, 114, 100] : Str)) ++ (32 :: quoteM x1)) ++ [10]) : Str), rfl, rfl, hS12, (by first | omega | (exfalso; omega)), (by first | rw [htx, wT_step hx1]; simp [wordB, wWord] | (exfalso; omega)), (by first | (have hql := quote_len x1; simp only [List.length_append, List.length_cons, List.length_nil]; omega) | (exfalso; omega))⟩ (by omega)).sub ⟨rfl, rfl, rfl, rfl, rfl, rfl, trivial⟩
    | false =>
      replace hb3 := of_decide_eq_false hb3.symm
      refine r_cond_f rfl ?_
      refine r_exit rfl ?_
      refine r_seq ?_
      refine r_seq ?_
      refine r_region ?_
      refine OL.q (Q1.fieldAddr fl30_1 rfl) rfl rfl ?_
      have f3 := hS9.bk (i := 0) rfl
      refine OL.q (Q1.load1 ti28 rfl (fun _ e => e ▸ (f3.cell 1 _ rfl))) rfl rfl ?_
      have f4 := hS9.out h_c_cuts (fun _ _ h => h)
      refine OL.q (Q1.lenSl Tryd.underlying28 (f4) rfl) rfl rfl ?_
      refine OL.q (Q1.move rfl) rfl rfl ?_
      refine OL.nil ?_
      refine r_block ?_
      refine r_loop (I := fun m E W => ∃ (j : Nat) (tx2 : Str) (bd : Bool), E = [(1, v_es), (2, ptr b1 0), (6, ptr b2 0), (31, v_c_cuts), (32, .int .i64 (((c.cuts.length : Nat) : Int))), (33, .int .i64 (((j : Nat) : Int)))] ∧ m = c.cuts.length - j ∧ St (fun _ => False) (fun _ => False) w0 W [bkR b1 [v_c_words, v_c_cuts, .int .i64 c.workers, .int .i64 c.copies, .int .i64 c.slots, .int .i64 c.batch, .int .i64 c.lease, .int .i64 c.hedge, .int .i64 c.first, .int .i64 c.cap, .int .i64 c.jitter, .int .i64 c.net] 30, bdR 5 76 b2 ([.bool bd]) tx2] ∧ (j ≤ c.cuts.length) ∧ (tx2 = wT c.words ++ cT (c.cuts.take j)) ∧ (bd = (c.cuts.take j).any fun k => badN k.len) ∧ (tx2.length ≤ 40000000000 + j * 300041)) ?_ ?_
      · refine ⟨_, _, ⟨(0 : Nat), (tx : Str), (false : Bool), rfl, rfl, hS9, (by omega), (by rw [htx, List.take_of_length_le (by omega)]; simp [cT]), (by rfl), (by omega)⟩, ⟨rfl, rfl, rfl, rfl, rfl, rfl, trivial⟩⟩
      · rintro _ _ w4 ⟨j, tx2, bd, rfl, rfl, hS10, hjl, htx2, hbc, htl2⟩ ih2
        refine r_seq ?_
        refine r_region ?_
        refine OL.qb (Q1.lt rfl rfl) rfl rfl ?_
        intro b4 hb4
        refine OL.nil ?_
        refine r_seq ?_
        cases b4 with
        | true =>
          replace hb4 := of_decide_eq_true hb4.symm
          refine r_cond_t rfl ?_
          refine r_skip ?_
          refine r_seq ?_
          refine r_block ?_
          refine r_seq ?_
          refine r_region ?_
          have f5 := hS10.out h_c_cuts (fun _ _ h => h)
          obtain ⟨x1, b5, o1, hx1, hr1, hl1, hw1⟩ := Sl.atF (P := Tryd.prog) f5 Tryd.underlying28 ti72 encKey_len (k := .i64) (n := ((j : Nat) : Int)) (j) (by omega) (by first | assumption | omega)
          refine OL.q (Q1.indexAddr rfl rfl hr1) rfl rfl ?_
          refine OL.q (Q1.loadN ti72 rfl (fun _ e => e ▸ hw1) rfl) rfl rfl ?_
          have hxl := (hpr.cs _ (List.mem_of_getElem? hx1)).2
          have hcbl := cutB_len (hpr.cs _ (List.mem_of_getElem? hx1)).1 hxl
          have hql := quote_len x1.text
          refine OL.act rfl rfl (AW.alloc ti72 ?_)
          intro w5 b6 hm3 hb5 hz3 hk3
          have hS11 := hS10.ext hm3
          have hS12 : St (fun _ => False) (fun _ => False) w0 w5 [bkR b1 [v_c_words, v_c_cuts, .int .i64 c.workers, .int .i64 c.copies, .int .i64 c.slots, .int .i64 c.batch, .int .i64 c.lease, .int .i64 c.hedge, .int .i64 c.first, .int .i64 c.cap, .int .i64 c.jitter, .int .i64 c.net] 30, bdR 5 76 b2 ([.bool bd]) tx2, bkR b6 [.int .i64 0, strV []] 72] := hS10.newBk hm3 hb5 hk3
          have f6 := hS12.bk (i := 2) rfl
          refine OL.act rfl rfl (AW.store ti72 rfl rfl rfl rfl rfl f6 (Nat.le_of_ble_eq_true rfl) ?_)
          intro w6 hm4 hz4 hk4
          have hS13 : St (fun _ => False) (fun _ => False) w0 w6 [bkR b1 [v_c_words, v_c_cuts, .int .i64 c.workers, .int .i64 c.copies, .int .i64 c.slots, .int .i64 c.batch, .int .i64 c.lease, .int .i64 c.hedge, .int .i64 c.first, .int .i64 c.cap, .int .i64 c.jitter, .int .i64 c.net] 30, bdR 5 76 b2 ([.bool bd]) tx2, bkR b6 [.int .i64 x1.len, strV x1.text] 72] := hS12.bkK (i := 2) rfl hm4 hk4
          refine OL.nil ?_
          refine r_seq ?_
          refine r_region ?_
          refine OL.q (Q1.move rfl) rfl rfl ?_
          obtain ⟨Fy1, hAy1, hFy1, hky1⟩ := hS13.act (i := 1) rfl
          refine OL.act rfl rfl (AW.callF cl32 rfl (pword_c_ (w0 := w6) (([99, 117, 116] : Str)) hAy1 (fun b hb => (hFy1 b hb).2) (by first | omega | (simp only [List.length_append, List.length_cons, List.length_nil]; omega)) (by first | omega | decide)) ?_)
          rintro _ w7 ⟨rfl, hm5, F1, hA1, hF1⟩
          have hS14 : St (fun _ => False) (fun _ => False) w0 w7 [bkR b1 [v_c_words, v_c_cuts, .int .i64 c.workers, .int .i64 c.copies, .int .i64 c.slots, .int .i64 c.batch, .int .i64 c.lease, .int .i64 c.hedge, .int .i64 c.first, .int .i64 c.cap, .int .i64 c.jitter, .int .i64 c.net] 30, bdR 5 76 b2 ([.bool bd]) ((tx2 ++ ([99, 117, 116] : Str))), bkR b6 [.int .i64 x1.len, strV x1.text] 72] := hky1 _ _ _ hm5 hA1 hF1
          clear hky1 hA1
          refine OL.nil ?_
          refine r_seq ?_
          refine r_region ?_
          refine OL.q (Q1.move rfl) rfl rfl ?_
          refine OL.q (Q1.fieldAddr fl72_0 rfl) rfl rfl ?_
          have f7 := hS14.bk (i := 2) rfl
          refine OL.q (Q1.load1 ti3 rfl (fun _ e => e ▸ (f7.cell 0 _ rfl))) rfl rfl ?_
          refine OL.act rfl rfl (AW.buildSlice [(.int .i64 x1.len : Value)] Tryd.underlying82 ti3 rfl rfl rfl (by decide) ?_)
          intro w8 b7 hm6 hb6 hz5 hk5
          have hS15 := hS14.ext hm6
          have hl2 := Sl.of_blk (enc := Ik.encI) hk5 ([x1.len] : List Int) 1 rfl rfl (by unfold maxLen; omega)
          have hS16 : St (fun _ => False) (fun _ => False) w0 w8 [bkR b1 [v_c_words, v_c_cuts, .int .i64 c.workers, .int .i64 c.copies, .int .i64 c.slots, .int .i64 c.batch, .int .i64 c.lease, .int .i64 c.hedge, .int .i64 c.first, .int .i64 c.cap, .int .i64 c.jitter, .int .i64 c.net] 30, bdR 5 76 b2 ([.bool bd]) ((tx2 ++ ([99, 117, 116] : Str))), bkR b6 [.int .i64 x1.len, strV x1.text] 72, slR Ik.encI [((.slice (some ⟨b7, 0, none⟩) 1 1), [x1.len])]] := hS14.newSlB hm6 hb6 hz5 hl2
          obtain ⟨Fy2, Gy1, hAy2, hGy1, hap1, hFy2, hGl1, hky2⟩ := hS16.act2 (i := 1) (j := 3) rfl rfl (by decide)
          have hsl1 := slR_one hGy1
          have hnq1 : ∀ n ∈ ([x1.len] : List Int), I64 n := by (intro n hn; simp at hn; subst hn; exact (hpr.cs _ (List.mem_of_getElem? hx1)).1)
          refine OL.act rfl rfl (AW.callF cl35 rfl (pnums_c (w0 := w8) hAy2 (fun b hb => (hFy2 b hb).2) (by first | omega | (simp only [List.length_append, List.length_cons, List.length_nil]; omega)) (hG.keep hgp hS16.mod hFg) (glob_no hG hgp hFg hFy2) hsl1 (fun b hb => hb.elim (hap1 b) (fun h => h.elim)) hnq1 (by first | exact Nat.le_of_ble_eq_true rfl | omega)) ?_)
          rintro _ w9 ⟨rfl, hm7, F2, hA2, hF2⟩
          have hS17 : St (fun _ => False) (fun _ => False) w0 w9 [bkR b1 [v_c_words, v_c_cuts, .int .i64 c.workers, .int .i64 c.copies, .int .i64 c.slots, .int .i64 c.batch, .int .i64 c.lease, .int .i64 c.hedge, .int .i64 c.first, .int .i64 c.cap, .int .i64 c.jitter, .int .i64 c.net] 30, bdR 5 76 b2 ([.bool ((bd || [x1.len].any badN))]) (((tx2 ++ ([99, 117, 116] : Str)) ++ numsP [x1.len])), bkR b6 [.int .i64 x1.len, strV x1.text] 72, slR Ik.encI [((.slice (some ⟨b7, 0, none⟩) 1 1), [x1.len])]] := hky2 _ _ _ hm7 hA2 hF2
          clear hky2 hA2
          have hnpl1 := numsP_len hnq1
          simp only [List.length_cons, List.length_nil] at hnpl1
          refine OL.nil ?_
          refine r_seq ?_
          refine r_region ?_
          refine OL.q (Q1.move rfl) rfl rfl ?_
          refine OL.q (Q1.fieldAddr fl72_1 rfl) rfl rfl ?_
          have f8 := hS17.bk (i := 2) rfl
          refine OL.q (Q1.load1 ti9 rfl (fun _ e => e ▸ (f8.cell 1 _ rfl))) rfl rfl ?_
          obtain ⟨Fy3, hAy3, hFy3, hky3⟩ := hS17.act (i := 1) rfl
          refine OL.act rfl rfl (AW.callF cl33 rfl (pquoted_c (w0 := w9) x1.text hAy3 (fun b hb => (hFy3 b hb).2) (by first | omega | (simp only [List.length_append, List.length_cons, List.length_nil]; omega)) (by first | omega | assumption)) ?_)
          rintro _ w10 ⟨rfl, hm8, F3, hA3, hF3⟩
          have hS18 : St (fun _ => False) (fun _ => False) w0 w10 [bkR b1 [v_c_words, v_c_cuts, .int .i64 c.workers, .int .i64 c.copies, .int .i64 c.slots, .int .i64 c.batch, .int .i64 c.lease, .int .i64 c.hedge, .int .i64 c.first, .int .i64 c.cap, .int .i64 c.jitter, .int .i64 c.net] 30, bdR 5 76 b2 ([.bool ((bd || [x1.len].any badN))]) ((((tx2 ++ ([99, 117, 116] : Str)) ++ numsP [x1.len]) ++ (32 :: quoteM x1.text))), bkR b6 [.int .i64 x1.len, strV x1.text] 72, slR Ik.encI [((.slice (some ⟨b7, 0, none⟩) 1 1), [x1.len])]] := hky3 _ _ _ hm8 hA3 hF3
          clear hky3 hA3
          refine OL.nil ?_
          refine r_region ?_
          refine OL.q (Q1.move rfl) rfl rfl ?_
          obtain ⟨Fy4, hAy4, hFy4, hky4⟩ := hS18.act (i := 1) rfl
          refine OL.act rfl rfl (AW.callF cl34 rfl (pend_c (w0 := w10)  hAy4 (fun b hb => (hFy4 b hb).2) (by first | omega | (simp only [List.length_append, List.length_cons, List.length_nil]; omega)) ) ?_)
          rintro _ w11 ⟨rfl, hm9, F4, hA4, hF4⟩
          have hS19 : St (fun _ => False) (fun _ => False) w0 w11 [bkR b1 [v_c_words, v_c_cuts, .int .i64 c.workers, .int .i64 c.copies, .int .i64 c.slots, .int .i64 c.batch, .int .i64 c.lease, .int .i64 c.hedge, .int .i64 c.first, .int .i64 c.cap, .int .i64 c.jitter, .int .i64 c.net] 30, bdR 5 76 b2 ([.bool ((bd || [x1.len].any badN))]) (((((tx2 ++ ([99, 117, 116] : Str)) ++ numsP [x1.len]) ++ (32 :: quoteM x1.text)) ++ [10])), bkR b6 [.int .i64 x1.len, strV x1.text] 72, slR Ik.encI [((.slice (some ⟨b7, 0, none⟩) 1 1), [x1.len])]] := hky4 _ _ _ hm9 hA4 hF4
          clear hky4 hA4
          refine OL.nil ?_
          refine r_inBlock ?_
          refine r_region ?_
          refine OL.q (Q1.addI (((j + 1 : Nat) : Int)) rfl rfl (by omega)) rfl rfl ?_
          refine OL.q (Q1.move rfl) rfl rfl ?_
          refine OL.nil ?_
          have hS20 : St (fun _ => False) (fun _ => False) w0 w11 [bkR b1 [v_c_words, v_c_cuts, .int .i64 c.workers, .int .i64 c.copies, .int .i64 c.slots, .int .i64 c.batch, .int .i64 c.lease, .int .i64 c.hedge, .int .i64 c.first, .int .i64 c.cap, .int .i64 c.jitter, .int .i64 c.net] 30, bdR 5 76 b2 ([.bool ((bd || [x1.len].any badN))]) (((((tx2 ++ ([99, 117, 116] : Str)) ++ numsP [x1.len]) ++ (32 :: quoteM x1.text)) ++ [10]))] := hS19.sel [0, 1] (by rfl) (by decide)
          exact (ih2 _ _ _ ⟨(j + 1 : Nat), (((((tx2 ++ ([99, 117, 116] : Str)) ++ numsP [x1.len]) ++ (32 :: quoteM x1.text)) ++ [10]) : Str), ((bd || [x1.len].any badN) : Bool), rfl, rfl, hS20, (by first | omega | (exfalso; omega)), (by first | rw [htx2, cT_step hx1]; simp [cutB, wCut] | (exfalso; omega)), (by first | exact cb_step hbc hx1 rfl | (exfalso; omega)), (by first | (have hql := quote_len x1.text; simp only [List.length_append, List.length_cons, List.length_nil] at hnpl1 ⊢; omega) | (exfalso; omega))⟩ (by omega)).sub ⟨rfl, rfl, rfl, rfl, rfl, rfl, trivial⟩
        | false =>
          replace hb4 := of_decide_eq_false hb4.symm
          refine r_cond_f rfl ?_
          refine r_exit rfl ?_
          refine r_seq ?_
          refine r_region ?_
          refine OL.q (Q1.move rfl) rfl rfl ?_
          obtain ⟨Fy1, hAy1, hFy1, hky1⟩ := hS10.act (i := 1) rfl
          refine OL.act rfl rfl (AW.callF cl32 rfl (pword_c_ (w0 := w4) (([115, 101, 116] : Str)) hAy1 (fun b hb => (hFy1 b hb).2) (by first | omega | (simp only [List.length_append, List.length_cons, List.length_nil]; omega)) (by first | omega | decide)) ?_)
          rintro _ w5 ⟨rfl, hm3, F1, hA1, hF1⟩
          have hS11 : St (fun _ => False) (fun _ => False) w0 w5 [bkR b1 [v_c_words, v_c_cuts, .int .i64 c.workers, .int .i64 c.copies, .int .i64 c.slots, .int .i64 c.batch, .int .i64 c.lease, .int .i64 c.hedge, .int .i64 c.first, .int .i64 c.cap, .int .i64 c.jitter, .int .i64 c.net] 30, bdR 5 76 b2 ([.bool bd]) ((tx2 ++ ([115, 101, 116] : Str)))] := hky1 _ _ _ hm3 hA1 hF1
          clear hky1 hA1
          refine OL.nil ?_
          refine r_seq ?_
          refine r_region ?_
          refine OL.q (Q1.move rfl) rfl rfl ?_
          refine OL.q (Q1.fieldAddr fl30_2 rfl) rfl rfl ?_
          have f5 := hS11.bk (i := 0) rfl
          refine OL.q (Q1.load1 ti3 rfl (fun _ e => e ▸ (f5.cell 2 _ rfl))) rfl rfl ?_
          refine OL.q (Q1.fieldAddr fl30_3 rfl) rfl rfl ?_
          refine OL.q (Q1.load1 ti3 rfl (fun _ e => e ▸ (f5.cell 3 _ rfl))) rfl rfl ?_
          refine OL.q (Q1.fieldAddr fl30_4 rfl) rfl rfl ?_
          refine OL.q (Q1.load1 ti3 rfl (fun _ e => e ▸ (f5.cell 4 _ rfl))) rfl rfl ?_
          refine OL.q (Q1.fieldAddr fl30_5 rfl) rfl rfl ?_
          refine OL.q (Q1.load1 ti3 rfl (fun _ e => e ▸ (f5.cell 5 _ rfl))) rfl rfl ?_
          refine OL.q (Q1.fieldAddr fl30_6 rfl) rfl rfl ?_
          refine OL.q (Q1.load1 ti3 rfl (fun _ e => e ▸ (f5.cell 6 _ rfl))) rfl rfl ?_
          refine OL.q (Q1.fieldAddr fl30_7 rfl) rfl rfl ?_
          refine OL.q (Q1.load1 ti3 rfl (fun _ e => e ▸ (f5.cell 7 _ rfl))) rfl rfl ?_
          refine OL.q (Q1.fieldAddr fl30_8 rfl) rfl rfl ?_
          refine OL.q (Q1.load1 ti3 rfl (fun _ e => e ▸ (f5.cell 8 _ rfl))) rfl rfl ?_
          refine OL.q (Q1.fieldAddr fl30_9 rfl) rfl rfl ?_
          refine OL.q (Q1.load1 ti3 rfl (fun _ e => e ▸ (f5.cell 9 _ rfl))) rfl rfl ?_
          refine OL.q (Q1.fieldAddr fl30_10 rfl) rfl rfl ?_
          refine OL.q (Q1.load1 ti3 rfl (fun _ e => e ▸ (f5.cell 10 _ rfl))) rfl rfl ?_
          refine OL.q (Q1.fieldAddr fl30_11 rfl) rfl rfl ?_
          refine OL.q (Q1.load1 ti3 rfl (fun _ e => e ▸ (f5.cell 11 _ rfl))) rfl rfl ?_
          refine OL.act rfl rfl (AW.buildSlice [(.int .i64 c.workers : Value), (.int .i64 c.copies : Value), (.int .i64 c.slots : Value), (.int .i64 c.batch : Value), (.int .i64 c.lease : Value), (.int .i64 c.hedge : Value), (.int .i64 c.first : Value), (.int .i64 c.cap : Value), (.int .i64 c.jitter : Value), (.int .i64 c.net : Value)] Tryd.underlying82 ti3 rfl rfl rfl (by decide) ?_)
          intro w6 b5 hm4 hb5 hz3 hk3
          have hS12 := hS11.ext hm4
          have hl1 := Sl.of_blk (enc := Ik.encI) hk3 ([c.workers, c.copies, c.slots, c.batch, c.lease, c.hedge, c.first, c.cap, c.jitter, c.net] : List Int) 10 rfl rfl (by unfold maxLen; omega)
          have hS13 : St (fun _ => False) (fun _ => False) w0 w6 [bkR b1 [v_c_words, v_c_cuts, .int .i64 c.workers, .int .i64 c.copies, .int .i64 c.slots, .int .i64 c.batch, .int .i64 c.lease, .int .i64 c.hedge, .int .i64 c.first, .int .i64 c.cap, .int .i64 c.jitter, .int .i64 c.net] 30, bdR 5 76 b2 ([.bool bd]) ((tx2 ++ ([115, 101, 116] : Str))), slR Ik.encI [((.slice (some ⟨b5, 0, none⟩) 10 10), [c.workers, c.copies, c.slots, c.batch, c.lease, c.hedge, c.first, c.cap, c.jitter, c.net])]] := hS11.newSlB hm4 hb5 hz3 hl1
          obtain ⟨Fy2, Gy1, hAy2, hGy1, hap1, hFy2, hGl1, hky2⟩ := hS13.act2 (i := 1) (j := 2) rfl rfl (by decide)
          have hsl1 := slR_one hGy1
          have hnq1 : ∀ n ∈ ([c.workers, c.copies, c.slots, c.batch, c.lease, c.hedge, c.first, c.cap, c.jitter, c.net] : List Int), I64 n := by exact hpr.ns
          refine OL.act rfl rfl (AW.callF cl35 rfl (pnums_c (w0 := w6) hAy2 (fun b hb => (hFy2 b hb).2) (by first | omega | (simp only [List.length_append, List.length_cons, List.length_nil]; omega)) (hG.keep hgp hS13.mod hFg) (glob_no hG hgp hFg hFy2) hsl1 (fun b hb => hb.elim (hap1 b) (fun h => h.elim)) hnq1 (by first | exact Nat.le_of_ble_eq_true rfl | omega)) ?_)
          rintro _ w7 ⟨rfl, hm5, F2, hA2, hF2⟩
          have hS14 : St (fun _ => False) (fun _ => False) w0 w7 [bkR b1 [v_c_words, v_c_cuts, .int .i64 c.workers, .int .i64 c.copies, .int .i64 c.slots, .int .i64 c.batch, .int .i64 c.lease, .int .i64 c.hedge, .int .i64 c.first, .int .i64 c.cap, .int .i64 c.jitter, .int .i64 c.net] 30, bdR 5 76 b2 ([.bool ((bd || ([c.workers, c.copies, c.slots, c.batch, c.lease, c.hedge, c.first, c.cap, c.jitter, c.net]).any badN))]) (((tx2 ++ ([115, 101, 116] : Str)) ++ numsP ([c.workers, c.copies, c.slots, c.batch, c.lease, c.hedge, c.first, c.cap, c.jitter, c.net]))), slR Ik.encI [((.slice (some ⟨b5, 0, none⟩) 10 10), [c.workers, c.copies, c.slots, c.batch, c.lease, c.hedge, c.first, c.cap, c.jitter, c.net])]] := hky2 _ _ _ hm5 hA2 hF2
          clear hky2 hA2
          have hnpl1 := numsP_len hnq1
          simp only [List.length_cons, List.length_nil] at hnpl1
          refine OL.nil ?_
          refine r_seq ?_
          refine r_region ?_
          refine OL.q (Q1.move rfl) rfl rfl ?_
          obtain ⟨Fy3, hAy3, hFy3, hky3⟩ := hS14.act (i := 1) rfl
          refine OL.act rfl rfl (AW.callF cl34 rfl (pend_c (w0 := w7)  hAy3 (fun b hb => (hFy3 b hb).2) (by first | omega | (simp only [List.length_append, List.length_cons, List.length_nil]; omega)) ) ?_)
          rintro _ w8 ⟨rfl, hm6, F3, hA3, hF3⟩
          have hS15 : St (fun _ => False) (fun _ => False) w0 w8 [bkR b1 [v_c_words, v_c_cuts, .int .i64 c.workers, .int .i64 c.copies, .int .i64 c.slots, .int .i64 c.batch, .int .i64 c.lease, .int .i64 c.hedge, .int .i64 c.first, .int .i64 c.cap, .int .i64 c.jitter, .int .i64 c.net] 30, bdR 5 76 b2 ([.bool ((bd || ([c.workers, c.copies, c.slots, c.batch, c.lease, c.hedge, c.first, c.cap, c.jitter, c.net]).any badN))]) ((((tx2 ++ ([115, 101, 116] : Str)) ++ numsP ([c.workers, c.copies, c.slots, c.batch, c.lease, c.hedge, c.first, c.cap, c.jitter, c.net])) ++ [10])), slR Ik.encI [((.slice (some ⟨b5, 0, none⟩) 10 10), [c.workers, c.copies, c.slots, c.batch, c.lease, c.hedge, c.first, c.cap, c.jitter, c.net])]] := hky3 _ _ _ hm6 hA3 hF3
          clear hky3 hA3
          refine OL.nil ?_
          refine r_seq ?_
          refine r_seq ?_
          refine r_region ?_
          refine OL.q (Q1.move rfl) rfl rfl ?_
          have f6 := hS15.out h_es (fun _ _ h => h)
          refine OL.q (Q1.lenSl Tryd.underlying31 (f6) rfl) rfl rfl ?_
          refine OL.q (Q1.move rfl) rfl rfl ?_
          refine OL.nil ?_
          refine r_block ?_
          have hS17 : St (fun _ => False) (fun _ => False) w0 w8 [bdR 5 76 b2 ([.bool ((bd || ([c.workers, c.copies, c.slots, c.batch, c.lease, c.hedge, c.first, c.cap, c.jitter, c.net]).any badN))]) ((((tx2 ++ ([115, 101, 116] : Str)) ++ numsP ([c.workers, c.copies, c.slots, c.batch, c.lease, c.hedge, c.first, c.cap, c.jitter, c.net])) ++ [10]))] := hS15.sel [1] (by rfl) (by decide)
          refine r_loop (I := fun m E W => ∃ (k : Nat) (tx3 : Str) (be : Bool), E = [(6, ptr b2 0), (78, v_es), (79, .int .i64 (((es.length : Nat) : Int))), (80, .int .i64 (((k : Nat) : Int)))] ∧ m = es.length - k ∧ St (fun _ => False) (fun _ => False) w0 W [bdR 5 76 b2 ([.bool be]) tx3] ∧ (k ≤ es.length) ∧ (tx3 = wT c.words ++ cT c.cuts ++ (setB c ++ [10]) ++ eT (es.take k)) ∧ (be = ((c.cuts.any (fun k => badN k.len) || (setNums c).any badN) || (es.take k).any badE)) ∧ (tx3.length ≤ 80000000000 + k * 300101)) ?_ ?_
          · refine ⟨_, _, ⟨(0 : Nat), ((((tx2 ++ ([115, 101, 116] : Str)) ++ numsP ([c.workers, c.copies, c.slots, c.batch, c.lease, c.hedge, c.first, c.cap, c.jitter, c.net])) ++ [10]) : Str), ((bd || ([c.workers, c.copies, c.slots, c.batch, c.lease, c.hedge, c.first, c.cap, c.jitter, c.net]).any badN) : Bool), rfl, rfl, hS17, (by omega), (by rw [htx2, List.take_of_length_le (by omega)]; simp [eT, setB, wSet, setNums]), (by rw [hbc, List.take_of_length_le (by omega)]; simp [setNums]), (by (simp only [List.length_append, List.length_cons, List.length_nil] at hnpl1 ⊢; omega))⟩, ⟨rfl, rfl, rfl, rfl, trivial⟩⟩
          · rintro _ _ w9 ⟨k, tx3, be, rfl, rfl, hS16, hkl, htx3, hbe, htl3⟩ ih3
            refine r_seq ?_
            refine r_region ?_
            refine OL.qb (Q1.lt rfl rfl) rfl rfl ?_
            intro b6 hb6
            refine OL.nil ?_
            refine r_seq ?_
            cases b6 with
            | true =>
              replace hb6 := of_decide_eq_true hb6.symm
              refine r_cond_t rfl ?_
              refine r_skip ?_
              refine r_seq ?_
              refine r_block ?_
              refine r_seq ?_
              refine r_region ?_
              have f7 := hS16.out h_es (fun _ _ h => h)
              obtain ⟨x1, b7, o1, hx1, hr1, hl2, hw1⟩ := Sl.atF (P := Tryd.prog) f7 Tryd.underlying31 ti50 encEvt_len (k := .i64) (n := ((k : Nat) : Int)) (k) (by omega) (by first | assumption | omega)
              refine OL.q (Q1.indexAddr rfl rfl hr1) rfl rfl ?_
              refine OL.q (Q1.loadN ti50 rfl (fun _ e => e ▸ hw1) rfl) rfl rfl ?_
              have hev := hpr.evs _ (List.mem_of_getElem? hx1)
              have hebl := evB_len hev
              refine OL.act rfl rfl (AW.alloc ti50 ?_)
              intro w10 b8 hm7 hb7 hz4 hk4
              have hS18 := hS16.ext hm7
              have hS19 : St (fun _ => False) (fun _ => False) w0 w10 [bdR 5 76 b2 ([.bool be]) tx3, bkR b8 [.int .i64 0, .int .i64 0, .int .i64 0, .int .i64 0, strV [], .int .i64 0, .int .i64 0] 50] := hS16.newBk hm7 hb7 hk4
              have f8 := hS19.bk (i := 1) rfl
              refine OL.act rfl rfl (AW.store ti50 rfl rfl rfl rfl rfl f8 (Nat.le_of_ble_eq_true rfl) ?_)
              intro w11 hm8 hz5 hk5
              have hS20 : St (fun _ => False) (fun _ => False) w0 w11 [bdR 5 76 b2 ([.bool be]) tx3, bkR b8 [.int .i64 x1.kind, .int .i64 x1.node, .int .i64 x1.at_, .int .i64 x1.x, strV x1.q.text, .int .i64 x1.q.k, .int .i64 x1.q.n] 50] := hS19.bkK (i := 1) rfl hm8 hk5
              refine OL.nil ?_
              refine r_region ?_
              refine OL.q (Q1.move rfl) rfl rfl ?_
              have f9 := hS20.bk (i := 1) rfl
              refine OL.q (Q1.loadN ti50 rfl (fun _ e => e ▸ f9.row) rfl) rfl rfl ?_
              obtain ⟨Fy4, hAy4, hFy4, hky4⟩ := hS20.act (i := 0) rfl
              refine OL.act rfl rfl (AW.callF cl36 rfl (pevent_c (w0 := w11) (e := x1) hAy4 (fun b hb => (hFy4 b hb).2) (by first | omega | (simp only [List.length_append, List.length_cons, List.length_nil]; omega)) (hG.keep hgp hS20.mod hFg) (glob_no hG hgp hFg hFy4) (by assumption)) ?_)
              rintro _ w12 ⟨rfl, hm9, F4, hA4, hF4⟩
              have hS21 : St (fun _ => False) (fun _ => False) w0 w12 [bdR 5 76 b2 ([.bool ((be || badE x1))]) ((tx3 ++ (evB x1 ++ [10]))), bkR b8 [.int .i64 x1.kind, .int .i64 x1.node, .int .i64 x1.at_, .int .i64 x1.x, strV x1.q.text, .int .i64 x1.q.k, .int .i64 x1.q.n] 50] := hky4 _ _ _ hm9 hA4 hF4
              clear hky4 hA4
              refine OL.nil ?_
              refine r_inBlock ?_
              refine r_region ?_
              refine OL.q (Q1.addI (((k + 1 : Nat) : Int)) rfl rfl (by omega)) rfl rfl ?_
              refine OL.q (Q1.move rfl) rfl rfl ?_
              refine OL.nil ?_
              have hS22 : St (fun _ => False) (fun _ => False) w0 w12 [bdR 5 76 b2 ([.bool ((be || badE x1))]) ((tx3 ++ (evB x1 ++ [10])))] := hS21.sel [0] (by rfl) (by decide)
              exact (ih3 _ _ _ ⟨(k + 1 : Nat), ((tx3 ++ (evB x1 ++ [10])) : Str), ((be || badE x1) : Bool), rfl, rfl, hS22, (by first | omega | (exfalso; omega)), (by first | rw [htx3, eT_step hx1]; simp | (exfalso; omega)), (by first | exact eb_step hbe hx1 rfl | (exfalso; omega)), (by first | (simp only [List.length_append, List.length_cons, List.length_nil]; omega) | (exfalso; omega))⟩ (by omega)).sub ⟨rfl, rfl, rfl, rfl, trivial⟩
            | false =>
              replace hb6 := of_decide_eq_false hb6.symm
              refine r_cond_f rfl ?_
              refine r_exit rfl ?_
              refine r_seq ?_
              refine r_block ?_
              refine r_seq ?_
              refine r_region ?_
              have hpb : badPr c es = be := by rw [hbe, List.take_of_length_le (by omega)]; rfl
              have hpt : printT c es = tx3 := by rw [htx3, List.take_of_length_le (by omega)]; exact printT_eq c es
              have hpn : tx3 ≠ [] := hpt ▸ printT_ne c es
              obtain ⟨⟨pb1, vb1⟩, hS18⟩ := hS16.exo (i := 0) rfl
              change St (fun _ => False) (fun _ => False) w0 w9 [andR (pb1 = .pointer none ∨ pb1 = ptr b2 0) (boxR [bkR b2 (pb1 :: vb1 :: [.bool be]) 76, accR encB 5 1 vb1 tx3])] at hS18
              obtain ⟨hpb1, hS19⟩ := hS18.and (i := 0) rfl
              change St (fun _ => False) (fun _ => False) w0 w9 [boxR [bkR b2 (pb1 :: vb1 :: [.bool be]) 76, accR encB 5 1 vb1 tx3]] at hS19
              have hS20 : St (fun _ => False) (fun _ => False) w0 w9 [bkR b2 [pb1, vb1, .bool be] 76, accR encB 5 1 vb1 tx3] := St.open (L1 := []) hS19
              refine OL.q (Q1.move rfl) rfl rfl ?_
              refine OL.q (Q1.nilCheckP rfl) rfl rfl ?_
              refine OL.q (Q1.fieldAddr fl76_1 rfl) rfl rfl ?_
              have f7 := hS20.bk (i := 0) rfl
              refine OL.q (Q1.load1 ti4 rfl (fun _ e => e ▸ (f7.cell 2 _ rfl))) rfl rfl ?_
              refine OL.q (Q1.assign rfl) rfl rfl ?_
              have hS21 : St (fun _ => False) (fun _ => False) w0 w9 [boxR [bkR b2 [pb1, vb1, .bool be] 76, accR encB 5 1 vb1 tx3]] := St.close (L1 := []) hS20
              have hS22 : St (fun _ => False) (fun _ => False) w0 w9 [andR (pb1 = .pointer none ∨ pb1 = ptr b2 0) (boxR [bkR b2 (pb1 :: vb1 :: [.bool be]) 76, accR encB 5 1 vb1 tx3])] := hS21.imp (i := 0) rfl (fun F_ h_ => ⟨hpb1, h_⟩)
              have hS23 : St (fun _ => False) (fun _ => False) w0 w9 [bdR 5 76 b2 ([.bool be]) tx3] := hS22.exi (A := fun pv : Value × Value => andR (pv.1 = .pointer none ∨ pv.1 = ptr b2 0) (boxR [bkR b2 (pv.1 :: pv.2 :: [.bool be]) 76, accR encB 5 1 pv.2 tx3])) (pb1, vb1) (i := 0) rfl
              refine OL.nil ?_
              cases be with
              | true =>
                refine r_cond_t rfl ?_
                refine r_seq ?_
                refine r_region ?_
                refine OL.q (Q1.assign rfl) rfl rfl ?_
                refine OL.q (Q1.assign rfl) rfl rfl ?_
                refine OL.nil ?_
                refine r_ret2 Tryd.func17 rfl rfl rfl ?_
                exact Ret.mk ⟨_, _, rfl, (congrArg strV (by first | rw [pr_bad hpb] | rw [pr_full hpb (hpt ▸ (by omega))] | (rw [pr_ok hpb (hpt ▸ (by omega)), hpt]) | (exfalso; omega))), (congrArg (Value.int .i64) (by first | rw [pr_bad hpb] | rw [pr_full hpb (hpt ▸ (by omega))] | (rw [pr_ok hpb (hpt ▸ (by omega)), hpt]) | (exfalso; omega))), hS23.mod⟩
              | false =>
                refine r_cond_f rfl ?_
                refine r_seq ?_
                refine r_region ?_
                refine OL.q (Q1.move rfl) rfl rfl ?_
                refine OL.q (Q1.nilCheckP rfl) rfl rfl ?_
                refine OL.q (Q1.fieldAddr fl76_0 rfl) rfl rfl ?_
                obtain ⟨Fy4, hAy4, hFy4, hky4⟩ := hS23.act (i := 0) rfl
                refine OL.act rfl rfl (AW.callF cl37 rfl (blen_c (w0 := w9)  hAy4 (fun b hb => (hFy4 b hb).2) (by kernel_rfl) (by first | omega | (simp only [List.length_append, List.length_cons, List.length_nil]; omega)) ) ?_)
                rintro _ w10 ⟨rfl, hm7, F4, hA4, hF4⟩
                have hS24 : St (fun _ => False) (fun _ => False) w0 w10 [bdR 5 76 b2 ([.bool false]) tx3] := hky4 _ _ _ hm7 hA4 hF4
                clear hky4 hA4
                refine OL.qb (Q1.gt rfl rfl) rfl rfl ?_
                intro b7 hb7
                refine OL.q (Q1.assign rfl) rfl rfl ?_
                refine OL.nil ?_
                cases b7 with
                | true =>
                  replace hb7 := of_decide_eq_true hb7.symm
                  refine r_cond_t rfl ?_
                  refine r_seq ?_
                  refine r_region ?_
                  refine OL.q (Q1.assign rfl) rfl rfl ?_
                  refine OL.q (Q1.assign rfl) rfl rfl ?_
                  refine OL.nil ?_
                  refine r_ret2 Tryd.func17 rfl rfl rfl ?_
                  exact Ret.mk ⟨_, _, rfl, (congrArg strV (by first | rw [pr_bad hpb] | rw [pr_full hpb (hpt ▸ (by omega))] | (rw [pr_ok hpb (hpt ▸ (by omega)), hpt]) | (exfalso; omega))), (congrArg (Value.int .i64) (by first | rw [pr_bad hpb] | rw [pr_full hpb (hpt ▸ (by omega))] | (rw [pr_ok hpb (hpt ▸ (by omega)), hpt]) | (exfalso; omega))), hS24.mod⟩
                | false =>
                  replace hb7 := of_decide_eq_false hb7.symm
                  refine r_cond_f rfl ?_
                  refine r_skip ?_
                  refine r_inBlock ?_
                  refine r_seq ?_
                  refine r_region ?_
                  refine OL.q (Q1.move rfl) rfl rfl ?_
                  refine OL.q (Q1.nilCheckP rfl) rfl rfl ?_
                  refine OL.q (Q1.fieldAddr fl76_0 rfl) rfl rfl ?_
                  obtain ⟨Fy5, hAy5, hFy5, hky5⟩ := hS24.act (i := 0) rfl
                  refine OL.act rfl rfl (AW.callF cl25 rfl (bstring_c (w0 := w10) hAy5 (fun b hb => (hFy5 b hb).2) (by first | assumption | simp)) ?_)
                  rintro _ w11 ⟨rfl, hm8⟩
                  have hS25 : St (fun _ => False) (fun _ => False) w0 w11 [noR] := hky5 _ (fun _ => False) noR hm8 trivial (fun _ h => h.elim)
                  clear hky5
                  refine OL.q (Q1.assign rfl) rfl rfl ?_
                  refine OL.q (Q1.assign rfl) rfl rfl ?_
                  refine OL.nil ?_
                  refine r_ret2 Tryd.func17 rfl rfl rfl ?_
                  exact Ret.mk ⟨_, _, rfl, (congrArg strV (by first | rw [pr_bad hpb] | rw [pr_full hpb (hpt ▸ (by omega))] | (rw [pr_ok hpb (hpt ▸ (by omega)), hpt]) | (exfalso; omega))), (congrArg (Value.int .i64) (by first | rw [pr_bad hpb] | rw [pr_full hpb (hpt ▸ (by omega))] | (rw [pr_ok hpb (hpt ▸ (by omega)), hpt]) | (exfalso; omega))), hS25.mod⟩
end Go.Proofs
