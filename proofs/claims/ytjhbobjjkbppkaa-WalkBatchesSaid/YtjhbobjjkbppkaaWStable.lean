/-
  Walks through slices.SortStableFunc on items.
-/
import Derived.Test.YtjhbobjjkbppkaaWRank
set_option linter.unusedVariables false
set_option linter.unusedSimpArgs false
namespace Go.Proofs
open Go.Ik Go.Ml
set_option maxRecDepth 20000 in
set_option maxHeartbeats 4000000 in
theorem swr_c {w0 : World} {F : Nat → Prop} {v : Value} {l : List Itm} {a : Nat} {b : Nat} {n : Nat} (hA : (accR (R := fun _ => False) encItm 24 2 v l).p F w0) (hF : ∀ b, F b → b < w0.heap.size) (hll : l.length ≤ 100000) (hab : a + n ≤ b) (hbl : b + n ≤ l.length) :
    Calls Try.prog 117 #[v, .int .i64 ((a : Nat) : Int), .int .i64 ((b : Nat) : Int), .int .i64 ((n : Nat) : Int), .func (.func 60) #[] #[]] w0 (Ret fun rv w1 => rv = .tuple #[] ∧ Mod F w0 w1 ∧ ∃ l', (SwR a b n l l') ∧ ∃ F2, (accR (R := fun _ => False) encItm 24 2 v l').p F2 w1 ∧ ∀ b, F2 b → b < w1.heap.size ∧ (F b ∨ w0.heap.size ≤ b)) := by
  have hS00 := St.start1 (R := fun _ => False) hA (fun b hb => ⟨hF b hb, id⟩) (fun _ h => h.elim)
  have hS1 : St (fun _ => False) F w0 w0 [accR encItm 24 2 v l] := hS00
  refine calls_enter Try.func117 rfl Try.ntmps117 rfl ?_
  refine r_seq ?_
  refine r_region ?_
  refine OL.q (Q1.assign rfl) rfl rfl ?_
  refine OL.nil ?_
  refine r_block ?_
  refine r_loop (I := fun m E W => ∃ (lc : List Itm) (i : Nat), E = [(0, v), (1, .int .i64 (((a : Nat) : Int))), (2, .int .i64 (((b : Nat) : Int))), (3, .int .i64 (((n : Nat) : Int))), (10, .int .i64 (((i : Nat) : Int)))] ∧ m = n - i ∧ St (fun _ => False) F w0 W [accR encItm 24 2 v lc] ∧ (SwR a b i l lc) ∧ (i ≤ n)) ?_ ?_
  · refine ⟨_, _, ⟨(l : List Itm), (0 : Nat), rfl, rfl, hS1, (by exact SwR.start _ _ _), (by omega)⟩, ⟨rfl, rfl, rfl, rfl, rfl, trivial⟩⟩
  · rintro _ _ w1 ⟨lc, i, rfl, rfl, hS2, hW, hin_⟩ ih1
    have hlc := hW.len
    refine r_seq ?_
    refine r_seq ?_
    refine r_region ?_
    refine OL.q (Q1.move rfl) rfl rfl ?_
    refine OL.q (Q1.move rfl) rfl rfl ?_
    refine OL.qb (Q1.lt rfl rfl) rfl rfl ?_
    intro b1 hb1
    refine OL.nil ?_
    cases b1 with
    | true =>
      replace hb1 := of_decide_eq_true hb1.symm
      refine r_cond_t rfl ?_
      refine r_skip ?_
      refine r_seq ?_
      refine r_block ?_
      refine IkN.r_drawN (fun i => Nat.beq i 21 || Nat.beq i 23) (fun i => Nat.beq i 13 || Nat.beq i 19) 23 (fun _ => True) mixed (by kernel_rfl) (by kernel_rfl) ?_
      intro w2 hm1
      have hS3 := hS2.ext hm1
      refine ⟨trivial, ?_⟩
      rw [show List.range' 0 (Array.size _) = [0, 1, 2, 3, 4, 5, 6, 7, 8, 9, 10, 11, 12, 13, 14, 15, 16, 17, 18, 19, 20, 21, 22, 23] from rfl]
      refine IkN.ON.qc rfl rfl rfl (Q1.move rfl) rfl rfl ?_
      refine IkN.ON.qc rfl rfl rfl (Q1.move rfl) rfl rfl ?_
      refine IkN.ON.qc rfl rfl rfl (Q1.move rfl) rfl rfl ?_
      refine IkN.ON.qc rfl rfl rfl (Q1.addI (((a + i : Nat) : Int)) rfl rfl (by omega)) rfl rfl ?_
      refine IkN.ON.qc rfl rfl rfl (Q1.move rfl) rfl rfl ?_
      refine IkN.ON.qc rfl rfl rfl (Q1.move rfl) rfl rfl ?_
      refine IkN.ON.qc rfl rfl rfl (Q1.move rfl) rfl rfl ?_
      refine IkN.ON.qc rfl rfl rfl (Q1.addI (((b + i : Nat) : Int)) rfl rfl (by omega)) rfl rfl ?_
      refine IkN.ON.qc rfl rfl rfl (Q1.move rfl) rfl rfl ?_
      refine IkN.ON.qc rfl rfl rfl (Q1.move rfl) rfl rfl ?_
      refine IkN.ON.qc rfl rfl rfl (Q1.move rfl) rfl rfl ?_
      refine IkN.ON.qc rfl rfl rfl (Q1.addI (((b + i : Nat) : Int)) rfl rfl (by omega)) rfl rfl ?_
      obtain ⟨g1, f1, hl1, k1⟩ := hS3.accK (i := 0) rfl
      obtain ⟨x1, b2, o1, hx1, hr1, hl2, hw1⟩ := Sl.atF (P := Try.prog) f1.sl Try.underlying31 ti24 encItm_len (k := .i64) (n := ((b + i : Nat) : Int)) (b + i) (by omega) (by first | assumption | omega)
      refine IkN.ON.qc rfl rfl rfl (Q1.indexAddr rfl rfl hr1) rfl rfl ?_
      refine IkN.ON.qn rfl rfl rfl (Q1.loadN ti24 rfl (fun _ e => e ▸ hw1) rfl) rfl rfl ?_
      refine IkN.ON.qc rfl rfl rfl (Q1.move rfl) rfl rfl ?_
      refine IkN.ON.qc rfl rfl rfl (Q1.move rfl) rfl rfl ?_
      refine IkN.ON.qc rfl rfl rfl (Q1.move rfl) rfl rfl ?_
      refine IkN.ON.qc rfl rfl rfl (Q1.addI (((a + i : Nat) : Int)) rfl rfl (by omega)) rfl rfl ?_
      obtain ⟨x2, b3, o2, hx2, hr2, hl3, hw2⟩ := Sl.atF (P := Try.prog) f1.sl Try.underlying31 ti24 encItm_len (k := .i64) (n := ((a + i : Nat) : Int)) (a + i) (by omega) (by first | assumption | omega)
      refine IkN.ON.qc rfl rfl rfl (Q1.indexAddr rfl rfl hr2) rfl rfl ?_
      refine IkN.ON.qn rfl rfl rfl (Q1.loadN ti24 rfl (fun _ e => e ▸ hw2) rfl) rfl rfl ?_
      obtain ⟨hr3, x3, hx3⟩ := Acc.at (P := Try.prog) f1 Try.underlying31 ti24 (k := .i64) (n := ((a + i : Nat) : Int)) (a + i) (by omega) (by first | assumption | omega | (simp; done))
      refine IkN.ON.qc rfl rfl rfl (Q1.indexAddr rfl rfl hr3) rfl rfl ?_
      refine IkN.ON.act rfl rfl rfl rfl (AW.storeA f1 encItm_len (i := (a + i)) (o := 0) hx3 x1 ti24 rfl (by first | omega | rfl) rfl rfl rfl rfl (by decide) (by first | rfl | simp [encItm]) ?_)
      intro w3 hm2 hz1 ha1
      have hl4 : (lc.set (a + i) x1).length = lc.length := List.length_set
      have hS4 : St (fun _ => False) F w0 w3 [accR encItm 24 2 v ((lc.set (a + i) x1))] := k1 _ _ _ _ hm2 ha1 (.inl rfl)
      refine ⟨.inr trivial, ?_⟩
      obtain ⟨g2, f2, hl5, k2⟩ := hS3.accK (i := 0) rfl
      obtain ⟨hr4, x4, hx4⟩ := Acc.at (P := Try.prog) f2 Try.underlying31 ti24 (k := .i64) (n := ((b + i : Nat) : Int)) (b + i) (by omega) (by first | assumption | omega | (simp; done))
      refine IkN.ON.qc rfl rfl rfl (Q1.indexAddr rfl rfl hr4) rfl rfl ?_
      obtain ⟨x5, hx5⟩ : ∃ u, ((lc.set (a + i) x1))[b + i]? = some u := ⟨_, List.getElem?_eq_getElem (by simp only [List.length_set]; omega)⟩
      obtain ⟨g3, f3, hl7, k3⟩ := hS4.accK (i := 0) rfl
      have he1 := Acc.uniq f2 f3
      subst he1
      refine IkN.ON.act rfl rfl rfl rfl (AW.storeA f3 encItm_len (i := (b + i)) (o := 0) hx5 x2 ti24 rfl (by first | omega | rfl) rfl rfl rfl rfl (by decide) (by first | rfl | simp [encItm]) ?_)
      intro w4 hm3 hz2 ha2
      have hl6 : (((lc.set (a + i) x1)).set (b + i) x2).length = ((lc.set (a + i) x1)).length := List.length_set
      have hS5 : St (fun _ => False) F w0 w4 [accR encItm 24 2 v ((((lc.set (a + i) x1)).set (b + i) x2))] := k3 _ _ _ _ hm3 ha2 (.inl rfl)
      refine ⟨.inl rfl, ?_⟩
      refine IkN.ON.nil ?_
      refine r_inBlock ?_
      refine r_region ?_
      refine OL.q (Q1.move rfl) rfl rfl ?_
      refine OL.q (Q1.addI (((i + 1 : Nat) : Int)) rfl rfl (by omega)) rfl rfl ?_
      refine OL.q (Q1.assign rfl) rfl rfl ?_
      refine OL.nil ?_
      exact (ih1 _ _ _ ⟨((((lc.set (a + i) x1)).set (b + i) x2) : List Itm), (i + 1 : Nat), rfl, rfl, hS5, (by first | exact hW.step (by omega) hx2 hx1 | (exfalso; omega)), (by first | omega | (exfalso; omega))⟩ (by omega)).sub ⟨rfl, rfl, rfl, rfl, rfl, trivial⟩
    | false =>
      replace hb1 := of_decide_eq_false hb1.symm
      refine r_cond_f rfl ?_
      refine r_exit rfl ?_
      refine r_end0 Try.func117 rfl ?_
      obtain ⟨hmF, F2r, hAr, hFr⟩ := hS2.fin
      exact Ret.mk ⟨rfl, hmF, lc, (by exact (show i = n from by omega) ▸ hW), F2r, hAr, hFr⟩
set_option maxRecDepth 20000 in
set_option maxHeartbeats 4000000 in
theorem ins_c {w0 : World} {F : Nat → Prop} {v : Value} {l : List Itm} {a : Nat} {b : Nat} (hA : (accR (R := fun _ => False) encItm 24 2 v l).p F w0) (hF : ∀ b, F b → b < w0.heap.size) (hll : l.length ≤ 100000) (hab : a ≤ b) (hbl : b ≤ l.length) :
    Calls Try.prog 105 #[v, .int .i64 ((a : Nat) : Int), .int .i64 ((b : Nat) : Int), .func (.func 60) #[] #[]] w0 (Ret fun rv w1 => rv = .tuple #[] ∧ Mod F w0 w1 ∧ ∃ l', (Seg a b l l' ∧ Srt l' a b) ∧ ∃ F2, (accR (R := fun _ => False) encItm 24 2 v l').p F2 w1 ∧ ∀ b, F2 b → b < w1.heap.size ∧ (F b ∨ w0.heap.size ≤ b)) := by
  have hS00 := St.start1 (R := fun _ => False) hA (fun b hb => ⟨hF b hb, id⟩) (fun _ h => h.elim)
  have hS1 : St (fun _ => False) F w0 w0 [accR encItm 24 2 v l] := hS00
  refine calls_enter Try.func105 rfl Try.ntmps105 rfl ?_
  refine r_seq ?_
  refine r_region ?_
  refine OL.q (Q1.move rfl) rfl rfl ?_
  refine OL.q (Q1.addI (((a + 1 : Nat) : Int)) rfl rfl (by omega)) rfl rfl ?_
  refine OL.q (Q1.assign rfl) rfl rfl ?_
  refine OL.nil ?_
  refine r_block ?_
  refine r_loop (I := fun m E W => ∃ (lc : List Itm) (i : Nat), E = [(0, v), (1, .int .i64 (((a : Nat) : Int))), (2, .int .i64 (((b : Nat) : Int))), (3, .func (.func 60) #[] #[]), (8, .int .i64 (((i : Nat) : Int)))] ∧ m = b + 1 - i ∧ St (fun _ => False) F w0 W [accR encItm 24 2 v lc] ∧ (a + 1 ≤ i) ∧ (i ≤ b ∨ i = a + 1) ∧ (Seg a b l lc) ∧ (Srt lc a i)) ?_ ?_
  · refine ⟨_, _, ⟨(l : List Itm), (a + 1 : Nat), rfl, rfl, hS1, (by omega), (by omega), (by exact Seg.refl _ _ _), (by exact Srt.one _ _ _ (by omega))⟩, ⟨rfl, rfl, rfl, rfl, rfl, trivial⟩⟩
  · rintro _ _ w1 ⟨lc, i, rfl, rfl, hS2, hai, hib, hSga, hO⟩ ih1
    have hlc := hSga.len
    refine r_seq ?_
    refine r_seq ?_
    refine r_region ?_
    refine OL.q (Q1.move rfl) rfl rfl ?_
    refine OL.q (Q1.move rfl) rfl rfl ?_
    refine OL.qb (Q1.lt rfl rfl) rfl rfl ?_
    intro b1 hb1
    refine OL.nil ?_
    cases b1 with
    | true =>
      replace hb1 := of_decide_eq_true hb1.symm
      refine r_cond_t rfl ?_
      refine r_skip ?_
      refine r_seq ?_
      refine r_block ?_
      refine r_seq ?_
      refine r_region ?_
      refine OL.q (Q1.move rfl) rfl rfl ?_
      refine OL.q (Q1.assign rfl) rfl rfl ?_
      refine OL.nil ?_
      refine r_block ?_
      refine r_loop (I := fun m E W => ∃ (ld : List Itm) (j : Nat), E = [(0, v), (1, .int .i64 (((a : Nat) : Int))), (2, .int .i64 (((b : Nat) : Int))), (3, .func (.func 60) #[] #[]), (8, .int .i64 (((i : Nat) : Int))), (9, .int .i64 (((j : Nat) : Int)))] ∧ m = j + 1 ∧ St (fun _ => False) F w0 W [accR encItm 24 2 v ld] ∧ (a ≤ j) ∧ (j ≤ i) ∧ (Seg a b l ld) ∧ (SrtB ld a (i + 1) j)) ?_ ?_
      · refine ⟨_, _, ⟨(lc : List Itm), (i : Nat), rfl, rfl, hS2, (by omega), (by omega), (by exact hSga), (by exact SrtB.start hO)⟩, ⟨rfl, rfl, rfl, rfl, rfl, rfl, trivial⟩⟩
      · rintro _ _ w2 ⟨ld, j, rfl, rfl, hS3, haj, hji, hSgb, hB⟩ ih2
        have hld := hSgb.len
        refine r_seq ?_
        refine r_seq ?_
        refine r_draw1 (fun i => Nat.beq i 14) 17 (fun w' => Mod (Mg 0) w2 w') mixed (by kernel_rfl) ?_
        intro w3 hm1
        have hS4 := hS3.ext hm1
        have hCw3 : Mod (Mg 0) w2 w3 := Mod.ofExt hm1
        refine ⟨hCw3, ?_⟩
        rw [show List.range' 0 (Array.size _) = [0, 1, 2, 3, 4, 5, 6, 7, 8, 9, 10, 11, 12, 13, 14, 15, 16] from rfl]
        refine OD.q rfl rfl (Q1.move rfl) rfl rfl ?_
        refine OD.q rfl rfl (Q1.move rfl) rfl rfl ?_
        refine OD.qb rfl rfl (Q1.gt rfl rfl) rfl rfl ?_
        intro b2 hb2
        refine OD.q rfl rfl (Q1.move rfl) rfl rfl ?_
        cases b2 with
        | true =>
          replace hb2 := of_decide_eq_true hb2.symm
          refine OD.q rfl rfl (Q1.move rfl) rfl rfl ?_
          refine OD.q rfl rfl (Q1.move rfl) rfl rfl ?_
          refine OD.q rfl rfl (Q1.move rfl) rfl rfl ?_
          obtain ⟨g1, f1, hl1, k1⟩ := hS3.accK (i := 0) rfl
          obtain ⟨x1, b3, o1, hx1, hr1, hl2, hw1⟩ := Sl.atF (P := Try.prog) f1.sl Try.underlying31 ti24 encItm_len (k := .i64) (n := ((j : Nat) : Int)) (j) (by omega) (by first | assumption | omega)
          refine OD.q rfl rfl (Q1.indexAddr rfl rfl hr1) rfl rfl ?_
          refine OD.q rfl rfl (Q1.loadN ti24 rfl (fun _ hc => hw1.keepG hc (Nat.succ_ne_zero _)) rfl) rfl rfl ?_
          refine OD.q rfl rfl (Q1.move rfl) rfl rfl ?_
          refine OD.q rfl rfl (Q1.move rfl) rfl rfl ?_
          refine OD.q rfl rfl (Q1.subI ((((j : Nat) : Int) - 1)) rfl rfl (by omega)) rfl rfl ?_
          obtain ⟨x2, b4, o2, hx2, hr2, hl3, hw2⟩ := Sl.atF (P := Try.prog) f1.sl Try.underlying31 ti24 encItm_len (k := .i64) (n := (((j : Nat) : Int) - 1)) ((j - 1)) (by omega) (by first | assumption | omega)
          refine OD.q rfl rfl (Q1.indexAddr rfl rfl hr2) rfl rfl ?_
          refine OD.q rfl rfl (Q1.loadN ti24 rfl (fun _ hc => hw2.keepG hc (Nat.succ_ne_zero _)) rfl) rfl rfl ?_
          refine OD.act rfl rfl rfl rfl (AW.call (first := []) (cap := []) cl60 rfl rfl (icmp_c (w0 := w3) (a := x1) (b := x2)  ) ?_)
          rintro _ w4 ⟨rfl, hm2⟩
          have hS5 := hS4.ext hm2
          have hCw4 := hCw3.ext hm2
          refine ⟨.inr hCw4, ?_⟩
          refine OD.qb rfl rfl (Q1.lt rfl rfl) rfl rfl ?_
          intro b5 hb3
          refine OD.q rfl rfl (Q1.pick_t rfl rfl) rfl rfl ?_
          refine OD.nil ?_
          cases b5 with
          | true =>
            replace hb3 := of_decide_eq_true hb3.symm
            refine r_cond_t rfl ?_
            refine r_skip ?_
            refine r_seq ?_
            refine r_block ?_
            refine IkN.r_drawN (fun i => Nat.beq i 15 || Nat.beq i 17) (fun i => Nat.beq i 9 || Nat.beq i 13) 17 (fun _ => True) mixed (by kernel_rfl) (by kernel_rfl) ?_
            intro w5 hm3
            have hS6 := hS5.ext hm3
            refine ⟨trivial, ?_⟩
            rw [show List.range' 0 (Array.size _) = [0, 1, 2, 3, 4, 5, 6, 7, 8, 9, 10, 11, 12, 13, 14, 15, 16, 17] from rfl]
            refine IkN.ON.qc rfl rfl rfl (Q1.move rfl) rfl rfl ?_
            refine IkN.ON.qc rfl rfl rfl (Q1.move rfl) rfl rfl ?_
            refine IkN.ON.qc rfl rfl rfl (Q1.move rfl) rfl rfl ?_
            refine IkN.ON.qc rfl rfl rfl (Q1.move rfl) rfl rfl ?_
            refine IkN.ON.qc rfl rfl rfl (Q1.subI ((((j : Nat) : Int) - 1)) rfl rfl (by omega)) rfl rfl ?_
            refine IkN.ON.qc rfl rfl rfl (Q1.move rfl) rfl rfl ?_
            refine IkN.ON.qc rfl rfl rfl (Q1.move rfl) rfl rfl ?_
            refine IkN.ON.qc rfl rfl rfl (Q1.subI ((((j : Nat) : Int) - 1)) rfl rfl (by omega)) rfl rfl ?_
            obtain ⟨g2, f2, hl4, k2⟩ := hS6.accK (i := 0) rfl
            obtain ⟨x3, b6, o3, hx3, hr3, hl5, hw3⟩ := Sl.atF (P := Try.prog) f2.sl Try.underlying31 ti24 encItm_len (k := .i64) (n := (((j : Nat) : Int) - 1)) ((j - 1)) (by omega) (by first | assumption | omega)
            obtain rfl : x2 = x3 := Option.some.inj (hx2.symm.trans hx3)
            refine IkN.ON.qc rfl rfl rfl (Q1.indexAddr rfl rfl hr3) rfl rfl ?_
            refine IkN.ON.qn rfl rfl rfl (Q1.loadN ti24 rfl (fun _ e => e ▸ hw3) rfl) rfl rfl ?_
            refine IkN.ON.qc rfl rfl rfl (Q1.move rfl) rfl rfl ?_
            refine IkN.ON.qc rfl rfl rfl (Q1.move rfl) rfl rfl ?_
            obtain ⟨x4, b7, o4, hx4, hr4, hl6, hw4⟩ := Sl.atF (P := Try.prog) f2.sl Try.underlying31 ti24 encItm_len (k := .i64) (n := ((j : Nat) : Int)) (j) (by omega) (by first | assumption | omega)
            obtain rfl : x1 = x4 := Option.some.inj (hx1.symm.trans hx4)
            refine IkN.ON.qc rfl rfl rfl (Q1.indexAddr rfl rfl hr4) rfl rfl ?_
            refine IkN.ON.qn rfl rfl rfl (Q1.loadN ti24 rfl (fun _ e => e ▸ hw4) rfl) rfl rfl ?_
            obtain ⟨hr5, x5, hx5⟩ := Acc.at (P := Try.prog) f2 Try.underlying31 ti24 (k := .i64) (n := ((j : Nat) : Int)) (j) (by omega) (by first | assumption | omega | (simp; done))
            obtain rfl : x1 = x5 := Option.some.inj (hx1.symm.trans hx5)
            refine IkN.ON.qc rfl rfl rfl (Q1.indexAddr rfl rfl hr5) rfl rfl ?_
            refine IkN.ON.act rfl rfl rfl rfl (AW.storeA f2 encItm_len (i := j) (o := 0) hx5 x2 ti24 rfl (by first | omega | rfl) rfl rfl rfl rfl (by decide) (by first | rfl | simp [encItm]) ?_)
            intro w6 hm4 hz1 ha1
            have hl7 : (ld.set j x2).length = ld.length := List.length_set
            have hS7 : St (fun _ => False) F w0 w6 [accR encItm 24 2 v ((ld.set j x2))] := k2 _ _ _ _ hm4 ha1 (.inl rfl)
            refine ⟨.inr trivial, ?_⟩
            obtain ⟨g3, f3, hl8, k3⟩ := hS6.accK (i := 0) rfl
            obtain ⟨hr6, x6, hx6⟩ := Acc.at (P := Try.prog) f3 Try.underlying31 ti24 (k := .i64) (n := (((j : Nat) : Int) - 1)) ((j - 1)) (by omega) (by first | assumption | omega | (simp; done))
            refine IkN.ON.qc rfl rfl rfl (Q1.indexAddr rfl rfl hr6) rfl rfl ?_
            obtain ⟨x7, hx7⟩ : ∃ u, ((ld.set j x2))[(j - 1)]? = some u := ⟨_, List.getElem?_eq_getElem (by simp only [List.length_set]; omega)⟩
            obtain ⟨g4, f4, hl10, k4⟩ := hS7.accK (i := 0) rfl
            have he1 := Acc.uniq f3 f4
            subst he1
            refine IkN.ON.act rfl rfl rfl rfl (AW.storeA f4 encItm_len (i := ((j - 1))) (o := 0) hx7 x1 ti24 rfl (by first | omega | rfl) rfl rfl rfl rfl (by decide) (by first | rfl | simp [encItm]) ?_)
            intro w7 hm5 hz2 ha2
            have hl9 : (((ld.set j x2)).set ((j - 1)) x1).length = ((ld.set j x2)).length := List.length_set
            have hS8 : St (fun _ => False) F w0 w7 [accR encItm 24 2 v ((((ld.set j x2)).set ((j - 1)) x1))] := k4 _ _ _ _ hm5 ha2 (.inl rfl)
            refine ⟨.inl rfl, ?_⟩
            refine IkN.ON.nil ?_
            refine r_inBlock ?_
            refine r_region ?_
            refine OL.q (Q1.move rfl) rfl rfl ?_
            refine OL.q (Q1.subI ((((j : Nat) : Int) - 1)) rfl rfl (by omega)) rfl rfl ?_
            rw [show (((j : Nat) : Int) - 1) = ((j - 1 : Nat) : Int) from by omega]
            refine OL.q (Q1.assign rfl) rfl rfl ?_
            refine OL.nil ?_
            exact (ih2 _ _ _ ⟨((((ld.set j x2)).set ((j - 1)) x1) : List Itm), (j - 1 : Nat), rfl, rfl, hS8, (by first | omega | (exfalso; omega)), (by first | omega | (exfalso; omega)), (by first | exact hSgb.trans (Seg.swap hx1 hx2 (by omega) (by omega)) | (exfalso; omega)), (by first | exact hB.step (by omega) (by omega) (by omega) hx1 hx2 (lt_cmp (by assumption)) | (exfalso; omega))⟩ (by omega)).sub ⟨rfl, rfl, rfl, rfl, rfl, rfl, trivial⟩
          | false =>
            replace hb3 := of_decide_eq_false hb3.symm
            refine r_cond_f rfl ?_
            refine r_exit rfl ?_
            refine r_inBlock ?_
            refine r_region ?_
            refine OL.q (Q1.move rfl) rfl rfl ?_
            refine OL.q (Q1.addI (((i + 1 : Nat) : Int)) rfl rfl (by omega)) rfl rfl ?_
            refine OL.q (Q1.assign rfl) rfl rfl ?_
            refine OL.nil ?_
            exact (ih1 _ _ _ ⟨(ld : List Itm), (i + 1 : Nat), rfl, rfl, hS5, (by first | omega | (exfalso; omega)), (by first | omega | (exfalso; omega)), (by first | exact hSgb | (exfalso; omega)), (by first | exact hB.done (.inl (by omega)) | exact hB.done (.inr ⟨_, _, by omega, hx2, hx1, le_cmp (by assumption)⟩) | (exfalso; omega))⟩ (by omega)).sub ⟨rfl, rfl, rfl, rfl, rfl, trivial⟩
        | false =>
          replace hb2 := of_decide_eq_false hb2.symm
          refine OD.sk rfl rfl rfl ?_
          refine OD.sk rfl rfl rfl ?_
          refine OD.sk rfl rfl rfl ?_
          refine OD.sk rfl rfl rfl ?_
          refine OD.sk rfl rfl rfl ?_
          refine OD.sk rfl rfl rfl ?_
          refine OD.sk rfl rfl rfl ?_
          refine OD.sk rfl rfl rfl ?_
          refine OD.sk rfl rfl rfl ?_
          refine OD.sk rfl rfl rfl ?_
          refine OD.sk rfl rfl rfl ?_
          refine OD.sk rfl rfl rfl ?_
          refine OD.q rfl rfl (Q1.pick_f rfl rfl) rfl rfl ?_
          refine OD.nil ?_
          refine r_cond_f rfl ?_
          refine r_exit rfl ?_
          refine r_inBlock ?_
          refine r_region ?_
          refine OL.q (Q1.move rfl) rfl rfl ?_
          refine OL.q (Q1.addI (((i + 1 : Nat) : Int)) rfl rfl (by omega)) rfl rfl ?_
          refine OL.q (Q1.assign rfl) rfl rfl ?_
          refine OL.nil ?_
          exact (ih1 _ _ _ ⟨(ld : List Itm), (i + 1 : Nat), rfl, rfl, hS4, (by first | omega | (exfalso; omega)), (by first | omega | (exfalso; omega)), (by first | exact hSgb | (exfalso; omega)), (by first | exact hB.done (.inl (by omega)) | exact hB.done (.inr ⟨_, _, by omega, hx2, hx1, le_cmp (by assumption)⟩) | (exfalso; omega))⟩ (by omega)).sub ⟨rfl, rfl, rfl, rfl, rfl, trivial⟩
    | false =>
      replace hb1 := of_decide_eq_false hb1.symm
      refine r_cond_f rfl ?_
      refine r_exit rfl ?_
      refine r_end0 Try.func105 rfl ?_
      obtain ⟨hmF, F2r, hAr, hFr⟩ := hS2.fin
      exact Ret.mk ⟨rfl, hmF, lc, (by exact ⟨hSga, hO.part (Nat.le_refl _) (by omega)⟩), F2r, hAr, hFr⟩
set_option maxRecDepth 20000 in
set_option maxHeartbeats 4000000 in
theorem rot_c {w0 : World} {F : Nat → Prop} {v : Value} {l : List Itm} {a : Nat} {md : Nat} {b : Nat} (hA : (accR (R := fun _ => False) encItm 24 2 v l).p F w0) (hF : ∀ b, F b → b < w0.heap.size) (hll : l.length ≤ 100000) (ham : a < md) (hmb : md < b) (hbl : b ≤ l.length) :
    Calls Try.prog 115 #[v, .int .i64 ((a : Nat) : Int), .int .i64 ((md : Nat) : Int), .int .i64 ((b : Nat) : Int), .func (.func 60) #[] #[]] w0 (Ret fun rv w1 => rv = .tuple #[] ∧ Mod F w0 w1 ∧ ∃ l', (RotP a md b l l') ∧ ∃ F2, (accR (R := fun _ => False) encItm 24 2 v l').p F2 w1 ∧ ∀ b, F2 b → b < w1.heap.size ∧ (F b ∨ w0.heap.size ≤ b)) := by
  have hS00 := St.start1 (R := fun _ => False) hA (fun b hb => ⟨hF b hb, id⟩) (fun _ h => h.elim)
  have hS1 : St (fun _ => False) F w0 w0 [accR encItm 24 2 v l] := hS00
  refine calls_enter Try.func115 rfl Try.ntmps115 rfl ?_
  refine r_seq ?_
  refine r_region ?_
  refine OL.q (Q1.move rfl) rfl rfl ?_
  refine OL.q (Q1.move rfl) rfl rfl ?_
  refine OL.q (Q1.subI ((((md : Nat) : Int) - (((a : Nat) : Int)))) rfl rfl (by omega)) rfl rfl ?_
  rw [show (((md : Nat) : Int) - (((a : Nat) : Int))) = ((md - a : Nat) : Int) from by omega]
  refine OL.q (Q1.assign rfl) rfl rfl ?_
  refine OL.nil ?_
  refine r_seq ?_
  refine r_region ?_
  refine OL.q (Q1.move rfl) rfl rfl ?_
  refine OL.q (Q1.move rfl) rfl rfl ?_
  refine OL.q (Q1.subI ((((b : Nat) : Int) - (((md : Nat) : Int)))) rfl rfl (by omega)) rfl rfl ?_
  rw [show (((b : Nat) : Int) - (((md : Nat) : Int))) = ((b - md : Nat) : Int) from by omega]
  refine OL.q (Q1.assign rfl) rfl rfl ?_
  refine OL.nil ?_
  refine r_seq ?_
  refine r_block ?_
  refine r_loop (I := fun m E W => ∃ (lc : List Itm) (i : Nat) (j : Nat), E = [(0, v), (2, .int .i64 (((md : Nat) : Int))), (4, .func (.func 60) #[] #[]), (10, .int .i64 (((i : Nat) : Int))), (11, .int .i64 (((j : Nat) : Int)))] ∧ m = i + j ∧ St (fun _ => False) F w0 W [accR encItm 24 2 v lc] ∧ (RotI a md b l lc i j) ∧ (1 ≤ i) ∧ (1 ≤ j) ∧ (i ≤ md) ∧ (md + j ≤ b)) ?_ ?_
  · refine ⟨_, _, ⟨(l : List Itm), (md - a : Nat), (b - md : Nat), rfl, rfl, hS1, (by exact RotI.start l (by omega) (by omega)), (by omega), (by omega), (by omega), (by omega)⟩, ⟨rfl, rfl, rfl, rfl, rfl, trivial⟩⟩
  · rintro _ _ w1 ⟨lc, i, j, rfl, rfl, hS2, hI, hi1, hj1, him, hjb⟩ ih1
    have hlc := hI.perm.length_eq
    refine r_seq ?_
    refine r_seq ?_
    refine r_region ?_
    refine OL.q (Q1.move rfl) rfl rfl ?_
    refine OL.q (Q1.move rfl) rfl rfl ?_
    refine OL.qb (Q1.ne rfl rfl) rfl rfl ?_
    intro b1 hb1
    refine OL.nil ?_
    cases b1 with
    | true =>
      replace hb1 := bne_iff_ne.1 hb1.symm
      refine r_cond_t rfl ?_
      refine r_skip ?_
      refine r_block ?_
      refine r_seq ?_
      refine r_region ?_
      refine OL.q (Q1.move rfl) rfl rfl ?_
      refine OL.q (Q1.move rfl) rfl rfl ?_
      refine OL.qb (Q1.gt rfl rfl) rfl rfl ?_
      intro b2 hb2
      refine OL.nil ?_
      cases b2 with
      | true =>
        replace hb2 := of_decide_eq_true hb2.symm
        refine r_cond_t rfl ?_
        refine r_seq ?_
        refine r_region ?_
        refine OL.q (Q1.move rfl) rfl rfl ?_
        refine OL.q (Q1.move rfl) rfl rfl ?_
        refine OL.q (Q1.move rfl) rfl rfl ?_
        refine OL.q (Q1.subI ((((md : Nat) : Int) - (((i : Nat) : Int)))) rfl rfl (by omega)) rfl rfl ?_
        refine OL.q (Q1.move rfl) rfl rfl ?_
        refine OL.q (Q1.move rfl) rfl rfl ?_
        refine OL.q (Q1.move rfl) rfl rfl ?_
        obtain ⟨Fy1, hAy1, hFy1, hky1⟩ := hS2.act (i := 0) rfl
        rw [show (((md : Nat) : Int) - (((i : Nat) : Int))) = (((md - i) : Nat) : Int) from by omega]
        refine OL.act rfl rfl (AW.callF cl117 rfl (swr_c (w0 := w1) (a := (md - i)) (b := md) (n := j) hAy1 (fun b hb => (hFy1 b hb).2) (by omega) (by omega) (by omega)) ?_)
        rintro _ w2 ⟨rfl, hm1, ly1, hpo1, F1, hA1, hF1⟩
        have hS3 : St (fun _ => False) F w0 w2 [accR encItm 24 2 v ly1] := hky1 _ _ _ hm1 hA1 hF1
        clear hky1 hA1
        refine OL.nil ?_
        refine r_region ?_
        refine OL.q (Q1.move rfl) rfl rfl ?_
        refine OL.q (Q1.move rfl) rfl rfl ?_
        refine OL.q (Q1.subI ((((i : Nat) : Int) - (((j : Nat) : Int)))) rfl rfl (by omega)) rfl rfl ?_
        rw [show (((i : Nat) : Int) - (((j : Nat) : Int))) = ((i - j : Nat) : Int) from by omega]
        refine OL.q (Q1.assign rfl) rfl rfl ?_
        refine OL.nil ?_
        refine r_inBlock ?_
        exact (ih1 _ _ _ ⟨(ly1 : List Itm), (i - j : Nat), (j : Nat), rfl, rfl, hS3, (by first | exact hI.more (by omega) (by omega) (by omega) hpo1 | exact hI.less (by omega) (by omega) (by omega) hpo1 | (exfalso; omega)), (by first | omega | (exfalso; omega)), (by first | omega | (exfalso; omega)), (by first | omega | (exfalso; omega)), (by first | omega | (exfalso; omega))⟩ (by omega)).sub ⟨rfl, rfl, rfl, rfl, rfl, trivial⟩
      | false =>
        replace hb2 := of_decide_eq_false hb2.symm
        refine r_cond_f rfl ?_
        refine r_seq ?_
        refine r_region ?_
        refine OL.q (Q1.move rfl) rfl rfl ?_
        refine OL.q (Q1.move rfl) rfl rfl ?_
        refine OL.q (Q1.move rfl) rfl rfl ?_
        refine OL.q (Q1.subI ((((md : Nat) : Int) - (((i : Nat) : Int)))) rfl rfl (by omega)) rfl rfl ?_
        refine OL.q (Q1.move rfl) rfl rfl ?_
        refine OL.q (Q1.move rfl) rfl rfl ?_
        refine OL.q (Q1.addI (((md + j : Nat) : Int)) rfl rfl (by omega)) rfl rfl ?_
        refine OL.q (Q1.move rfl) rfl rfl ?_
        refine OL.q (Q1.subI ((((md + j : Nat) : Int) - (((i : Nat) : Int)))) rfl rfl (by omega)) rfl rfl ?_
        refine OL.q (Q1.move rfl) rfl rfl ?_
        refine OL.q (Q1.move rfl) rfl rfl ?_
        obtain ⟨Fy1, hAy1, hFy1, hky1⟩ := hS2.act (i := 0) rfl
        rw [show (((md : Nat) : Int) - (((i : Nat) : Int))) = (((md - i) : Nat) : Int) from by omega]
        rw [show (((md + j : Nat) : Int) - (((i : Nat) : Int))) = (((md + j - i) : Nat) : Int) from by omega]
        refine OL.act rfl rfl (AW.callF cl117 rfl (swr_c (w0 := w1) (a := (md - i)) (b := (md + j - i)) (n := i) hAy1 (fun b hb => (hFy1 b hb).2) (by omega) (by omega) (by omega)) ?_)
        rintro _ w2 ⟨rfl, hm1, ly1, hpo1, F1, hA1, hF1⟩
        have hS3 : St (fun _ => False) F w0 w2 [accR encItm 24 2 v ly1] := hky1 _ _ _ hm1 hA1 hF1
        clear hky1 hA1
        refine OL.nil ?_
        refine r_region ?_
        refine OL.q (Q1.move rfl) rfl rfl ?_
        refine OL.q (Q1.move rfl) rfl rfl ?_
        refine OL.q (Q1.subI ((((j : Nat) : Int) - (((i : Nat) : Int)))) rfl rfl (by omega)) rfl rfl ?_
        rw [show (((j : Nat) : Int) - (((i : Nat) : Int))) = ((j - i : Nat) : Int) from by omega]
        refine OL.q (Q1.assign rfl) rfl rfl ?_
        refine OL.nil ?_
        refine r_inBlock ?_
        exact (ih1 _ _ _ ⟨(ly1 : List Itm), (i : Nat), (j - i : Nat), rfl, rfl, hS3, (by first | exact hI.more (by omega) (by omega) (by omega) hpo1 | exact hI.less (by omega) (by omega) (by omega) hpo1 | (exfalso; omega)), (by first | omega | (exfalso; omega)), (by first | omega | (exfalso; omega)), (by first | omega | (exfalso; omega)), (by first | omega | (exfalso; omega))⟩ (by omega)).sub ⟨rfl, rfl, rfl, rfl, rfl, trivial⟩
    | false =>
      replace hb1 := bne_eq_false_iff_eq.1 hb1.symm
      refine r_cond_f rfl ?_
      refine r_exit rfl ?_
      refine r_region ?_
      refine OL.q (Q1.move rfl) rfl rfl ?_
      refine OL.q (Q1.move rfl) rfl rfl ?_
      refine OL.q (Q1.move rfl) rfl rfl ?_
      refine OL.q (Q1.subI ((((md : Nat) : Int) - (((i : Nat) : Int)))) rfl rfl (by omega)) rfl rfl ?_
      refine OL.q (Q1.move rfl) rfl rfl ?_
      refine OL.q (Q1.move rfl) rfl rfl ?_
      refine OL.q (Q1.move rfl) rfl rfl ?_
      obtain ⟨Fy1, hAy1, hFy1, hky1⟩ := hS2.act (i := 0) rfl
      rw [show (((md : Nat) : Int) - (((i : Nat) : Int))) = (((md - i) : Nat) : Int) from by omega]
      refine OL.act rfl rfl (AW.callF cl117 rfl (swr_c (w0 := w1) (a := (md - i)) (b := md) (n := i) hAy1 (fun b hb => (hFy1 b hb).2) (by omega) (by omega) (by omega)) ?_)
      rintro _ w2 ⟨rfl, hm1, ly1, hpo1, F1, hA1, hF1⟩
      have hS3 : St (fun _ => False) F w0 w2 [accR encItm 24 2 v ly1] := hky1 _ _ _ hm1 hA1 hF1
      clear hky1 hA1
      refine OL.nil ?_
      refine r_end0 Try.func115 rfl ?_
      obtain ⟨hmF, F2r, hAr, hFr⟩ := hS3.fin
      obtain rfl : i = j := by omega
      exact Ret.mk ⟨rfl, hmF, ly1, hI.fin (by omega) hpo1, F2r, hAr, hFr⟩
abbrev SymIH (N : Nat) : Prop := ∀ {w0 : World} {F : Nat → Prop} {v : Value} {l : List Itm} {a md b : Nat}, b - a < N → (accR (R := fun _ => False) encItm 24 2 v l).p F w0 → (∀ b, F b → b < w0.heap.size) → l.length ≤ 100000 → a < md → md < b → b ≤ l.length → Srt l a md → Srt l md b →
    Calls Try.prog 106 #[v, .int .i64 ((a : Nat) : Int), .int .i64 ((md : Nat) : Int), .int .i64 ((b : Nat) : Int), .func (.func 60) #[] #[]] w0 (Ret fun rv w1 => rv = .tuple #[] ∧ Mod F w0 w1 ∧ ∃ l', (Seg a b l l' ∧ Srt l' a b) ∧ ∃ F2, (accR (R := fun _ => False) encItm 24 2 v l').p F2 w1 ∧ ∀ b, F2 b → b < w1.heap.size ∧ (F b ∨ w0.heap.size ≤ b))
set_option maxRecDepth 20000 in
set_option maxHeartbeats 4000000 in
theorem sym_step {w0 : World} {F : Nat → Prop} {v : Value} {l : List Itm} {a : Nat} {md : Nat} {b : Nat} (hA : (accR (R := fun _ => False) encItm 24 2 v l).p F w0) (hF : ∀ b, F b → b < w0.heap.size) (hll : l.length ≤ 100000) {N : Nat} (ih : SymIH N) (hN : b - a < N + 1) (ham : a < md) (hmb : md < b) (hbl : b ≤ l.length) (hs1 : Srt l a md) (hs2 : Srt l md b) :
    Calls Try.prog 106 #[v, .int .i64 ((a : Nat) : Int), .int .i64 ((md : Nat) : Int), .int .i64 ((b : Nat) : Int), .func (.func 60) #[] #[]] w0 (Ret fun rv w1 => rv = .tuple #[] ∧ Mod F w0 w1 ∧ ∃ l', (Seg a b l l' ∧ Srt l' a b) ∧ ∃ F2, (accR (R := fun _ => False) encItm 24 2 v l').p F2 w1 ∧ ∀ b, F2 b → b < w1.heap.size ∧ (F b ∨ w0.heap.size ≤ b)) := by
  have hS00 := St.start1 (R := fun _ => False) hA (fun b hb => ⟨hF b hb, id⟩) (fun _ h => h.elim)
  have hS1 : St (fun _ => False) F w0 w0 [accR encItm 24 2 v l] := hS00
  refine calls_enter Try.func106 rfl Try.ntmps106 rfl ?_
  refine r_seq ?_
  refine r_seq ?_
  refine r_region ?_
  refine OL.q (Q1.move rfl) rfl rfl ?_
  refine OL.q (Q1.move rfl) rfl rfl ?_
  refine OL.q (Q1.subI ((((md : Nat) : Int) - (((a : Nat) : Int)))) rfl rfl (by omega)) rfl rfl ?_
  refine OL.qb (Q1.eq rfl rfl) rfl rfl ?_
  intro b1 hb1
  refine OL.nil ?_
  cases b1 with
  | true =>
    replace hb1 := eq_of_beq hb1.symm
    refine r_cond_t rfl ?_
    refine r_seq ?_
    refine r_region ?_
    refine OL.q (Q1.move rfl) rfl rfl ?_
    refine OL.q (Q1.assign rfl) rfl rfl ?_
    obtain ⟨x0, hx0⟩ : ∃ u, l[a]? = some u := ⟨_, List.getElem?_eq_getElem (by omega)⟩
    refine OL.nil ?_
    refine r_seq ?_
    refine r_region ?_
    refine OL.q (Q1.move rfl) rfl rfl ?_
    refine OL.q (Q1.assign rfl) rfl rfl ?_
    refine OL.nil ?_
    refine r_seq ?_
    refine r_block ?_
    refine r_loop (I := fun m E W => ∃ (i : Nat) (j : Nat), E = [(0, v), (1, .int .i64 (((a : Nat) : Int))), (4, .func (.func 60) #[] #[]), (10, .int .i64 (((i : Nat) : Int))), (11, .int .i64 (((j : Nat) : Int)))] ∧ m = j - i ∧ St (fun _ => False) F w0 W [accR encItm 24 2 v l] ∧ (FindA l x0 md b i j) ∧ (md ≤ i ∧ i ≤ j ∧ j ≤ b)) ?_ ?_
    · refine ⟨_, _, ⟨(md : Nat), (b : Nat), rfl, rfl, hS1, (by exact FindA.start _ _ _ _), (by omega)⟩, ⟨rfl, rfl, rfl, rfl, rfl, trivial⟩⟩
    · rintro _ _ w1 ⟨i, j, rfl, rfl, hS2, hfa, hij⟩ ih1
      refine r_seq ?_
      refine r_seq ?_
      refine r_region ?_
      refine OL.q (Q1.move rfl) rfl rfl ?_
      refine OL.q (Q1.move rfl) rfl rfl ?_
      refine OL.qb (Q1.lt rfl rfl) rfl rfl ?_
      intro b2 hb2
      refine OL.nil ?_
      cases b2 with
      | true =>
        replace hb2 := of_decide_eq_true hb2.symm
        refine r_cond_t rfl ?_
        refine r_skip ?_
        refine r_block ?_
        refine r_seq ?_
        refine r_region ?_
        refine OL.q (Q1.move rfl) rfl rfl ?_
        refine OL.q (Q1.move rfl) rfl rfl ?_
        refine OL.q (Q1.addI (((i + j : Nat) : Int)) rfl rfl (by omega)) rfl rfl ?_
        refine OL.q (Q1.convN (by kernel_rfl) Try.underlying79 rfl (IntWalk.u64_in _ (by omega))) rfl rfl ?_
        refine OL.q (Q1.shr1 ((((i + j) / 2 : Nat) : Int)) rfl rfl (by omega)) rfl rfl ?_
        refine OL.q (Q1.convN (by kernel_rfl) Try.underlying3 rfl (IntWalk.i64_in _ (by omega))) rfl rfl ?_
        refine OL.q (Q1.assign rfl) rfl rfl ?_
        refine OL.nil ?_
        refine r_seq ?_
        refine r_draw1 (fun i => Nat.beq i 9) 11 (fun w' => Mod (Mg 0) w1 w') mixed (by kernel_rfl) ?_
        intro w2 hm1
        have hS3 := hS2.ext hm1
        have hCw2 : Mod (Mg 0) w1 w2 := Mod.ofExt hm1
        refine ⟨hCw2, ?_⟩
        rw [show List.range' 0 (Array.size _) = [0, 1, 2, 3, 4, 5, 6, 7, 8, 9, 10] from rfl]
        refine OD.q rfl rfl (Q1.move rfl) rfl rfl ?_
        refine OD.q rfl rfl (Q1.move rfl) rfl rfl ?_
        refine OD.q rfl rfl (Q1.move rfl) rfl rfl ?_
        obtain ⟨g1, f1, hl1, k1⟩ := hS2.accK (i := 0) rfl
        obtain ⟨x1, b3, o1, hx1, hr1, hl2, hw1⟩ := Sl.atF (P := Try.prog) f1.sl Try.underlying31 ti24 encItm_len (k := .i64) (n := (((i + j) / 2 : Nat) : Int)) ((i + j) / 2) (by omega) (by first | assumption | omega)
        refine OD.q rfl rfl (Q1.indexAddr rfl rfl hr1) rfl rfl ?_
        refine OD.q rfl rfl (Q1.loadN ti24 rfl (fun _ hc => hw1.keepG hc (Nat.succ_ne_zero _)) rfl) rfl rfl ?_
        refine OD.q rfl rfl (Q1.move rfl) rfl rfl ?_
        refine OD.q rfl rfl (Q1.move rfl) rfl rfl ?_
        obtain ⟨x2, b4, o2, hx2, hr2, hl3, hw2⟩ := Sl.atF (P := Try.prog) f1.sl Try.underlying31 ti24 encItm_len (k := .i64) (n := ((a : Nat) : Int)) (a) (by omega) (by first | assumption | omega)
        obtain rfl : x0 = x2 := Option.some.inj (hx0.symm.trans hx2)
        refine OD.q rfl rfl (Q1.indexAddr rfl rfl hr2) rfl rfl ?_
        refine OD.q rfl rfl (Q1.loadN ti24 rfl (fun _ hc => hw2.keepG hc (Nat.succ_ne_zero _)) rfl) rfl rfl ?_
        refine OD.act rfl rfl rfl rfl (AW.call (first := []) (cap := []) cl60 rfl rfl (icmp_c (w0 := w2) (a := x1) (b := x0)  ) ?_)
        rintro _ w3 ⟨rfl, hm2⟩
        have hS4 := hS3.ext hm2
        have hCw3 := hCw2.ext hm2
        refine ⟨.inr hCw3, ?_⟩
        refine OD.qb rfl rfl (Q1.lt rfl rfl) rfl rfl ?_
        intro b5 hb3
        refine OD.nil ?_
        cases b5 with
        | true =>
          replace hb3 := of_decide_eq_true hb3.symm
          refine r_cond_t rfl ?_
          refine r_region ?_
          refine OL.q (Q1.move rfl) rfl rfl ?_
          refine OL.q (Q1.addI (((((i + j) / 2) + 1 : Nat) : Int)) rfl rfl (by omega)) rfl rfl ?_
          refine OL.q (Q1.assign rfl) rfl rfl ?_
          refine OL.nil ?_
          refine r_inBlock ?_
          exact (ih1 _ _ _ ⟨(((i + j) / 2) + 1 : Nat), (j : Nat), rfl, rfl, hS4, (by first | exact hfa.up hs2 (by omega) (by omega) hx1 (lt_cmp (by assumption)) | exact hfa.down hs2 (by omega) (by omega) hx1 (le_cmp (by assumption)) | (exfalso; omega)), (by first | omega | (exfalso; omega))⟩ (by omega)).sub ⟨rfl, rfl, rfl, rfl, rfl, trivial⟩
        | false =>
          replace hb3 := of_decide_eq_false hb3.symm
          refine r_cond_f rfl ?_
          refine r_region ?_
          refine OL.q (Q1.move rfl) rfl rfl ?_
          refine OL.q (Q1.assign rfl) rfl rfl ?_
          refine OL.nil ?_
          refine r_inBlock ?_
          exact (ih1 _ _ _ ⟨(i : Nat), ((i + j) / 2 : Nat), rfl, rfl, hS4, (by first | exact hfa.up hs2 (by omega) (by omega) hx1 (lt_cmp (by assumption)) | exact hfa.down hs2 (by omega) (by omega) hx1 (le_cmp (by assumption)) | (exfalso; omega)), (by first | omega | (exfalso; omega))⟩ (by omega)).sub ⟨rfl, rfl, rfl, rfl, rfl, trivial⟩
      | false =>
        replace hb2 := of_decide_eq_false hb2.symm
        refine r_cond_f rfl ?_
        refine r_exit rfl ?_
        refine r_seq ?_
        refine r_seq ?_
        refine r_region ?_
        refine OL.q (Q1.move rfl) rfl rfl ?_
        refine OL.q (Q1.assign rfl) rfl rfl ?_
        refine OL.nil ?_
        refine r_block ?_
        refine r_loop (I := fun m E W => ∃ (lc : List Itm) (k : Nat), E = [(0, v), (10, .int .i64 (((i : Nat) : Int))), (13, .int .i64 (((k : Nat) : Int)))] ∧ m = i - k ∧ St (fun _ => False) F w0 W [accR encItm 24 2 v lc] ∧ (ShA l lc a b k x0) ∧ (a ≤ k) ∧ (k + 1 ≤ i)) ?_ ?_
        · refine ⟨_, _, ⟨(l : List Itm), (a : Nat), rfl, rfl, hS2, (by exact ShA.start hx0), (by omega), (by omega)⟩, ⟨rfl, rfl, rfl, trivial⟩⟩
        · rintro _ _ w2 ⟨lc, k, rfl, rfl, hS3, hsh, hak, hki⟩ ih2
          have hlc := hsh.seg.len
          refine r_seq ?_
          refine r_seq ?_
          refine r_region ?_
          refine OL.q (Q1.move rfl) rfl rfl ?_
          refine OL.q (Q1.move rfl) rfl rfl ?_
          refine OL.q (Q1.subI ((((i : Nat) : Int) - 1)) rfl rfl (by omega)) rfl rfl ?_
          refine OL.qb (Q1.lt rfl rfl) rfl rfl ?_
          intro b3 hb3
          refine OL.nil ?_
          cases b3 with
          | true =>
            replace hb3 := of_decide_eq_true hb3.symm
            refine r_cond_t rfl ?_
            refine r_skip ?_
            refine r_seq ?_
            refine r_block ?_
            refine IkN.r_drawN (fun i => Nat.beq i 15 || Nat.beq i 17) (fun i => Nat.beq i 9 || Nat.beq i 13) 17 (fun _ => True) mixed (by kernel_rfl) (by kernel_rfl) ?_
            intro w3 hm1
            have hS4 := hS3.ext hm1
            refine ⟨trivial, ?_⟩
            rw [show List.range' 0 (Array.size _) = [0, 1, 2, 3, 4, 5, 6, 7, 8, 9, 10, 11, 12, 13, 14, 15, 16, 17] from rfl]
            refine IkN.ON.qc rfl rfl rfl (Q1.move rfl) rfl rfl ?_
            refine IkN.ON.qc rfl rfl rfl (Q1.move rfl) rfl rfl ?_
            refine IkN.ON.qc rfl rfl rfl (Q1.move rfl) rfl rfl ?_
            refine IkN.ON.qc rfl rfl rfl (Q1.move rfl) rfl rfl ?_
            refine IkN.ON.qc rfl rfl rfl (Q1.addI (((k + 1 : Nat) : Int)) rfl rfl (by omega)) rfl rfl ?_
            refine IkN.ON.qc rfl rfl rfl (Q1.move rfl) rfl rfl ?_
            refine IkN.ON.qc rfl rfl rfl (Q1.move rfl) rfl rfl ?_
            refine IkN.ON.qc rfl rfl rfl (Q1.addI (((k + 1 : Nat) : Int)) rfl rfl (by omega)) rfl rfl ?_
            obtain ⟨g1, f1, hl1, k1⟩ := hS4.accK (i := 0) rfl
            obtain ⟨x1, b4, o1, hx1, hr1, hl2, hw1⟩ := Sl.atF (P := Try.prog) f1.sl Try.underlying31 ti24 encItm_len (k := .i64) (n := ((k + 1 : Nat) : Int)) (k + 1) (by omega) (by first | assumption | omega)
            refine IkN.ON.qc rfl rfl rfl (Q1.indexAddr rfl rfl hr1) rfl rfl ?_
            refine IkN.ON.qn rfl rfl rfl (Q1.loadN ti24 rfl (fun _ e => e ▸ hw1) rfl) rfl rfl ?_
            refine IkN.ON.qc rfl rfl rfl (Q1.move rfl) rfl rfl ?_
            refine IkN.ON.qc rfl rfl rfl (Q1.move rfl) rfl rfl ?_
            obtain ⟨x2, b5, o2, hx2, hr2, hl3, hw2⟩ := Sl.atF (P := Try.prog) f1.sl Try.underlying31 ti24 encItm_len (k := .i64) (n := ((k : Nat) : Int)) (k) (by omega) (by first | assumption | omega)
            refine IkN.ON.qc rfl rfl rfl (Q1.indexAddr rfl rfl hr2) rfl rfl ?_
            refine IkN.ON.qn rfl rfl rfl (Q1.loadN ti24 rfl (fun _ e => e ▸ hw2) rfl) rfl rfl ?_
            obtain ⟨hr3, x3, hx3⟩ := Acc.at (P := Try.prog) f1 Try.underlying31 ti24 (k := .i64) (n := ((k : Nat) : Int)) (k) (by omega) (by first | assumption | omega | (simp; done))
            obtain rfl : x2 = x3 := Option.some.inj (hx2.symm.trans hx3)
            refine IkN.ON.qc rfl rfl rfl (Q1.indexAddr rfl rfl hr3) rfl rfl ?_
            refine IkN.ON.act rfl rfl rfl rfl (AW.storeA f1 encItm_len (i := k) (o := 0) hx3 x1 ti24 rfl (by first | omega | rfl) rfl rfl rfl rfl (by decide) (by first | rfl | simp [encItm]) ?_)
            intro w4 hm2 hz1 ha1
            have hl4 : (lc.set k x1).length = lc.length := List.length_set
            have hS5 : St (fun _ => False) F w0 w4 [accR encItm 24 2 v ((lc.set k x1))] := k1 _ _ _ _ hm2 ha1 (.inl rfl)
            refine ⟨.inr trivial, ?_⟩
            obtain ⟨g2, f2, hl5, k2⟩ := hS4.accK (i := 0) rfl
            obtain ⟨hr4, x4, hx4⟩ := Acc.at (P := Try.prog) f2 Try.underlying31 ti24 (k := .i64) (n := ((k + 1 : Nat) : Int)) (k + 1) (by omega) (by first | assumption | omega | (simp; done))
            refine IkN.ON.qc rfl rfl rfl (Q1.indexAddr rfl rfl hr4) rfl rfl ?_
            obtain ⟨x5, hx5⟩ : ∃ u, ((lc.set k x1))[k + 1]? = some u := ⟨_, List.getElem?_eq_getElem (by simp only [List.length_set]; omega)⟩
            obtain ⟨g3, f3, hl7, k3⟩ := hS5.accK (i := 0) rfl
            have he1 := Acc.uniq f2 f3
            subst he1
            refine IkN.ON.act rfl rfl rfl rfl (AW.storeA f3 encItm_len (i := (k + 1)) (o := 0) hx5 x2 ti24 rfl (by first | omega | rfl) rfl rfl rfl rfl (by decide) (by first | rfl | simp [encItm]) ?_)
            intro w5 hm3 hz2 ha2
            have hl6 : (((lc.set k x1)).set (k + 1) x2).length = ((lc.set k x1)).length := List.length_set
            have hS6 : St (fun _ => False) F w0 w5 [accR encItm 24 2 v ((((lc.set k x1)).set (k + 1) x2))] := k3 _ _ _ _ hm3 ha2 (.inl rfl)
            refine ⟨.inl rfl, ?_⟩
            refine IkN.ON.nil ?_
            refine r_inBlock ?_
            refine r_region ?_
            refine OL.q (Q1.move rfl) rfl rfl ?_
            refine OL.q (Q1.addI (((k + 1 : Nat) : Int)) rfl rfl (by omega)) rfl rfl ?_
            refine OL.q (Q1.assign rfl) rfl rfl ?_
            refine OL.nil ?_
            exact (ih2 _ _ _ ⟨((((lc.set k x1)).set (k + 1) x2) : List Itm), (k + 1 : Nat), rfl, rfl, hS6, (by first | exact hsh.step (by omega) (by omega) hx2 hx1 | (exfalso; omega)), (by first | omega | (exfalso; omega)), (by first | omega | (exfalso; omega))⟩ (by omega)).sub ⟨rfl, rfl, rfl, trivial⟩
          | false =>
            replace hb3 := of_decide_eq_false hb3.symm
            refine r_cond_f rfl ?_
            refine r_exit rfl ?_
            refine r_ret0 Try.func106 rfl ?_
            obtain ⟨hmF, F2r, hAr, hFr⟩ := hS3.fin
            exact Ret.mk ⟨rfl, hmF, lc, by have e1 : j = i := (by omega); have e2 : md = a + 1 := (by omega); subst e1; subst e2; exact ⟨hsh.seg, hsh.fin hfa hs2 (by omega) (by omega) (by omega)⟩, F2r, hAr, hFr⟩
  | false =>
    replace hb1 := ne_of_beq_false hb1.symm
    refine r_cond_f rfl ?_
    refine r_skip ?_
    refine r_seq ?_
    refine r_seq ?_
    refine r_region ?_
    refine OL.q (Q1.move rfl) rfl rfl ?_
    refine OL.q (Q1.move rfl) rfl rfl ?_
    refine OL.q (Q1.subI ((((b : Nat) : Int) - (((md : Nat) : Int)))) rfl rfl (by omega)) rfl rfl ?_
    refine OL.qb (Q1.eq rfl rfl) rfl rfl ?_
    intro b2 hb2
    refine OL.nil ?_
    cases b2 with
    | true =>
      replace hb2 := eq_of_beq hb2.symm
      refine r_cond_t rfl ?_
      refine r_seq ?_
      refine r_region ?_
      refine OL.q (Q1.move rfl) rfl rfl ?_
      refine OL.q (Q1.assign rfl) rfl rfl ?_
      obtain ⟨y0, hy0⟩ : ∃ u, l[md]? = some u := ⟨_, List.getElem?_eq_getElem (by omega)⟩
      refine OL.nil ?_
      refine r_seq ?_
      refine r_region ?_
      refine OL.q (Q1.move rfl) rfl rfl ?_
      refine OL.q (Q1.assign rfl) rfl rfl ?_
      refine OL.nil ?_
      refine r_seq ?_
      refine r_block ?_
      refine r_loop (I := fun m E W => ∃ (ia : Nat) (ja : Nat), E = [(0, v), (2, .int .i64 (((md : Nat) : Int))), (4, .func (.func 60) #[] #[]), (14, .int .i64 (((ia : Nat) : Int))), (15, .int .i64 (((ja : Nat) : Int)))] ∧ m = ja - ia ∧ St (fun _ => False) F w0 W [accR encItm 24 2 v l] ∧ (FindB l y0 a md ia ja) ∧ (a ≤ ia ∧ ia ≤ ja ∧ ja ≤ md)) ?_ ?_
      · refine ⟨_, _, ⟨(a : Nat), (md : Nat), rfl, rfl, hS1, (by exact FindB.start _ _ _ _), (by omega)⟩, ⟨rfl, rfl, rfl, rfl, rfl, trivial⟩⟩
      · rintro _ _ w1 ⟨ia, ja, rfl, rfl, hS2, hfb, hij2⟩ ih1
        refine r_seq ?_
        refine r_seq ?_
        refine r_region ?_
        refine OL.q (Q1.move rfl) rfl rfl ?_
        refine OL.q (Q1.move rfl) rfl rfl ?_
        refine OL.qb (Q1.lt rfl rfl) rfl rfl ?_
        intro b3 hb3
        refine OL.nil ?_
        cases b3 with
        | true =>
          replace hb3 := of_decide_eq_true hb3.symm
          refine r_cond_t rfl ?_
          refine r_skip ?_
          refine r_block ?_
          refine r_seq ?_
          refine r_region ?_
          refine OL.q (Q1.move rfl) rfl rfl ?_
          refine OL.q (Q1.move rfl) rfl rfl ?_
          refine OL.q (Q1.addI (((ia + ja : Nat) : Int)) rfl rfl (by omega)) rfl rfl ?_
          refine OL.q (Q1.convN (by kernel_rfl) Try.underlying79 rfl (IntWalk.u64_in _ (by omega))) rfl rfl ?_
          refine OL.q (Q1.shr1 ((((ia + ja) / 2 : Nat) : Int)) rfl rfl (by omega)) rfl rfl ?_
          refine OL.q (Q1.convN (by kernel_rfl) Try.underlying3 rfl (IntWalk.i64_in _ (by omega))) rfl rfl ?_
          refine OL.q (Q1.assign rfl) rfl rfl ?_
          refine OL.nil ?_
          refine r_seq ?_
          refine r_draw1 (fun i => Nat.beq i 9) 12 (fun w' => Mod (Mg 0) w1 w') mixed (by kernel_rfl) ?_
          intro w2 hm1
          have hS3 := hS2.ext hm1
          have hCw2 : Mod (Mg 0) w1 w2 := Mod.ofExt hm1
          refine ⟨hCw2, ?_⟩
          rw [show List.range' 0 (Array.size _) = [0, 1, 2, 3, 4, 5, 6, 7, 8, 9, 10, 11] from rfl]
          refine OD.q rfl rfl (Q1.move rfl) rfl rfl ?_
          refine OD.q rfl rfl (Q1.move rfl) rfl rfl ?_
          refine OD.q rfl rfl (Q1.move rfl) rfl rfl ?_
          obtain ⟨g1, f1, hl1, k1⟩ := hS2.accK (i := 0) rfl
          obtain ⟨x1, b4, o1, hx1, hr1, hl2, hw1⟩ := Sl.atF (P := Try.prog) f1.sl Try.underlying31 ti24 encItm_len (k := .i64) (n := ((md : Nat) : Int)) (md) (by omega) (by first | assumption | omega)
          obtain rfl : y0 = x1 := Option.some.inj (hy0.symm.trans hx1)
          refine OD.q rfl rfl (Q1.indexAddr rfl rfl hr1) rfl rfl ?_
          refine OD.q rfl rfl (Q1.loadN ti24 rfl (fun _ hc => hw1.keepG hc (Nat.succ_ne_zero _)) rfl) rfl rfl ?_
          refine OD.q rfl rfl (Q1.move rfl) rfl rfl ?_
          refine OD.q rfl rfl (Q1.move rfl) rfl rfl ?_
          obtain ⟨x2, b5, o2, hx2, hr2, hl3, hw2⟩ := Sl.atF (P := Try.prog) f1.sl Try.underlying31 ti24 encItm_len (k := .i64) (n := (((ia + ja) / 2 : Nat) : Int)) ((ia + ja) / 2) (by omega) (by first | assumption | omega)
          refine OD.q rfl rfl (Q1.indexAddr rfl rfl hr2) rfl rfl ?_
          refine OD.q rfl rfl (Q1.loadN ti24 rfl (fun _ hc => hw2.keepG hc (Nat.succ_ne_zero _)) rfl) rfl rfl ?_
          refine OD.act rfl rfl rfl rfl (AW.call (first := []) (cap := []) cl60 rfl rfl (icmp_c (w0 := w2) (a := y0) (b := x2)  ) ?_)
          rintro _ w3 ⟨rfl, hm2⟩
          have hS4 := hS3.ext hm2
          have hCw3 := hCw2.ext hm2
          refine ⟨.inr hCw3, ?_⟩
          refine OD.qb rfl rfl (Q1.lt rfl rfl) rfl rfl ?_
          intro b6 hb4
          cases b6 with
          | true =>
            replace hb4 := of_decide_eq_true hb4.symm
            refine OD.q rfl rfl (Q1.not rfl) rfl rfl ?_
            refine OD.nil ?_
            refine r_cond_f rfl ?_
            refine r_region ?_
            refine OL.q (Q1.move rfl) rfl rfl ?_
            refine OL.q (Q1.assign rfl) rfl rfl ?_
            refine OL.nil ?_
            refine r_inBlock ?_
            exact (ih1 _ _ _ ⟨(ia : Nat), ((ia + ja) / 2 : Nat), rfl, rfl, hS4, (by first | exact hfb.up hs1 (by omega) (by omega) hx2 (le_cmp (by assumption)) | exact hfb.down hs1 (by omega) (by omega) hx2 (lt_cmp (by assumption)) | (exfalso; omega)), (by first | omega | (exfalso; omega))⟩ (by omega)).sub ⟨rfl, rfl, rfl, rfl, rfl, trivial⟩
          | false =>
            replace hb4 := of_decide_eq_false hb4.symm
            refine OD.q rfl rfl (Q1.not rfl) rfl rfl ?_
            refine OD.nil ?_
            refine r_cond_t rfl ?_
            refine r_region ?_
            refine OL.q (Q1.move rfl) rfl rfl ?_
            refine OL.q (Q1.addI (((((ia + ja) / 2) + 1 : Nat) : Int)) rfl rfl (by omega)) rfl rfl ?_
            refine OL.q (Q1.assign rfl) rfl rfl ?_
            refine OL.nil ?_
            refine r_inBlock ?_
            exact (ih1 _ _ _ ⟨(((ia + ja) / 2) + 1 : Nat), (ja : Nat), rfl, rfl, hS4, (by first | exact hfb.up hs1 (by omega) (by omega) hx2 (le_cmp (by assumption)) | exact hfb.down hs1 (by omega) (by omega) hx2 (lt_cmp (by assumption)) | (exfalso; omega)), (by first | omega | (exfalso; omega))⟩ (by omega)).sub ⟨rfl, rfl, rfl, rfl, rfl, trivial⟩
        | false =>
          replace hb3 := of_decide_eq_false hb3.symm
          refine r_cond_f rfl ?_
          refine r_exit rfl ?_
          refine r_seq ?_
          refine r_seq ?_
          refine r_region ?_
          refine OL.q (Q1.move rfl) rfl rfl ?_
          refine OL.q (Q1.assign rfl) rfl rfl ?_
          refine OL.nil ?_
          refine r_block ?_
          refine r_loop (I := fun m E W => ∃ (ld : List Itm) (ka : Nat), E = [(0, v), (14, .int .i64 (((ia : Nat) : Int))), (17, .int .i64 (((ka : Nat) : Int)))] ∧ m = ka + 1 ∧ St (fun _ => False) F w0 W [accR encItm 24 2 v ld] ∧ (ShB l ld a b md ka y0) ∧ (ia ≤ ka) ∧ (ka ≤ md)) ?_ ?_
          · refine ⟨_, _, ⟨(l : List Itm), (md : Nat), rfl, rfl, hS2, (by exact ShB.start hy0), (by omega), (by omega)⟩, ⟨rfl, rfl, rfl, trivial⟩⟩
          · rintro _ _ w2 ⟨ld, ka, rfl, rfl, hS3, hsb, hki2, hkm⟩ ih2
            have hld := hsb.seg.len
            refine r_seq ?_
            refine r_seq ?_
            refine r_region ?_
            refine OL.q (Q1.move rfl) rfl rfl ?_
            refine OL.q (Q1.move rfl) rfl rfl ?_
            refine OL.qb (Q1.gt rfl rfl) rfl rfl ?_
            intro b4 hb4
            refine OL.nil ?_
            cases b4 with
            | true =>
              replace hb4 := of_decide_eq_true hb4.symm
              refine r_cond_t rfl ?_
              refine r_skip ?_
              refine r_seq ?_
              refine r_block ?_
              refine IkN.r_drawN (fun i => Nat.beq i 15 || Nat.beq i 17) (fun i => Nat.beq i 9 || Nat.beq i 13) 17 (fun _ => True) mixed (by kernel_rfl) (by kernel_rfl) ?_
              intro w3 hm1
              have hS4 := hS3.ext hm1
              refine ⟨trivial, ?_⟩
              rw [show List.range' 0 (Array.size _) = [0, 1, 2, 3, 4, 5, 6, 7, 8, 9, 10, 11, 12, 13, 14, 15, 16, 17] from rfl]
              refine IkN.ON.qc rfl rfl rfl (Q1.move rfl) rfl rfl ?_
              refine IkN.ON.qc rfl rfl rfl (Q1.move rfl) rfl rfl ?_
              refine IkN.ON.qc rfl rfl rfl (Q1.move rfl) rfl rfl ?_
              refine IkN.ON.qc rfl rfl rfl (Q1.move rfl) rfl rfl ?_
              refine IkN.ON.qc rfl rfl rfl (Q1.subI ((((ka : Nat) : Int) - 1)) rfl rfl (by omega)) rfl rfl ?_
              refine IkN.ON.qc rfl rfl rfl (Q1.move rfl) rfl rfl ?_
              refine IkN.ON.qc rfl rfl rfl (Q1.move rfl) rfl rfl ?_
              refine IkN.ON.qc rfl rfl rfl (Q1.subI ((((ka : Nat) : Int) - 1)) rfl rfl (by omega)) rfl rfl ?_
              obtain ⟨g1, f1, hl1, k1⟩ := hS4.accK (i := 0) rfl
              obtain ⟨x1, b5, o1, hx1, hr1, hl2, hw1⟩ := Sl.atF (P := Try.prog) f1.sl Try.underlying31 ti24 encItm_len (k := .i64) (n := (((ka : Nat) : Int) - 1)) ((ka - 1)) (by omega) (by first | assumption | omega)
              refine IkN.ON.qc rfl rfl rfl (Q1.indexAddr rfl rfl hr1) rfl rfl ?_
              refine IkN.ON.qn rfl rfl rfl (Q1.loadN ti24 rfl (fun _ e => e ▸ hw1) rfl) rfl rfl ?_
              refine IkN.ON.qc rfl rfl rfl (Q1.move rfl) rfl rfl ?_
              refine IkN.ON.qc rfl rfl rfl (Q1.move rfl) rfl rfl ?_
              obtain ⟨x2, b6, o2, hx2, hr2, hl3, hw2⟩ := Sl.atF (P := Try.prog) f1.sl Try.underlying31 ti24 encItm_len (k := .i64) (n := ((ka : Nat) : Int)) (ka) (by omega) (by first | assumption | omega)
              refine IkN.ON.qc rfl rfl rfl (Q1.indexAddr rfl rfl hr2) rfl rfl ?_
              refine IkN.ON.qn rfl rfl rfl (Q1.loadN ti24 rfl (fun _ e => e ▸ hw2) rfl) rfl rfl ?_
              obtain ⟨hr3, x3, hx3⟩ := Acc.at (P := Try.prog) f1 Try.underlying31 ti24 (k := .i64) (n := ((ka : Nat) : Int)) (ka) (by omega) (by first | assumption | omega | (simp; done))
              obtain rfl : x2 = x3 := Option.some.inj (hx2.symm.trans hx3)
              refine IkN.ON.qc rfl rfl rfl (Q1.indexAddr rfl rfl hr3) rfl rfl ?_
              refine IkN.ON.act rfl rfl rfl rfl (AW.storeA f1 encItm_len (i := ka) (o := 0) hx3 x1 ti24 rfl (by first | omega | rfl) rfl rfl rfl rfl (by decide) (by first | rfl | simp [encItm]) ?_)
              intro w4 hm2 hz1 ha1
              have hl4 : (ld.set ka x1).length = ld.length := List.length_set
              have hS5 : St (fun _ => False) F w0 w4 [accR encItm 24 2 v ((ld.set ka x1))] := k1 _ _ _ _ hm2 ha1 (.inl rfl)
              refine ⟨.inr trivial, ?_⟩
              obtain ⟨g2, f2, hl5, k2⟩ := hS4.accK (i := 0) rfl
              obtain ⟨hr4, x4, hx4⟩ := Acc.at (P := Try.prog) f2 Try.underlying31 ti24 (k := .i64) (n := (((ka : Nat) : Int) - 1)) ((ka - 1)) (by omega) (by first | assumption | omega | (simp; done))
              refine IkN.ON.qc rfl rfl rfl (Q1.indexAddr rfl rfl hr4) rfl rfl ?_
              obtain ⟨x5, hx5⟩ : ∃ u, ((ld.set ka x1))[(ka - 1)]? = some u := ⟨_, List.getElem?_eq_getElem (by simp only [List.length_set]; omega)⟩
              obtain ⟨g3, f3, hl7, k3⟩ := hS5.accK (i := 0) rfl
              have he1 := Acc.uniq f2 f3
              subst he1
              refine IkN.ON.act rfl rfl rfl rfl (AW.storeA f3 encItm_len (i := ((ka - 1))) (o := 0) hx5 x2 ti24 rfl (by first | omega | rfl) rfl rfl rfl rfl (by decide) (by first | rfl | simp [encItm]) ?_)
              intro w5 hm3 hz2 ha2
              have hl6 : (((ld.set ka x1)).set ((ka - 1)) x2).length = ((ld.set ka x1)).length := List.length_set
              have hS6 : St (fun _ => False) F w0 w5 [accR encItm 24 2 v ((((ld.set ka x1)).set ((ka - 1)) x2))] := k3 _ _ _ _ hm3 ha2 (.inl rfl)
              refine ⟨.inl rfl, ?_⟩
              refine IkN.ON.nil ?_
              refine r_inBlock ?_
              refine r_region ?_
              refine OL.q (Q1.move rfl) rfl rfl ?_
              refine OL.q (Q1.subI ((((ka : Nat) : Int) - 1)) rfl rfl (by omega)) rfl rfl ?_
              rw [show (((ka : Nat) : Int) - 1) = ((ka - 1 : Nat) : Int) from by omega]
              refine OL.q (Q1.assign rfl) rfl rfl ?_
              refine OL.nil ?_
              exact (ih2 _ _ _ ⟨((((ld.set ka x1)).set ((ka - 1)) x2) : List Itm), (ka - 1 : Nat), rfl, rfl, hS6, (by first | exact hsb.step (by omega) (by omega) hx2 hx1 | (exfalso; omega)), (by first | omega | (exfalso; omega)), (by first | omega | (exfalso; omega))⟩ (by omega)).sub ⟨rfl, rfl, rfl, trivial⟩
            | false =>
              replace hb4 := of_decide_eq_false hb4.symm
              refine r_cond_f rfl ?_
              refine r_exit rfl ?_
              refine r_ret0 Try.func106 rfl ?_
              obtain ⟨hmF, F2r, hAr, hFr⟩ := hS3.fin
              exact Ret.mk ⟨rfl, hmF, ld, by have e1 : ja = ka := (by omega); have e2 : ia = ka := (by omega); subst e1; subst e2; exact ⟨hsb.seg, hsb.fin hfb hs1 (by omega) (by omega) (by omega)⟩, F2r, hAr, hFr⟩
    | false =>
      replace hb2 := ne_of_beq_false hb2.symm
      refine r_cond_f rfl ?_
      refine r_skip ?_
      refine r_seq ?_
      refine r_region ?_
      refine OL.q (Q1.move rfl) rfl rfl ?_
      refine OL.q (Q1.move rfl) rfl rfl ?_
      refine OL.q (Q1.addI (((a + b : Nat) : Int)) rfl rfl (by omega)) rfl rfl ?_
      refine OL.q (Q1.convN (by kernel_rfl) Try.underlying79 rfl (IntWalk.u64_in _ (by omega))) rfl rfl ?_
      refine OL.q (Q1.shr1 ((((a + b) / 2 : Nat) : Int)) rfl rfl (by omega)) rfl rfl ?_
      refine OL.q (Q1.convN (by kernel_rfl) Try.underlying3 rfl (IntWalk.i64_in _ (by omega))) rfl rfl ?_
      refine OL.q (Q1.assign rfl) rfl rfl ?_
      refine OL.nil ?_
      refine r_seq ?_
      refine r_region ?_
      refine OL.q (Q1.move rfl) rfl rfl ?_
      refine OL.q (Q1.move rfl) rfl rfl ?_
      refine OL.q (Q1.addI (((((a + b) / 2) + md : Nat) : Int)) rfl rfl (by omega)) rfl rfl ?_
      refine OL.q (Q1.assign rfl) rfl rfl ?_
      refine OL.nil ?_
      refine r_seq ?_
      refine r_region ?_
      refine OL.q (Q1.assign rfl) rfl rfl ?_
      refine OL.q (Q1.assign rfl) rfl rfl ?_
      refine OL.nil ?_
      refine r_seq ?_
      refine r_seq ?_
      refine r_region ?_
      refine OL.q (Q1.move rfl) rfl rfl ?_
      refine OL.q (Q1.move rfl) rfl rfl ?_
      refine OL.qb (Q1.gt rfl rfl) rfl rfl ?_
      intro b3 hb3
      refine OL.nil ?_
      cases b3 with
      | true =>
        replace hb3 := of_decide_eq_true hb3.symm
        refine r_cond_t rfl ?_
        refine r_seq ?_
        refine r_region ?_
        refine OL.q (Q1.move rfl) rfl rfl ?_
        refine OL.q (Q1.move rfl) rfl rfl ?_
        refine OL.q (Q1.subI ((((((a + b) / 2) + md : Nat) : Int) - (((b : Nat) : Int)))) rfl rfl (by omega)) rfl rfl ?_
        rw [show (((((a + b) / 2) + md : Nat) : Int) - (((b : Nat) : Int))) = (((a + b) / 2 + md - b : Nat) : Int) from by omega]
        refine OL.q (Q1.assign rfl) rfl rfl ?_
        refine OL.nil ?_
        refine r_region ?_
        refine OL.q (Q1.move rfl) rfl rfl ?_
        refine OL.q (Q1.assign rfl) rfl rfl ?_
        refine OL.nil ?_
        refine r_seq ?_
        refine r_region ?_
        refine OL.q (Q1.move rfl) rfl rfl ?_
        refine OL.q (Q1.subI ((((((a + b) / 2) + md : Nat) : Int) - 1)) rfl rfl (by omega)) rfl rfl ?_
        rw [show (((((a + b) / 2) + md : Nat) : Int) - 1) = (((a + b) / 2 + md - 1 : Nat) : Int) from by omega]
        refine OL.q (Q1.assign rfl) rfl rfl ?_
        refine OL.nil ?_
        refine r_seq ?_
        refine r_block ?_
        refine r_loop (I := fun m E W => ∃ (s : Nat) (r : Nat), E = [(0, v), (1, .int .i64 (((a : Nat) : Int))), (2, .int .i64 (((md : Nat) : Int))), (3, .int .i64 (((b : Nat) : Int))), (4, .func (.func 60) #[] #[]), (18, .int .i64 ((((a + b) / 2 : Nat) : Int))), (19, .int .i64 (((((a + b) / 2) + md : Nat) : Int))), (20, .int .i64 (((s : Nat) : Int))), (21, .int .i64 (((r : Nat) : Int))), (22, .int .i64 ((((a + b) / 2 + md - 1 : Nat) : Int)))] ∧ m = r - s ∧ St (fun _ => False) F w0 W [accR encItm 24 2 v l] ∧ (∃ s0 r0, (md > (a + b) / 2 ∧ s0 = (a + b) / 2 + md - b ∧ r0 = (a + b) / 2 ∨ ¬ md > (a + b) / 2 ∧ s0 = a ∧ r0 = md) ∧ Half l s0 r0 ((a + b) / 2 + md - 1) s r ∧ s0 ≤ s ∧ r ≤ r0 ∧ s ≤ r)) ?_ ?_
        · refine ⟨_, _, ⟨((a + b) / 2 + md - b : Nat), ((a + b) / 2 : Nat), rfl, rfl, hS1, (by first | exact ⟨_, _, .inl ⟨by omega, rfl, rfl⟩, Half.start _ _ _ _, by omega, by omega, by omega⟩ | exact ⟨_, _, .inr ⟨by omega, rfl, rfl⟩, Half.start _ _ _ _, by omega, by omega, by omega⟩)⟩, ⟨rfl, rfl, rfl, rfl, rfl, rfl, rfl, rfl, rfl, rfl, trivial⟩⟩
        · rintro _ _ w1 ⟨s, r, rfl, rfl, hS2, hh⟩ ih1
          obtain ⟨s0, r0, h0c, hhc, hsc, hrc, hsr⟩ := hh
          refine r_seq ?_
          refine r_seq ?_
          refine r_region ?_
          refine OL.q (Q1.move rfl) rfl rfl ?_
          refine OL.q (Q1.move rfl) rfl rfl ?_
          refine OL.qb (Q1.lt rfl rfl) rfl rfl ?_
          intro b4 hb4
          refine OL.nil ?_
          cases b4 with
          | true =>
            replace hb4 := of_decide_eq_true hb4.symm
            refine r_cond_t rfl ?_
            refine r_skip ?_
            refine r_block ?_
            refine r_seq ?_
            refine r_region ?_
            refine OL.q (Q1.move rfl) rfl rfl ?_
            refine OL.q (Q1.move rfl) rfl rfl ?_
            refine OL.q (Q1.addI (((s + r : Nat) : Int)) rfl rfl (by omega)) rfl rfl ?_
            refine OL.q (Q1.convN (by kernel_rfl) Try.underlying79 rfl (IntWalk.u64_in _ (by omega))) rfl rfl ?_
            refine OL.q (Q1.shr1 ((((s + r) / 2 : Nat) : Int)) rfl rfl (by omega)) rfl rfl ?_
            refine OL.q (Q1.convN (by kernel_rfl) Try.underlying3 rfl (IntWalk.i64_in _ (by omega))) rfl rfl ?_
            refine OL.q (Q1.assign rfl) rfl rfl ?_
            refine OL.nil ?_
            refine r_seq ?_
            refine r_draw1 (fun i => Nat.beq i 11) 14 (fun w' => Mod (Mg 0) w1 w') mixed (by kernel_rfl) ?_
            intro w2 hm1
            have hS3 := hS2.ext hm1
            have hCw2 : Mod (Mg 0) w1 w2 := Mod.ofExt hm1
            refine ⟨hCw2, ?_⟩
            rw [show List.range' 0 (Array.size _) = [0, 1, 2, 3, 4, 5, 6, 7, 8, 9, 10, 11, 12, 13] from rfl]
            refine OD.q rfl rfl (Q1.move rfl) rfl rfl ?_
            refine OD.q rfl rfl (Q1.move rfl) rfl rfl ?_
            refine OD.q rfl rfl (Q1.move rfl) rfl rfl ?_
            refine OD.q rfl rfl (Q1.move rfl) rfl rfl ?_
            refine OD.q rfl rfl (Q1.subI (((((a + b) / 2 + md - 1 : Nat) : Int) - ((((s + r) / 2 : Nat) : Int)))) rfl rfl (by omega)) rfl rfl ?_
            obtain ⟨g1, f1, hl1, k1⟩ := hS2.accK (i := 0) rfl
            obtain ⟨x1, b5, o1, hx1, hr1, hl2, hw1⟩ := Sl.atF (P := Try.prog) f1.sl Try.underlying31 ti24 encItm_len (k := .i64) (n := ((((a + b) / 2 + md - 1 : Nat) : Int) - ((((s + r) / 2 : Nat) : Int)))) (((a + b) / 2 + md - 1 - (s + r) / 2)) (by omega) (by first | assumption | omega)
            refine OD.q rfl rfl (Q1.indexAddr rfl rfl hr1) rfl rfl ?_
            refine OD.q rfl rfl (Q1.loadN ti24 rfl (fun _ hc => hw1.keepG hc (Nat.succ_ne_zero _)) rfl) rfl rfl ?_
            refine OD.q rfl rfl (Q1.move rfl) rfl rfl ?_
            refine OD.q rfl rfl (Q1.move rfl) rfl rfl ?_
            obtain ⟨x2, b6, o2, hx2, hr2, hl3, hw2⟩ := Sl.atF (P := Try.prog) f1.sl Try.underlying31 ti24 encItm_len (k := .i64) (n := (((s + r) / 2 : Nat) : Int)) ((s + r) / 2) (by omega) (by first | assumption | omega)
            refine OD.q rfl rfl (Q1.indexAddr rfl rfl hr2) rfl rfl ?_
            refine OD.q rfl rfl (Q1.loadN ti24 rfl (fun _ hc => hw2.keepG hc (Nat.succ_ne_zero _)) rfl) rfl rfl ?_
            refine OD.act rfl rfl rfl rfl (AW.call (first := []) (cap := []) cl60 rfl rfl (icmp_c (w0 := w2) (a := x1) (b := x2)  ) ?_)
            rintro _ w3 ⟨rfl, hm2⟩
            have hS4 := hS3.ext hm2
            have hCw3 := hCw2.ext hm2
            refine ⟨.inr hCw3, ?_⟩
            refine OD.qb rfl rfl (Q1.lt rfl rfl) rfl rfl ?_
            intro b7 hb5
            cases b7 with
            | true =>
              replace hb5 := of_decide_eq_true hb5.symm
              refine OD.q rfl rfl (Q1.not rfl) rfl rfl ?_
              refine OD.nil ?_
              refine r_cond_f rfl ?_
              refine r_region ?_
              refine OL.q (Q1.move rfl) rfl rfl ?_
              refine OL.q (Q1.assign rfl) rfl rfl ?_
              refine OL.nil ?_
              refine r_inBlock ?_
              exact (ih1 _ _ _ ⟨(s : Nat), ((s + r) / 2 : Nat), rfl, rfl, hS4, (by first | exact ⟨s0, r0, h0c, hhc.up hx2 hx1 (le_cmp (by assumption)), by omega, by omega, by omega⟩ | exact ⟨s0, r0, h0c, hhc.down hx2 hx1 (lt_cmp (by assumption)), by omega, by omega, by omega⟩ | (exfalso; omega))⟩ (by omega)).sub ⟨rfl, rfl, rfl, rfl, rfl, rfl, rfl, rfl, rfl, rfl, trivial⟩
            | false =>
              replace hb5 := of_decide_eq_false hb5.symm
              refine OD.q rfl rfl (Q1.not rfl) rfl rfl ?_
              refine OD.nil ?_
              refine r_cond_t rfl ?_
              refine r_region ?_
              refine OL.q (Q1.move rfl) rfl rfl ?_
              refine OL.q (Q1.addI (((((s + r) / 2) + 1 : Nat) : Int)) rfl rfl (by omega)) rfl rfl ?_
              refine OL.q (Q1.assign rfl) rfl rfl ?_
              refine OL.nil ?_
              refine r_inBlock ?_
              exact (ih1 _ _ _ ⟨(((s + r) / 2) + 1 : Nat), (r : Nat), rfl, rfl, hS4, (by first | exact ⟨s0, r0, h0c, hhc.up hx2 hx1 (le_cmp (by assumption)), by omega, by omega, by omega⟩ | exact ⟨s0, r0, h0c, hhc.down hx2 hx1 (lt_cmp (by assumption)), by omega, by omega, by omega⟩ | (exfalso; omega))⟩ (by omega)).sub ⟨rfl, rfl, rfl, rfl, rfl, rfl, rfl, rfl, rfl, rfl, trivial⟩
          | false =>
            replace hb4 := of_decide_eq_false hb4.symm
            refine r_cond_f rfl ?_
            refine r_exit rfl ?_
            refine r_seq ?_
            refine r_region ?_
            refine OL.q (Q1.move rfl) rfl rfl ?_
            refine OL.q (Q1.move rfl) rfl rfl ?_
            refine OL.q (Q1.subI ((((((a + b) / 2) + md : Nat) : Int) - (((s : Nat) : Int)))) rfl rfl (by omega)) rfl rfl ?_
            rw [show (((((a + b) / 2) + md : Nat) : Int) - (((s : Nat) : Int))) = (((a + b) / 2 + md - s : Nat) : Int) from by omega]
            refine OL.q (Q1.assign rfl) rfl rfl ?_
            refine OL.nil ?_
            refine r_seq ?_
            refine r_seq ?_
            refine r_region ?_
            refine OL.q (Q1.move rfl) rfl rfl ?_
            refine OL.q (Q1.move rfl) rfl rfl ?_
            refine OL.qb (Q1.lt rfl rfl) rfl rfl ?_
            intro b5 hb5
            refine OL.q (Q1.move rfl) rfl rfl ?_
            cases b5 with
            | true =>
              replace hb5 := of_decide_eq_true hb5.symm
              refine OL.q (Q1.move rfl) rfl rfl ?_
              refine OL.q (Q1.move rfl) rfl rfl ?_
              refine OL.qb (Q1.lt rfl rfl) rfl rfl ?_
              intro b6 hb6
              refine OL.q (Q1.pick_t rfl rfl) rfl rfl ?_
              refine OL.nil ?_
              cases b6 with
              | true =>
                replace hb6 := of_decide_eq_true hb6.symm
                refine r_cond_t rfl ?_
                refine r_region ?_
                refine OL.q (Q1.move rfl) rfl rfl ?_
                refine OL.q (Q1.move rfl) rfl rfl ?_
                refine OL.q (Q1.move rfl) rfl rfl ?_
                refine OL.q (Q1.move rfl) rfl rfl ?_
                refine OL.q (Q1.move rfl) rfl rfl ?_
                obtain ⟨Fy1, hAy1, hFy1, hky1⟩ := hS2.act (i := 0) rfl
                refine OL.act rfl rfl (AW.callF cl115 rfl (rot_c (w0 := w1) (a := s) (md := md) (b := (a + b) / 2 + md - s) hAy1 (fun b hb => (hFy1 b hb).2) (by omega) (by omega) (by omega) (by omega)) ?_)
                rintro _ w2 ⟨rfl, hm1, ly1, hpo1, F1, hA1, hF1⟩
                have hS3 : St (fun _ => False) F w0 w2 [accR encItm 24 2 v ly1] := hky1 _ _ _ hm1 hA1 hF1
                clear hky1 hA1
                refine OL.nil ?_
                refine r_seq ?_
                refine r_seq ?_
                refine r_region ?_
                refine OL.q (Q1.move rfl) rfl rfl ?_
                have hhv : Halved l ly1 a s ((a + b) / 2) ((a + b) / 2 + md - s) b := halved ham hmb hs1 hs2 rfl h0c ((show r = s from by omega) ▸ hhc) hsc (by omega) rfl (hpo1)
                have hlr := hhv.seg.len
                refine OL.q (Q1.move rfl) rfl rfl ?_
                refine OL.qb (Q1.lt rfl rfl) rfl rfl ?_
                intro b7 hb7
                refine OL.q (Q1.move rfl) rfl rfl ?_
                cases b7 with
                | true =>
                  replace hb7 := of_decide_eq_true hb7.symm
                  refine OL.q (Q1.move rfl) rfl rfl ?_
                  refine OL.q (Q1.move rfl) rfl rfl ?_
                  refine OL.qb (Q1.lt rfl rfl) rfl rfl ?_
                  intro b8 hb8
                  refine OL.q (Q1.pick_t rfl rfl) rfl rfl ?_
                  refine OL.nil ?_
                  cases b8 with
                  | true =>
                    replace hb8 := of_decide_eq_true hb8.symm
                    refine r_cond_t rfl ?_
                    refine r_region ?_
                    refine OL.q (Q1.move rfl) rfl rfl ?_
                    refine OL.q (Q1.move rfl) rfl rfl ?_
                    refine OL.q (Q1.move rfl) rfl rfl ?_
                    refine OL.q (Q1.move rfl) rfl rfl ?_
                    refine OL.q (Q1.move rfl) rfl rfl ?_
                    obtain ⟨Fy2, hAy2, hFy2, hky2⟩ := hS3.act (i := 0) rfl
                    refine OL.act rfl rfl (AW.callF cl106 rfl (ih (w0 := w2) (a := a) (md := s) (b := (a + b) / 2) (by omega) hAy2 (fun b hb => (hFy2 b hb).2) (by omega) (by omega) (by omega) (by omega) hhv.o1 hhv.o2) ?_)
                    rintro _ w3 ⟨rfl, hm2, ly2, hpo2, F2, hA2, hF2⟩
                    have hS4 : St (fun _ => False) F w0 w3 [accR encItm 24 2 v ly2] := hky2 _ _ _ hm2 hA2 hF2
                    clear hky2 hA2
                    refine OL.nil ?_
                    refine r_seq ?_
                    refine r_region ?_
                    refine OL.q (Q1.move rfl) rfl rfl ?_
                    obtain ⟨hsl, hol⟩ := hpo2
                    have hlq := hsl.len
                    refine OL.q (Q1.move rfl) rfl rfl ?_
                    refine OL.qb (Q1.lt rfl rfl) rfl rfl ?_
                    intro b9 hb9
                    refine OL.q (Q1.move rfl) rfl rfl ?_
                    cases b9 with
                    | true =>
                      replace hb9 := of_decide_eq_true hb9.symm
                      refine OL.q (Q1.move rfl) rfl rfl ?_
                      refine OL.q (Q1.move rfl) rfl rfl ?_
                      refine OL.qb (Q1.lt rfl rfl) rfl rfl ?_
                      intro b10 hb10
                      refine OL.q (Q1.pick_t rfl rfl) rfl rfl ?_
                      refine OL.nil ?_
                      cases b10 with
                      | true =>
                        replace hb10 := of_decide_eq_true hb10.symm
                        refine r_cond_t rfl ?_
                        refine r_region ?_
                        refine OL.q (Q1.move rfl) rfl rfl ?_
                        refine OL.q (Q1.move rfl) rfl rfl ?_
                        refine OL.q (Q1.move rfl) rfl rfl ?_
                        refine OL.q (Q1.move rfl) rfl rfl ?_
                        refine OL.q (Q1.move rfl) rfl rfl ?_
                        obtain ⟨Fy3, hAy3, hFy3, hky3⟩ := hS4.act (i := 0) rfl
                        refine OL.act rfl rfl (AW.callF cl106 rfl (ih (w0 := w3) (a := (a + b) / 2) (md := (a + b) / 2 + md - s) (b := b) (by omega) hAy3 (fun b hb => (hFy3 b hb).2) (by omega) (by omega) (by omega) (by omega) (hhv.o3.same (fun k h1 h2 => hsl.out k (by omega))) (hhv.o4.same (fun k h1 h2 => hsl.out k (by omega)))) ?_)
                        rintro _ w4 ⟨rfl, hm3, ly3, hpo3, F3, hA3, hF3⟩
                        have hS5 : St (fun _ => False) F w0 w4 [accR encItm 24 2 v ly3] := hky3 _ _ _ hm3 hA3 hF3
                        clear hky3 hA3
                        refine OL.nil ?_
                        refine r_end0 Try.func106 rfl ?_
                        obtain ⟨hmF, F2r, hAr, hFr⟩ := hS5.fin
                        exact Ret.mk ⟨rfl, hmF, ly3, sym_join hhv (by omega) (by omega) hsl hol hpo3.1 hpo3.2, F2r, hAr, hFr⟩
                      | false =>
                        replace hb10 := of_decide_eq_false hb10.symm
                        refine r_cond_f rfl ?_
                        refine r_skip ?_
                        refine r_end0 Try.func106 rfl ?_
                        obtain ⟨hmF, F2r, hAr, hFr⟩ := hS4.fin
                        exact Ret.mk ⟨rfl, hmF, ly2, sym_join hhv (by omega) (by omega) hsl hol (Seg.refl _ _ _) ((hhv.right (by omega)).same (fun k h1 h2 => hsl.out k (by omega))), F2r, hAr, hFr⟩
                    | false =>
                      replace hb9 := of_decide_eq_false hb9.symm
                      refine OL.sk rfl rfl ?_
                      refine OL.sk rfl rfl ?_
                      refine OL.sk rfl rfl ?_
                      refine OL.q (Q1.pick_f rfl rfl) rfl rfl ?_
                      refine OL.nil ?_
                      refine r_cond_f rfl ?_
                      refine r_skip ?_
                      refine r_end0 Try.func106 rfl ?_
                      obtain ⟨hmF, F2r, hAr, hFr⟩ := hS4.fin
                      exact Ret.mk ⟨rfl, hmF, ly2, sym_join hhv (by omega) (by omega) hsl hol (Seg.refl _ _ _) ((hhv.right (by omega)).same (fun k h1 h2 => hsl.out k (by omega))), F2r, hAr, hFr⟩
                  | false =>
                    replace hb8 := of_decide_eq_false hb8.symm
                    refine r_cond_f rfl ?_
                    refine r_skip ?_
                    refine r_seq ?_
                    refine r_region ?_
                    refine OL.q (Q1.move rfl) rfl rfl ?_
                    have hsl : Seg a ((a + b) / 2) ly1 ly1 := Seg.refl _ _ _
                    have hol : Srt ly1 a ((a + b) / 2) := hhv.left (by omega)
                    have hlq := hsl.len
                    refine OL.q (Q1.move rfl) rfl rfl ?_
                    refine OL.qb (Q1.lt rfl rfl) rfl rfl ?_
                    intro b9 hb9
                    refine OL.q (Q1.move rfl) rfl rfl ?_
                    cases b9 with
                    | true =>
                      replace hb9 := of_decide_eq_true hb9.symm
                      refine OL.q (Q1.move rfl) rfl rfl ?_
                      refine OL.q (Q1.move rfl) rfl rfl ?_
                      refine OL.qb (Q1.lt rfl rfl) rfl rfl ?_
                      intro b10 hb10
                      refine OL.q (Q1.pick_t rfl rfl) rfl rfl ?_
                      refine OL.nil ?_
                      cases b10 with
                      | true =>
                        replace hb10 := of_decide_eq_true hb10.symm
                        refine r_cond_t rfl ?_
                        refine r_region ?_
                        refine OL.q (Q1.move rfl) rfl rfl ?_
                        refine OL.q (Q1.move rfl) rfl rfl ?_
                        refine OL.q (Q1.move rfl) rfl rfl ?_
                        refine OL.q (Q1.move rfl) rfl rfl ?_
                        refine OL.q (Q1.move rfl) rfl rfl ?_
                        obtain ⟨Fy2, hAy2, hFy2, hky2⟩ := hS3.act (i := 0) rfl
                        refine OL.act rfl rfl (AW.callF cl106 rfl (ih (w0 := w2) (a := (a + b) / 2) (md := (a + b) / 2 + md - s) (b := b) (by omega) hAy2 (fun b hb => (hFy2 b hb).2) (by omega) (by omega) (by omega) (by omega) (hhv.o3.same (fun k h1 h2 => hsl.out k (by omega))) (hhv.o4.same (fun k h1 h2 => hsl.out k (by omega)))) ?_)
                        rintro _ w3 ⟨rfl, hm2, ly2, hpo2, F2, hA2, hF2⟩
                        have hS4 : St (fun _ => False) F w0 w3 [accR encItm 24 2 v ly2] := hky2 _ _ _ hm2 hA2 hF2
                        clear hky2 hA2
                        refine OL.nil ?_
                        refine r_end0 Try.func106 rfl ?_
                        obtain ⟨hmF, F2r, hAr, hFr⟩ := hS4.fin
                        exact Ret.mk ⟨rfl, hmF, ly2, sym_join hhv (by omega) (by omega) hsl hol hpo2.1 hpo2.2, F2r, hAr, hFr⟩
                      | false =>
                        replace hb10 := of_decide_eq_false hb10.symm
                        refine r_cond_f rfl ?_
                        refine r_skip ?_
                        refine r_end0 Try.func106 rfl ?_
                        obtain ⟨hmF, F2r, hAr, hFr⟩ := hS3.fin
                        exact Ret.mk ⟨rfl, hmF, ly1, sym_join hhv (by omega) (by omega) hsl hol (Seg.refl _ _ _) ((hhv.right (by omega)).same (fun k h1 h2 => hsl.out k (by omega))), F2r, hAr, hFr⟩
                    | false =>
                      replace hb9 := of_decide_eq_false hb9.symm
                      refine OL.sk rfl rfl ?_
                      refine OL.sk rfl rfl ?_
                      refine OL.sk rfl rfl ?_
                      refine OL.q (Q1.pick_f rfl rfl) rfl rfl ?_
                      refine OL.nil ?_
                      refine r_cond_f rfl ?_
                      refine r_skip ?_
                      refine r_end0 Try.func106 rfl ?_
                      obtain ⟨hmF, F2r, hAr, hFr⟩ := hS3.fin
                      exact Ret.mk ⟨rfl, hmF, ly1, sym_join hhv (by omega) (by omega) hsl hol (Seg.refl _ _ _) ((hhv.right (by omega)).same (fun k h1 h2 => hsl.out k (by omega))), F2r, hAr, hFr⟩
                | false =>
                  replace hb7 := of_decide_eq_false hb7.symm
                  refine OL.sk rfl rfl ?_
                  refine OL.sk rfl rfl ?_
                  refine OL.sk rfl rfl ?_
                  refine OL.q (Q1.pick_f rfl rfl) rfl rfl ?_
                  refine OL.nil ?_
                  refine r_cond_f rfl ?_
                  refine r_skip ?_
                  refine r_seq ?_
                  refine r_region ?_
                  refine OL.q (Q1.move rfl) rfl rfl ?_
                  have hsl : Seg a ((a + b) / 2) ly1 ly1 := Seg.refl _ _ _
                  have hol : Srt ly1 a ((a + b) / 2) := hhv.left (by omega)
                  have hlq := hsl.len
                  refine OL.q (Q1.move rfl) rfl rfl ?_
                  refine OL.qb (Q1.lt rfl rfl) rfl rfl ?_
                  intro b8 hb8
                  refine OL.q (Q1.move rfl) rfl rfl ?_
                  cases b8 with
                  | true =>
                    replace hb8 := of_decide_eq_true hb8.symm
                    refine OL.q (Q1.move rfl) rfl rfl ?_
                    refine OL.q (Q1.move rfl) rfl rfl ?_
                    refine OL.qb (Q1.lt rfl rfl) rfl rfl ?_
                    intro b9 hb9
                    refine OL.q (Q1.pick_t rfl rfl) rfl rfl ?_
                    refine OL.nil ?_
                    cases b9 with
                    | true =>
                      replace hb9 := of_decide_eq_true hb9.symm
                      refine r_cond_t rfl ?_
                      refine r_region ?_
                      refine OL.q (Q1.move rfl) rfl rfl ?_
                      refine OL.q (Q1.move rfl) rfl rfl ?_
                      refine OL.q (Q1.move rfl) rfl rfl ?_
                      refine OL.q (Q1.move rfl) rfl rfl ?_
                      refine OL.q (Q1.move rfl) rfl rfl ?_
                      obtain ⟨Fy2, hAy2, hFy2, hky2⟩ := hS3.act (i := 0) rfl
                      refine OL.act rfl rfl (AW.callF cl106 rfl (ih (w0 := w2) (a := (a + b) / 2) (md := (a + b) / 2 + md - s) (b := b) (by omega) hAy2 (fun b hb => (hFy2 b hb).2) (by omega) (by omega) (by omega) (by omega) (hhv.o3.same (fun k h1 h2 => hsl.out k (by omega))) (hhv.o4.same (fun k h1 h2 => hsl.out k (by omega)))) ?_)
                      rintro _ w3 ⟨rfl, hm2, ly2, hpo2, F2, hA2, hF2⟩
                      have hS4 : St (fun _ => False) F w0 w3 [accR encItm 24 2 v ly2] := hky2 _ _ _ hm2 hA2 hF2
                      clear hky2 hA2
                      refine OL.nil ?_
                      refine r_end0 Try.func106 rfl ?_
                      obtain ⟨hmF, F2r, hAr, hFr⟩ := hS4.fin
                      exact Ret.mk ⟨rfl, hmF, ly2, sym_join hhv (by omega) (by omega) hsl hol hpo2.1 hpo2.2, F2r, hAr, hFr⟩
                    | false =>
                      replace hb9 := of_decide_eq_false hb9.symm
                      refine r_cond_f rfl ?_
                      refine r_skip ?_
                      refine r_end0 Try.func106 rfl ?_
                      obtain ⟨hmF, F2r, hAr, hFr⟩ := hS3.fin
                      exact Ret.mk ⟨rfl, hmF, ly1, sym_join hhv (by omega) (by omega) hsl hol (Seg.refl _ _ _) ((hhv.right (by omega)).same (fun k h1 h2 => hsl.out k (by omega))), F2r, hAr, hFr⟩
                  | false =>
                    replace hb8 := of_decide_eq_false hb8.symm
                    refine OL.sk rfl rfl ?_
                    refine OL.sk rfl rfl ?_
                    refine OL.sk rfl rfl ?_
                    refine OL.q (Q1.pick_f rfl rfl) rfl rfl ?_
                    refine OL.nil ?_
                    refine r_cond_f rfl ?_
                    refine r_skip ?_
                    refine r_end0 Try.func106 rfl ?_
                    obtain ⟨hmF, F2r, hAr, hFr⟩ := hS3.fin
                    exact Ret.mk ⟨rfl, hmF, ly1, sym_join hhv (by omega) (by omega) hsl hol (Seg.refl _ _ _) ((hhv.right (by omega)).same (fun k h1 h2 => hsl.out k (by omega))), F2r, hAr, hFr⟩
              | false =>
                replace hb6 := of_decide_eq_false hb6.symm
                refine r_cond_f rfl ?_
                refine r_skip ?_
                refine r_seq ?_
                refine r_seq ?_
                refine r_region ?_
                refine OL.q (Q1.move rfl) rfl rfl ?_
                have hhv : Halved l l a s ((a + b) / 2) ((a + b) / 2 + md - s) b := halved ham hmb hs1 hs2 rfl h0c ((show r = s from by omega) ▸ hhc) hsc (by omega) rfl (RotP.same (by omega) (by omega) (by omega))
                have hlr := hhv.seg.len
                refine OL.q (Q1.move rfl) rfl rfl ?_
                refine OL.qb (Q1.lt rfl rfl) rfl rfl ?_
                intro b7 hb7
                refine OL.q (Q1.move rfl) rfl rfl ?_
                cases b7 with
                | true =>
                  replace hb7 := of_decide_eq_true hb7.symm
                  refine OL.q (Q1.move rfl) rfl rfl ?_
                  refine OL.q (Q1.move rfl) rfl rfl ?_
                  refine OL.qb (Q1.lt rfl rfl) rfl rfl ?_
                  intro b8 hb8
                  refine OL.q (Q1.pick_t rfl rfl) rfl rfl ?_
                  refine OL.nil ?_
                  cases b8 with
                  | true =>
                    replace hb8 := of_decide_eq_true hb8.symm
                    refine r_cond_t rfl ?_
                    refine r_region ?_
                    refine OL.q (Q1.move rfl) rfl rfl ?_
                    refine OL.q (Q1.move rfl) rfl rfl ?_
                    refine OL.q (Q1.move rfl) rfl rfl ?_
                    refine OL.q (Q1.move rfl) rfl rfl ?_
                    refine OL.q (Q1.move rfl) rfl rfl ?_
                    obtain ⟨Fy1, hAy1, hFy1, hky1⟩ := hS2.act (i := 0) rfl
                    refine OL.act rfl rfl (AW.callF cl106 rfl (ih (w0 := w1) (a := a) (md := s) (b := (a + b) / 2) (by omega) hAy1 (fun b hb => (hFy1 b hb).2) (by omega) (by omega) (by omega) (by omega) hhv.o1 hhv.o2) ?_)
                    rintro _ w2 ⟨rfl, hm1, ly1, hpo1, F1, hA1, hF1⟩
                    have hS3 : St (fun _ => False) F w0 w2 [accR encItm 24 2 v ly1] := hky1 _ _ _ hm1 hA1 hF1
                    clear hky1 hA1
                    refine OL.nil ?_
                    refine r_seq ?_
                    refine r_region ?_
                    refine OL.q (Q1.move rfl) rfl rfl ?_
                    obtain ⟨hsl, hol⟩ := hpo1
                    have hlq := hsl.len
                    refine OL.q (Q1.move rfl) rfl rfl ?_
                    refine OL.qb (Q1.lt rfl rfl) rfl rfl ?_
                    intro b9 hb9
                    refine OL.q (Q1.move rfl) rfl rfl ?_
                    cases b9 with
                    | true =>
                      replace hb9 := of_decide_eq_true hb9.symm
                      refine OL.q (Q1.move rfl) rfl rfl ?_
                      refine OL.q (Q1.move rfl) rfl rfl ?_
                      refine OL.qb (Q1.lt rfl rfl) rfl rfl ?_
                      intro b10 hb10
                      refine OL.q (Q1.pick_t rfl rfl) rfl rfl ?_
                      refine OL.nil ?_
                      cases b10 with
                      | true =>
                        replace hb10 := of_decide_eq_true hb10.symm
                        refine r_cond_t rfl ?_
                        refine r_region ?_
                        refine OL.q (Q1.move rfl) rfl rfl ?_
                        refine OL.q (Q1.move rfl) rfl rfl ?_
                        refine OL.q (Q1.move rfl) rfl rfl ?_
                        refine OL.q (Q1.move rfl) rfl rfl ?_
                        refine OL.q (Q1.move rfl) rfl rfl ?_
                        obtain ⟨Fy2, hAy2, hFy2, hky2⟩ := hS3.act (i := 0) rfl
                        refine OL.act rfl rfl (AW.callF cl106 rfl (ih (w0 := w2) (a := (a + b) / 2) (md := (a + b) / 2 + md - s) (b := b) (by omega) hAy2 (fun b hb => (hFy2 b hb).2) (by omega) (by omega) (by omega) (by omega) (hhv.o3.same (fun k h1 h2 => hsl.out k (by omega))) (hhv.o4.same (fun k h1 h2 => hsl.out k (by omega)))) ?_)
                        rintro _ w3 ⟨rfl, hm2, ly2, hpo2, F2, hA2, hF2⟩
                        have hS4 : St (fun _ => False) F w0 w3 [accR encItm 24 2 v ly2] := hky2 _ _ _ hm2 hA2 hF2
                        clear hky2 hA2
                        refine OL.nil ?_
                        refine r_end0 Try.func106 rfl ?_
                        obtain ⟨hmF, F2r, hAr, hFr⟩ := hS4.fin
                        exact Ret.mk ⟨rfl, hmF, ly2, sym_join hhv (by omega) (by omega) hsl hol hpo2.1 hpo2.2, F2r, hAr, hFr⟩
                      | false =>
                        replace hb10 := of_decide_eq_false hb10.symm
                        refine r_cond_f rfl ?_
                        refine r_skip ?_
                        refine r_end0 Try.func106 rfl ?_
                        obtain ⟨hmF, F2r, hAr, hFr⟩ := hS3.fin
                        exact Ret.mk ⟨rfl, hmF, ly1, sym_join hhv (by omega) (by omega) hsl hol (Seg.refl _ _ _) ((hhv.right (by omega)).same (fun k h1 h2 => hsl.out k (by omega))), F2r, hAr, hFr⟩
                    | false =>
                      replace hb9 := of_decide_eq_false hb9.symm
                      refine OL.sk rfl rfl ?_
                      refine OL.sk rfl rfl ?_
                      refine OL.sk rfl rfl ?_
                      refine OL.q (Q1.pick_f rfl rfl) rfl rfl ?_
                      refine OL.nil ?_
                      refine r_cond_f rfl ?_
                      refine r_skip ?_
                      refine r_end0 Try.func106 rfl ?_
                      obtain ⟨hmF, F2r, hAr, hFr⟩ := hS3.fin
                      exact Ret.mk ⟨rfl, hmF, ly1, sym_join hhv (by omega) (by omega) hsl hol (Seg.refl _ _ _) ((hhv.right (by omega)).same (fun k h1 h2 => hsl.out k (by omega))), F2r, hAr, hFr⟩
                  | false =>
                    replace hb8 := of_decide_eq_false hb8.symm
                    refine r_cond_f rfl ?_
                    refine r_skip ?_
                    refine r_seq ?_
                    refine r_region ?_
                    refine OL.q (Q1.move rfl) rfl rfl ?_
                    have hsl : Seg a ((a + b) / 2) l l := Seg.refl _ _ _
                    have hol : Srt l a ((a + b) / 2) := hhv.left (by omega)
                    have hlq := hsl.len
                    refine OL.q (Q1.move rfl) rfl rfl ?_
                    refine OL.qb (Q1.lt rfl rfl) rfl rfl ?_
                    intro b9 hb9
                    refine OL.q (Q1.move rfl) rfl rfl ?_
                    cases b9 with
                    | true =>
                      replace hb9 := of_decide_eq_true hb9.symm
                      refine OL.q (Q1.move rfl) rfl rfl ?_
                      refine OL.q (Q1.move rfl) rfl rfl ?_
                      refine OL.qb (Q1.lt rfl rfl) rfl rfl ?_
                      intro b10 hb10
                      refine OL.q (Q1.pick_t rfl rfl) rfl rfl ?_
                      refine OL.nil ?_
                      cases b10 with
                      | true =>
                        replace hb10 := of_decide_eq_true hb10.symm
                        refine r_cond_t rfl ?_
                        refine r_region ?_
                        refine OL.q (Q1.move rfl) rfl rfl ?_
                        refine OL.q (Q1.move rfl) rfl rfl ?_
                        refine OL.q (Q1.move rfl) rfl rfl ?_
                        refine OL.q (Q1.move rfl) rfl rfl ?_
                        refine OL.q (Q1.move rfl) rfl rfl ?_
                        obtain ⟨Fy1, hAy1, hFy1, hky1⟩ := hS2.act (i := 0) rfl
                        refine OL.act rfl rfl (AW.callF cl106 rfl (ih (w0 := w1) (a := (a + b) / 2) (md := (a + b) / 2 + md - s) (b := b) (by omega) hAy1 (fun b hb => (hFy1 b hb).2) (by omega) (by omega) (by omega) (by omega) (hhv.o3.same (fun k h1 h2 => hsl.out k (by omega))) (hhv.o4.same (fun k h1 h2 => hsl.out k (by omega)))) ?_)
                        rintro _ w2 ⟨rfl, hm1, ly1, hpo1, F1, hA1, hF1⟩
                        have hS3 : St (fun _ => False) F w0 w2 [accR encItm 24 2 v ly1] := hky1 _ _ _ hm1 hA1 hF1
                        clear hky1 hA1
                        refine OL.nil ?_
                        refine r_end0 Try.func106 rfl ?_
                        obtain ⟨hmF, F2r, hAr, hFr⟩ := hS3.fin
                        exact Ret.mk ⟨rfl, hmF, ly1, sym_join hhv (by omega) (by omega) hsl hol hpo1.1 hpo1.2, F2r, hAr, hFr⟩
                      | false =>
                        replace hb10 := of_decide_eq_false hb10.symm
                        refine r_cond_f rfl ?_
                        refine r_skip ?_
                        refine r_end0 Try.func106 rfl ?_
                        obtain ⟨hmF, F2r, hAr, hFr⟩ := hS2.fin
                        exact Ret.mk ⟨rfl, hmF, l, sym_join hhv (by omega) (by omega) hsl hol (Seg.refl _ _ _) ((hhv.right (by omega)).same (fun k h1 h2 => hsl.out k (by omega))), F2r, hAr, hFr⟩
                    | false =>
                      replace hb9 := of_decide_eq_false hb9.symm
                      refine OL.sk rfl rfl ?_
                      refine OL.sk rfl rfl ?_
                      refine OL.sk rfl rfl ?_
                      refine OL.q (Q1.pick_f rfl rfl) rfl rfl ?_
                      refine OL.nil ?_
                      refine r_cond_f rfl ?_
                      refine r_skip ?_
                      refine r_end0 Try.func106 rfl ?_
                      obtain ⟨hmF, F2r, hAr, hFr⟩ := hS2.fin
                      exact Ret.mk ⟨rfl, hmF, l, sym_join hhv (by omega) (by omega) hsl hol (Seg.refl _ _ _) ((hhv.right (by omega)).same (fun k h1 h2 => hsl.out k (by omega))), F2r, hAr, hFr⟩
                | false =>
                  replace hb7 := of_decide_eq_false hb7.symm
                  refine OL.sk rfl rfl ?_
                  refine OL.sk rfl rfl ?_
                  refine OL.sk rfl rfl ?_
                  refine OL.q (Q1.pick_f rfl rfl) rfl rfl ?_
                  refine OL.nil ?_
                  refine r_cond_f rfl ?_
                  refine r_skip ?_
                  refine r_seq ?_
                  refine r_region ?_
                  refine OL.q (Q1.move rfl) rfl rfl ?_
                  have hsl : Seg a ((a + b) / 2) l l := Seg.refl _ _ _
                  have hol : Srt l a ((a + b) / 2) := hhv.left (by omega)
                  have hlq := hsl.len
                  refine OL.q (Q1.move rfl) rfl rfl ?_
                  refine OL.qb (Q1.lt rfl rfl) rfl rfl ?_
                  intro b8 hb8
                  refine OL.q (Q1.move rfl) rfl rfl ?_
                  cases b8 with
                  | true =>
                    replace hb8 := of_decide_eq_true hb8.symm
                    refine OL.q (Q1.move rfl) rfl rfl ?_
                    refine OL.q (Q1.move rfl) rfl rfl ?_
                    refine OL.qb (Q1.lt rfl rfl) rfl rfl ?_
                    intro b9 hb9
                    refine OL.q (Q1.pick_t rfl rfl) rfl rfl ?_
                    refine OL.nil ?_
                    cases b9 with
                    | true =>
                      replace hb9 := of_decide_eq_true hb9.symm
                      refine r_cond_t rfl ?_
                      refine r_region ?_
                      refine OL.q (Q1.move rfl) rfl rfl ?_
                      refine OL.q (Q1.move rfl) rfl rfl ?_
                      refine OL.q (Q1.move rfl) rfl rfl ?_
                      refine OL.q (Q1.move rfl) rfl rfl ?_
                      refine OL.q (Q1.move rfl) rfl rfl ?_
                      obtain ⟨Fy1, hAy1, hFy1, hky1⟩ := hS2.act (i := 0) rfl
                      refine OL.act rfl rfl (AW.callF cl106 rfl (ih (w0 := w1) (a := (a + b) / 2) (md := (a + b) / 2 + md - s) (b := b) (by omega) hAy1 (fun b hb => (hFy1 b hb).2) (by omega) (by omega) (by omega) (by omega) (hhv.o3.same (fun k h1 h2 => hsl.out k (by omega))) (hhv.o4.same (fun k h1 h2 => hsl.out k (by omega)))) ?_)
                      rintro _ w2 ⟨rfl, hm1, ly1, hpo1, F1, hA1, hF1⟩
                      have hS3 : St (fun _ => False) F w0 w2 [accR encItm 24 2 v ly1] := hky1 _ _ _ hm1 hA1 hF1
                      clear hky1 hA1
                      refine OL.nil ?_
                      refine r_end0 Try.func106 rfl ?_
                      obtain ⟨hmF, F2r, hAr, hFr⟩ := hS3.fin
                      exact Ret.mk ⟨rfl, hmF, ly1, sym_join hhv (by omega) (by omega) hsl hol hpo1.1 hpo1.2, F2r, hAr, hFr⟩
                    | false =>
                      replace hb9 := of_decide_eq_false hb9.symm
                      refine r_cond_f rfl ?_
                      refine r_skip ?_
                      refine r_end0 Try.func106 rfl ?_
                      obtain ⟨hmF, F2r, hAr, hFr⟩ := hS2.fin
                      exact Ret.mk ⟨rfl, hmF, l, sym_join hhv (by omega) (by omega) hsl hol (Seg.refl _ _ _) ((hhv.right (by omega)).same (fun k h1 h2 => hsl.out k (by omega))), F2r, hAr, hFr⟩
                  | false =>
                    replace hb8 := of_decide_eq_false hb8.symm
                    refine OL.sk rfl rfl ?_
                    refine OL.sk rfl rfl ?_
                    refine OL.sk rfl rfl ?_
                    refine OL.q (Q1.pick_f rfl rfl) rfl rfl ?_
                    refine OL.nil ?_
                    refine r_cond_f rfl ?_
                    refine r_skip ?_
                    refine r_end0 Try.func106 rfl ?_
                    obtain ⟨hmF, F2r, hAr, hFr⟩ := hS2.fin
                    exact Ret.mk ⟨rfl, hmF, l, sym_join hhv (by omega) (by omega) hsl hol (Seg.refl _ _ _) ((hhv.right (by omega)).same (fun k h1 h2 => hsl.out k (by omega))), F2r, hAr, hFr⟩
            | false =>
              replace hb5 := of_decide_eq_false hb5.symm
              refine OL.sk rfl rfl ?_
              refine OL.sk rfl rfl ?_
              refine OL.sk rfl rfl ?_
              refine OL.q (Q1.pick_f rfl rfl) rfl rfl ?_
              refine OL.nil ?_
              refine r_cond_f rfl ?_
              refine r_skip ?_
              refine r_seq ?_
              refine r_seq ?_
              refine r_region ?_
              refine OL.q (Q1.move rfl) rfl rfl ?_
              have hhv : Halved l l a s ((a + b) / 2) ((a + b) / 2 + md - s) b := halved ham hmb hs1 hs2 rfl h0c ((show r = s from by omega) ▸ hhc) hsc (by omega) rfl (RotP.same (by omega) (by omega) (by omega))
              have hlr := hhv.seg.len
              refine OL.q (Q1.move rfl) rfl rfl ?_
              refine OL.qb (Q1.lt rfl rfl) rfl rfl ?_
              intro b6 hb6
              refine OL.q (Q1.move rfl) rfl rfl ?_
              cases b6 with
              | true =>
                replace hb6 := of_decide_eq_true hb6.symm
                refine OL.q (Q1.move rfl) rfl rfl ?_
                refine OL.q (Q1.move rfl) rfl rfl ?_
                refine OL.qb (Q1.lt rfl rfl) rfl rfl ?_
                intro b7 hb7
                refine OL.q (Q1.pick_t rfl rfl) rfl rfl ?_
                refine OL.nil ?_
                cases b7 with
                | true =>
                  replace hb7 := of_decide_eq_true hb7.symm
                  refine r_cond_t rfl ?_
                  refine r_region ?_
                  refine OL.q (Q1.move rfl) rfl rfl ?_
                  refine OL.q (Q1.move rfl) rfl rfl ?_
                  refine OL.q (Q1.move rfl) rfl rfl ?_
                  refine OL.q (Q1.move rfl) rfl rfl ?_
                  refine OL.q (Q1.move rfl) rfl rfl ?_
                  obtain ⟨Fy1, hAy1, hFy1, hky1⟩ := hS2.act (i := 0) rfl
                  refine OL.act rfl rfl (AW.callF cl106 rfl (ih (w0 := w1) (a := a) (md := s) (b := (a + b) / 2) (by omega) hAy1 (fun b hb => (hFy1 b hb).2) (by omega) (by omega) (by omega) (by omega) hhv.o1 hhv.o2) ?_)
                  rintro _ w2 ⟨rfl, hm1, ly1, hpo1, F1, hA1, hF1⟩
                  have hS3 : St (fun _ => False) F w0 w2 [accR encItm 24 2 v ly1] := hky1 _ _ _ hm1 hA1 hF1
                  clear hky1 hA1
                  refine OL.nil ?_
                  refine r_seq ?_
                  refine r_region ?_
                  refine OL.q (Q1.move rfl) rfl rfl ?_
                  obtain ⟨hsl, hol⟩ := hpo1
                  have hlq := hsl.len
                  refine OL.q (Q1.move rfl) rfl rfl ?_
                  refine OL.qb (Q1.lt rfl rfl) rfl rfl ?_
                  intro b8 hb8
                  refine OL.q (Q1.move rfl) rfl rfl ?_
                  cases b8 with
                  | true =>
                    replace hb8 := of_decide_eq_true hb8.symm
                    refine OL.q (Q1.move rfl) rfl rfl ?_
                    refine OL.q (Q1.move rfl) rfl rfl ?_
                    refine OL.qb (Q1.lt rfl rfl) rfl rfl ?_
                    intro b9 hb9
                    refine OL.q (Q1.pick_t rfl rfl) rfl rfl ?_
                    refine OL.nil ?_
                    cases b9 with
                    | true =>
                      replace hb9 := of_decide_eq_true hb9.symm
                      refine r_cond_t rfl ?_
                      refine r_region ?_
                      refine OL.q (Q1.move rfl) rfl rfl ?_
                      refine OL.q (Q1.move rfl) rfl rfl ?_
                      refine OL.q (Q1.move rfl) rfl rfl ?_
                      refine OL.q (Q1.move rfl) rfl rfl ?_
                      refine OL.q (Q1.move rfl) rfl rfl ?_
                      obtain ⟨Fy2, hAy2, hFy2, hky2⟩ := hS3.act (i := 0) rfl
                      refine OL.act rfl rfl (AW.callF cl106 rfl (ih (w0 := w2) (a := (a + b) / 2) (md := (a + b) / 2 + md - s) (b := b) (by omega) hAy2 (fun b hb => (hFy2 b hb).2) (by omega) (by omega) (by omega) (by omega) (hhv.o3.same (fun k h1 h2 => hsl.out k (by omega))) (hhv.o4.same (fun k h1 h2 => hsl.out k (by omega)))) ?_)
                      rintro _ w3 ⟨rfl, hm2, ly2, hpo2, F2, hA2, hF2⟩
                      have hS4 : St (fun _ => False) F w0 w3 [accR encItm 24 2 v ly2] := hky2 _ _ _ hm2 hA2 hF2
                      clear hky2 hA2
                      refine OL.nil ?_
                      refine r_end0 Try.func106 rfl ?_
                      obtain ⟨hmF, F2r, hAr, hFr⟩ := hS4.fin
                      exact Ret.mk ⟨rfl, hmF, ly2, sym_join hhv (by omega) (by omega) hsl hol hpo2.1 hpo2.2, F2r, hAr, hFr⟩
                    | false =>
                      replace hb9 := of_decide_eq_false hb9.symm
                      refine r_cond_f rfl ?_
                      refine r_skip ?_
                      refine r_end0 Try.func106 rfl ?_
                      obtain ⟨hmF, F2r, hAr, hFr⟩ := hS3.fin
                      exact Ret.mk ⟨rfl, hmF, ly1, sym_join hhv (by omega) (by omega) hsl hol (Seg.refl _ _ _) ((hhv.right (by omega)).same (fun k h1 h2 => hsl.out k (by omega))), F2r, hAr, hFr⟩
                  | false =>
                    replace hb8 := of_decide_eq_false hb8.symm
                    refine OL.sk rfl rfl ?_
                    refine OL.sk rfl rfl ?_
                    refine OL.sk rfl rfl ?_
                    refine OL.q (Q1.pick_f rfl rfl) rfl rfl ?_
                    refine OL.nil ?_
                    refine r_cond_f rfl ?_
                    refine r_skip ?_
                    refine r_end0 Try.func106 rfl ?_
                    obtain ⟨hmF, F2r, hAr, hFr⟩ := hS3.fin
                    exact Ret.mk ⟨rfl, hmF, ly1, sym_join hhv (by omega) (by omega) hsl hol (Seg.refl _ _ _) ((hhv.right (by omega)).same (fun k h1 h2 => hsl.out k (by omega))), F2r, hAr, hFr⟩
                | false =>
                  replace hb7 := of_decide_eq_false hb7.symm
                  refine r_cond_f rfl ?_
                  refine r_skip ?_
                  refine r_seq ?_
                  refine r_region ?_
                  refine OL.q (Q1.move rfl) rfl rfl ?_
                  have hsl : Seg a ((a + b) / 2) l l := Seg.refl _ _ _
                  have hol : Srt l a ((a + b) / 2) := hhv.left (by omega)
                  have hlq := hsl.len
                  refine OL.q (Q1.move rfl) rfl rfl ?_
                  refine OL.qb (Q1.lt rfl rfl) rfl rfl ?_
                  intro b8 hb8
                  refine OL.q (Q1.move rfl) rfl rfl ?_
                  cases b8 with
                  | true =>
                    replace hb8 := of_decide_eq_true hb8.symm
                    refine OL.q (Q1.move rfl) rfl rfl ?_
                    refine OL.q (Q1.move rfl) rfl rfl ?_
                    refine OL.qb (Q1.lt rfl rfl) rfl rfl ?_
                    intro b9 hb9
                    refine OL.q (Q1.pick_t rfl rfl) rfl rfl ?_
                    refine OL.nil ?_
                    cases b9 with
                    | true =>
                      replace hb9 := of_decide_eq_true hb9.symm
                      refine r_cond_t rfl ?_
                      refine r_region ?_
                      refine OL.q (Q1.move rfl) rfl rfl ?_
                      refine OL.q (Q1.move rfl) rfl rfl ?_
                      refine OL.q (Q1.move rfl) rfl rfl ?_
                      refine OL.q (Q1.move rfl) rfl rfl ?_
                      refine OL.q (Q1.move rfl) rfl rfl ?_
                      obtain ⟨Fy1, hAy1, hFy1, hky1⟩ := hS2.act (i := 0) rfl
                      refine OL.act rfl rfl (AW.callF cl106 rfl (ih (w0 := w1) (a := (a + b) / 2) (md := (a + b) / 2 + md - s) (b := b) (by omega) hAy1 (fun b hb => (hFy1 b hb).2) (by omega) (by omega) (by omega) (by omega) (hhv.o3.same (fun k h1 h2 => hsl.out k (by omega))) (hhv.o4.same (fun k h1 h2 => hsl.out k (by omega)))) ?_)
                      rintro _ w2 ⟨rfl, hm1, ly1, hpo1, F1, hA1, hF1⟩
                      have hS3 : St (fun _ => False) F w0 w2 [accR encItm 24 2 v ly1] := hky1 _ _ _ hm1 hA1 hF1
                      clear hky1 hA1
                      refine OL.nil ?_
                      refine r_end0 Try.func106 rfl ?_
                      obtain ⟨hmF, F2r, hAr, hFr⟩ := hS3.fin
                      exact Ret.mk ⟨rfl, hmF, ly1, sym_join hhv (by omega) (by omega) hsl hol hpo1.1 hpo1.2, F2r, hAr, hFr⟩
                    | false =>
                      replace hb9 := of_decide_eq_false hb9.symm
                      refine r_cond_f rfl ?_
                      refine r_skip ?_
                      refine r_end0 Try.func106 rfl ?_
                      obtain ⟨hmF, F2r, hAr, hFr⟩ := hS2.fin
                      exact Ret.mk ⟨rfl, hmF, l, sym_join hhv (by omega) (by omega) hsl hol (Seg.refl _ _ _) ((hhv.right (by omega)).same (fun k h1 h2 => hsl.out k (by omega))), F2r, hAr, hFr⟩
                  | false =>
                    replace hb8 := of_decide_eq_false hb8.symm
                    refine OL.sk rfl rfl ?_
                    refine OL.sk rfl rfl ?_
                    refine OL.sk rfl rfl ?_
                    refine OL.q (Q1.pick_f rfl rfl) rfl rfl ?_
                    refine OL.nil ?_
                    refine r_cond_f rfl ?_
                    refine r_skip ?_
                    refine r_end0 Try.func106 rfl ?_
                    obtain ⟨hmF, F2r, hAr, hFr⟩ := hS2.fin
                    exact Ret.mk ⟨rfl, hmF, l, sym_join hhv (by omega) (by omega) hsl hol (Seg.refl _ _ _) ((hhv.right (by omega)).same (fun k h1 h2 => hsl.out k (by omega))), F2r, hAr, hFr⟩
              | false =>
                replace hb6 := of_decide_eq_false hb6.symm
                refine OL.sk rfl rfl ?_
                refine OL.sk rfl rfl ?_
                refine OL.sk rfl rfl ?_
                refine OL.q (Q1.pick_f rfl rfl) rfl rfl ?_
                refine OL.nil ?_
                refine r_cond_f rfl ?_
                refine r_skip ?_
                refine r_seq ?_
                refine r_region ?_
                refine OL.q (Q1.move rfl) rfl rfl ?_
                have hsl : Seg a ((a + b) / 2) l l := Seg.refl _ _ _
                have hol : Srt l a ((a + b) / 2) := hhv.left (by omega)
                have hlq := hsl.len
                refine OL.q (Q1.move rfl) rfl rfl ?_
                refine OL.qb (Q1.lt rfl rfl) rfl rfl ?_
                intro b7 hb7
                refine OL.q (Q1.move rfl) rfl rfl ?_
                cases b7 with
                | true =>
                  replace hb7 := of_decide_eq_true hb7.symm
                  refine OL.q (Q1.move rfl) rfl rfl ?_
                  refine OL.q (Q1.move rfl) rfl rfl ?_
                  refine OL.qb (Q1.lt rfl rfl) rfl rfl ?_
                  intro b8 hb8
                  refine OL.q (Q1.pick_t rfl rfl) rfl rfl ?_
                  refine OL.nil ?_
                  cases b8 with
                  | true =>
                    replace hb8 := of_decide_eq_true hb8.symm
                    refine r_cond_t rfl ?_
                    refine r_region ?_
                    refine OL.q (Q1.move rfl) rfl rfl ?_
                    refine OL.q (Q1.move rfl) rfl rfl ?_
                    refine OL.q (Q1.move rfl) rfl rfl ?_
                    refine OL.q (Q1.move rfl) rfl rfl ?_
                    refine OL.q (Q1.move rfl) rfl rfl ?_
                    obtain ⟨Fy1, hAy1, hFy1, hky1⟩ := hS2.act (i := 0) rfl
                    refine OL.act rfl rfl (AW.callF cl106 rfl (ih (w0 := w1) (a := (a + b) / 2) (md := (a + b) / 2 + md - s) (b := b) (by omega) hAy1 (fun b hb => (hFy1 b hb).2) (by omega) (by omega) (by omega) (by omega) (hhv.o3.same (fun k h1 h2 => hsl.out k (by omega))) (hhv.o4.same (fun k h1 h2 => hsl.out k (by omega)))) ?_)
                    rintro _ w2 ⟨rfl, hm1, ly1, hpo1, F1, hA1, hF1⟩
                    have hS3 : St (fun _ => False) F w0 w2 [accR encItm 24 2 v ly1] := hky1 _ _ _ hm1 hA1 hF1
                    clear hky1 hA1
                    refine OL.nil ?_
                    refine r_end0 Try.func106 rfl ?_
                    obtain ⟨hmF, F2r, hAr, hFr⟩ := hS3.fin
                    exact Ret.mk ⟨rfl, hmF, ly1, sym_join hhv (by omega) (by omega) hsl hol hpo1.1 hpo1.2, F2r, hAr, hFr⟩
                  | false =>
                    replace hb8 := of_decide_eq_false hb8.symm
                    refine r_cond_f rfl ?_
                    refine r_skip ?_
                    refine r_end0 Try.func106 rfl ?_
                    obtain ⟨hmF, F2r, hAr, hFr⟩ := hS2.fin
                    exact Ret.mk ⟨rfl, hmF, l, sym_join hhv (by omega) (by omega) hsl hol (Seg.refl _ _ _) ((hhv.right (by omega)).same (fun k h1 h2 => hsl.out k (by omega))), F2r, hAr, hFr⟩
                | false =>
                  replace hb7 := of_decide_eq_false hb7.symm
                  refine OL.sk rfl rfl ?_
                  refine OL.sk rfl rfl ?_
                  refine OL.sk rfl rfl ?_
                  refine OL.q (Q1.pick_f rfl rfl) rfl rfl ?_
                  refine OL.nil ?_
                  refine r_cond_f rfl ?_
                  refine r_skip ?_
                  refine r_end0 Try.func106 rfl ?_
                  obtain ⟨hmF, F2r, hAr, hFr⟩ := hS2.fin
                  exact Ret.mk ⟨rfl, hmF, l, sym_join hhv (by omega) (by omega) hsl hol (Seg.refl _ _ _) ((hhv.right (by omega)).same (fun k h1 h2 => hsl.out k (by omega))), F2r, hAr, hFr⟩
      | false =>
        replace hb3 := of_decide_eq_false hb3.symm
        refine r_cond_f rfl ?_
        refine r_seq ?_
        refine r_region ?_
        refine OL.q (Q1.move rfl) rfl rfl ?_
        refine OL.q (Q1.assign rfl) rfl rfl ?_
        refine OL.nil ?_
        refine r_region ?_
        refine OL.q (Q1.move rfl) rfl rfl ?_
        refine OL.q (Q1.assign rfl) rfl rfl ?_
        refine OL.nil ?_
        refine r_seq ?_
        refine r_region ?_
        refine OL.q (Q1.move rfl) rfl rfl ?_
        refine OL.q (Q1.subI ((((((a + b) / 2) + md : Nat) : Int) - 1)) rfl rfl (by omega)) rfl rfl ?_
        rw [show (((((a + b) / 2) + md : Nat) : Int) - 1) = (((a + b) / 2 + md - 1 : Nat) : Int) from by omega]
        refine OL.q (Q1.assign rfl) rfl rfl ?_
        refine OL.nil ?_
        refine r_seq ?_
        refine r_block ?_
        refine r_loop (I := fun m E W => ∃ (s : Nat) (r : Nat), E = [(0, v), (1, .int .i64 (((a : Nat) : Int))), (2, .int .i64 (((md : Nat) : Int))), (3, .int .i64 (((b : Nat) : Int))), (4, .func (.func 60) #[] #[]), (18, .int .i64 ((((a + b) / 2 : Nat) : Int))), (19, .int .i64 (((((a + b) / 2) + md : Nat) : Int))), (20, .int .i64 (((s : Nat) : Int))), (21, .int .i64 (((r : Nat) : Int))), (22, .int .i64 ((((a + b) / 2 + md - 1 : Nat) : Int)))] ∧ m = r - s ∧ St (fun _ => False) F w0 W [accR encItm 24 2 v l] ∧ (∃ s0 r0, (md > (a + b) / 2 ∧ s0 = (a + b) / 2 + md - b ∧ r0 = (a + b) / 2 ∨ ¬ md > (a + b) / 2 ∧ s0 = a ∧ r0 = md) ∧ Half l s0 r0 ((a + b) / 2 + md - 1) s r ∧ s0 ≤ s ∧ r ≤ r0 ∧ s ≤ r)) ?_ ?_
        · refine ⟨_, _, ⟨(a : Nat), (md : Nat), rfl, rfl, hS1, (by first | exact ⟨_, _, .inl ⟨by omega, rfl, rfl⟩, Half.start _ _ _ _, by omega, by omega, by omega⟩ | exact ⟨_, _, .inr ⟨by omega, rfl, rfl⟩, Half.start _ _ _ _, by omega, by omega, by omega⟩)⟩, ⟨rfl, rfl, rfl, rfl, rfl, rfl, rfl, rfl, rfl, rfl, trivial⟩⟩
        · rintro _ _ w1 ⟨s, r, rfl, rfl, hS2, hh⟩ ih1
          obtain ⟨s0, r0, h0c, hhc, hsc, hrc, hsr⟩ := hh
          refine r_seq ?_
          refine r_seq ?_
          refine r_region ?_
          refine OL.q (Q1.move rfl) rfl rfl ?_
          refine OL.q (Q1.move rfl) rfl rfl ?_
          refine OL.qb (Q1.lt rfl rfl) rfl rfl ?_
          intro b4 hb4
          refine OL.nil ?_
          cases b4 with
          | true =>
            replace hb4 := of_decide_eq_true hb4.symm
            refine r_cond_t rfl ?_
            refine r_skip ?_
            refine r_block ?_
            refine r_seq ?_
            refine r_region ?_
            refine OL.q (Q1.move rfl) rfl rfl ?_
            refine OL.q (Q1.move rfl) rfl rfl ?_
            refine OL.q (Q1.addI (((s + r : Nat) : Int)) rfl rfl (by omega)) rfl rfl ?_
            refine OL.q (Q1.convN (by kernel_rfl) Try.underlying79 rfl (IntWalk.u64_in _ (by omega))) rfl rfl ?_
            refine OL.q (Q1.shr1 ((((s + r) / 2 : Nat) : Int)) rfl rfl (by omega)) rfl rfl ?_
            refine OL.q (Q1.convN (by kernel_rfl) Try.underlying3 rfl (IntWalk.i64_in _ (by omega))) rfl rfl ?_
            refine OL.q (Q1.assign rfl) rfl rfl ?_
            refine OL.nil ?_
            refine r_seq ?_
            refine r_draw1 (fun i => Nat.beq i 11) 14 (fun w' => Mod (Mg 0) w1 w') mixed (by kernel_rfl) ?_
            intro w2 hm1
            have hS3 := hS2.ext hm1
            have hCw2 : Mod (Mg 0) w1 w2 := Mod.ofExt hm1
            refine ⟨hCw2, ?_⟩
            rw [show List.range' 0 (Array.size _) = [0, 1, 2, 3, 4, 5, 6, 7, 8, 9, 10, 11, 12, 13] from rfl]
            refine OD.q rfl rfl (Q1.move rfl) rfl rfl ?_
            refine OD.q rfl rfl (Q1.move rfl) rfl rfl ?_
            refine OD.q rfl rfl (Q1.move rfl) rfl rfl ?_
            refine OD.q rfl rfl (Q1.move rfl) rfl rfl ?_
            refine OD.q rfl rfl (Q1.subI (((((a + b) / 2 + md - 1 : Nat) : Int) - ((((s + r) / 2 : Nat) : Int)))) rfl rfl (by omega)) rfl rfl ?_
            obtain ⟨g1, f1, hl1, k1⟩ := hS2.accK (i := 0) rfl
            obtain ⟨x1, b5, o1, hx1, hr1, hl2, hw1⟩ := Sl.atF (P := Try.prog) f1.sl Try.underlying31 ti24 encItm_len (k := .i64) (n := ((((a + b) / 2 + md - 1 : Nat) : Int) - ((((s + r) / 2 : Nat) : Int)))) (((a + b) / 2 + md - 1 - (s + r) / 2)) (by omega) (by first | assumption | omega)
            refine OD.q rfl rfl (Q1.indexAddr rfl rfl hr1) rfl rfl ?_
            refine OD.q rfl rfl (Q1.loadN ti24 rfl (fun _ hc => hw1.keepG hc (Nat.succ_ne_zero _)) rfl) rfl rfl ?_
            refine OD.q rfl rfl (Q1.move rfl) rfl rfl ?_
            refine OD.q rfl rfl (Q1.move rfl) rfl rfl ?_
            obtain ⟨x2, b6, o2, hx2, hr2, hl3, hw2⟩ := Sl.atF (P := Try.prog) f1.sl Try.underlying31 ti24 encItm_len (k := .i64) (n := (((s + r) / 2 : Nat) : Int)) ((s + r) / 2) (by omega) (by first | assumption | omega)
            refine OD.q rfl rfl (Q1.indexAddr rfl rfl hr2) rfl rfl ?_
            refine OD.q rfl rfl (Q1.loadN ti24 rfl (fun _ hc => hw2.keepG hc (Nat.succ_ne_zero _)) rfl) rfl rfl ?_
            refine OD.act rfl rfl rfl rfl (AW.call (first := []) (cap := []) cl60 rfl rfl (icmp_c (w0 := w2) (a := x1) (b := x2)  ) ?_)
            rintro _ w3 ⟨rfl, hm2⟩
            have hS4 := hS3.ext hm2
            have hCw3 := hCw2.ext hm2
            refine ⟨.inr hCw3, ?_⟩
            refine OD.qb rfl rfl (Q1.lt rfl rfl) rfl rfl ?_
            intro b7 hb5
            cases b7 with
            | true =>
              replace hb5 := of_decide_eq_true hb5.symm
              refine OD.q rfl rfl (Q1.not rfl) rfl rfl ?_
              refine OD.nil ?_
              refine r_cond_f rfl ?_
              refine r_region ?_
              refine OL.q (Q1.move rfl) rfl rfl ?_
              refine OL.q (Q1.assign rfl) rfl rfl ?_
              refine OL.nil ?_
              refine r_inBlock ?_
              exact (ih1 _ _ _ ⟨(s : Nat), ((s + r) / 2 : Nat), rfl, rfl, hS4, (by first | exact ⟨s0, r0, h0c, hhc.up hx2 hx1 (le_cmp (by assumption)), by omega, by omega, by omega⟩ | exact ⟨s0, r0, h0c, hhc.down hx2 hx1 (lt_cmp (by assumption)), by omega, by omega, by omega⟩ | (exfalso; omega))⟩ (by omega)).sub ⟨rfl, rfl, rfl, rfl, rfl, rfl, rfl, rfl, rfl, rfl, trivial⟩
            | false =>
              replace hb5 := of_decide_eq_false hb5.symm
              refine OD.q rfl rfl (Q1.not rfl) rfl rfl ?_
              refine OD.nil ?_
              refine r_cond_t rfl ?_
              refine r_region ?_
              refine OL.q (Q1.move rfl) rfl rfl ?_
              refine OL.q (Q1.addI (((((s + r) / 2) + 1 : Nat) : Int)) rfl rfl (by omega)) rfl rfl ?_
              refine OL.q (Q1.assign rfl) rfl rfl ?_
              refine OL.nil ?_
              refine r_inBlock ?_
              exact (ih1 _ _ _ ⟨(((s + r) / 2) + 1 : Nat), (r : Nat), rfl, rfl, hS4, (by first | exact ⟨s0, r0, h0c, hhc.up hx2 hx1 (le_cmp (by assumption)), by omega, by omega, by omega⟩ | exact ⟨s0, r0, h0c, hhc.down hx2 hx1 (lt_cmp (by assumption)), by omega, by omega, by omega⟩ | (exfalso; omega))⟩ (by omega)).sub ⟨rfl, rfl, rfl, rfl, rfl, rfl, rfl, rfl, rfl, rfl, trivial⟩
          | false =>
            replace hb4 := of_decide_eq_false hb4.symm
            refine r_cond_f rfl ?_
            refine r_exit rfl ?_
            refine r_seq ?_
            refine r_region ?_
            refine OL.q (Q1.move rfl) rfl rfl ?_
            refine OL.q (Q1.move rfl) rfl rfl ?_
            refine OL.q (Q1.subI ((((((a + b) / 2) + md : Nat) : Int) - (((s : Nat) : Int)))) rfl rfl (by omega)) rfl rfl ?_
            rw [show (((((a + b) / 2) + md : Nat) : Int) - (((s : Nat) : Int))) = (((a + b) / 2 + md - s : Nat) : Int) from by omega]
            refine OL.q (Q1.assign rfl) rfl rfl ?_
            refine OL.nil ?_
            refine r_seq ?_
            refine r_seq ?_
            refine r_region ?_
            refine OL.q (Q1.move rfl) rfl rfl ?_
            refine OL.q (Q1.move rfl) rfl rfl ?_
            refine OL.qb (Q1.lt rfl rfl) rfl rfl ?_
            intro b5 hb5
            refine OL.q (Q1.move rfl) rfl rfl ?_
            cases b5 with
            | true =>
              replace hb5 := of_decide_eq_true hb5.symm
              refine OL.q (Q1.move rfl) rfl rfl ?_
              refine OL.q (Q1.move rfl) rfl rfl ?_
              refine OL.qb (Q1.lt rfl rfl) rfl rfl ?_
              intro b6 hb6
              refine OL.q (Q1.pick_t rfl rfl) rfl rfl ?_
              refine OL.nil ?_
              cases b6 with
              | true =>
                replace hb6 := of_decide_eq_true hb6.symm
                refine r_cond_t rfl ?_
                refine r_region ?_
                refine OL.q (Q1.move rfl) rfl rfl ?_
                refine OL.q (Q1.move rfl) rfl rfl ?_
                refine OL.q (Q1.move rfl) rfl rfl ?_
                refine OL.q (Q1.move rfl) rfl rfl ?_
                refine OL.q (Q1.move rfl) rfl rfl ?_
                obtain ⟨Fy1, hAy1, hFy1, hky1⟩ := hS2.act (i := 0) rfl
                refine OL.act rfl rfl (AW.callF cl115 rfl (rot_c (w0 := w1) (a := s) (md := md) (b := (a + b) / 2 + md - s) hAy1 (fun b hb => (hFy1 b hb).2) (by omega) (by omega) (by omega) (by omega)) ?_)
                rintro _ w2 ⟨rfl, hm1, ly1, hpo1, F1, hA1, hF1⟩
                have hS3 : St (fun _ => False) F w0 w2 [accR encItm 24 2 v ly1] := hky1 _ _ _ hm1 hA1 hF1
                clear hky1 hA1
                refine OL.nil ?_
                refine r_seq ?_
                refine r_seq ?_
                refine r_region ?_
                refine OL.q (Q1.move rfl) rfl rfl ?_
                have hhv : Halved l ly1 a s ((a + b) / 2) ((a + b) / 2 + md - s) b := halved ham hmb hs1 hs2 rfl h0c ((show r = s from by omega) ▸ hhc) hsc (by omega) rfl (hpo1)
                have hlr := hhv.seg.len
                refine OL.q (Q1.move rfl) rfl rfl ?_
                refine OL.qb (Q1.lt rfl rfl) rfl rfl ?_
                intro b7 hb7
                refine OL.q (Q1.move rfl) rfl rfl ?_
                cases b7 with
                | true =>
                  replace hb7 := of_decide_eq_true hb7.symm
                  refine OL.q (Q1.move rfl) rfl rfl ?_
                  refine OL.q (Q1.move rfl) rfl rfl ?_
                  refine OL.qb (Q1.lt rfl rfl) rfl rfl ?_
                  intro b8 hb8
                  refine OL.q (Q1.pick_t rfl rfl) rfl rfl ?_
                  refine OL.nil ?_
                  cases b8 with
                  | true =>
                    replace hb8 := of_decide_eq_true hb8.symm
                    refine r_cond_t rfl ?_
                    refine r_region ?_
                    refine OL.q (Q1.move rfl) rfl rfl ?_
                    refine OL.q (Q1.move rfl) rfl rfl ?_
                    refine OL.q (Q1.move rfl) rfl rfl ?_
                    refine OL.q (Q1.move rfl) rfl rfl ?_
                    refine OL.q (Q1.move rfl) rfl rfl ?_
                    obtain ⟨Fy2, hAy2, hFy2, hky2⟩ := hS3.act (i := 0) rfl
                    refine OL.act rfl rfl (AW.callF cl106 rfl (ih (w0 := w2) (a := a) (md := s) (b := (a + b) / 2) (by omega) hAy2 (fun b hb => (hFy2 b hb).2) (by omega) (by omega) (by omega) (by omega) hhv.o1 hhv.o2) ?_)
                    rintro _ w3 ⟨rfl, hm2, ly2, hpo2, F2, hA2, hF2⟩
                    have hS4 : St (fun _ => False) F w0 w3 [accR encItm 24 2 v ly2] := hky2 _ _ _ hm2 hA2 hF2
                    clear hky2 hA2
                    refine OL.nil ?_
                    refine r_seq ?_
                    refine r_region ?_
                    refine OL.q (Q1.move rfl) rfl rfl ?_
                    obtain ⟨hsl, hol⟩ := hpo2
                    have hlq := hsl.len
                    refine OL.q (Q1.move rfl) rfl rfl ?_
                    refine OL.qb (Q1.lt rfl rfl) rfl rfl ?_
                    intro b9 hb9
                    refine OL.q (Q1.move rfl) rfl rfl ?_
                    cases b9 with
                    | true =>
                      replace hb9 := of_decide_eq_true hb9.symm
                      refine OL.q (Q1.move rfl) rfl rfl ?_
                      refine OL.q (Q1.move rfl) rfl rfl ?_
                      refine OL.qb (Q1.lt rfl rfl) rfl rfl ?_
                      intro b10 hb10
                      refine OL.q (Q1.pick_t rfl rfl) rfl rfl ?_
                      refine OL.nil ?_
                      cases b10 with
                      | true =>
                        replace hb10 := of_decide_eq_true hb10.symm
                        refine r_cond_t rfl ?_
                        refine r_region ?_
                        refine OL.q (Q1.move rfl) rfl rfl ?_
                        refine OL.q (Q1.move rfl) rfl rfl ?_
                        refine OL.q (Q1.move rfl) rfl rfl ?_
                        refine OL.q (Q1.move rfl) rfl rfl ?_
                        refine OL.q (Q1.move rfl) rfl rfl ?_
                        obtain ⟨Fy3, hAy3, hFy3, hky3⟩ := hS4.act (i := 0) rfl
                        refine OL.act rfl rfl (AW.callF cl106 rfl (ih (w0 := w3) (a := (a + b) / 2) (md := (a + b) / 2 + md - s) (b := b) (by omega) hAy3 (fun b hb => (hFy3 b hb).2) (by omega) (by omega) (by omega) (by omega) (hhv.o3.same (fun k h1 h2 => hsl.out k (by omega))) (hhv.o4.same (fun k h1 h2 => hsl.out k (by omega)))) ?_)
                        rintro _ w4 ⟨rfl, hm3, ly3, hpo3, F3, hA3, hF3⟩
                        have hS5 : St (fun _ => False) F w0 w4 [accR encItm 24 2 v ly3] := hky3 _ _ _ hm3 hA3 hF3
                        clear hky3 hA3
                        refine OL.nil ?_
                        refine r_end0 Try.func106 rfl ?_
                        obtain ⟨hmF, F2r, hAr, hFr⟩ := hS5.fin
                        exact Ret.mk ⟨rfl, hmF, ly3, sym_join hhv (by omega) (by omega) hsl hol hpo3.1 hpo3.2, F2r, hAr, hFr⟩
                      | false =>
                        replace hb10 := of_decide_eq_false hb10.symm
                        refine r_cond_f rfl ?_
                        refine r_skip ?_
                        refine r_end0 Try.func106 rfl ?_
                        obtain ⟨hmF, F2r, hAr, hFr⟩ := hS4.fin
                        exact Ret.mk ⟨rfl, hmF, ly2, sym_join hhv (by omega) (by omega) hsl hol (Seg.refl _ _ _) ((hhv.right (by omega)).same (fun k h1 h2 => hsl.out k (by omega))), F2r, hAr, hFr⟩
                    | false =>
                      replace hb9 := of_decide_eq_false hb9.symm
                      refine OL.sk rfl rfl ?_
                      refine OL.sk rfl rfl ?_
                      refine OL.sk rfl rfl ?_
                      refine OL.q (Q1.pick_f rfl rfl) rfl rfl ?_
                      refine OL.nil ?_
                      refine r_cond_f rfl ?_
                      refine r_skip ?_
                      refine r_end0 Try.func106 rfl ?_
                      obtain ⟨hmF, F2r, hAr, hFr⟩ := hS4.fin
                      exact Ret.mk ⟨rfl, hmF, ly2, sym_join hhv (by omega) (by omega) hsl hol (Seg.refl _ _ _) ((hhv.right (by omega)).same (fun k h1 h2 => hsl.out k (by omega))), F2r, hAr, hFr⟩
                  | false =>
                    replace hb8 := of_decide_eq_false hb8.symm
                    refine r_cond_f rfl ?_
                    refine r_skip ?_
                    refine r_seq ?_
                    refine r_region ?_
                    refine OL.q (Q1.move rfl) rfl rfl ?_
                    have hsl : Seg a ((a + b) / 2) ly1 ly1 := Seg.refl _ _ _
                    have hol : Srt ly1 a ((a + b) / 2) := hhv.left (by omega)
                    have hlq := hsl.len
                    refine OL.q (Q1.move rfl) rfl rfl ?_
                    refine OL.qb (Q1.lt rfl rfl) rfl rfl ?_
                    intro b9 hb9
                    refine OL.q (Q1.move rfl) rfl rfl ?_
                    cases b9 with
                    | true =>
                      replace hb9 := of_decide_eq_true hb9.symm
                      refine OL.q (Q1.move rfl) rfl rfl ?_
                      refine OL.q (Q1.move rfl) rfl rfl ?_
                      refine OL.qb (Q1.lt rfl rfl) rfl rfl ?_
                      intro b10 hb10
                      refine OL.q (Q1.pick_t rfl rfl) rfl rfl ?_
                      refine OL.nil ?_
                      cases b10 with
                      | true =>
                        replace hb10 := of_decide_eq_true hb10.symm
                        refine r_cond_t rfl ?_
                        refine r_region ?_
                        refine OL.q (Q1.move rfl) rfl rfl ?_
                        refine OL.q (Q1.move rfl) rfl rfl ?_
                        refine OL.q (Q1.move rfl) rfl rfl ?_
                        refine OL.q (Q1.move rfl) rfl rfl ?_
                        refine OL.q (Q1.move rfl) rfl rfl ?_
                        obtain ⟨Fy2, hAy2, hFy2, hky2⟩ := hS3.act (i := 0) rfl
                        refine OL.act rfl rfl (AW.callF cl106 rfl (ih (w0 := w2) (a := (a + b) / 2) (md := (a + b) / 2 + md - s) (b := b) (by omega) hAy2 (fun b hb => (hFy2 b hb).2) (by omega) (by omega) (by omega) (by omega) (hhv.o3.same (fun k h1 h2 => hsl.out k (by omega))) (hhv.o4.same (fun k h1 h2 => hsl.out k (by omega)))) ?_)
                        rintro _ w3 ⟨rfl, hm2, ly2, hpo2, F2, hA2, hF2⟩
                        have hS4 : St (fun _ => False) F w0 w3 [accR encItm 24 2 v ly2] := hky2 _ _ _ hm2 hA2 hF2
                        clear hky2 hA2
                        refine OL.nil ?_
                        refine r_end0 Try.func106 rfl ?_
                        obtain ⟨hmF, F2r, hAr, hFr⟩ := hS4.fin
                        exact Ret.mk ⟨rfl, hmF, ly2, sym_join hhv (by omega) (by omega) hsl hol hpo2.1 hpo2.2, F2r, hAr, hFr⟩
                      | false =>
                        replace hb10 := of_decide_eq_false hb10.symm
                        refine r_cond_f rfl ?_
                        refine r_skip ?_
                        refine r_end0 Try.func106 rfl ?_
                        obtain ⟨hmF, F2r, hAr, hFr⟩ := hS3.fin
                        exact Ret.mk ⟨rfl, hmF, ly1, sym_join hhv (by omega) (by omega) hsl hol (Seg.refl _ _ _) ((hhv.right (by omega)).same (fun k h1 h2 => hsl.out k (by omega))), F2r, hAr, hFr⟩
                    | false =>
                      replace hb9 := of_decide_eq_false hb9.symm
                      refine OL.sk rfl rfl ?_
                      refine OL.sk rfl rfl ?_
                      refine OL.sk rfl rfl ?_
                      refine OL.q (Q1.pick_f rfl rfl) rfl rfl ?_
                      refine OL.nil ?_
                      refine r_cond_f rfl ?_
                      refine r_skip ?_
                      refine r_end0 Try.func106 rfl ?_
                      obtain ⟨hmF, F2r, hAr, hFr⟩ := hS3.fin
                      exact Ret.mk ⟨rfl, hmF, ly1, sym_join hhv (by omega) (by omega) hsl hol (Seg.refl _ _ _) ((hhv.right (by omega)).same (fun k h1 h2 => hsl.out k (by omega))), F2r, hAr, hFr⟩
                | false =>
                  replace hb7 := of_decide_eq_false hb7.symm
                  refine OL.sk rfl rfl ?_
                  refine OL.sk rfl rfl ?_
                  refine OL.sk rfl rfl ?_
                  refine OL.q (Q1.pick_f rfl rfl) rfl rfl ?_
                  refine OL.nil ?_
                  refine r_cond_f rfl ?_
                  refine r_skip ?_
                  refine r_seq ?_
                  refine r_region ?_
                  refine OL.q (Q1.move rfl) rfl rfl ?_
                  have hsl : Seg a ((a + b) / 2) ly1 ly1 := Seg.refl _ _ _
                  have hol : Srt ly1 a ((a + b) / 2) := hhv.left (by omega)
                  have hlq := hsl.len
                  refine OL.q (Q1.move rfl) rfl rfl ?_
                  refine OL.qb (Q1.lt rfl rfl) rfl rfl ?_
                  intro b8 hb8
                  refine OL.q (Q1.move rfl) rfl rfl ?_
                  cases b8 with
                  | true =>
                    replace hb8 := of_decide_eq_true hb8.symm
                    refine OL.q (Q1.move rfl) rfl rfl ?_
                    refine OL.q (Q1.move rfl) rfl rfl ?_
                    refine OL.qb (Q1.lt rfl rfl) rfl rfl ?_
                    intro b9 hb9
                    refine OL.q (Q1.pick_t rfl rfl) rfl rfl ?_
                    refine OL.nil ?_
                    cases b9 with
                    | true =>
                      replace hb9 := of_decide_eq_true hb9.symm
                      refine r_cond_t rfl ?_
                      refine r_region ?_
                      refine OL.q (Q1.move rfl) rfl rfl ?_
                      refine OL.q (Q1.move rfl) rfl rfl ?_
                      refine OL.q (Q1.move rfl) rfl rfl ?_
                      refine OL.q (Q1.move rfl) rfl rfl ?_
                      refine OL.q (Q1.move rfl) rfl rfl ?_
                      obtain ⟨Fy2, hAy2, hFy2, hky2⟩ := hS3.act (i := 0) rfl
                      refine OL.act rfl rfl (AW.callF cl106 rfl (ih (w0 := w2) (a := (a + b) / 2) (md := (a + b) / 2 + md - s) (b := b) (by omega) hAy2 (fun b hb => (hFy2 b hb).2) (by omega) (by omega) (by omega) (by omega) (hhv.o3.same (fun k h1 h2 => hsl.out k (by omega))) (hhv.o4.same (fun k h1 h2 => hsl.out k (by omega)))) ?_)
                      rintro _ w3 ⟨rfl, hm2, ly2, hpo2, F2, hA2, hF2⟩
                      have hS4 : St (fun _ => False) F w0 w3 [accR encItm 24 2 v ly2] := hky2 _ _ _ hm2 hA2 hF2
                      clear hky2 hA2
                      refine OL.nil ?_
                      refine r_end0 Try.func106 rfl ?_
                      obtain ⟨hmF, F2r, hAr, hFr⟩ := hS4.fin
                      exact Ret.mk ⟨rfl, hmF, ly2, sym_join hhv (by omega) (by omega) hsl hol hpo2.1 hpo2.2, F2r, hAr, hFr⟩
                    | false =>
                      replace hb9 := of_decide_eq_false hb9.symm
                      refine r_cond_f rfl ?_
                      refine r_skip ?_
                      refine r_end0 Try.func106 rfl ?_
                      obtain ⟨hmF, F2r, hAr, hFr⟩ := hS3.fin
                      exact Ret.mk ⟨rfl, hmF, ly1, sym_join hhv (by omega) (by omega) hsl hol (Seg.refl _ _ _) ((hhv.right (by omega)).same (fun k h1 h2 => hsl.out k (by omega))), F2r, hAr, hFr⟩
                  | false =>
                    replace hb8 := of_decide_eq_false hb8.symm
                    refine OL.sk rfl rfl ?_
                    refine OL.sk rfl rfl ?_
                    refine OL.sk rfl rfl ?_
                    refine OL.q (Q1.pick_f rfl rfl) rfl rfl ?_
                    refine OL.nil ?_
                    refine r_cond_f rfl ?_
                    refine r_skip ?_
                    refine r_end0 Try.func106 rfl ?_
                    obtain ⟨hmF, F2r, hAr, hFr⟩ := hS3.fin
                    exact Ret.mk ⟨rfl, hmF, ly1, sym_join hhv (by omega) (by omega) hsl hol (Seg.refl _ _ _) ((hhv.right (by omega)).same (fun k h1 h2 => hsl.out k (by omega))), F2r, hAr, hFr⟩
              | false =>
                replace hb6 := of_decide_eq_false hb6.symm
                refine r_cond_f rfl ?_
                refine r_skip ?_
                refine r_seq ?_
                refine r_seq ?_
                refine r_region ?_
                refine OL.q (Q1.move rfl) rfl rfl ?_
                have hhv : Halved l l a s ((a + b) / 2) ((a + b) / 2 + md - s) b := halved ham hmb hs1 hs2 rfl h0c ((show r = s from by omega) ▸ hhc) hsc (by omega) rfl (RotP.same (by omega) (by omega) (by omega))
                have hlr := hhv.seg.len
                refine OL.q (Q1.move rfl) rfl rfl ?_
                refine OL.qb (Q1.lt rfl rfl) rfl rfl ?_
                intro b7 hb7
                refine OL.q (Q1.move rfl) rfl rfl ?_
                cases b7 with
                | true =>
                  replace hb7 := of_decide_eq_true hb7.symm
                  refine OL.q (Q1.move rfl) rfl rfl ?_
                  refine OL.q (Q1.move rfl) rfl rfl ?_
                  refine OL.qb (Q1.lt rfl rfl) rfl rfl ?_
                  intro b8 hb8
                  refine OL.q (Q1.pick_t rfl rfl) rfl rfl ?_
                  refine OL.nil ?_
                  cases b8 with
                  | true =>
                    replace hb8 := of_decide_eq_true hb8.symm
                    refine r_cond_t rfl ?_
                    refine r_region ?_
                    refine OL.q (Q1.move rfl) rfl rfl ?_
                    refine OL.q (Q1.move rfl) rfl rfl ?_
                    refine OL.q (Q1.move rfl) rfl rfl ?_
                    refine OL.q (Q1.move rfl) rfl rfl ?_
                    refine OL.q (Q1.move rfl) rfl rfl ?_
                    obtain ⟨Fy1, hAy1, hFy1, hky1⟩ := hS2.act (i := 0) rfl
                    refine OL.act rfl rfl (AW.callF cl106 rfl (ih (w0 := w1) (a := a) (md := s) (b := (a + b) / 2) (by omega) hAy1 (fun b hb => (hFy1 b hb).2) (by omega) (by omega) (by omega) (by omega) hhv.o1 hhv.o2) ?_)
                    rintro _ w2 ⟨rfl, hm1, ly1, hpo1, F1, hA1, hF1⟩
                    have hS3 : St (fun _ => False) F w0 w2 [accR encItm 24 2 v ly1] := hky1 _ _ _ hm1 hA1 hF1
                    clear hky1 hA1
                    refine OL.nil ?_
                    refine r_seq ?_
                    refine r_region ?_
                    refine OL.q (Q1.move rfl) rfl rfl ?_
                    obtain ⟨hsl, hol⟩ := hpo1
                    have hlq := hsl.len
                    refine OL.q (Q1.move rfl) rfl rfl ?_
                    refine OL.qb (Q1.lt rfl rfl) rfl rfl ?_
                    intro b9 hb9
                    refine OL.q (Q1.move rfl) rfl rfl ?_
                    cases b9 with
                    | true =>
                      replace hb9 := of_decide_eq_true hb9.symm
                      refine OL.q (Q1.move rfl) rfl rfl ?_
                      refine OL.q (Q1.move rfl) rfl rfl ?_
                      refine OL.qb (Q1.lt rfl rfl) rfl rfl ?_
                      intro b10 hb10
                      refine OL.q (Q1.pick_t rfl rfl) rfl rfl ?_
                      refine OL.nil ?_
                      cases b10 with
                      | true =>
                        replace hb10 := of_decide_eq_true hb10.symm
                        refine r_cond_t rfl ?_
                        refine r_region ?_
                        refine OL.q (Q1.move rfl) rfl rfl ?_
                        refine OL.q (Q1.move rfl) rfl rfl ?_
                        refine OL.q (Q1.move rfl) rfl rfl ?_
                        refine OL.q (Q1.move rfl) rfl rfl ?_
                        refine OL.q (Q1.move rfl) rfl rfl ?_
                        obtain ⟨Fy2, hAy2, hFy2, hky2⟩ := hS3.act (i := 0) rfl
                        refine OL.act rfl rfl (AW.callF cl106 rfl (ih (w0 := w2) (a := (a + b) / 2) (md := (a + b) / 2 + md - s) (b := b) (by omega) hAy2 (fun b hb => (hFy2 b hb).2) (by omega) (by omega) (by omega) (by omega) (hhv.o3.same (fun k h1 h2 => hsl.out k (by omega))) (hhv.o4.same (fun k h1 h2 => hsl.out k (by omega)))) ?_)
                        rintro _ w3 ⟨rfl, hm2, ly2, hpo2, F2, hA2, hF2⟩
                        have hS4 : St (fun _ => False) F w0 w3 [accR encItm 24 2 v ly2] := hky2 _ _ _ hm2 hA2 hF2
                        clear hky2 hA2
                        refine OL.nil ?_
                        refine r_end0 Try.func106 rfl ?_
                        obtain ⟨hmF, F2r, hAr, hFr⟩ := hS4.fin
                        exact Ret.mk ⟨rfl, hmF, ly2, sym_join hhv (by omega) (by omega) hsl hol hpo2.1 hpo2.2, F2r, hAr, hFr⟩
                      | false =>
                        replace hb10 := of_decide_eq_false hb10.symm
                        refine r_cond_f rfl ?_
                        refine r_skip ?_
                        refine r_end0 Try.func106 rfl ?_
                        obtain ⟨hmF, F2r, hAr, hFr⟩ := hS3.fin
                        exact Ret.mk ⟨rfl, hmF, ly1, sym_join hhv (by omega) (by omega) hsl hol (Seg.refl _ _ _) ((hhv.right (by omega)).same (fun k h1 h2 => hsl.out k (by omega))), F2r, hAr, hFr⟩
                    | false =>
                      replace hb9 := of_decide_eq_false hb9.symm
                      refine OL.sk rfl rfl ?_
                      refine OL.sk rfl rfl ?_
                      refine OL.sk rfl rfl ?_
                      refine OL.q (Q1.pick_f rfl rfl) rfl rfl ?_
                      refine OL.nil ?_
                      refine r_cond_f rfl ?_
                      refine r_skip ?_
                      refine r_end0 Try.func106 rfl ?_
                      obtain ⟨hmF, F2r, hAr, hFr⟩ := hS3.fin
                      exact Ret.mk ⟨rfl, hmF, ly1, sym_join hhv (by omega) (by omega) hsl hol (Seg.refl _ _ _) ((hhv.right (by omega)).same (fun k h1 h2 => hsl.out k (by omega))), F2r, hAr, hFr⟩
                  | false =>
                    replace hb8 := of_decide_eq_false hb8.symm
                    refine r_cond_f rfl ?_
                    refine r_skip ?_
                    refine r_seq ?_
                    refine r_region ?_
                    refine OL.q (Q1.move rfl) rfl rfl ?_
                    have hsl : Seg a ((a + b) / 2) l l := Seg.refl _ _ _
                    have hol : Srt l a ((a + b) / 2) := hhv.left (by omega)
                    have hlq := hsl.len
                    refine OL.q (Q1.move rfl) rfl rfl ?_
                    refine OL.qb (Q1.lt rfl rfl) rfl rfl ?_
                    intro b9 hb9
                    refine OL.q (Q1.move rfl) rfl rfl ?_
                    cases b9 with
                    | true =>
                      replace hb9 := of_decide_eq_true hb9.symm
                      refine OL.q (Q1.move rfl) rfl rfl ?_
                      refine OL.q (Q1.move rfl) rfl rfl ?_
                      refine OL.qb (Q1.lt rfl rfl) rfl rfl ?_
                      intro b10 hb10
                      refine OL.q (Q1.pick_t rfl rfl) rfl rfl ?_
                      refine OL.nil ?_
                      cases b10 with
                      | true =>
                        replace hb10 := of_decide_eq_true hb10.symm
                        refine r_cond_t rfl ?_
                        refine r_region ?_
                        refine OL.q (Q1.move rfl) rfl rfl ?_
                        refine OL.q (Q1.move rfl) rfl rfl ?_
                        refine OL.q (Q1.move rfl) rfl rfl ?_
                        refine OL.q (Q1.move rfl) rfl rfl ?_
                        refine OL.q (Q1.move rfl) rfl rfl ?_
                        obtain ⟨Fy1, hAy1, hFy1, hky1⟩ := hS2.act (i := 0) rfl
                        refine OL.act rfl rfl (AW.callF cl106 rfl (ih (w0 := w1) (a := (a + b) / 2) (md := (a + b) / 2 + md - s) (b := b) (by omega) hAy1 (fun b hb => (hFy1 b hb).2) (by omega) (by omega) (by omega) (by omega) (hhv.o3.same (fun k h1 h2 => hsl.out k (by omega))) (hhv.o4.same (fun k h1 h2 => hsl.out k (by omega)))) ?_)
                        rintro _ w2 ⟨rfl, hm1, ly1, hpo1, F1, hA1, hF1⟩
                        have hS3 : St (fun _ => False) F w0 w2 [accR encItm 24 2 v ly1] := hky1 _ _ _ hm1 hA1 hF1
                        clear hky1 hA1
                        refine OL.nil ?_
                        refine r_end0 Try.func106 rfl ?_
                        obtain ⟨hmF, F2r, hAr, hFr⟩ := hS3.fin
                        exact Ret.mk ⟨rfl, hmF, ly1, sym_join hhv (by omega) (by omega) hsl hol hpo1.1 hpo1.2, F2r, hAr, hFr⟩
                      | false =>
                        replace hb10 := of_decide_eq_false hb10.symm
                        refine r_cond_f rfl ?_
                        refine r_skip ?_
                        refine r_end0 Try.func106 rfl ?_
                        obtain ⟨hmF, F2r, hAr, hFr⟩ := hS2.fin
                        exact Ret.mk ⟨rfl, hmF, l, sym_join hhv (by omega) (by omega) hsl hol (Seg.refl _ _ _) ((hhv.right (by omega)).same (fun k h1 h2 => hsl.out k (by omega))), F2r, hAr, hFr⟩
                    | false =>
                      replace hb9 := of_decide_eq_false hb9.symm
                      refine OL.sk rfl rfl ?_
                      refine OL.sk rfl rfl ?_
                      refine OL.sk rfl rfl ?_
                      refine OL.q (Q1.pick_f rfl rfl) rfl rfl ?_
                      refine OL.nil ?_
                      refine r_cond_f rfl ?_
                      refine r_skip ?_
                      refine r_end0 Try.func106 rfl ?_
                      obtain ⟨hmF, F2r, hAr, hFr⟩ := hS2.fin
                      exact Ret.mk ⟨rfl, hmF, l, sym_join hhv (by omega) (by omega) hsl hol (Seg.refl _ _ _) ((hhv.right (by omega)).same (fun k h1 h2 => hsl.out k (by omega))), F2r, hAr, hFr⟩
                | false =>
                  replace hb7 := of_decide_eq_false hb7.symm
                  refine OL.sk rfl rfl ?_
                  refine OL.sk rfl rfl ?_
                  refine OL.sk rfl rfl ?_
                  refine OL.q (Q1.pick_f rfl rfl) rfl rfl ?_
                  refine OL.nil ?_
                  refine r_cond_f rfl ?_
                  refine r_skip ?_
                  refine r_seq ?_
                  refine r_region ?_
                  refine OL.q (Q1.move rfl) rfl rfl ?_
                  have hsl : Seg a ((a + b) / 2) l l := Seg.refl _ _ _
                  have hol : Srt l a ((a + b) / 2) := hhv.left (by omega)
                  have hlq := hsl.len
                  refine OL.q (Q1.move rfl) rfl rfl ?_
                  refine OL.qb (Q1.lt rfl rfl) rfl rfl ?_
                  intro b8 hb8
                  refine OL.q (Q1.move rfl) rfl rfl ?_
                  cases b8 with
                  | true =>
                    replace hb8 := of_decide_eq_true hb8.symm
                    refine OL.q (Q1.move rfl) rfl rfl ?_
                    refine OL.q (Q1.move rfl) rfl rfl ?_
                    refine OL.qb (Q1.lt rfl rfl) rfl rfl ?_
                    intro b9 hb9
                    refine OL.q (Q1.pick_t rfl rfl) rfl rfl ?_
                    refine OL.nil ?_
                    cases b9 with
                    | true =>
                      replace hb9 := of_decide_eq_true hb9.symm
                      refine r_cond_t rfl ?_
                      refine r_region ?_
                      refine OL.q (Q1.move rfl) rfl rfl ?_
                      refine OL.q (Q1.move rfl) rfl rfl ?_
                      refine OL.q (Q1.move rfl) rfl rfl ?_
                      refine OL.q (Q1.move rfl) rfl rfl ?_
                      refine OL.q (Q1.move rfl) rfl rfl ?_
                      obtain ⟨Fy1, hAy1, hFy1, hky1⟩ := hS2.act (i := 0) rfl
                      refine OL.act rfl rfl (AW.callF cl106 rfl (ih (w0 := w1) (a := (a + b) / 2) (md := (a + b) / 2 + md - s) (b := b) (by omega) hAy1 (fun b hb => (hFy1 b hb).2) (by omega) (by omega) (by omega) (by omega) (hhv.o3.same (fun k h1 h2 => hsl.out k (by omega))) (hhv.o4.same (fun k h1 h2 => hsl.out k (by omega)))) ?_)
                      rintro _ w2 ⟨rfl, hm1, ly1, hpo1, F1, hA1, hF1⟩
                      have hS3 : St (fun _ => False) F w0 w2 [accR encItm 24 2 v ly1] := hky1 _ _ _ hm1 hA1 hF1
                      clear hky1 hA1
                      refine OL.nil ?_
                      refine r_end0 Try.func106 rfl ?_
                      obtain ⟨hmF, F2r, hAr, hFr⟩ := hS3.fin
                      exact Ret.mk ⟨rfl, hmF, ly1, sym_join hhv (by omega) (by omega) hsl hol hpo1.1 hpo1.2, F2r, hAr, hFr⟩
                    | false =>
                      replace hb9 := of_decide_eq_false hb9.symm
                      refine r_cond_f rfl ?_
                      refine r_skip ?_
                      refine r_end0 Try.func106 rfl ?_
                      obtain ⟨hmF, F2r, hAr, hFr⟩ := hS2.fin
                      exact Ret.mk ⟨rfl, hmF, l, sym_join hhv (by omega) (by omega) hsl hol (Seg.refl _ _ _) ((hhv.right (by omega)).same (fun k h1 h2 => hsl.out k (by omega))), F2r, hAr, hFr⟩
                  | false =>
                    replace hb8 := of_decide_eq_false hb8.symm
                    refine OL.sk rfl rfl ?_
                    refine OL.sk rfl rfl ?_
                    refine OL.sk rfl rfl ?_
                    refine OL.q (Q1.pick_f rfl rfl) rfl rfl ?_
                    refine OL.nil ?_
                    refine r_cond_f rfl ?_
                    refine r_skip ?_
                    refine r_end0 Try.func106 rfl ?_
                    obtain ⟨hmF, F2r, hAr, hFr⟩ := hS2.fin
                    exact Ret.mk ⟨rfl, hmF, l, sym_join hhv (by omega) (by omega) hsl hol (Seg.refl _ _ _) ((hhv.right (by omega)).same (fun k h1 h2 => hsl.out k (by omega))), F2r, hAr, hFr⟩
            | false =>
              replace hb5 := of_decide_eq_false hb5.symm
              refine OL.sk rfl rfl ?_
              refine OL.sk rfl rfl ?_
              refine OL.sk rfl rfl ?_
              refine OL.q (Q1.pick_f rfl rfl) rfl rfl ?_
              refine OL.nil ?_
              refine r_cond_f rfl ?_
              refine r_skip ?_
              refine r_seq ?_
              refine r_seq ?_
              refine r_region ?_
              refine OL.q (Q1.move rfl) rfl rfl ?_
              have hhv : Halved l l a s ((a + b) / 2) ((a + b) / 2 + md - s) b := halved ham hmb hs1 hs2 rfl h0c ((show r = s from by omega) ▸ hhc) hsc (by omega) rfl (RotP.same (by omega) (by omega) (by omega))
              have hlr := hhv.seg.len
              refine OL.q (Q1.move rfl) rfl rfl ?_
              refine OL.qb (Q1.lt rfl rfl) rfl rfl ?_
              intro b6 hb6
              refine OL.q (Q1.move rfl) rfl rfl ?_
              cases b6 with
              | true =>
                replace hb6 := of_decide_eq_true hb6.symm
                refine OL.q (Q1.move rfl) rfl rfl ?_
                refine OL.q (Q1.move rfl) rfl rfl ?_
                refine OL.qb (Q1.lt rfl rfl) rfl rfl ?_
                intro b7 hb7
                refine OL.q (Q1.pick_t rfl rfl) rfl rfl ?_
                refine OL.nil ?_
                cases b7 with
                | true =>
                  replace hb7 := of_decide_eq_true hb7.symm
                  refine r_cond_t rfl ?_
                  refine r_region ?_
                  refine OL.q (Q1.move rfl) rfl rfl ?_
                  refine OL.q (Q1.move rfl) rfl rfl ?_
                  refine OL.q (Q1.move rfl) rfl rfl ?_
                  refine OL.q (Q1.move rfl) rfl rfl ?_
                  refine OL.q (Q1.move rfl) rfl rfl ?_
                  obtain ⟨Fy1, hAy1, hFy1, hky1⟩ := hS2.act (i := 0) rfl
                  refine OL.act rfl rfl (AW.callF cl106 rfl (ih (w0 := w1) (a := a) (md := s) (b := (a + b) / 2) (by omega) hAy1 (fun b hb => (hFy1 b hb).2) (by omega) (by omega) (by omega) (by omega) hhv.o1 hhv.o2) ?_)
                  rintro _ w2 ⟨rfl, hm1, ly1, hpo1, F1, hA1, hF1⟩
                  have hS3 : St (fun _ => False) F w0 w2 [accR encItm 24 2 v ly1] := hky1 _ _ _ hm1 hA1 hF1
                  clear hky1 hA1
                  refine OL.nil ?_
                  refine r_seq ?_
                  refine r_region ?_
                  refine OL.q (Q1.move rfl) rfl rfl ?_
                  obtain ⟨hsl, hol⟩ := hpo1
                  have hlq := hsl.len
                  refine OL.q (Q1.move rfl) rfl rfl ?_
                  refine OL.qb (Q1.lt rfl rfl) rfl rfl ?_
                  intro b8 hb8
                  refine OL.q (Q1.move rfl) rfl rfl ?_
                  cases b8 with
                  | true =>
                    replace hb8 := of_decide_eq_true hb8.symm
                    refine OL.q (Q1.move rfl) rfl rfl ?_
                    refine OL.q (Q1.move rfl) rfl rfl ?_
                    refine OL.qb (Q1.lt rfl rfl) rfl rfl ?_
                    intro b9 hb9
                    refine OL.q (Q1.pick_t rfl rfl) rfl rfl ?_
                    refine OL.nil ?_
                    cases b9 with
                    | true =>
                      replace hb9 := of_decide_eq_true hb9.symm
                      refine r_cond_t rfl ?_
                      refine r_region ?_
                      refine OL.q (Q1.move rfl) rfl rfl ?_
                      refine OL.q (Q1.move rfl) rfl rfl ?_
                      refine OL.q (Q1.move rfl) rfl rfl ?_
                      refine OL.q (Q1.move rfl) rfl rfl ?_
                      refine OL.q (Q1.move rfl) rfl rfl ?_
                      obtain ⟨Fy2, hAy2, hFy2, hky2⟩ := hS3.act (i := 0) rfl
                      refine OL.act rfl rfl (AW.callF cl106 rfl (ih (w0 := w2) (a := (a + b) / 2) (md := (a + b) / 2 + md - s) (b := b) (by omega) hAy2 (fun b hb => (hFy2 b hb).2) (by omega) (by omega) (by omega) (by omega) (hhv.o3.same (fun k h1 h2 => hsl.out k (by omega))) (hhv.o4.same (fun k h1 h2 => hsl.out k (by omega)))) ?_)
                      rintro _ w3 ⟨rfl, hm2, ly2, hpo2, F2, hA2, hF2⟩
                      have hS4 : St (fun _ => False) F w0 w3 [accR encItm 24 2 v ly2] := hky2 _ _ _ hm2 hA2 hF2
                      clear hky2 hA2
                      refine OL.nil ?_
                      refine r_end0 Try.func106 rfl ?_
                      obtain ⟨hmF, F2r, hAr, hFr⟩ := hS4.fin
                      exact Ret.mk ⟨rfl, hmF, ly2, sym_join hhv (by omega) (by omega) hsl hol hpo2.1 hpo2.2, F2r, hAr, hFr⟩
                    | false =>
                      replace hb9 := of_decide_eq_false hb9.symm
                      refine r_cond_f rfl ?_
                      refine r_skip ?_
                      refine r_end0 Try.func106 rfl ?_
                      obtain ⟨hmF, F2r, hAr, hFr⟩ := hS3.fin
                      exact Ret.mk ⟨rfl, hmF, ly1, sym_join hhv (by omega) (by omega) hsl hol (Seg.refl _ _ _) ((hhv.right (by omega)).same (fun k h1 h2 => hsl.out k (by omega))), F2r, hAr, hFr⟩
                  | false =>
                    replace hb8 := of_decide_eq_false hb8.symm
                    refine OL.sk rfl rfl ?_
                    refine OL.sk rfl rfl ?_
                    refine OL.sk rfl rfl ?_
                    refine OL.q (Q1.pick_f rfl rfl) rfl rfl ?_
                    refine OL.nil ?_
                    refine r_cond_f rfl ?_
                    refine r_skip ?_
                    refine r_end0 Try.func106 rfl ?_
                    obtain ⟨hmF, F2r, hAr, hFr⟩ := hS3.fin
                    exact Ret.mk ⟨rfl, hmF, ly1, sym_join hhv (by omega) (by omega) hsl hol (Seg.refl _ _ _) ((hhv.right (by omega)).same (fun k h1 h2 => hsl.out k (by omega))), F2r, hAr, hFr⟩
                | false =>
                  replace hb7 := of_decide_eq_false hb7.symm
                  refine r_cond_f rfl ?_
                  refine r_skip ?_
                  refine r_seq ?_
                  refine r_region ?_
                  refine OL.q (Q1.move rfl) rfl rfl ?_
                  have hsl : Seg a ((a + b) / 2) l l := Seg.refl _ _ _
                  have hol : Srt l a ((a + b) / 2) := hhv.left (by omega)
                  have hlq := hsl.len
                  refine OL.q (Q1.move rfl) rfl rfl ?_
                  refine OL.qb (Q1.lt rfl rfl) rfl rfl ?_
                  intro b8 hb8
                  refine OL.q (Q1.move rfl) rfl rfl ?_
                  cases b8 with
                  | true =>
                    replace hb8 := of_decide_eq_true hb8.symm
                    refine OL.q (Q1.move rfl) rfl rfl ?_
                    refine OL.q (Q1.move rfl) rfl rfl ?_
                    refine OL.qb (Q1.lt rfl rfl) rfl rfl ?_
                    intro b9 hb9
                    refine OL.q (Q1.pick_t rfl rfl) rfl rfl ?_
                    refine OL.nil ?_
                    cases b9 with
                    | true =>
                      replace hb9 := of_decide_eq_true hb9.symm
                      refine r_cond_t rfl ?_
                      refine r_region ?_
                      refine OL.q (Q1.move rfl) rfl rfl ?_
                      refine OL.q (Q1.move rfl) rfl rfl ?_
                      refine OL.q (Q1.move rfl) rfl rfl ?_
                      refine OL.q (Q1.move rfl) rfl rfl ?_
                      refine OL.q (Q1.move rfl) rfl rfl ?_
                      obtain ⟨Fy1, hAy1, hFy1, hky1⟩ := hS2.act (i := 0) rfl
                      refine OL.act rfl rfl (AW.callF cl106 rfl (ih (w0 := w1) (a := (a + b) / 2) (md := (a + b) / 2 + md - s) (b := b) (by omega) hAy1 (fun b hb => (hFy1 b hb).2) (by omega) (by omega) (by omega) (by omega) (hhv.o3.same (fun k h1 h2 => hsl.out k (by omega))) (hhv.o4.same (fun k h1 h2 => hsl.out k (by omega)))) ?_)
                      rintro _ w2 ⟨rfl, hm1, ly1, hpo1, F1, hA1, hF1⟩
                      have hS3 : St (fun _ => False) F w0 w2 [accR encItm 24 2 v ly1] := hky1 _ _ _ hm1 hA1 hF1
                      clear hky1 hA1
                      refine OL.nil ?_
                      refine r_end0 Try.func106 rfl ?_
                      obtain ⟨hmF, F2r, hAr, hFr⟩ := hS3.fin
                      exact Ret.mk ⟨rfl, hmF, ly1, sym_join hhv (by omega) (by omega) hsl hol hpo1.1 hpo1.2, F2r, hAr, hFr⟩
                    | false =>
                      replace hb9 := of_decide_eq_false hb9.symm
                      refine r_cond_f rfl ?_
                      refine r_skip ?_
                      refine r_end0 Try.func106 rfl ?_
                      obtain ⟨hmF, F2r, hAr, hFr⟩ := hS2.fin
                      exact Ret.mk ⟨rfl, hmF, l, sym_join hhv (by omega) (by omega) hsl hol (Seg.refl _ _ _) ((hhv.right (by omega)).same (fun k h1 h2 => hsl.out k (by omega))), F2r, hAr, hFr⟩
                  | false =>
                    replace hb8 := of_decide_eq_false hb8.symm
                    refine OL.sk rfl rfl ?_
                    refine OL.sk rfl rfl ?_
                    refine OL.sk rfl rfl ?_
                    refine OL.q (Q1.pick_f rfl rfl) rfl rfl ?_
                    refine OL.nil ?_
                    refine r_cond_f rfl ?_
                    refine r_skip ?_
                    refine r_end0 Try.func106 rfl ?_
                    obtain ⟨hmF, F2r, hAr, hFr⟩ := hS2.fin
                    exact Ret.mk ⟨rfl, hmF, l, sym_join hhv (by omega) (by omega) hsl hol (Seg.refl _ _ _) ((hhv.right (by omega)).same (fun k h1 h2 => hsl.out k (by omega))), F2r, hAr, hFr⟩
              | false =>
                replace hb6 := of_decide_eq_false hb6.symm
                refine OL.sk rfl rfl ?_
                refine OL.sk rfl rfl ?_
                refine OL.sk rfl rfl ?_
                refine OL.q (Q1.pick_f rfl rfl) rfl rfl ?_
                refine OL.nil ?_
                refine r_cond_f rfl ?_
                refine r_skip ?_
                refine r_seq ?_
                refine r_region ?_
                refine OL.q (Q1.move rfl) rfl rfl ?_
                have hsl : Seg a ((a + b) / 2) l l := Seg.refl _ _ _
                have hol : Srt l a ((a + b) / 2) := hhv.left (by omega)
                have hlq := hsl.len
                refine OL.q (Q1.move rfl) rfl rfl ?_
                refine OL.qb (Q1.lt rfl rfl) rfl rfl ?_
                intro b7 hb7
                refine OL.q (Q1.move rfl) rfl rfl ?_
                cases b7 with
                | true =>
                  replace hb7 := of_decide_eq_true hb7.symm
                  refine OL.q (Q1.move rfl) rfl rfl ?_
                  refine OL.q (Q1.move rfl) rfl rfl ?_
                  refine OL.qb (Q1.lt rfl rfl) rfl rfl ?_
                  intro b8 hb8
                  refine OL.q (Q1.pick_t rfl rfl) rfl rfl ?_
                  refine OL.nil ?_
                  cases b8 with
                  | true =>
                    replace hb8 := of_decide_eq_true hb8.symm
                    refine r_cond_t rfl ?_
                    refine r_region ?_
                    refine OL.q (Q1.move rfl) rfl rfl ?_
                    refine OL.q (Q1.move rfl) rfl rfl ?_
                    refine OL.q (Q1.move rfl) rfl rfl ?_
                    refine OL.q (Q1.move rfl) rfl rfl ?_
                    refine OL.q (Q1.move rfl) rfl rfl ?_
                    obtain ⟨Fy1, hAy1, hFy1, hky1⟩ := hS2.act (i := 0) rfl
                    refine OL.act rfl rfl (AW.callF cl106 rfl (ih (w0 := w1) (a := (a + b) / 2) (md := (a + b) / 2 + md - s) (b := b) (by omega) hAy1 (fun b hb => (hFy1 b hb).2) (by omega) (by omega) (by omega) (by omega) (hhv.o3.same (fun k h1 h2 => hsl.out k (by omega))) (hhv.o4.same (fun k h1 h2 => hsl.out k (by omega)))) ?_)
                    rintro _ w2 ⟨rfl, hm1, ly1, hpo1, F1, hA1, hF1⟩
                    have hS3 : St (fun _ => False) F w0 w2 [accR encItm 24 2 v ly1] := hky1 _ _ _ hm1 hA1 hF1
                    clear hky1 hA1
                    refine OL.nil ?_
                    refine r_end0 Try.func106 rfl ?_
                    obtain ⟨hmF, F2r, hAr, hFr⟩ := hS3.fin
                    exact Ret.mk ⟨rfl, hmF, ly1, sym_join hhv (by omega) (by omega) hsl hol hpo1.1 hpo1.2, F2r, hAr, hFr⟩
                  | false =>
                    replace hb8 := of_decide_eq_false hb8.symm
                    refine r_cond_f rfl ?_
                    refine r_skip ?_
                    refine r_end0 Try.func106 rfl ?_
                    obtain ⟨hmF, F2r, hAr, hFr⟩ := hS2.fin
                    exact Ret.mk ⟨rfl, hmF, l, sym_join hhv (by omega) (by omega) hsl hol (Seg.refl _ _ _) ((hhv.right (by omega)).same (fun k h1 h2 => hsl.out k (by omega))), F2r, hAr, hFr⟩
                | false =>
                  replace hb7 := of_decide_eq_false hb7.symm
                  refine OL.sk rfl rfl ?_
                  refine OL.sk rfl rfl ?_
                  refine OL.sk rfl rfl ?_
                  refine OL.q (Q1.pick_f rfl rfl) rfl rfl ?_
                  refine OL.nil ?_
                  refine r_cond_f rfl ?_
                  refine r_skip ?_
                  refine r_end0 Try.func106 rfl ?_
                  obtain ⟨hmF, F2r, hAr, hFr⟩ := hS2.fin
                  exact Ret.mk ⟨rfl, hmF, l, sym_join hhv (by omega) (by omega) hsl hol (Seg.refl _ _ _) ((hhv.right (by omega)).same (fun k h1 h2 => hsl.out k (by omega))), F2r, hAr, hFr⟩
theorem sym_all : ∀ N : Nat, SymIH N
  | 0 => fun hN => absurd hN (Nat.not_lt_zero _)
  | N + 1 => fun hN hA hF hll ham hmb hbl hs1 hs2 => sym_step hA hF hll (sym_all N) hN ham hmb hbl hs1 hs2
theorem sym_c {w0 : World} {F : Nat → Prop} {v : Value} {l : List Itm} {a md b : Nat} (hA : (accR (R := fun _ => False) encItm 24 2 v l).p F w0) (hF : ∀ b, F b → b < w0.heap.size) (hll : l.length ≤ 100000) (ham : a < md) (hmb : md < b) (hbl : b ≤ l.length) (hs1 : Srt l a md) (hs2 : Srt l md b) :
    Calls Try.prog 106 #[v, .int .i64 ((a : Nat) : Int), .int .i64 ((md : Nat) : Int), .int .i64 ((b : Nat) : Int), .func (.func 60) #[] #[]] w0 (Ret fun rv w1 => rv = .tuple #[] ∧ Mod F w0 w1 ∧ ∃ l', (Seg a b l l' ∧ Srt l' a b) ∧ ∃ F2, (accR (R := fun _ => False) encItm 24 2 v l').p F2 w1 ∧ ∀ b, F2 b → b < w1.heap.size ∧ (F b ∨ w0.heap.size ≤ b)) := sym_all (b - a + 1) (by omega) hA hF hll ham hmb hbl hs1 hs2
set_option maxRecDepth 20000 in
set_option maxHeartbeats 4000000 in
theorem stab_c {w0 : World} {F : Nat → Prop} {v : Value} {l : List Itm} {n : Nat} (hA : (accR (R := fun _ => False) encItm 24 2 v l).p F w0) (hF : ∀ b, F b → b < w0.heap.size) (hll : l.length ≤ 100000) (hnl : n = l.length) :
    Calls Try.prog 87 #[v, .int .i64 ((n : Nat) : Int), .func (.func 60) #[] #[]] w0 (Ret fun rv w1 => rv = .tuple #[] ∧ Mod F w0 w1 ∧ ∃ l', (l'.Perm l ∧ Srt l' 0 n) ∧ ∃ F2, (accR (R := fun _ => False) encItm 24 2 v l').p F2 w1 ∧ ∀ b, F2 b → b < w1.heap.size ∧ (F b ∨ w0.heap.size ≤ b)) := by
  have hS00 := St.start1 (R := fun _ => False) hA (fun b hb => ⟨hF b hb, id⟩) (fun _ h => h.elim)
  have hS1 : St (fun _ => False) F w0 w0 [accR encItm 24 2 v l] := hS00
  refine calls_enter Try.func87 rfl Try.ntmps87 rfl ?_
  refine r_seq ?_
  refine r_region ?_
  refine OL.q (Q1.assign rfl) rfl rfl ?_
  refine OL.nil ?_
  refine r_seq ?_
  refine r_region ?_
  refine OL.q (Q1.move rfl) rfl rfl ?_
  refine OL.q (Q1.assign rfl) rfl rfl ?_
  refine OL.q (Q1.assign rfl) rfl rfl ?_
  refine OL.nil ?_
  refine r_seq ?_
  refine r_block ?_
  refine r_loop (I := fun m E W => ∃ (lc : List Itm) (aa : Nat) (bb : Nat), E = [(0, v), (1, .int .i64 (((n : Nat) : Int))), (2, .func (.func 60) #[] #[]), (6, .int .i64 20), (7, .int .i64 (((aa : Nat) : Int))), (8, .int .i64 (((bb : Nat) : Int)))] ∧ m = n + 20 - aa ∧ St (fun _ => False) F w0 W [accR encItm 24 2 v lc] ∧ (lc.Perm l) ∧ (bb = aa + 20) ∧ (aa ≤ n) ∧ (20 ∣ aa) ∧ (BlkTo lc 20 aa n)) ?_ ?_
  · refine ⟨_, _, ⟨(l : List Itm), (0 : Nat), (20 : Nat), rfl, rfl, hS1, (by exact .refl _), (by rfl), (by omega), (by exact Nat.dvd_zero _), (by exact BlkTo.start _ _ _)⟩, ⟨rfl, rfl, rfl, rfl, rfl, rfl, trivial⟩⟩
  · rintro _ _ w1 ⟨lc, aa, bb, rfl, rfl, hS2, hpa, hba, han, hda, hbl⟩ ih1
    have hlc := hpa.length_eq
    refine r_seq ?_
    refine r_seq ?_
    refine r_region ?_
    refine OL.q (Q1.move rfl) rfl rfl ?_
    refine OL.q (Q1.move rfl) rfl rfl ?_
    refine OL.qb (Q1.le rfl rfl) rfl rfl ?_
    intro b1 hb1
    refine OL.nil ?_
    cases b1 with
    | true =>
      replace hb1 := of_decide_eq_true hb1.symm
      refine r_cond_t rfl ?_
      refine r_skip ?_
      refine r_block ?_
      refine r_seq ?_
      refine r_region ?_
      refine OL.q (Q1.move rfl) rfl rfl ?_
      refine OL.q (Q1.move rfl) rfl rfl ?_
      refine OL.q (Q1.move rfl) rfl rfl ?_
      refine OL.q (Q1.move rfl) rfl rfl ?_
      obtain ⟨Fy1, hAy1, hFy1, hky1⟩ := hS2.act (i := 0) rfl
      refine OL.act rfl rfl (AW.callF cl105 rfl (ins_c (w0 := w1) (a := aa) (b := bb) hAy1 (fun b hb => (hFy1 b hb).2) (by omega) (by omega) (by omega)) ?_)
      rintro _ w2 ⟨rfl, hm1, ly1, hpo1, F1, hA1, hF1⟩
      have hS3 : St (fun _ => False) F w0 w2 [accR encItm 24 2 v ly1] := hky1 _ _ _ hm1 hA1 hF1
      clear hky1 hA1
      refine OL.nil ?_
      refine r_seq ?_
      refine r_region ?_
      refine OL.q (Q1.move rfl) rfl rfl ?_
      refine OL.q (Q1.assign rfl) rfl rfl ?_
      refine OL.nil ?_
      refine r_region ?_
      refine OL.q (Q1.move rfl) rfl rfl ?_
      refine OL.q (Q1.move rfl) rfl rfl ?_
      refine OL.q (Q1.addI (((bb + 20 : Nat) : Int)) rfl rfl (by omega)) rfl rfl ?_
      refine OL.q (Q1.assign rfl) rfl rfl ?_
      refine OL.nil ?_
      refine r_inBlock ?_
      exact (ih1 _ _ _ ⟨(ly1 : List Itm), (bb : Nat), (bb + 20 : Nat), rfl, rfl, hS3, (by first | exact hpo1.1.perm.trans hpa | (exfalso; omega)), (by first | omega | (exfalso; omega)), (by first | omega | (exfalso; omega)), (by first | (rw [hba]; exact Nat.dvd_add hda (Nat.dvd_refl _)) | (exfalso; omega)), (by first | exact (st_ins hbl hda hpo1.1 hpo1.2 (by omega)).less (by omega) | (exfalso; omega))⟩ (by omega)).sub ⟨rfl, rfl, rfl, rfl, rfl, rfl, trivial⟩
    | false =>
      replace hb1 := of_decide_eq_false hb1.symm
      refine r_cond_f rfl ?_
      refine r_exit rfl ?_
      refine r_seq ?_
      refine r_region ?_
      refine OL.q (Q1.move rfl) rfl rfl ?_
      refine OL.q (Q1.move rfl) rfl rfl ?_
      refine OL.q (Q1.move rfl) rfl rfl ?_
      refine OL.q (Q1.move rfl) rfl rfl ?_
      obtain ⟨Fy1, hAy1, hFy1, hky1⟩ := hS2.act (i := 0) rfl
      refine OL.act rfl rfl (AW.callF cl105 rfl (ins_c (w0 := w1) (a := aa) (b := n) hAy1 (fun b hb => (hFy1 b hb).2) (by omega) (by omega) (by omega)) ?_)
      rintro _ w2 ⟨rfl, hm1, ly1, hpo1, F1, hA1, hF1⟩
      have hS3 : St (fun _ => False) F w0 w2 [accR encItm 24 2 v ly1] := hky1 _ _ _ hm1 hA1 hF1
      clear hky1 hA1
      refine OL.nil ?_
      refine r_block ?_
      refine r_loop (I := fun m E W => ∃ (ld : List Itm) (bs : Nat), E = [(0, v), (1, .int .i64 (((n : Nat) : Int))), (2, .func (.func 60) #[] #[]), (6, .int .i64 (((bs : Nat) : Int)))] ∧ m = n + 20 - bs ∧ St (fun _ => False) F w0 W [accR encItm 24 2 v ld] ∧ (ld.Perm l) ∧ (20 ≤ bs) ∧ (BlkTo ld bs n n)) ?_ ?_
      · refine ⟨_, _, ⟨(ly1 : List Itm), (20 : Nat), rfl, rfl, hS3, (by exact hpo1.1.perm.trans hpa), (by omega), (by exact (st_ins hbl hda hpo1.1 hpo1.2 (by omega)).less (by omega))⟩, ⟨rfl, rfl, rfl, rfl, trivial⟩⟩
      · rintro _ _ w3 ⟨ld, bs, rfl, rfl, hS4, hpb, hbs, hbk⟩ ih2
        have hld := hpb.length_eq
        refine r_seq ?_
        refine r_seq ?_
        refine r_region ?_
        refine OL.q (Q1.move rfl) rfl rfl ?_
        refine OL.q (Q1.move rfl) rfl rfl ?_
        refine OL.qb (Q1.lt rfl rfl) rfl rfl ?_
        intro b2 hb2
        refine OL.nil ?_
        cases b2 with
        | true =>
          replace hb2 := of_decide_eq_true hb2.symm
          refine r_cond_t rfl ?_
          refine r_skip ?_
          refine r_block ?_
          refine r_seq ?_
          refine r_region ?_
          refine OL.q (Q1.move rfl) rfl rfl ?_
          refine OL.q (Q1.mulI (((2 * bs : Nat) : Int)) rfl rfl (by omega)) rfl rfl ?_
          refine OL.q (Q1.assign rfl) rfl rfl ?_
          refine OL.q (Q1.assign rfl) rfl rfl ?_
          refine OL.nil ?_
          refine r_seq ?_
          refine r_block ?_
          refine r_loop (I := fun m E W => ∃ (le : List Itm) (ca : Nat) (cb : Nat), E = [(0, v), (1, .int .i64 (((n : Nat) : Int))), (2, .func (.func 60) #[] #[]), (6, .int .i64 (((bs : Nat) : Int))), (7, .int .i64 (((ca : Nat) : Int))), (8, .int .i64 (((cb : Nat) : Int)))] ∧ m = n + 2 * bs - ca ∧ St (fun _ => False) F w0 W [accR encItm 24 2 v le] ∧ (le.Perm l) ∧ (cb = ca + 2 * bs) ∧ (ca ≤ n) ∧ (2 * bs ∣ ca) ∧ (BlkTo le (2 * bs) ca n) ∧ (BlkFrom le bs ca n)) ?_ ?_
          · refine ⟨_, _, ⟨(ld : List Itm), (0 : Nat), (2 * bs : Nat), rfl, rfl, hS4, (by exact hpb), (by omega), (by omega), (by exact Nat.dvd_zero _), (by exact BlkTo.start _ _ _), (by exact hbk.from)⟩, ⟨rfl, rfl, rfl, rfl, rfl, rfl, trivial⟩⟩
          · rintro _ _ w4 ⟨le, ca, cb, rfl, rfl, hS5, hpc, hcb, hcn, hdd, hbt, hbf⟩ ih3
            have hle := hpc.length_eq
            refine r_seq ?_
            refine r_seq ?_
            refine r_region ?_
            refine OL.q (Q1.move rfl) rfl rfl ?_
            refine OL.q (Q1.move rfl) rfl rfl ?_
            refine OL.qb (Q1.le rfl rfl) rfl rfl ?_
            intro b3 hb3
            refine OL.nil ?_
            cases b3 with
            | true =>
              replace hb3 := of_decide_eq_true hb3.symm
              refine r_cond_t rfl ?_
              refine r_skip ?_
              refine r_block ?_
              refine r_seq ?_
              refine r_region ?_
              refine OL.q (Q1.move rfl) rfl rfl ?_
              refine OL.q (Q1.move rfl) rfl rfl ?_
              refine OL.q (Q1.move rfl) rfl rfl ?_
              refine OL.q (Q1.move rfl) rfl rfl ?_
              refine OL.q (Q1.addI (((ca + bs : Nat) : Int)) rfl rfl (by omega)) rfl rfl ?_
              refine OL.q (Q1.move rfl) rfl rfl ?_
              refine OL.q (Q1.move rfl) rfl rfl ?_
              obtain ⟨Fy2, hAy2, hFy2, hky2⟩ := hS5.act (i := 0) rfl
              refine OL.act rfl rfl (AW.callF cl106 rfl (sym_c (w0 := w4) (a := ca) (md := ca + bs) (b := cb) hAy2 (fun b hb => (hFy2 b hb).2) (by omega) (by omega) (by omega) (by omega) (blk_at hbf (dvd_half hdd) (Nat.le_refl _) (by omega) (by omega)) (blk_at hbf (Nat.dvd_add (dvd_half hdd) (Nat.dvd_refl _)) (by omega) (by omega) (by omega))) ?_)
              rintro _ w5 ⟨rfl, hm2, ly2, hpo2, F2, hA2, hF2⟩
              have hS6 : St (fun _ => False) F w0 w5 [accR encItm 24 2 v ly2] := hky2 _ _ _ hm2 hA2 hF2
              clear hky2 hA2
              refine OL.nil ?_
              refine r_seq ?_
              refine r_region ?_
              refine OL.q (Q1.move rfl) rfl rfl ?_
              refine OL.q (Q1.assign rfl) rfl rfl ?_
              refine OL.nil ?_
              refine r_region ?_
              refine OL.q (Q1.move rfl) rfl rfl ?_
              refine OL.q (Q1.move rfl) rfl rfl ?_
              refine OL.q (Q1.mulI (((2 * bs : Nat) : Int)) rfl rfl (by omega)) rfl rfl ?_
              refine OL.q (Q1.addI (((cb + (2 * bs) : Nat) : Int)) rfl rfl (by omega)) rfl rfl ?_
              refine OL.q (Q1.assign rfl) rfl rfl ?_
              refine OL.nil ?_
              refine r_inBlock ?_
              exact (ih3 _ _ _ ⟨(ly2 : List Itm), (cb : Nat), (cb + (2 * bs) : Nat), rfl, rfl, hS6, (by first | exact hpo2.1.perm.trans hpc | (exfalso; omega)), (by first | omega | (exfalso; omega)), (by first | omega | (exfalso; omega)), (by first | (rw [hcb]; exact Nat.dvd_add hdd (Nat.dvd_refl _)) | (exfalso; omega)), (by first | exact (st_mrg hbt hdd hpo2.1 hpo2.2 (by omega)).less (by omega) | (exfalso; omega)), (by first | exact st_rest hbf hpo2.1 (by omega) | (exfalso; omega))⟩ (by omega)).sub ⟨rfl, rfl, rfl, rfl, rfl, rfl, trivial⟩
            | false =>
              replace hb3 := of_decide_eq_false hb3.symm
              refine r_cond_f rfl ?_
              refine r_exit rfl ?_
              refine r_seq ?_
              refine r_seq ?_
              refine r_region ?_
              refine OL.q (Q1.move rfl) rfl rfl ?_
              refine OL.q (Q1.move rfl) rfl rfl ?_
              refine OL.q (Q1.addI (((ca + bs : Nat) : Int)) rfl rfl (by omega)) rfl rfl ?_
              refine OL.q (Q1.assign rfl) rfl rfl ?_
              refine OL.nil ?_
              refine r_seq ?_
              refine r_region ?_
              refine OL.q (Q1.move rfl) rfl rfl ?_
              refine OL.q (Q1.move rfl) rfl rfl ?_
              refine OL.qb (Q1.lt rfl rfl) rfl rfl ?_
              intro b4 hb4
              refine OL.nil ?_
              cases b4 with
              | true =>
                replace hb4 := of_decide_eq_true hb4.symm
                refine r_cond_t rfl ?_
                refine r_region ?_
                refine OL.q (Q1.move rfl) rfl rfl ?_
                refine OL.q (Q1.move rfl) rfl rfl ?_
                refine OL.q (Q1.move rfl) rfl rfl ?_
                refine OL.q (Q1.move rfl) rfl rfl ?_
                refine OL.q (Q1.move rfl) rfl rfl ?_
                obtain ⟨Fy2, hAy2, hFy2, hky2⟩ := hS5.act (i := 0) rfl
                refine OL.act rfl rfl (AW.callF cl106 rfl (sym_c (w0 := w4) (a := ca) (md := ca + bs) (b := n) hAy2 (fun b hb => (hFy2 b hb).2) (by omega) (by omega) (by omega) (by omega) (blk_at hbf (dvd_half hdd) (Nat.le_refl _) (by omega) (by omega)) (blk_at hbf (Nat.dvd_add (dvd_half hdd) (Nat.dvd_refl _)) (by omega) (by omega) (by omega))) ?_)
                rintro _ w5 ⟨rfl, hm2, ly2, hpo2, F2, hA2, hF2⟩
                have hS6 : St (fun _ => False) F w0 w5 [accR encItm 24 2 v ly2] := hky2 _ _ _ hm2 hA2 hF2
                clear hky2 hA2
                refine OL.nil ?_
                refine r_region ?_
                refine OL.q (Q1.move rfl) rfl rfl ?_
                refine OL.q (Q1.mulI (((bs * 2 : Nat) : Int)) rfl rfl (by omega)) rfl rfl ?_
                refine OL.q (Q1.assign rfl) rfl rfl ?_
                refine OL.nil ?_
                refine r_inBlock ?_
                exact (ih2 _ _ _ ⟨(ly2 : List Itm), (bs * 2 : Nat), rfl, rfl, hS6, (by first | exact hpo2.1.perm.trans hpc | exact hpc | (exfalso; omega)), (by first | omega | (exfalso; omega)), (by first | (rw [Nat.mul_comm]; first | exact (st_mrg hbt hdd hpo2.1 hpo2.2 (by omega)).less (by omega) | exact (st_tail hbt hbf hdd (by omega)).less (by omega)) | (exfalso; omega))⟩ (by omega)).sub ⟨rfl, rfl, rfl, rfl, trivial⟩
              | false =>
                replace hb4 := of_decide_eq_false hb4.symm
                refine r_cond_f rfl ?_
                refine r_skip ?_
                refine r_region ?_
                refine OL.q (Q1.move rfl) rfl rfl ?_
                refine OL.q (Q1.mulI (((bs * 2 : Nat) : Int)) rfl rfl (by omega)) rfl rfl ?_
                refine OL.q (Q1.assign rfl) rfl rfl ?_
                refine OL.nil ?_
                refine r_inBlock ?_
                exact (ih2 _ _ _ ⟨(le : List Itm), (bs * 2 : Nat), rfl, rfl, hS5, (by first | exact hpo2.1.perm.trans hpc | exact hpc | (exfalso; omega)), (by first | omega | (exfalso; omega)), (by first | (rw [Nat.mul_comm]; first | exact (st_mrg hbt hdd hpo2.1 hpo2.2 (by omega)).less (by omega) | exact (st_tail hbt hbf hdd (by omega)).less (by omega)) | (exfalso; omega))⟩ (by omega)).sub ⟨rfl, rfl, rfl, rfl, trivial⟩
        | false =>
          replace hb2 := of_decide_eq_false hb2.symm
          refine r_cond_f rfl ?_
          refine r_exit rfl ?_
          refine r_end0 Try.func87 rfl ?_
          obtain ⟨hmF, F2r, hAr, hFr⟩ := hS4.fin
          exact Ret.mk ⟨rfl, hmF, ld, (by exact ⟨hpb, st_fin hbk (by omega)⟩), F2r, hAr, hFr⟩
set_option maxRecDepth 20000 in
set_option maxHeartbeats 4000000 in
theorem sstab_c {w0 : World} {F : Nat → Prop} {v : Value} {l : List Itm}  (hA : (accR (R := fun _ => False) encItm 24 2 v l).p F w0) (hF : ∀ b, F b → b < w0.heap.size) (hll : l.length ≤ 100000)  :
    Calls Try.prog 69 #[v, .func (.func 60) #[] #[]] w0 (Ret fun rv w1 => rv = .tuple #[] ∧ Mod F w0 w1 ∧ ∃ l', (l'.Perm l ∧ Srt l' 0 l.length) ∧ ∃ F2, (accR (R := fun _ => False) encItm 24 2 v l').p F2 w1 ∧ ∀ b, F2 b → b < w1.heap.size ∧ (F b ∨ w0.heap.size ≤ b)) := by
  have hS00 := St.start1 (R := fun _ => False) hA (fun b hb => ⟨hF b hb, id⟩) (fun _ h => h.elim)
  have hS1 : St (fun _ => False) F w0 w0 [accR encItm 24 2 v l] := hS00
  refine calls_enter Try.func69 rfl Try.ntmps69 rfl ?_
  refine r_region ?_
  refine OL.q (Q1.move rfl) rfl rfl ?_
  refine OL.q (Q1.move rfl) rfl rfl ?_
  obtain ⟨g1, f1, hl1, k1⟩ := hS1.accK (i := 0) rfl
  refine OL.q (Q1.lenSl Try.underlying31 (f1.sl) rfl) rfl rfl ?_
  refine OL.q (Q1.move rfl) rfl rfl ?_
  obtain ⟨Fy1, hAy1, hFy1, hky1⟩ := hS1.act (i := 0) rfl
  refine OL.act rfl rfl (AW.callF cl87 rfl (stab_c (w0 := w0) (n := l.length) hAy1 (fun b hb => (hFy1 b hb).2) (by omega) rfl) ?_)
  rintro _ w1 ⟨rfl, hm1, ly1, hpo1, F1, hA1, hF1⟩
  have hS2 : St (fun _ => False) F w0 w1 [accR encItm 24 2 v ly1] := hky1 _ _ _ hm1 hA1 hF1
  clear hky1 hA1
  refine OL.nil ?_
  refine r_end0 Try.func69 rfl ?_
  obtain ⟨hmF, F2r, hAr, hFr⟩ := hS2.fin
  exact Ret.mk ⟨rfl, hmF, ly1, (by exact hpo1), F2r, hAr, hFr⟩
end Go.Proofs
