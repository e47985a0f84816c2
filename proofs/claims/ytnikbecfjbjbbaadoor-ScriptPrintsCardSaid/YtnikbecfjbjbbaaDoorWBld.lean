/-
  Walks through strings.Builder, wherever it lies.
-/
import Derived.Test.YtnikbecfjbjbbaaDoorFacts
set_option linter.unusedVariables false
set_option linter.unusedSimpArgs false
namespace Go.Proofs
open Go.Ik Go.Ml
set_option maxRecDepth 20000 in
set_option maxHeartbeats 4000000 in
theorem bcheckN_c {w0 : World} {b : Nat} {e : TypeId} {tail : List Value} {v : Value} (hb : Bk w0 b ((.pointer none : Value) :: v :: tail) e) (hE : liesB Tryd.prog e (tail.length + 2) 54 = true) :
    Calls Tryd.prog 41 #[ptr b 0] w0 (Ret fun rv w1 => rv = .tuple #[] ∧ Mod (Mg (b + 1)) w0 w1 ∧ Bk w1 b (ptr b 0 :: v :: tail) e) := by
  have hS00 := St.start1 (R := fun _ => False) (A := bkR b ((.pointer none : Value) :: v :: tail) e) (F := fun x => x = b) (w0 := w0) ⟨hb, rfl⟩ (fun x hx => ⟨by subst hx; exact hb.lt, id⟩) (fun _ h => h.elim)
  have hS1 : St (fun _ => False) (fun x => x = b) w0 w0 [bkR b ((.pointer none : Value) :: v :: tail) e] := hS00
  refine calls_enter Tryd.func41 rfl Tryd.ntmps41 rfl ?_
  refine r_seq ?_
  refine r_region ?_
  refine OL.q (Q1.move rfl) rfl rfl ?_
  refine OL.q (Q1.nilCheckP rfl) rfl rfl ?_
  refine OL.q (Q1.fieldAddr fl54_0 rfl) rfl rfl ?_
  have f1 := hS1.bk (i := 0) rfl
  refine OL.q (Q1.load1 ti51 rfl (fun _ e => e ▸ (f1.cell 0 _ rfl))) rfl rfl ?_
  refine OL.q (Q1.eqNil Tryd.underlying51 rfl rfl) rfl rfl ?_
  refine OL.nil ?_
  refine r_cond_t rfl ?_
  refine r_region ?_
  refine OL.q (Q1.move rfl) rfl rfl ?_
  refine OL.q (Q1.move rfl) rfl rfl ?_
  refine OL.q (Q1.toUnsafe Tryd.underlying51 Tryd.underlying89 (by kernel_rfl) rfl (by simp) (fun _ e => e ▸ f1)) rfl rfl ?_
  refine OL.act rfl rfl (AW.callX Tryd.func53 (by kernel_rfl) (by kernel_rfl) (by kernel_rfl) (e := Extern.AbiNoEscape.same) (by kernel_rfl) rfl (rfl) ?_)
  refine OL.q (Q1.fromUnsafe Tryd.underlying89 Tryd.underlying51 (by kernel_rfl) rfl (by first | assumption | kernel_rfl) (fun _ e => e ▸ f1)) rfl rfl ?_
  refine OL.q (Q1.nilCheckP rfl) rfl rfl ?_
  refine OL.q (Q1.fieldAddr fl54_0 rfl) rfl rfl ?_
  refine OL.act rfl rfl (AW.store ti51 rfl rfl rfl rfl rfl f1 (Nat.le_of_ble_eq_true rfl) ?_)
  intro w1 hm1 hz1 hk1
  have hS2 : St (fun _ => False) (fun x => x = b) w0 w1 [bkR b ((ptr b 0) :: v :: tail) e] := hS1.bkK (i := 0) rfl hm1 hk1
  refine OL.nil ?_
  refine r_end0 Tryd.func41 rfl ?_
  exact Ret.mk ⟨rfl, hS2.mod.weaken (fun x hx _ => by unfold Mg; omega), hS2.bk (i := 0) rfl⟩
set_option maxRecDepth 20000 in
set_option maxHeartbeats 4000000 in
theorem bcheckU_c {w0 : World} {b : Nat} {e : TypeId} {tail : List Value} {v : Value} (hb : Bk w0 b (ptr b 0 :: v :: tail) e) (hE : liesB Tryd.prog e (tail.length + 2) 54 = true) :
    Calls Tryd.prog 41 #[ptr b 0] w0 (Ret fun rv w1 => rv = .tuple #[] ∧ Mod (Mg (b + 1)) w0 w1 ∧ Bk w1 b (ptr b 0 :: v :: tail) e) := by
  have hS00 := St.start1 (R := fun _ => False) (A := bkR b ((ptr b 0) :: v :: tail) e) (F := fun x => x = b) (w0 := w0) ⟨hb, rfl⟩ (fun x hx => ⟨by subst hx; exact hb.lt, id⟩) (fun _ h => h.elim)
  have hS1 : St (fun _ => False) (fun x => x = b) w0 w0 [bkR b ((ptr b 0) :: v :: tail) e] := hS00
  refine calls_enter Tryd.func41 rfl Tryd.ntmps41 rfl ?_
  refine r_seq ?_
  refine r_region ?_
  refine OL.q (Q1.move rfl) rfl rfl ?_
  refine OL.q (Q1.nilCheckP rfl) rfl rfl ?_
  refine OL.q (Q1.fieldAddr fl54_0 rfl) rfl rfl ?_
  have f1 := hS1.bk (i := 0) rfl
  refine OL.q (Q1.load1 ti51 rfl (fun _ e => e ▸ (f1.cell 0 _ rfl))) rfl rfl ?_
  refine OL.q (Q1.eqNil Tryd.underlying51 rfl rfl) rfl rfl ?_
  refine OL.nil ?_
  refine r_cond_f rfl ?_
  refine r_seq ?_
  refine r_region ?_
  refine OL.q (Q1.move rfl) rfl rfl ?_
  refine OL.q (Q1.nilCheckP rfl) rfl rfl ?_
  refine OL.q (Q1.fieldAddr fl54_0 rfl) rfl rfl ?_
  refine OL.q (Q1.load1 ti51 rfl (fun _ e => e ▸ (f1.cell 0 _ rfl))) rfl rfl ?_
  refine OL.q (Q1.move rfl) rfl rfl ?_
  refine OL.q (Q1.nePtr Tryd.underlying51 (by kernel_rfl) rfl rfl) rfl rfl ?_
  refine OL.nil ?_
  refine r_cond_f rfl ?_
  refine r_skip ?_
  refine r_end0 Tryd.func41 rfl ?_
  exact Ret.mk ⟨rfl, hS1.mod.weaken (fun x hx _ => by unfold Mg; omega), hS1.bk (i := 0) rfl⟩
theorem bcheck_c {w0 : World} {b : Nat} {e : TypeId} {tail : List Value} {v p : Value} (hp : p = .pointer none ∨ p = ptr b 0) (hb : Bk w0 b (p :: v :: tail) e) (hE : liesB Tryd.prog e (tail.length + 2) 54 = true) :
    Calls Tryd.prog 41 #[ptr b 0] w0 (Ret fun rv w1 => rv = .tuple #[] ∧ Mod (Mg (b + 1)) w0 w1 ∧ Bk w1 b (ptr b 0 :: v :: tail) e) := by
  rcases hp with rfl | rfl
  · exact bcheckN_c hb hE
  · exact bcheckU_c hb hE
set_option maxRecDepth 20000 in
set_option maxHeartbeats 4000000 in
theorem bwbyte_c {w0 : World} {F : Nat → Prop} {b : Nat} {e : TypeId} {tail : List Value} {txt : Str} (c : UInt8) (hA : (bdR (R := fun _ => False) 5 e b tail txt).p F w0) (hF : ∀ b, F b → b < w0.heap.size) (hE : liesB Tryd.prog e (tail.length + 2) 54 = true) (hl : txt.length ≤ 4000000000000)  :
    Calls Tryd.prog 22 #[ptr b 0, .int .u8 (c.toNat : Int)] w0 (Ret fun rv w1 => rv = .nilIface ∧ Mod F w0 w1 ∧ ∃ F2, (bdR (R := fun _ => False) 5 e b tail ((txt ++ [c]))).p F2 w1 ∧ ∀ b, F2 b → b < w1.heap.size ∧ (F b ∨ w0.heap.size ≤ b)) := by
  have hS00 := St.start1 (R := fun _ => False) hA (fun b hb => ⟨hF b hb, id⟩) (fun _ h => h.elim)
  have hS1 : St (fun _ => False) F w0 w0 [bdR 5 e b tail txt] := hS00
  obtain ⟨⟨pb1, vb1⟩, hS2⟩ := hS1.exo (i := 0) rfl
  change St (fun _ => False) F w0 w0 [andR (pb1 = .pointer none ∨ pb1 = ptr b 0) (boxR [bkR b (pb1 :: vb1 :: tail) e, accR encB 5 1 vb1 txt])] at hS2
  obtain ⟨hpb1, hS3⟩ := hS2.and (i := 0) rfl
  change St (fun _ => False) F w0 w0 [boxR [bkR b (pb1 :: vb1 :: tail) e, accR encB 5 1 vb1 txt]] at hS3
  have hS4 : St (fun _ => False) F w0 w0 [bkR b (pb1 :: vb1 :: tail) e, accR encB 5 1 vb1 txt] := St.open (L1 := []) hS3
  refine calls_enter Tryd.func22 rfl Tryd.ntmps22 rfl ?_
  refine r_seq ?_
  refine r_region ?_
  refine OL.q (Q1.assign rfl) rfl rfl ?_
  refine OL.nil ?_
  refine r_seq ?_
  refine r_region ?_
  refine OL.q (Q1.move rfl) rfl rfl ?_
  have f1 := hS4.bk (i := 0) rfl
  refine OL.act rfl rfl (AW.callF cl41 rfl (bcheck_c hpb1 f1 hE) ?_)
  rintro _ w1 ⟨rfl, hm1, hk1⟩
  have hS5 : St (fun _ => False) F w0 w1 [bkR b ((ptr b 0) :: vb1 :: tail) e, accR encB 5 1 vb1 txt] := hS4.bkK (i := 0) rfl hm1 hk1
  refine OL.nil ?_
  refine r_seq ?_
  refine r_region ?_
  refine OL.q (Q1.move rfl) rfl rfl ?_
  refine OL.q (Q1.move rfl) rfl rfl ?_
  refine OL.q (Q1.nilCheckP rfl) rfl rfl ?_
  refine OL.q (Q1.fieldAddr fl54_1 rfl) rfl rfl ?_
  have f2 := hS5.bk (i := 0) rfl
  refine OL.q (Q1.load1 ti52 rfl (fun _ e => e ▸ (f2.cell 1 _ rfl))) rfl rfl ?_
  refine OL.q (Q1.move rfl) rfl rfl ?_
  refine OL.act rfl rfl (AW.buildSlice [(.int .u8 ((c.toNat : Int)) : Value)] Tryd.underlying52 ti5 rfl rfl rfl (by decide) ?_)
  intro w2 b1 hm2 hb1 hz1 hk2
  have hS6 := hS5.ext hm2
  have hl1 := Sl.of_blk (enc := encB) hk2 ([c] : List UInt8) 1 rfl rfl (by unfold maxLen; omega)
  have hS7 : St (fun _ => False) F w0 w2 [bkR b ((ptr b 0) :: vb1 :: tail) e, accR encB 5 1 vb1 txt, slR encB [((.slice (some ⟨b1, 0, none⟩) 1 1), [c])]] := hS5.newSlB hm2 hb1 hz1 hl1
  obtain ⟨g2, f3, hl2, k1⟩ := hS7.accK (i := 1) rfl
  have f4 := hS7.sl (i := 2) (k := 0) rfl rfl
  refine OL.act rfl rfl (AW.append f3 Tryd.underlying52 ti5 rfl encB_len encB_one rfl rfl (f4) (by first | omega | (simp only [List.length_append, List.length_cons, List.length_nil]; omega) | (simp; omega)) (by unfold maxLen; first | omega | (simp only [List.length_append, List.length_cons, List.length_nil]; omega) | (simp; omega)) ?_)
  intro v1 g1 w3 ha1 hm3 hg1 hz2
  have hS8 : St (fun _ => False) F w0 w3 [bkR b ((ptr b 0) :: vb1 :: tail) e, accR encB 5 1 v1 ((txt ++ [c])), slR encB [((.slice (some ⟨b1, 0, none⟩) 1 1), [c])]] := k1 _ _ _ _ hm3 ha1 hg1
  clear hg1
  refine OL.q (Q1.nilCheckP rfl) rfl rfl ?_
  refine OL.q (Q1.fieldAddr fl54_1 rfl) rfl rfl ?_
  obtain ⟨g3, f5, hl3, k2⟩ := hS8.accK (i := 1) rfl
  obtain ⟨ad1, cp1, hv1⟩ := f5.shape
  subst hv1
  have f6 := hS8.bk (i := 0) rfl
  refine OL.act rfl rfl (AW.store ti52 rfl rfl rfl rfl rfl f6 (Nat.le_of_ble_eq_true rfl) ?_)
  intro w4 hm4 hz3 hk3
  have hS9 : St (fun _ => False) F w0 w4 [bkR b ((ptr b 0) :: ((.slice ad1 ((txt ++ [c])).length cp1)) :: tail) e, accR encB 5 1 ((.slice ad1 ((txt ++ [c])).length cp1)) ((txt ++ [c])), slR encB [((.slice (some ⟨b1, 0, none⟩) 1 1), [c])]] := hS8.bkK (i := 0) rfl hm4 hk3
  refine OL.nil ?_
  refine r_seq ?_
  refine r_region ?_
  refine OL.q (Q1.assign rfl) rfl rfl ?_
  refine OL.nil ?_
  refine r_ret1 Tryd.func22 rfl rfl ?_
  have hS10 : St (fun _ => False) F w0 w4 [slR encB [((.slice (some ⟨b1, 0, none⟩) 1 1), [c])], bkR b ((ptr b 0) :: ((.slice ad1 ((txt ++ [c])).length cp1)) :: tail) e, accR encB 5 1 ((.slice ad1 ((txt ++ [c])).length cp1)) ((txt ++ [c]))] := hS9.sel [2, 0, 1] (by rfl) (by decide)
  have hS11 : St (fun _ => False) F w0 w4 [slR encB [((.slice (some ⟨b1, 0, none⟩) 1 1), [c])], boxR [bkR b ((ptr b 0) :: ((.slice ad1 ((txt ++ [c])).length cp1)) :: tail) e, accR encB 5 1 ((.slice ad1 ((txt ++ [c])).length cp1)) ((txt ++ [c]))]] := St.close (L1 := [slR encB [((.slice (some ⟨b1, 0, none⟩) 1 1), [c])]]) hS10
  have hS12 : St (fun _ => False) F w0 w4 [slR encB [((.slice (some ⟨b1, 0, none⟩) 1 1), [c])], andR ((ptr b 0) = .pointer none ∨ (ptr b 0) = ptr b 0) (boxR [bkR b ((ptr b 0) :: ((.slice ad1 ((txt ++ [c])).length cp1)) :: tail) e, accR encB 5 1 ((.slice ad1 ((txt ++ [c])).length cp1)) ((txt ++ [c]))])] := hS11.imp (i := 1) rfl (fun F_ h_ => ⟨(.inr rfl), h_⟩)
  have hS13 : St (fun _ => False) F w0 w4 [slR encB [((.slice (some ⟨b1, 0, none⟩) 1 1), [c])], bdR 5 e b tail ((txt ++ [c]))] := hS12.exi (A := fun pv : Value × Value => andR (pv.1 = .pointer none ∨ pv.1 = ptr b 0) (boxR [bkR b (pv.1 :: pv.2 :: tail) e, accR encB 5 1 pv.2 ((txt ++ [c]))])) ((ptr b 0), ((.slice ad1 ((txt ++ [c])).length cp1))) (i := 1) rfl
  have hS14 : St (fun _ => False) F w0 w4 [bdR 5 e b tail ((txt ++ [c]))] := hS13.sel [1] (by rfl) (by decide)
  obtain ⟨hmF, F2r, hAr, hFr⟩ := hS14.fin
  exact Ret.mk ⟨rfl, hmF, F2r, hAr, hFr⟩
set_option maxRecDepth 20000 in
set_option maxHeartbeats 4000000 in
theorem bwstr_c {w0 : World} {F : Nat → Prop} {b : Nat} {e : TypeId} {tail : List Value} {txt : Str} (t : Str) (hA : (bdR (R := fun _ => False) 5 e b tail txt).p F w0) (hF : ∀ b, F b → b < w0.heap.size) (hE : liesB Tryd.prog e (tail.length + 2) 54 = true) (hl : txt.length ≤ 4000000000000) (ht : t.length ≤ 1000000) :
    Calls Tryd.prog 50 #[ptr b 0, strV t] w0 (Ret fun rv w1 => rv = .tuple #[.int .i64 ((t.length : Nat) : Int), .nilIface] ∧ Mod F w0 w1 ∧ ∃ F2, (bdR (R := fun _ => False) 5 e b tail ((txt ++ t))).p F2 w1 ∧ ∀ b, F2 b → b < w1.heap.size ∧ (F b ∨ w0.heap.size ≤ b)) := by
  have hS00 := St.start1 (R := fun _ => False) hA (fun b hb => ⟨hF b hb, id⟩) (fun _ h => h.elim)
  have hS1 : St (fun _ => False) F w0 w0 [bdR 5 e b tail txt] := hS00
  obtain ⟨⟨pb1, vb1⟩, hS2⟩ := hS1.exo (i := 0) rfl
  change St (fun _ => False) F w0 w0 [andR (pb1 = .pointer none ∨ pb1 = ptr b 0) (boxR [bkR b (pb1 :: vb1 :: tail) e, accR encB 5 1 vb1 txt])] at hS2
  obtain ⟨hpb1, hS3⟩ := hS2.and (i := 0) rfl
  change St (fun _ => False) F w0 w0 [boxR [bkR b (pb1 :: vb1 :: tail) e, accR encB 5 1 vb1 txt]] at hS3
  have hS4 : St (fun _ => False) F w0 w0 [bkR b (pb1 :: vb1 :: tail) e, accR encB 5 1 vb1 txt] := St.open (L1 := []) hS3
  refine calls_enter Tryd.func50 rfl Tryd.ntmps50 rfl ?_
  refine r_seq ?_
  refine r_region ?_
  refine OL.q (Q1.assign rfl) rfl rfl ?_
  refine OL.q (Q1.assign rfl) rfl rfl ?_
  refine OL.nil ?_
  refine r_seq ?_
  refine r_region ?_
  refine OL.q (Q1.move rfl) rfl rfl ?_
  have f1 := hS4.bk (i := 0) rfl
  refine OL.act rfl rfl (AW.callF cl41 rfl (bcheck_c hpb1 f1 hE) ?_)
  rintro _ w1 ⟨rfl, hm1, hk1⟩
  have hS5 : St (fun _ => False) F w0 w1 [bkR b ((ptr b 0) :: vb1 :: tail) e, accR encB 5 1 vb1 txt] := hS4.bkK (i := 0) rfl hm1 hk1
  refine OL.nil ?_
  refine r_seq ?_
  refine r_region ?_
  refine OL.q (Q1.move rfl) rfl rfl ?_
  refine OL.q (Q1.move rfl) rfl rfl ?_
  refine OL.q (Q1.nilCheckP rfl) rfl rfl ?_
  refine OL.q (Q1.fieldAddr fl54_1 rfl) rfl rfl ?_
  have f2 := hS5.bk (i := 0) rfl
  refine OL.q (Q1.load1 ti52 rfl (fun _ e => e ▸ (f2.cell 1 _ rfl))) rfl rfl ?_
  refine OL.q (Q1.move rfl) rfl rfl ?_
  obtain ⟨g2, f3, hl1, k1⟩ := hS5.accK (i := 1) rfl
  refine OL.act rfl rfl (AW.appendStr f3 Tryd.underlying52 Tryd.underlying9 ti5 rfl rfl rfl (by first | omega | (simp only [List.length_append, List.length_cons, List.length_nil]; omega) | (simp; omega)) (by unfold maxLen; first | omega | (simp only [List.length_append, List.length_cons, List.length_nil]; omega) | (simp; omega)) ?_)
  intro v1 g1 w2 ha1 hm2 hg1 hz1
  have hS6 : St (fun _ => False) F w0 w2 [bkR b ((ptr b 0) :: vb1 :: tail) e, accR encB 5 1 v1 ((txt ++ t))] := k1 _ _ _ _ hm2 ha1 hg1
  clear hg1
  refine OL.q (Q1.nilCheckP rfl) rfl rfl ?_
  refine OL.q (Q1.fieldAddr fl54_1 rfl) rfl rfl ?_
  obtain ⟨g3, f4, hl2, k2⟩ := hS6.accK (i := 1) rfl
  obtain ⟨ad1, cp1, hv1⟩ := f4.shape
  subst hv1
  have f5 := hS6.bk (i := 0) rfl
  refine OL.act rfl rfl (AW.store ti52 rfl rfl rfl rfl rfl f5 (Nat.le_of_ble_eq_true rfl) ?_)
  intro w3 hm3 hz2 hk2
  have hS7 : St (fun _ => False) F w0 w3 [bkR b ((ptr b 0) :: ((.slice ad1 ((txt ++ t)).length cp1)) :: tail) e, accR encB 5 1 ((.slice ad1 ((txt ++ t)).length cp1)) ((txt ++ t))] := hS6.bkK (i := 0) rfl hm3 hk2
  refine OL.nil ?_
  refine r_seq ?_
  refine r_region ?_
  refine OL.q (Q1.move rfl) rfl rfl ?_
  refine OL.q (Q1.lenS Tryd.underlying9 rfl) rfl rfl ?_
  refine OL.q (Q1.assign rfl) rfl rfl ?_
  refine OL.q (Q1.assign rfl) rfl rfl ?_
  refine OL.nil ?_
  refine r_ret2 Tryd.func50 rfl rfl rfl ?_
  have hS8 : St (fun _ => False) F w0 w3 [boxR [bkR b ((ptr b 0) :: ((.slice ad1 ((txt ++ t)).length cp1)) :: tail) e, accR encB 5 1 ((.slice ad1 ((txt ++ t)).length cp1)) ((txt ++ t))]] := St.close (L1 := []) hS7
  have hS9 : St (fun _ => False) F w0 w3 [andR ((ptr b 0) = .pointer none ∨ (ptr b 0) = ptr b 0) (boxR [bkR b ((ptr b 0) :: ((.slice ad1 ((txt ++ t)).length cp1)) :: tail) e, accR encB 5 1 ((.slice ad1 ((txt ++ t)).length cp1)) ((txt ++ t))])] := hS8.imp (i := 0) rfl (fun F_ h_ => ⟨(.inr rfl), h_⟩)
  have hS10 : St (fun _ => False) F w0 w3 [bdR 5 e b tail ((txt ++ t))] := hS9.exi (A := fun pv : Value × Value => andR (pv.1 = .pointer none ∨ pv.1 = ptr b 0) (boxR [bkR b (pv.1 :: pv.2 :: tail) e, accR encB 5 1 pv.2 ((txt ++ t))])) ((ptr b 0), ((.slice ad1 ((txt ++ t)).length cp1))) (i := 0) rfl
  obtain ⟨hmF, F2r, hAr, hFr⟩ := hS10.fin
  exact Ret.mk ⟨rfl, hmF, F2r, hAr, hFr⟩
set_option maxRecDepth 20000 in
set_option maxHeartbeats 4000000 in
theorem bwrite_c {w0 : World} {F : Nat → Prop} {b : Nat} {e : TypeId} {tail : List Value} {txt : Str} {v_t : Value} {t : Str} {G : Nat → Prop} (ht : Sl encB w0 G v_t t) (hG : ∀ b, G b → ¬ F b) (hA : (bdR (R := fun _ => False) 5 e b tail txt).p F w0) (hF : ∀ b, F b → b < w0.heap.size) (hE : liesB Tryd.prog e (tail.length + 2) 54 = true) (hl : txt.length ≤ 4000000000000) (htn : t.length ≤ 1000000) :
    Calls Tryd.prog 24 #[ptr b 0, v_t] w0 (Ret fun rv w1 => rv = .tuple #[.int .i64 ((t.length : Nat) : Int), .nilIface] ∧ Mod F w0 w1 ∧ ∃ F2, (bdR (R := fun _ => False) 5 e b tail ((txt ++ t))).p F2 w1 ∧ ∀ b, F2 b → b < w1.heap.size ∧ (F b ∨ w0.heap.size ≤ b)) := by
  have hS00 := St.start1 (R := fun _ => False) hA (fun b hb => ⟨hF b hb, id⟩) (fun _ h => h.elim)
  have hS1 : St (fun _ => False) F w0 w0 [bdR 5 e b tail txt] := hS00
  obtain ⟨⟨pb1, vb1⟩, hS2⟩ := hS1.exo (i := 0) rfl
  change St (fun _ => False) F w0 w0 [andR (pb1 = .pointer none ∨ pb1 = ptr b 0) (boxR [bkR b (pb1 :: vb1 :: tail) e, accR encB 5 1 vb1 txt])] at hS2
  obtain ⟨hpb1, hS3⟩ := hS2.and (i := 0) rfl
  change St (fun _ => False) F w0 w0 [boxR [bkR b (pb1 :: vb1 :: tail) e, accR encB 5 1 vb1 txt]] at hS3
  have hS4 : St (fun _ => False) F w0 w0 [bkR b (pb1 :: vb1 :: tail) e, accR encB 5 1 vb1 txt] := St.open (L1 := []) hS3
  have htl := ht.le
  refine calls_enter Tryd.func24 rfl Tryd.ntmps24 rfl ?_
  refine r_seq ?_
  refine r_region ?_
  refine OL.q (Q1.assign rfl) rfl rfl ?_
  refine OL.q (Q1.assign rfl) rfl rfl ?_
  refine OL.nil ?_
  refine r_seq ?_
  refine r_region ?_
  refine OL.q (Q1.move rfl) rfl rfl ?_
  have f1 := hS4.bk (i := 0) rfl
  refine OL.act rfl rfl (AW.callF cl41 rfl (bcheck_c hpb1 f1 hE) ?_)
  rintro _ w1 ⟨rfl, hm1, hk1⟩
  have hS5 : St (fun _ => False) F w0 w1 [bkR b ((ptr b 0) :: vb1 :: tail) e, accR encB 5 1 vb1 txt] := hS4.bkK (i := 0) rfl hm1 hk1
  refine OL.nil ?_
  refine r_seq ?_
  refine r_region ?_
  refine OL.q (Q1.move rfl) rfl rfl ?_
  refine OL.q (Q1.move rfl) rfl rfl ?_
  refine OL.q (Q1.nilCheckP rfl) rfl rfl ?_
  refine OL.q (Q1.fieldAddr fl54_1 rfl) rfl rfl ?_
  have f2 := hS5.bk (i := 0) rfl
  refine OL.q (Q1.load1 ti52 rfl (fun _ e => e ▸ (f2.cell 1 _ rfl))) rfl rfl ?_
  refine OL.q (Q1.move rfl) rfl rfl ?_
  obtain ⟨g2, f3, hl1, k1⟩ := hS5.accK (i := 1) rfl
  have f4 := hS5.out ht hG
  refine OL.act rfl rfl (AW.append f3 Tryd.underlying52 ti5 rfl encB_len encB_one rfl rfl (f4) (by first | omega | (simp only [List.length_append, List.length_cons, List.length_nil]; omega) | (simp; omega)) (by unfold maxLen; first | omega | (simp only [List.length_append, List.length_cons, List.length_nil]; omega) | (simp; omega)) ?_)
  intro v1 g1 w2 ha1 hm2 hg1 hz1
  have hS6 : St (fun _ => False) F w0 w2 [bkR b ((ptr b 0) :: vb1 :: tail) e, accR encB 5 1 v1 ((txt ++ t))] := k1 _ _ _ _ hm2 ha1 hg1
  clear hg1
  refine OL.q (Q1.nilCheckP rfl) rfl rfl ?_
  refine OL.q (Q1.fieldAddr fl54_1 rfl) rfl rfl ?_
  obtain ⟨g3, f5, hl2, k2⟩ := hS6.accK (i := 1) rfl
  obtain ⟨ad1, cp1, hv1⟩ := f5.shape
  subst hv1
  have f6 := hS6.bk (i := 0) rfl
  refine OL.act rfl rfl (AW.store ti52 rfl rfl rfl rfl rfl f6 (Nat.le_of_ble_eq_true rfl) ?_)
  intro w3 hm3 hz2 hk2
  have hS7 : St (fun _ => False) F w0 w3 [bkR b ((ptr b 0) :: ((.slice ad1 ((txt ++ t)).length cp1)) :: tail) e, accR encB 5 1 ((.slice ad1 ((txt ++ t)).length cp1)) ((txt ++ t))] := hS6.bkK (i := 0) rfl hm3 hk2
  refine OL.nil ?_
  refine r_seq ?_
  refine r_region ?_
  refine OL.q (Q1.move rfl) rfl rfl ?_
  have f7 := hS7.out ht hG
  refine OL.q (Q1.lenSl Tryd.underlying52 (f7) rfl) rfl rfl ?_
  refine OL.q (Q1.assign rfl) rfl rfl ?_
  refine OL.q (Q1.assign rfl) rfl rfl ?_
  refine OL.nil ?_
  refine r_ret2 Tryd.func24 rfl rfl rfl ?_
  have hS8 : St (fun _ => False) F w0 w3 [boxR [bkR b ((ptr b 0) :: ((.slice ad1 ((txt ++ t)).length cp1)) :: tail) e, accR encB 5 1 ((.slice ad1 ((txt ++ t)).length cp1)) ((txt ++ t))]] := St.close (L1 := []) hS7
  have hS9 : St (fun _ => False) F w0 w3 [andR ((ptr b 0) = .pointer none ∨ (ptr b 0) = ptr b 0) (boxR [bkR b ((ptr b 0) :: ((.slice ad1 ((txt ++ t)).length cp1)) :: tail) e, accR encB 5 1 ((.slice ad1 ((txt ++ t)).length cp1)) ((txt ++ t))])] := hS8.imp (i := 0) rfl (fun F_ h_ => ⟨(.inr rfl), h_⟩)
  have hS10 : St (fun _ => False) F w0 w3 [bdR 5 e b tail ((txt ++ t))] := hS9.exi (A := fun pv : Value × Value => andR (pv.1 = .pointer none ∨ pv.1 = ptr b 0) (boxR [bkR b (pv.1 :: pv.2 :: tail) e, accR encB 5 1 pv.2 ((txt ++ t))])) ((ptr b 0), ((.slice ad1 ((txt ++ t)).length cp1))) (i := 0) rfl
  obtain ⟨hmF, F2r, hAr, hFr⟩ := hS10.fin
  exact Ret.mk ⟨rfl, hmF, F2r, hAr, hFr⟩
set_option maxRecDepth 20000 in
set_option maxHeartbeats 4000000 in
theorem blen_c {w0 : World} {F : Nat → Prop} {b : Nat} {e : TypeId} {tail : List Value} {txt : Str}  (hA : (bdR (R := fun _ => False) 5 e b tail txt).p F w0) (hF : ∀ b, F b → b < w0.heap.size) (hE : liesB Tryd.prog e (tail.length + 2) 54 = true) (hl : txt.length ≤ 4000000000000)  :
    Calls Tryd.prog 37 #[ptr b 0] w0 (Ret fun rv w1 => rv = .int .i64 ((txt.length : Nat) : Int) ∧ Mod F w0 w1 ∧ ∃ F2, (bdR (R := fun _ => False) 5 e b tail txt).p F2 w1 ∧ ∀ b, F2 b → b < w1.heap.size ∧ (F b ∨ w0.heap.size ≤ b)) := by
  have hS00 := St.start1 (R := fun _ => False) hA (fun b hb => ⟨hF b hb, id⟩) (fun _ h => h.elim)
  have hS1 : St (fun _ => False) F w0 w0 [bdR 5 e b tail txt] := hS00
  obtain ⟨⟨pb1, vb1⟩, hS2⟩ := hS1.exo (i := 0) rfl
  change St (fun _ => False) F w0 w0 [andR (pb1 = .pointer none ∨ pb1 = ptr b 0) (boxR [bkR b (pb1 :: vb1 :: tail) e, accR encB 5 1 vb1 txt])] at hS2
  obtain ⟨hpb1, hS3⟩ := hS2.and (i := 0) rfl
  change St (fun _ => False) F w0 w0 [boxR [bkR b (pb1 :: vb1 :: tail) e, accR encB 5 1 vb1 txt]] at hS3
  have hS4 : St (fun _ => False) F w0 w0 [bkR b (pb1 :: vb1 :: tail) e, accR encB 5 1 vb1 txt] := St.open (L1 := []) hS3
  refine calls_enter Tryd.func37 rfl Tryd.ntmps37 rfl ?_
  refine r_seq ?_
  refine r_region ?_
  refine OL.q (Q1.assign rfl) rfl rfl ?_
  refine OL.nil ?_
  refine r_seq ?_
  refine r_region ?_
  refine OL.q (Q1.move rfl) rfl rfl ?_
  refine OL.q (Q1.nilCheckP rfl) rfl rfl ?_
  refine OL.q (Q1.fieldAddr fl54_1 rfl) rfl rfl ?_
  have f1 := hS4.bk (i := 0) rfl
  refine OL.q (Q1.load1 ti52 rfl (fun _ e => e ▸ (f1.cell 1 _ rfl))) rfl rfl ?_
  obtain ⟨g1, f2, hl1, k1⟩ := hS4.accK (i := 1) rfl
  refine OL.q (Q1.lenSl Tryd.underlying52 (f2.sl) rfl) rfl rfl ?_
  refine OL.q (Q1.assign rfl) rfl rfl ?_
  refine OL.nil ?_
  refine r_ret1 Tryd.func37 rfl rfl ?_
  have hS5 : St (fun _ => False) F w0 w0 [boxR [bkR b (pb1 :: vb1 :: tail) e, accR encB 5 1 vb1 txt]] := St.close (L1 := []) hS4
  have hS6 : St (fun _ => False) F w0 w0 [andR (pb1 = .pointer none ∨ pb1 = ptr b 0) (boxR [bkR b (pb1 :: vb1 :: tail) e, accR encB 5 1 vb1 txt])] := hS5.imp (i := 0) rfl (fun F_ h_ => ⟨hpb1, h_⟩)
  have hS7 : St (fun _ => False) F w0 w0 [bdR 5 e b tail txt] := hS6.exi (A := fun pv : Value × Value => andR (pv.1 = .pointer none ∨ pv.1 = ptr b 0) (boxR [bkR b (pv.1 :: pv.2 :: tail) e, accR encB 5 1 pv.2 txt])) (pb1, vb1) (i := 0) rfl
  obtain ⟨hmF, F2r, hAr, hFr⟩ := hS7.fin
  exact Ret.mk ⟨rfl, hmF, F2r, hAr, hFr⟩
set_option maxRecDepth 20000 in
set_option maxHeartbeats 4000000 in
theorem bstring_c {w0 : World} {F : Nat → Prop} {b : Nat} {e : TypeId} {tail : List Value} {txt : Str} (hA : (bdR (R := fun _ => False) 5 e b tail txt).p F w0) (hF : ∀ b, F b → b < w0.heap.size) (hne : txt ≠ []) :
    Calls Tryd.prog 25 #[ptr b 0] w0 (Ret fun rv w1 => rv = strV txt ∧ Mod F w0 w1) := by
  have hS00 := St.start1 (R := fun _ => False) hA (fun b hb => ⟨hF b hb, id⟩) (fun _ h => h.elim)
  have hS1 : St (fun _ => False) F w0 w0 [bdR 5 e b tail txt] := hS00
  obtain ⟨⟨pb1, vb1⟩, hS2⟩ := hS1.exo (i := 0) rfl
  change St (fun _ => False) F w0 w0 [andR (pb1 = .pointer none ∨ pb1 = ptr b 0) (boxR [bkR b (pb1 :: vb1 :: tail) e, accR encB 5 1 vb1 txt])] at hS2
  obtain ⟨hpb1, hS3⟩ := hS2.and (i := 0) rfl
  change St (fun _ => False) F w0 w0 [boxR [bkR b (pb1 :: vb1 :: tail) e, accR encB 5 1 vb1 txt]] at hS3
  have hS4 : St (fun _ => False) F w0 w0 [bkR b (pb1 :: vb1 :: tail) e, accR encB 5 1 vb1 txt] := St.open (L1 := []) hS3
  obtain ⟨g1, f1, hl1, k1⟩ := hS4.accK (i := 1) rfl
  obtain ⟨gb_, cp_, hvb_, hcp_⟩ := acc_some f1 hne
  subst hvb_
  have hS5 : St (fun _ => False) F w0 w0 [bkR b (pb1 :: ((.slice (some ⟨gb_, 0, none⟩) txt.length cp_)) :: tail) e, accR encB 5 1 ((.slice (some ⟨gb_, 0, none⟩) txt.length cp_)) txt] := hS4
  refine calls_enter Tryd.func25 rfl Tryd.ntmps25 rfl ?_
  refine r_seq ?_
  refine r_region ?_
  refine OL.q (Q1.assign rfl) rfl rfl ?_
  refine OL.nil ?_
  refine r_seq ?_
  obtain ⟨g2, f2, hl2, k2⟩ := hS5.accK (i := 1) rfl
  refine r_draw1 (fun i => Nat.beq i 10) 12 (fun w' => Mod (Mg g2) w0 w') mixed (by kernel_rfl) ?_
  intro w1 hm1
  have hS6 := hS5.ext hm1
  have hCw1 : Mod (Mg g2) w0 w1 := Mod.ofExt hm1
  refine ⟨hCw1, ?_⟩
  rw [show List.range' 0 (Array.size _) = [0, 1, 2, 3, 4, 5, 6, 7, 8, 9, 10, 11] from rfl]
  refine OD.q rfl rfl (Q1.move rfl) rfl rfl ?_
  refine OD.q rfl rfl (Q1.nilCheckP rfl) rfl rfl ?_
  refine OD.q rfl rfl (Q1.fieldAddr fl54_1 rfl) rfl rfl ?_
  have f3 := hS5.bk (i := 0) rfl
  refine OD.q rfl rfl (Q1.load1 ti52 rfl (fun _ hc => (f3.cell 1 _ rfl).keepG hc (hS5.ne (i := 1) (j := 0) rfl rfl (by decide) f2))) rfl rfl ?_
  refine OD.q rfl rfl (Q1.sliceData hcp_ rfl) rfl rfl ?_
  refine OD.q rfl rfl (Q1.move rfl) rfl rfl ?_
  refine OD.q rfl rfl (Q1.nilCheckP rfl) rfl rfl ?_
  refine OD.q rfl rfl (Q1.fieldAddr fl54_1 rfl) rfl rfl ?_
  refine OD.q rfl rfl (Q1.load1 ti52 rfl (fun _ hc => (f3.cell 1 _ rfl).keepG hc (hS5.ne (i := 1) (j := 0) rfl rfl (by decide) f2))) rfl rfl ?_
  refine OD.q rfl rfl (Q1.lenSl Tryd.underlying52 (f2.sl) rfl) rfl rfl ?_
  obtain ⟨g3, f4, hl3, k3⟩ := hS6.accK (i := 1) rfl
  have he1 := Acc.uniq f2 f4
  subst he1
  refine OD.act rfl rfl rfl rfl (AW.unsafeStr Tryd.underlying85 (by kernel_rfl) hne rfl rfl f4 rfl ?_)
  intro w2 hm2
  obtain ⟨Fz, ⟨gz, haz, hgz⟩, hFz, hkz⟩ := hS6.act (i := 1) rfl
  have hez := Acc.uniq f4 haz
  subst hez
  have hS7 : St (fun _ => False) F w0 w2 [bkR b (pb1 :: ((.slice (some ⟨gb_, 0, none⟩) txt.length cp_)) :: tail) e, noR] := hkz _ (fun _ => False) noR (hm2.weaken fun b hb _ => hgz b hb) trivial (fun _ h => h.elim)
  have hCw2 := hCw1.trans hm2
  refine ⟨.inr hCw2, ?_⟩
  refine OD.q rfl rfl (Q1.assign rfl) rfl rfl ?_
  refine OD.nil ?_
  refine r_ret1 Tryd.func25 rfl rfl ?_
  exact Ret.mk ⟨rfl, hS7.mod⟩
end Go.Proofs
