/-
  Walks through texts between quotes.
-/
import Derived.Test.YtnikbecfjbjbbaaDoorWBld
set_option linter.unusedVariables false
set_option linter.unusedSimpArgs false
namespace Go.Proofs
open Go.Ik Go.Ml
set_option maxRecDepth 20000 in
set_option maxHeartbeats 4000000 in
theorem plain_c {w0 : World}  (c : UInt8)  :
    Calls Tryd.prog 23 #[.int .u8 ((c.toNat : Int))] w0 (Ret fun rv w1 => (∃ rb : Bool, rb = (plainB c) ∧ rv = .bool rb) ∧ Ext w0 w1) := by
  have hS0 := St.start0 w0
  refine calls_enter Tryd.func23 rfl Tryd.ntmps23 rfl ?_
  refine r_seq ?_
  refine r_region ?_
  refine OL.q (Q1.assign rfl) rfl rfl ?_
  refine OL.nil ?_
  refine r_seq ?_
  refine r_region ?_
  refine OL.q (Q1.move rfl) rfl rfl ?_
  refine OL.qb (Q1.ge rfl rfl) rfl rfl ?_
  intro b1 hb1
  refine OL.q (Q1.move rfl) rfl rfl ?_
  cases b1 with
  | true =>
    replace hb1 := of_decide_eq_true hb1.symm
    refine OL.q (Q1.move rfl) rfl rfl ?_
    refine OL.qb (Q1.le rfl rfl) rfl rfl ?_
    intro b2 hb2
    refine OL.q (Q1.pick_t rfl rfl) rfl rfl ?_
    refine OL.q (Q1.move rfl) rfl rfl ?_
    cases b2 with
    | true =>
      replace hb2 := of_decide_eq_true hb2.symm
      refine OL.q (Q1.move rfl) rfl rfl ?_
      refine OL.qb (Q1.ne rfl rfl) rfl rfl ?_
      intro b3 hb3
      refine OL.q (Q1.pick_t rfl rfl) rfl rfl ?_
      refine OL.q (Q1.move rfl) rfl rfl ?_
      cases b3 with
      | true =>
        replace hb3 := bne_iff_ne.1 hb3.symm
        refine OL.q (Q1.move rfl) rfl rfl ?_
        refine OL.qb (Q1.ne rfl rfl) rfl rfl ?_
        intro b4 hb4
        refine OL.q (Q1.pick_t rfl rfl) rfl rfl ?_
        refine OL.q (Q1.assign rfl) rfl rfl ?_
        refine OL.nil ?_
        refine r_ret1 Tryd.func23 rfl rfl ?_
        exact Ret.mk ⟨⟨_, (by first | exact pl_a (by omega) | exact pl_b (by omega) (by assumption) | (exfalso; omega)), rfl⟩, hS0.mod⟩
      | false =>
        replace hb3 := bne_eq_false_iff_eq.1 hb3.symm
        refine OL.sk rfl rfl ?_
        refine OL.sk rfl rfl ?_
        refine OL.q (Q1.pick_f rfl rfl) rfl rfl ?_
        refine OL.q (Q1.assign rfl) rfl rfl ?_
        refine OL.nil ?_
        refine r_ret1 Tryd.func23 rfl rfl ?_
        exact Ret.mk ⟨⟨_, (by first | exact pl_a (by omega) | exact pl_b (by omega) (by assumption) | (exfalso; omega)), rfl⟩, hS0.mod⟩
    | false =>
      replace hb2 := of_decide_eq_false hb2.symm
      refine OL.sk rfl rfl ?_
      refine OL.sk rfl rfl ?_
      refine OL.q (Q1.pick_f rfl rfl) rfl rfl ?_
      refine OL.q (Q1.move rfl) rfl rfl ?_
      refine OL.sk rfl rfl ?_
      refine OL.sk rfl rfl ?_
      refine OL.q (Q1.pick_f rfl rfl) rfl rfl ?_
      refine OL.q (Q1.assign rfl) rfl rfl ?_
      refine OL.nil ?_
      refine r_ret1 Tryd.func23 rfl rfl ?_
      exact Ret.mk ⟨⟨_, (by first | exact pl_a (by omega) | exact pl_b (by omega) (by assumption) | (exfalso; omega)), rfl⟩, hS0.mod⟩
  | false =>
    replace hb1 := of_decide_eq_false hb1.symm
    refine OL.sk rfl rfl ?_
    refine OL.sk rfl rfl ?_
    refine OL.q (Q1.pick_f rfl rfl) rfl rfl ?_
    refine OL.q (Q1.move rfl) rfl rfl ?_
    refine OL.sk rfl rfl ?_
    refine OL.sk rfl rfl ?_
    refine OL.q (Q1.pick_f rfl rfl) rfl rfl ?_
    refine OL.q (Q1.move rfl) rfl rfl ?_
    refine OL.sk rfl rfl ?_
    refine OL.sk rfl rfl ?_
    refine OL.q (Q1.pick_f rfl rfl) rfl rfl ?_
    refine OL.q (Q1.assign rfl) rfl rfl ?_
    refine OL.nil ?_
    refine r_ret1 Tryd.func23 rfl rfl ?_
    exact Ret.mk ⟨⟨_, (by first | exact pl_a (by omega) | exact pl_b (by omega) (by assumption) | (exfalso; omega)), rfl⟩, hS0.mod⟩
set_option maxRecDepth 20000 in
set_option maxHeartbeats 4000000 in
theorem slixb_c {w0 : World}  (s : Str) (c : UInt8)  :
    Calls Tryd.prog 42 #[strV s, .int .u8 ((c.toNat : Int))] w0 (Ret fun rv w1 => rv = .int .i64 (Lib.indexByte s c) ∧ Ext w0 w1) := by
  have hS0 := St.start0 w0
  refine calls_enter Tryd.func42 rfl Tryd.ntmps42 rfl ?_
  refine r_seq ?_
  refine r_region ?_
  refine OL.q (Q1.assign rfl) rfl rfl ?_
  refine OL.nil ?_
  refine r_seq ?_
  refine r_region ?_
  refine OL.q (Q1.move rfl) rfl rfl ?_
  refine OL.q (Q1.move rfl) rfl rfl ?_
  refine OL.act rfl rfl (AW.callX Tryd.func54 (by kernel_rfl) (by kernel_rfl) (by kernel_rfl) (e := Extern.BytealgIndexByte.indexByte) (by kernel_rfl) rfl (run_indexByteS s c _) ?_)
  refine OL.q (Q1.assign rfl) rfl rfl ?_
  refine OL.nil ?_
  refine r_ret1 Tryd.func42 rfl rfl ?_
  exact Ret.mk ⟨(congrArg (Value.int .i64) (by rfl)), hS0.mod⟩
set_option maxRecDepth 20000 in
set_option maxHeartbeats 4000000 in
theorem stixb_c {w0 : World}  (s : Str) (c : UInt8)  :
    Calls Tryd.prog 26 #[strV s, .int .u8 ((c.toNat : Int))] w0 (Ret fun rv w1 => rv = .int .i64 (Lib.indexByte s c) ∧ Ext w0 w1) := by
  have hS0 := St.start0 w0
  refine calls_enter Tryd.func26 rfl Tryd.ntmps26 rfl ?_
  refine r_seq ?_
  refine r_region ?_
  refine OL.q (Q1.assign rfl) rfl rfl ?_
  refine OL.nil ?_
  refine r_seq ?_
  refine r_region ?_
  refine OL.q (Q1.move rfl) rfl rfl ?_
  refine OL.q (Q1.move rfl) rfl rfl ?_
  refine OL.act rfl rfl (AW.callF cl42 rfl (slixb_c (w0 := w0)  s (c) ) ?_)
  rintro _ w1 ⟨rfl, hm1⟩
  have hS1 := hS0.ext hm1
  refine OL.q (Q1.assign rfl) rfl rfl ?_
  refine OL.nil ?_
  refine r_ret1 Tryd.func26 rfl rfl ?_
  exact Ret.mk ⟨(congrArg (Value.int .i64) (by rfl)), hS1.mod⟩
set_option maxRecDepth 20000 in
set_option maxHeartbeats 4000000 in
theorem quote_c {w0 : World}  (s : Str) (hsl : s.length ≤ 300000) :
    Calls Tryd.prog 9 #[strV s] w0 (Ret fun rv w1 => rv = strV (quoteM s) ∧ Ext w0 w1) := by
  have hS0 := St.start0 w0
  refine calls_enter Tryd.func9 rfl Tryd.ntmps9 rfl ?_
  refine r_seq ?_
  refine r_region ?_
  refine OL.q (Q1.assign rfl) rfl rfl ?_
  refine OL.nil ?_
  refine r_seq ?_
  refine r_region ?_
  refine OL.act rfl rfl (AW.alloc ti54 ?_)
  intro w1 b1 hm1 hb1 hz1 hk1
  have hS1 := hS0.ext hm1
  have hS2 : St (fun _ => False) (fun _ => False) w0 w1 [bkR b1 [.pointer none, .slice none 0 0] 54] := hS0.newBk hm1 hb1 hk1
  refine OL.nil ?_
  refine r_seq ?_
  refine r_region ?_
  have hS3 : St (fun _ => False) (fun _ => False) w0 w1 [bkR b1 [.pointer none, .slice none 0 0] 54, accR encB 5 1 (.slice none 0 0) []] := hS2.newAcc (Mod.refl _ _) Acc.nil (.inl rfl)
  have hS4 : St (fun _ => False) (fun _ => False) w0 w1 [boxR [bkR b1 [.pointer none, .slice none 0 0] 54, accR encB 5 1 (.slice none 0 0) []]] := St.close (L1 := []) hS3
  have hS5 : St (fun _ => False) (fun _ => False) w0 w1 [andR ((.pointer none : Value) = .pointer none ∨ (.pointer none : Value) = ptr b1 0) (boxR [bkR b1 ((.pointer none : Value) :: (.slice none 0 0 : Value) :: []) 54, accR encB 5 1 (.slice none 0 0 : Value) []])] := hS4.imp (i := 0) rfl (fun F_ h_ => ⟨.inl rfl, h_⟩)
  have hS6 : St (fun _ => False) (fun _ => False) w0 w1 [bdR 5 54 b1 [] []] := hS5.exi (A := fun pv : Value × Value => andR (pv.1 = .pointer none ∨ pv.1 = ptr b1 0) (boxR [bkR b1 (pv.1 :: pv.2 :: []) 54, accR encB 5 1 pv.2 []])) ((.pointer none : Value), (.slice none 0 0 : Value)) (i := 0) rfl
  obtain ⟨Fy1, hAy1, hFy1, hky1⟩ := hS6.act (i := 0) rfl
  refine OL.act rfl rfl (AW.callF cl22 rfl (bwbyte_c (w0 := w1) (34 : UInt8) hAy1 (fun b hb => (hFy1 b hb).2) (by kernel_rfl) (by first | omega | (simp only [List.length_append, List.length_cons, List.length_nil]; omega)) ) ?_)
  rintro _ w2 ⟨rfl, hm2, F1, hA1, hF1⟩
  have hS7 : St (fun _ => False) (fun _ => False) w0 w2 [bdR 5 54 b1 [] (([] ++ [(34 : UInt8)]))] := hky1 _ _ _ hm2 hA1 hF1
  clear hky1 hA1
  refine OL.nil ?_
  refine r_seq ?_
  refine r_seq ?_
  refine r_region ?_
  refine OL.q (Q1.move rfl) rfl rfl ?_
  refine OL.q (Q1.lenS Tryd.underlying9 rfl) rfl rfl ?_
  refine OL.q (Q1.move rfl) rfl rfl ?_
  refine OL.nil ?_
  refine r_block ?_
  refine r_loop (I := fun m E W => ∃ (i : Nat) (tx : Str), E = [(0, strV s), (3, ptr b1 0), (8, .int .i64 (((s.length : Nat) : Int))), (9, .int .i64 (((i : Nat) : Int)))] ∧ m = s.length - i ∧ St (fun _ => False) (fun _ => False) w0 W [bdR 5 54 b1 [] tx] ∧ (tx = 34 :: (s.take i).flatMap q1)) ?_ ?_
  · refine ⟨_, _, ⟨(0 : Nat), (([] ++ [(34 : UInt8)]) : Str), rfl, rfl, hS7, (by rfl)⟩, ⟨rfl, rfl, rfl, rfl, trivial⟩⟩
  · rintro _ _ w3 ⟨i, tx, rfl, rfl, hS8, htx⟩ ih1
    have htl := q_len htx
    refine r_seq ?_
    refine r_region ?_
    refine OL.qb (Q1.lt rfl rfl) rfl rfl ?_
    intro b2 hb2
    refine OL.nil ?_
    refine r_seq ?_
    cases b2 with
    | true =>
      replace hb2 := of_decide_eq_true hb2.symm
      refine r_cond_t rfl ?_
      refine r_skip ?_
      refine r_seq ?_
      refine r_block ?_
      refine r_seq ?_
      refine r_region ?_
      refine OL.q (Q1.move rfl) rfl rfl ?_
      refine OL.q (Q1.assign rfl) rfl rfl ?_
      refine OL.nil ?_
      refine r_seq ?_
      refine r_region ?_
      refine OL.q (Q1.move rfl) rfl rfl ?_
      refine OL.q (Q1.move rfl) rfl rfl ?_
      refine OL.q (Q1.indexBt (i) Tryd.underlying9 rfl rfl (by omega) (by first | assumption | omega | (simp; done) | (simp; omega))) rfl rfl ?_
      refine OL.q (Q1.assign rfl) rfl rfl ?_
      have hby := (btAt s i).toNat_lt
      refine OL.nil ?_
      refine r_seq ?_
      refine r_region ?_
      refine OL.q (Q1.move rfl) rfl rfl ?_
      refine OL.act rfl rfl (AW.callF cl23 rfl (plain_c (w0 := w3)  ((btAt s i)) ) ?_)
      rintro _ w4 ⟨⟨b3, hb3, rfl⟩, hm3⟩
      have hS9 := hS8.ext hm3
      refine OL.nil ?_
      cases b3 with
      | true =>
        replace hb3 := hb3.symm
        refine r_cond_t rfl ?_
        refine r_region ?_
        refine OL.q (Q1.move rfl) rfl rfl ?_
        obtain ⟨Fy2, hAy2, hFy2, hky2⟩ := hS9.act (i := 0) rfl
        refine OL.act rfl rfl (AW.callF cl22 rfl (bwbyte_c (w0 := w4) (btAt s i) hAy2 (fun b hb => (hFy2 b hb).2) (by kernel_rfl) (by first | omega | (simp only [List.length_append, List.length_cons, List.length_nil]; omega)) ) ?_)
        rintro _ w5 ⟨rfl, hm4, F2, hA2, hF2⟩
        have hS10 : St (fun _ => False) (fun _ => False) w0 w5 [bdR 5 54 b1 [] ((tx ++ [(btAt s i)]))] := hky2 _ _ _ hm4 hA2 hF2
        clear hky2 hA2
        refine OL.nil ?_
        refine r_inBlock ?_
        refine r_region ?_
        refine OL.q (Q1.addI (((i + 1 : Nat) : Int)) rfl rfl (by omega)) rfl rfl ?_
        refine OL.q (Q1.move rfl) rfl rfl ?_
        refine OL.nil ?_
        exact (ih1 _ _ _ ⟨(i + 1 : Nat), ((tx ++ [(btAt s i)]) : Str), rfl, rfl, hS10, (by first | exact q_yes htx (by omega) (by assumption) | exact q_no htx (by omega) (by assumption) | (exfalso; omega))⟩ (by omega)).sub ⟨rfl, rfl, rfl, rfl, trivial⟩
      | false =>
        replace hb3 := hb3.symm
        refine r_cond_f rfl ?_
        refine r_draw1 (fun i => Nat.beq i 6 || Nat.beq i 7) 7 (fun w' => Mod (Mg 0) w4 w') mixed (by kernel_rfl) ?_
        intro w5 hm4
        have hS10 := hS9.ext hm4
        have hCw5 : Mod (Mg 0) w4 w5 := Mod.ofExt hm4
        refine ⟨hCw5, ?_⟩
        rw [show List.range' 0 (Array.size _) = [0, 1, 2, 3, 4, 5, 6, 7] from rfl]
        refine OD.q rfl rfl (Q1.move rfl) rfl rfl ?_
        refine OD.q rfl rfl (Q1.quoU8 (a := (btAt s i).toNat) 16 rfl rfl (by omega) (by first | omega | exact UInt8.toNat_lt _)) rfl rfl ?_
        refine OD.q rfl rfl (Q1.indexBt (((btAt s i).toNat) / 16) Tryd.underlying9 rfl rfl (by omega) (by first | assumption | omega | (simp; done) | (simp; omega))) rfl rfl ?_
        refine OD.q rfl rfl (Q1.move rfl) rfl rfl ?_
        have := Int.emod_nonneg (((btAt s i).toNat : Int) : Int) (by omega : (16 : Int) ≠ 0)
        have := Int.emod_lt_of_pos (((btAt s i).toNat : Int) : Int) (by omega : (0 : Int) < 16)
        refine OD.q rfl rfl (Q1.remI ((((btAt s i).toNat : Int) % 16)) rfl rfl ⟨by omega, by omega, rfl⟩) rfl rfl ?_
        refine OD.q rfl rfl (Q1.indexBt ((((btAt s i).toNat) % 16)) Tryd.underlying9 rfl rfl (by omega) (by first | assumption | omega | (simp; done) | (simp; omega))) rfl rfl ?_
        refine OD.act rfl rfl rfl rfl (AW.buildSlice [(.int .u8 92 : Value), (.int .u8 (((btAt (([48, 49, 50, 51, 52, 53, 54, 55, 56, 57, 97, 98, 99, 100, 101, 102] : Str)) (((btAt s i).toNat) / 16)).toNat : Int)) : Value), (.int .u8 (((btAt (([48, 49, 50, 51, 52, 53, 54, 55, 56, 57, 97, 98, 99, 100, 101, 102] : Str)) ((((btAt s i).toNat) % 16))).toNat : Int)) : Value)] Tryd.underlying52 ti5 rfl rfl rfl (by decide) ?_)
        intro w6 b4 hm5 hb4 hz2 hk2
        have hS11 := hS10.ext hm5
        have hl1 := Sl.of_blk (enc := encB) hk2 ([(92 : UInt8), (btAt (([48, 49, 50, 51, 52, 53, 54, 55, 56, 57, 97, 98, 99, 100, 101, 102] : Str)) (((btAt s i).toNat) / 16)), (btAt (([48, 49, 50, 51, 52, 53, 54, 55, 56, 57, 97, 98, 99, 100, 101, 102] : Str)) ((((btAt s i).toNat) % 16)))] : List UInt8) 3 rfl rfl (by unfold maxLen; omega)
        have hS12 : St (fun _ => False) (fun _ => False) w0 w6 [bdR 5 54 b1 [] tx, slR encB [((.slice (some ⟨b4, 0, none⟩) 3 3), [(92 : UInt8), (btAt (([48, 49, 50, 51, 52, 53, 54, 55, 56, 57, 97, 98, 99, 100, 101, 102] : Str)) (((btAt s i).toNat) / 16)), (btAt (([48, 49, 50, 51, 52, 53, 54, 55, 56, 57, 97, 98, 99, 100, 101, 102] : Str)) ((((btAt s i).toNat) % 16)))])]] := hS10.newSlB hm5 hb4 hz2 hl1
        have hCw6 := hCw5.ext hm5
        refine ⟨.inr hCw6, ?_⟩
        obtain ⟨Fy2, Gy1, hAy2, hGy1, hap1, hFy2, hGl1, hky2⟩ := hS12.act2 (i := 0) (j := 1) rfl rfl (by decide)
        have hsl1 := slR_one hGy1
        refine OD.act rfl rfl rfl rfl (AW.callF cl24 rfl (bwrite_c (w0 := w6) hsl1 (fun b hb => hb.elim (hap1 b) (fun h => h.elim)) hAy2 (fun b hb => (hFy2 b hb).2) (by kernel_rfl) (by first | omega | (simp only [List.length_append, List.length_cons, List.length_nil]; omega)) (by simp)) ?_)
        rintro _ w7 ⟨rfl, hm6, F2, hA2, hF2⟩
        have hS13 : St (fun _ => False) (fun _ => False) w0 w7 [bdR 5 54 b1 [] ((tx ++ [(92 : UInt8), (btAt (([48, 49, 50, 51, 52, 53, 54, 55, 56, 57, 97, 98, 99, 100, 101, 102] : Str)) (((btAt s i).toNat) / 16)), (btAt (([48, 49, 50, 51, 52, 53, 54, 55, 56, 57, 97, 98, 99, 100, 101, 102] : Str)) ((((btAt s i).toNat) % 16)))])), slR encB [((.slice (some ⟨b4, 0, none⟩) 3 3), [(92 : UInt8), (btAt (([48, 49, 50, 51, 52, 53, 54, 55, 56, 57, 97, 98, 99, 100, 101, 102] : Str)) (((btAt s i).toNat) / 16)), (btAt (([48, 49, 50, 51, 52, 53, 54, 55, 56, 57, 97, 98, 99, 100, 101, 102] : Str)) ((((btAt s i).toNat) % 16)))])]] := hky2 _ _ _ hm6 hA2 hF2
        clear hky2 hA2
        refine ⟨.inl rfl, ?_⟩
        refine OD.nil ?_
        refine r_inBlock ?_
        refine r_region ?_
        refine OL.q (Q1.addI (((i + 1 : Nat) : Int)) rfl rfl (by omega)) rfl rfl ?_
        refine OL.q (Q1.move rfl) rfl rfl ?_
        refine OL.nil ?_
        have hS14 : St (fun _ => False) (fun _ => False) w0 w7 [bdR 5 54 b1 [] ((tx ++ [(92 : UInt8), (btAt (([48, 49, 50, 51, 52, 53, 54, 55, 56, 57, 97, 98, 99, 100, 101, 102] : Str)) (((btAt s i).toNat) / 16)), (btAt (([48, 49, 50, 51, 52, 53, 54, 55, 56, 57, 97, 98, 99, 100, 101, 102] : Str)) ((((btAt s i).toNat) % 16)))]))] := hS13.sel [0] (by rfl) (by decide)
        exact (ih1 _ _ _ ⟨(i + 1 : Nat), ((tx ++ [(92 : UInt8), (btAt (([48, 49, 50, 51, 52, 53, 54, 55, 56, 57, 97, 98, 99, 100, 101, 102] : Str)) (((btAt s i).toNat) / 16)), (btAt (([48, 49, 50, 51, 52, 53, 54, 55, 56, 57, 97, 98, 99, 100, 101, 102] : Str)) ((((btAt s i).toNat) % 16)))]) : Str), rfl, rfl, hS14, (by first | exact q_yes htx (by omega) (by assumption) | exact q_no htx (by omega) (by assumption) | (exfalso; omega))⟩ (by omega)).sub ⟨rfl, rfl, rfl, rfl, trivial⟩
    | false =>
      replace hb2 := of_decide_eq_false hb2.symm
      refine r_cond_f rfl ?_
      refine r_exit rfl ?_
      refine r_seq ?_
      refine r_region ?_
      obtain ⟨Fy2, hAy2, hFy2, hky2⟩ := hS8.act (i := 0) rfl
      refine OL.act rfl rfl (AW.callF cl22 rfl (bwbyte_c (w0 := w3) (34 : UInt8) hAy2 (fun b hb => (hFy2 b hb).2) (by kernel_rfl) (by first | omega | (simp only [List.length_append, List.length_cons, List.length_nil]; omega)) ) ?_)
      rintro _ w4 ⟨rfl, hm3, F2, hA2, hF2⟩
      have hS9 : St (fun _ => False) (fun _ => False) w0 w4 [bdR 5 54 b1 [] ((tx ++ [(34 : UInt8)]))] := hky2 _ _ _ hm3 hA2 hF2
      clear hky2 hA2
      refine OL.nil ?_
      refine r_seq ?_
      refine r_region ?_
      obtain ⟨Fy3, hAy3, hFy3, hky3⟩ := hS9.act (i := 0) rfl
      refine OL.act rfl rfl (AW.callF cl25 rfl (bstring_c (w0 := w4) hAy3 (fun b hb => (hFy3 b hb).2) (by first | assumption | simp)) ?_)
      rintro _ w5 ⟨rfl, hm4⟩
      have hS10 : St (fun _ => False) (fun _ => False) w0 w5 [noR] := hky3 _ (fun _ => False) noR hm4 trivial (fun _ h => h.elim)
      clear hky3
      refine OL.q (Q1.assign rfl) rfl rfl ?_
      refine OL.nil ?_
      refine r_ret1 Tryd.func9 rfl rfl ?_
      exact Ret.mk ⟨(congrArg strV (by first | exact q_end htx (by omega) | (exfalso; omega))), hS10.mod⟩
set_option maxRecDepth 20000 in
set_option maxHeartbeats 4000000 in
theorem unquote_c {w0 : World}  (s : Str) (hsl : s.length ≤ 300000) :
    Calls Tryd.prog 10 #[strV s] w0 (Ret fun rv w1 => ∃ u0 u1, rv = .tuple #[u0, u1] ∧ u0 = strV ((unqM s).getD []) ∧ (∃ rb : Bool, rb = ((unqM s).isSome) ∧ u1 = .bool rb) ∧ Ext w0 w1) := by
  have hS0 := St.start0 w0
  refine calls_enter Tryd.func10 rfl Tryd.ntmps10 rfl ?_
  refine r_seq ?_
  refine r_region ?_
  refine OL.q (Q1.assign rfl) rfl rfl ?_
  refine OL.q (Q1.assign rfl) rfl rfl ?_
  refine OL.nil ?_
  refine r_seq ?_
  refine r_seq ?_
  refine r_region ?_
  refine OL.q (Q1.move rfl) rfl rfl ?_
  refine OL.q (Q1.lenS Tryd.underlying9 rfl) rfl rfl ?_
  refine OL.qb (Q1.lt rfl rfl) rfl rfl ?_
  intro b1 hb1
  refine OL.q (Q1.move rfl) rfl rfl ?_
  cases b1 with
  | true =>
    replace hb1 := of_decide_eq_true hb1.symm
    refine OL.sk rfl rfl ?_
    refine OL.sk rfl rfl ?_
    refine OL.sk rfl rfl ?_
    refine OL.q (Q1.pick_t rfl rfl) rfl rfl ?_
    refine OL.q (Q1.move rfl) rfl rfl ?_
    refine OL.sk rfl rfl ?_
    refine OL.sk rfl rfl ?_
    refine OL.sk rfl rfl ?_
    refine OL.sk rfl rfl ?_
    refine OL.sk rfl rfl ?_
    refine OL.sk rfl rfl ?_
    refine OL.q (Q1.pick_t rfl rfl) rfl rfl ?_
    refine OL.nil ?_
    refine r_cond_t rfl ?_
    refine r_seq ?_
    refine r_region ?_
    refine OL.q (Q1.assign rfl) rfl rfl ?_
    refine OL.q (Q1.assign rfl) rfl rfl ?_
    refine OL.nil ?_
    refine r_ret2 Tryd.func10 rfl rfl rfl ?_
    exact Ret.mk ⟨_, _, rfl, (congrArg strV (by first | (rw [show unqM s = none from by first | exact uq_frame (by omega) | exact uq_none (UqAt.short hU (hU.lt (by assumption)) (by omega) (by omega)) | exact uq_none (UqAt.bad hU (by omega) (by omega) (by omega)) | exact uq_rune (hU.lt (by assumption)) (by omega) | exact uq_no (by omega) (hU.fin (by assumption)) (by assumption)]; rfl) | (rw [show unqM s = some b from uq_yes (by omega) (hU.fin (by assumption)) (by assumption)]; rfl) | (exfalso; omega))), ⟨_, (by first | (rw [show unqM s = none from by first | exact uq_frame (by omega) | exact uq_none (UqAt.short hU (hU.lt (by assumption)) (by omega) (by omega)) | exact uq_none (UqAt.bad hU (by omega) (by omega) (by omega)) | exact uq_rune (hU.lt (by assumption)) (by omega) | exact uq_no (by omega) (hU.fin (by assumption)) (by assumption)]; rfl) | (rw [show unqM s = some b from uq_yes (by omega) (hU.fin (by assumption)) (by assumption)]; rfl) | (exfalso; omega)), rfl⟩, hS0.mod⟩
  | false =>
    replace hb1 := of_decide_eq_false hb1.symm
    refine OL.q (Q1.move rfl) rfl rfl ?_
    refine OL.q (Q1.indexBt (0) Tryd.underlying9 rfl rfl (by omega) (by first | assumption | omega | (simp; done) | (simp; omega))) rfl rfl ?_
    refine OL.qb (Q1.ne rfl rfl) rfl rfl ?_
    intro b2 hb2
    refine OL.q (Q1.pick_f rfl rfl) rfl rfl ?_
    refine OL.q (Q1.move rfl) rfl rfl ?_
    cases b2 with
    | true =>
      replace hb2 := bne_iff_ne.1 hb2.symm
      refine OL.sk rfl rfl ?_
      refine OL.sk rfl rfl ?_
      refine OL.sk rfl rfl ?_
      refine OL.sk rfl rfl ?_
      refine OL.sk rfl rfl ?_
      refine OL.sk rfl rfl ?_
      refine OL.q (Q1.pick_t rfl rfl) rfl rfl ?_
      refine OL.nil ?_
      refine r_cond_t rfl ?_
      refine r_seq ?_
      refine r_region ?_
      refine OL.q (Q1.assign rfl) rfl rfl ?_
      refine OL.q (Q1.assign rfl) rfl rfl ?_
      refine OL.nil ?_
      refine r_ret2 Tryd.func10 rfl rfl rfl ?_
      exact Ret.mk ⟨_, _, rfl, (congrArg strV (by first | (rw [show unqM s = none from by first | exact uq_frame (by omega) | exact uq_none (UqAt.short hU (hU.lt (by assumption)) (by omega) (by omega)) | exact uq_none (UqAt.bad hU (by omega) (by omega) (by omega)) | exact uq_rune (hU.lt (by assumption)) (by omega) | exact uq_no (by omega) (hU.fin (by assumption)) (by assumption)]; rfl) | (rw [show unqM s = some b from uq_yes (by omega) (hU.fin (by assumption)) (by assumption)]; rfl) | (exfalso; omega))), ⟨_, (by first | (rw [show unqM s = none from by first | exact uq_frame (by omega) | exact uq_none (UqAt.short hU (hU.lt (by assumption)) (by omega) (by omega)) | exact uq_none (UqAt.bad hU (by omega) (by omega) (by omega)) | exact uq_rune (hU.lt (by assumption)) (by omega) | exact uq_no (by omega) (hU.fin (by assumption)) (by assumption)]; rfl) | (rw [show unqM s = some b from uq_yes (by omega) (hU.fin (by assumption)) (by assumption)]; rfl) | (exfalso; omega)), rfl⟩, hS0.mod⟩
    | false =>
      replace hb2 := bne_eq_false_iff_eq.1 hb2.symm
      refine OL.q (Q1.move rfl) rfl rfl ?_
      refine OL.q (Q1.move rfl) rfl rfl ?_
      refine OL.q (Q1.lenS Tryd.underlying9 rfl) rfl rfl ?_
      refine OL.q (Q1.subI ((((s.length : Nat) : Int) - 1)) rfl rfl (by omega)) rfl rfl ?_
      refine OL.q (Q1.indexBt ((s.length - 1)) Tryd.underlying9 rfl rfl (by omega) (by first | assumption | omega | (simp; done) | (simp; omega))) rfl rfl ?_
      refine OL.qb (Q1.ne rfl rfl) rfl rfl ?_
      intro b3 hb3
      refine OL.q (Q1.pick_f rfl rfl) rfl rfl ?_
      refine OL.nil ?_
      cases b3 with
      | true =>
        replace hb3 := bne_iff_ne.1 hb3.symm
        refine r_cond_t rfl ?_
        refine r_seq ?_
        refine r_region ?_
        refine OL.q (Q1.assign rfl) rfl rfl ?_
        refine OL.q (Q1.assign rfl) rfl rfl ?_
        refine OL.nil ?_
        refine r_ret2 Tryd.func10 rfl rfl rfl ?_
        exact Ret.mk ⟨_, _, rfl, (congrArg strV (by first | (rw [show unqM s = none from by first | exact uq_frame (by omega) | exact uq_none (UqAt.short hU (hU.lt (by assumption)) (by omega) (by omega)) | exact uq_none (UqAt.bad hU (by omega) (by omega) (by omega)) | exact uq_rune (hU.lt (by assumption)) (by omega) | exact uq_no (by omega) (hU.fin (by assumption)) (by assumption)]; rfl) | (rw [show unqM s = some b from uq_yes (by omega) (hU.fin (by assumption)) (by assumption)]; rfl) | (exfalso; omega))), ⟨_, (by first | (rw [show unqM s = none from by first | exact uq_frame (by omega) | exact uq_none (UqAt.short hU (hU.lt (by assumption)) (by omega) (by omega)) | exact uq_none (UqAt.bad hU (by omega) (by omega) (by omega)) | exact uq_rune (hU.lt (by assumption)) (by omega) | exact uq_no (by omega) (hU.fin (by assumption)) (by assumption)]; rfl) | (rw [show unqM s = some b from uq_yes (by omega) (hU.fin (by assumption)) (by assumption)]; rfl) | (exfalso; omega)), rfl⟩, hS0.mod⟩
      | false =>
        replace hb3 := bne_eq_false_iff_eq.1 hb3.symm
        refine r_cond_f rfl ?_
        refine r_skip ?_
        refine r_seq ?_
        refine r_region ?_
        refine OL.q (Q1.assign rfl) rfl rfl ?_
        refine OL.nil ?_
        refine r_seq ?_
        refine r_region ?_
        refine OL.q (Q1.assign rfl) rfl rfl ?_
        refine OL.nil ?_
        refine r_seq ?_
        refine r_region ?_
        refine OL.q (Q1.move rfl) rfl rfl ?_
        refine OL.q (Q1.move rfl) rfl rfl ?_
        refine OL.q (Q1.lenS Tryd.underlying9 rfl) rfl rfl ?_
        refine OL.q (Q1.subI ((((s.length : Nat) : Int) - 1)) rfl rfl (by omega)) rfl rfl ?_
        refine OL.q (Q1.sliceS (1) ((s.length - 1)) Tryd.underlying9 rfl rfl rfl (by omega) (by omega) (by omega) (by first | assumption | omega)) rfl rfl ?_
        refine OL.q (Q1.assign rfl) rfl rfl ?_
        have hin := inner_eq s
        have hil := inner_len s
        rw [hin]
        refine OL.nil ?_
        refine r_seq ?_
        refine r_seq ?_
        refine r_region ?_
        refine OL.q (Q1.move rfl) rfl rfl ?_
        refine OL.act rfl rfl (AW.rangeS Tryd.underlying9 rfl ?_)
        intro w1 b4 hm1 hb4 hz1 hk1
        have hS1 := hS0.ext hm1
        have hS2 : St (fun _ => False) (fun _ => False) w0 w1 [itR b4 ((inner s)) 0] := hS0.newIt hm1 hb4 hk1
        refine OL.nil ?_
        refine r_block ?_
        have hS4 : St (fun _ => False) (fun _ => False) w0 w1 [itR b4 ((inner s)) 0, accR encB 5 1 (.slice none 0 0) []] := hS2.newAcc (Mod.refl _ _) Acc.nil (.inl rfl)
        have hS5 : St (fun _ => False) (fun _ => False) w0 w1 [accR encB 5 1 (.slice none 0 0) [], itR b4 ((inner s)) 0] := hS4.sel [1, 0] (by rfl) (by decide)
        refine r_loop (I := fun m E W => ∃ (v_b : Value) (b : List UInt8) (sk : Nat) (p : Nat), E = [(0, strV s), (4, v_b), (5, .int .i64 (((sk : Nat) : Int))), (6, strV ((inner s))), (33, ptr b4 0)] ∧ m = s.length - p ∧ St (fun _ => False) (fun _ => False) w0 W [accR encB 5 1 v_b b, itR b4 ((inner s)) p] ∧ (UqAt (inner s) b p sk)) ?_ ?_
        · refine ⟨_, _, ⟨(.slice none 0 0 : Value), ([] : List UInt8), (0 : Nat), (0 : Nat), rfl, rfl, hS5, (by exact UqAt.start _)⟩, ⟨rfl, rfl, rfl, rfl, rfl, trivial⟩⟩
        · rintro _ _ w2 ⟨v_b, b, sk, p, rfl, rfl, hS3, hU⟩ ih1
          have hle := hU.le
          have hbl := hU.len
          have hskl := hU.sk
          refine r_seq ?_
          refine r_region ?_
          have f1 := hS3.it (i := 1) rfl
          refine OL.act rfl rfl (AW.nextS rfl f1 ?_ ?_)
          · intro he1
            refine OL.q (Q1.extract rfl rfl) rfl rfl ?_
            refine OL.nil ?_
            refine r_seq ?_
            refine r_cond_f rfl ?_
            refine r_exit rfl ?_
            refine r_seq ?_
            refine r_seq ?_
            refine r_region ?_
            refine OL.q (Q1.move rfl) rfl rfl ?_
            obtain ⟨g1, f2, hl1, k1⟩ := hS3.accK (i := 0) rfl
            refine OL.act rfl rfl (AW.bytesStr Tryd.underlying52 Tryd.underlying5 Tryd.underlying9 rfl (f2.sl) ?_)
            refine OL.act rfl rfl (AW.callF cl9 rfl (quote_c (w0 := w2)  b (by first | assumption | omega | decide)) ?_)
            rintro _ w3 ⟨rfl, hm2⟩
            have hS6 := hS3.ext hm2
            have := quote_len b
            refine OL.q (Q1.move rfl) rfl rfl ?_
            refine OL.qb (Q1.neS rfl rfl) rfl rfl ?_
            intro b5 hb5
            refine OL.nil ?_
            cases b5 with
            | true =>
              replace hb5 := nbeq_t hb5
              refine r_cond_t rfl ?_
              refine r_seq ?_
              refine r_region ?_
              refine OL.q (Q1.assign rfl) rfl rfl ?_
              refine OL.q (Q1.assign rfl) rfl rfl ?_
              refine OL.nil ?_
              refine r_ret2 Tryd.func10 rfl rfl rfl ?_
              exact Ret.mk ⟨_, _, rfl, (congrArg strV (by first | (rw [show unqM s = none from by first | exact uq_frame (by omega) | exact uq_none (UqAt.short hU (hU.lt (by assumption)) (by omega) (by omega)) | exact uq_none (UqAt.bad hU (by omega) (by omega) (by omega)) | exact uq_rune (hU.lt (by assumption)) (by omega) | exact uq_no (by omega) (hU.fin (by assumption)) (by assumption)]; rfl) | (rw [show unqM s = some b from uq_yes (by omega) (hU.fin (by assumption)) (by assumption)]; rfl) | (exfalso; omega))), ⟨_, (by first | (rw [show unqM s = none from by first | exact uq_frame (by omega) | exact uq_none (UqAt.short hU (hU.lt (by assumption)) (by omega) (by omega)) | exact uq_none (UqAt.bad hU (by omega) (by omega) (by omega)) | exact uq_rune (hU.lt (by assumption)) (by omega) | exact uq_no (by omega) (hU.fin (by assumption)) (by assumption)]; rfl) | (rw [show unqM s = some b from uq_yes (by omega) (hU.fin (by assumption)) (by assumption)]; rfl) | (exfalso; omega)), rfl⟩, hS6.mod⟩
            | false =>
              replace hb5 := nbeq_f hb5
              refine r_cond_f rfl ?_
              refine r_skip ?_
              refine r_seq ?_
              refine r_region ?_
              refine OL.q (Q1.move rfl) rfl rfl ?_
              obtain ⟨g2, f3, hl2, k2⟩ := hS6.accK (i := 0) rfl
              refine OL.act rfl rfl (AW.bytesStr Tryd.underlying52 Tryd.underlying5 Tryd.underlying9 rfl (f3.sl) ?_)
              refine OL.q (Q1.assign rfl) rfl rfl ?_
              refine OL.q (Q1.assign rfl) rfl rfl ?_
              refine OL.nil ?_
              refine r_ret2 Tryd.func10 rfl rfl rfl ?_
              exact Ret.mk ⟨_, _, rfl, (congrArg strV (by first | (rw [show unqM s = none from by first | exact uq_frame (by omega) | exact uq_none (UqAt.short hU (hU.lt (by assumption)) (by omega) (by omega)) | exact uq_none (UqAt.bad hU (by omega) (by omega) (by omega)) | exact uq_rune (hU.lt (by assumption)) (by omega) | exact uq_no (by omega) (hU.fin (by assumption)) (by assumption)]; rfl) | (rw [show unqM s = some b from uq_yes (by omega) (hU.fin (by assumption)) (by assumption)]; rfl) | (exfalso; omega))), ⟨_, (by first | (rw [show unqM s = none from by first | exact uq_frame (by omega) | exact uq_none (UqAt.short hU (hU.lt (by assumption)) (by omega) (by omega)) | exact uq_none (UqAt.bad hU (by omega) (by omega) (by omega)) | exact uq_rune (hU.lt (by assumption)) (by omega) | exact uq_no (by omega) (hU.fin (by assumption)) (by assumption)]; rfl) | (rw [show unqM s = some b from uq_yes (by omega) (hU.fin (by assumption)) (by assumption)]; rfl) | (exfalso; omega)), rfl⟩, hS6.mod⟩
          · intro w3 he1 hm2 hz2 hk2
            have hS6 : St (fun _ => False) (fun _ => False) w0 w3 [accR encB 5 1 v_b b, itR b4 ((inner s)) ((p + (dec (((inner s)).drop p)).2))] := hS3.itK (i := 1) rfl hm2 hk2
            have hdp := dec_lt he1
            have hlt := hU.lt he1
            have hra := rune_at hlt
            refine OL.q (Q1.extract rfl rfl) rfl rfl ?_
            refine OL.nil ?_
            refine r_seq ?_
            refine r_cond_t rfl ?_
            refine r_skip ?_
            refine r_block ?_
            refine r_seq ?_
            refine r_region ?_
            refine OL.q (Q1.extract rfl rfl) rfl rfl ?_
            refine OL.q (Q1.extract rfl rfl) rfl rfl ?_
            refine OL.q (Q1.assign rfl) rfl rfl ?_
            refine OL.q (Q1.assign rfl) rfl rfl ?_
            refine OL.nil ?_
            refine r_block ?_
            refine r_seq ?_
            refine r_region ?_
            refine OL.q (Q1.move rfl) rfl rfl ?_
            refine OL.qb (Q1.gt rfl rfl) rfl rfl ?_
            intro b5 hb5
            refine OL.q (Q1.assign rfl) rfl rfl ?_
            refine OL.nil ?_
            cases b5 with
            | true =>
              replace hb5 := of_decide_eq_true hb5.symm
              refine r_cond_t rfl ?_
              refine r_region ?_
              refine OL.q (Q1.move rfl) rfl rfl ?_
              refine OL.q (Q1.subI ((((sk : Nat) : Int) - 1)) rfl rfl (by omega)) rfl rfl ?_
              rw [show (((sk : Nat) : Int) - 1) = (((sk - 1 : Nat)) : Int) from by omega]
              refine OL.q (Q1.assign rfl) rfl rfl ?_
              refine OL.nil ?_
              refine r_inBlock ?_
              refine r_inBlock ?_
              exact (ih1 _ _ _ ⟨(v_b : Value), (b : List UInt8), (sk - 1 : Nat), ((p + (dec (((inner s)).drop p)).2) : Nat), rfl, rfl, hS6, (by first | exact hU.skip (by omega) hlt | exact hU.esc (by omega) (by omega) (by assumption) (by assumption) | exact hU.go hlt (by omega) (by omega) | (exfalso; omega))⟩ (by omega)).sub ⟨rfl, rfl, rfl, rfl, rfl, trivial⟩
            | false =>
              replace hb5 := of_decide_eq_false hb5.symm
              refine r_cond_f rfl ?_
              refine r_seq ?_
              refine r_region ?_
              obtain rfl : sk = 0 := by omega
              refine OL.q (Q1.move rfl) rfl rfl ?_
              refine OL.qb (Q1.eq rfl rfl) rfl rfl ?_
              intro b6 hb6
              refine OL.q (Q1.assign rfl) rfl rfl ?_
              refine OL.nil ?_
              cases b6 with
              | true =>
                replace hb6 := eq_of_beq hb6.symm
                refine r_cond_t rfl ?_
                refine r_seq ?_
                refine r_seq ?_
                refine r_region ?_
                refine OL.q (Q1.move rfl) rfl rfl ?_
                refine OL.q (Q1.lenS Tryd.underlying9 rfl) rfl rfl ?_
                refine OL.q (Q1.move rfl) rfl rfl ?_
                refine OL.q (Q1.subI ((((((inner s)).length : Nat) : Int) - (((p : Nat) : Int)))) rfl rfl (by omega)) rfl rfl ?_
                refine OL.qb (Q1.lt rfl rfl) rfl rfl ?_
                intro b7 hb7
                refine OL.nil ?_
                cases b7 with
                | true =>
                  replace hb7 := of_decide_eq_true hb7.symm
                  refine r_cond_t rfl ?_
                  refine r_seq ?_
                  refine r_region ?_
                  refine OL.q (Q1.assign rfl) rfl rfl ?_
                  refine OL.q (Q1.assign rfl) rfl rfl ?_
                  refine OL.nil ?_
                  refine r_ret2 Tryd.func10 rfl rfl rfl ?_
                  exact Ret.mk ⟨_, _, rfl, (congrArg strV (by first | (rw [show unqM s = none from by first | exact uq_frame (by omega) | exact uq_none (UqAt.short hU (hU.lt (by assumption)) (by omega) (by omega)) | exact uq_none (UqAt.bad hU (by omega) (by omega) (by omega)) | exact uq_rune (hU.lt (by assumption)) (by omega) | exact uq_no (by omega) (hU.fin (by assumption)) (by assumption)]; rfl) | (rw [show unqM s = some b from uq_yes (by omega) (hU.fin (by assumption)) (by assumption)]; rfl) | (exfalso; omega))), ⟨_, (by first | (rw [show unqM s = none from by first | exact uq_frame (by omega) | exact uq_none (UqAt.short hU (hU.lt (by assumption)) (by omega) (by omega)) | exact uq_none (UqAt.bad hU (by omega) (by omega) (by omega)) | exact uq_rune (hU.lt (by assumption)) (by omega) | exact uq_no (by omega) (hU.fin (by assumption)) (by assumption)]; rfl) | (rw [show unqM s = some b from uq_yes (by omega) (hU.fin (by assumption)) (by assumption)]; rfl) | (exfalso; omega)), rfl⟩, hS6.mod⟩
                | false =>
                  replace hb7 := of_decide_eq_false hb7.symm
                  refine r_cond_f rfl ?_
                  refine r_skip ?_
                  refine r_seq ?_
                  refine r_draw1 (fun i => Nat.beq i 4 || Nat.beq i 9) 12 (fun w' => Mod (Mg 0) w3 w') mixed (by kernel_rfl) ?_
                  intro w4 hm3
                  have hS7 := hS6.ext hm3
                  have hCw4 : Mod (Mg 0) w3 w4 := Mod.ofExt hm3
                  refine ⟨hCw4, ?_⟩
                  rw [show List.range' 0 (Array.size _) = [0, 1, 2, 3, 4, 5, 6, 7, 8, 9, 10, 11] from rfl]
                  refine OD.q rfl rfl (Q1.move rfl) rfl rfl ?_
                  refine OD.q rfl rfl (Q1.move rfl) rfl rfl ?_
                  refine OD.q rfl rfl (Q1.addI (((p + 1 : Nat) : Int)) rfl rfl (by omega)) rfl rfl ?_
                  refine OD.q rfl rfl (Q1.indexBt (p + 1) Tryd.underlying9 rfl rfl (by omega) (by first | assumption | omega | (simp; done) | (simp; omega))) rfl rfl ?_
                  refine OD.act rfl rfl rfl rfl (AW.callF cl26 rfl (stixb_c (w0 := w4)  (([48, 49, 50, 51, 52, 53, 54, 55, 56, 57, 97, 98, 99, 100, 101, 102] : Str)) ((btAt ((inner s)) (p + 1))) ) ?_)
                  rintro _ w5 ⟨rfl, hm4⟩
                  have hS8 := hS7.ext hm4
                  have hCw5 := hCw4.ext hm4
                  refine ⟨.inr hCw5, ?_⟩
                  rw [ix_hex]
                  have hxr1 := hexI_rng ((btAt ((inner s)) (p + 1)))
                  refine OD.q rfl rfl (Q1.move rfl) rfl rfl ?_
                  refine OD.q rfl rfl (Q1.move rfl) rfl rfl ?_
                  refine OD.q rfl rfl (Q1.addI (((p + 2 : Nat) : Int)) rfl rfl (by omega)) rfl rfl ?_
                  refine OD.q rfl rfl (Q1.indexBt (p + 2) Tryd.underlying9 rfl rfl (by omega) (by first | assumption | omega | (simp; done) | (simp; omega))) rfl rfl ?_
                  refine OD.act rfl rfl rfl rfl (AW.callF cl26 rfl (stixb_c (w0 := w5)  (([48, 49, 50, 51, 52, 53, 54, 55, 56, 57, 97, 98, 99, 100, 101, 102] : Str)) ((btAt ((inner s)) (p + 2))) ) ?_)
                  rintro _ w6 ⟨rfl, hm5⟩
                  have hS9 := hS8.ext hm5
                  have hCw6 := hCw5.ext hm5
                  refine ⟨.inr hCw6, ?_⟩
                  rw [ix_hex]
                  have hxr2 := hexI_rng ((btAt ((inner s)) (p + 2)))
                  refine OD.q rfl rfl (Q1.assign rfl) rfl rfl ?_
                  refine OD.q rfl rfl (Q1.assign rfl) rfl rfl ?_
                  refine OD.nil ?_
                  refine r_seq ?_
                  refine r_seq ?_
                  refine r_region ?_
                  refine OL.q (Q1.move rfl) rfl rfl ?_
                  refine OL.qb (Q1.lt rfl rfl) rfl rfl ?_
                  intro b8 hb8
                  refine OL.q (Q1.move rfl) rfl rfl ?_
                  cases b8 with
                  | true =>
                    replace hb8 := of_decide_eq_true hb8.symm
                    refine OL.sk rfl rfl ?_
                    refine OL.sk rfl rfl ?_
                    refine OL.q (Q1.pick_t rfl rfl) rfl rfl ?_
                    refine OL.nil ?_
                    refine r_cond_t rfl ?_
                    refine r_seq ?_
                    refine r_region ?_
                    refine OL.q (Q1.assign rfl) rfl rfl ?_
                    refine OL.q (Q1.assign rfl) rfl rfl ?_
                    refine OL.nil ?_
                    refine r_ret2 Tryd.func10 rfl rfl rfl ?_
                    exact Ret.mk ⟨_, _, rfl, (congrArg strV (by first | (rw [show unqM s = none from by first | exact uq_frame (by omega) | exact uq_none (UqAt.short hU (hU.lt (by assumption)) (by omega) (by omega)) | exact uq_none (UqAt.bad hU (by omega) (by omega) (by omega)) | exact uq_rune (hU.lt (by assumption)) (by omega) | exact uq_no (by omega) (hU.fin (by assumption)) (by assumption)]; rfl) | (rw [show unqM s = some b from uq_yes (by omega) (hU.fin (by assumption)) (by assumption)]; rfl) | (exfalso; omega))), ⟨_, (by first | (rw [show unqM s = none from by first | exact uq_frame (by omega) | exact uq_none (UqAt.short hU (hU.lt (by assumption)) (by omega) (by omega)) | exact uq_none (UqAt.bad hU (by omega) (by omega) (by omega)) | exact uq_rune (hU.lt (by assumption)) (by omega) | exact uq_no (by omega) (hU.fin (by assumption)) (by assumption)]; rfl) | (rw [show unqM s = some b from uq_yes (by omega) (hU.fin (by assumption)) (by assumption)]; rfl) | (exfalso; omega)), rfl⟩, hS9.mod⟩
                  | false =>
                    replace hb8 := of_decide_eq_false hb8.symm
                    refine OL.q (Q1.move rfl) rfl rfl ?_
                    refine OL.qb (Q1.lt rfl rfl) rfl rfl ?_
                    intro b9 hb9
                    refine OL.q (Q1.pick_f rfl rfl) rfl rfl ?_
                    refine OL.nil ?_
                    cases b9 with
                    | true =>
                      replace hb9 := of_decide_eq_true hb9.symm
                      refine r_cond_t rfl ?_
                      refine r_seq ?_
                      refine r_region ?_
                      refine OL.q (Q1.assign rfl) rfl rfl ?_
                      refine OL.q (Q1.assign rfl) rfl rfl ?_
                      refine OL.nil ?_
                      refine r_ret2 Tryd.func10 rfl rfl rfl ?_
                      exact Ret.mk ⟨_, _, rfl, (congrArg strV (by first | (rw [show unqM s = none from by first | exact uq_frame (by omega) | exact uq_none (UqAt.short hU (hU.lt (by assumption)) (by omega) (by omega)) | exact uq_none (UqAt.bad hU (by omega) (by omega) (by omega)) | exact uq_rune (hU.lt (by assumption)) (by omega) | exact uq_no (by omega) (hU.fin (by assumption)) (by assumption)]; rfl) | (rw [show unqM s = some b from uq_yes (by omega) (hU.fin (by assumption)) (by assumption)]; rfl) | (exfalso; omega))), ⟨_, (by first | (rw [show unqM s = none from by first | exact uq_frame (by omega) | exact uq_none (UqAt.short hU (hU.lt (by assumption)) (by omega) (by omega)) | exact uq_none (UqAt.bad hU (by omega) (by omega) (by omega)) | exact uq_rune (hU.lt (by assumption)) (by omega) | exact uq_no (by omega) (hU.fin (by assumption)) (by assumption)]; rfl) | (rw [show unqM s = some b from uq_yes (by omega) (hU.fin (by assumption)) (by assumption)]; rfl) | (exfalso; omega)), rfl⟩, hS9.mod⟩
                    | false =>
                      replace hb9 := of_decide_eq_false hb9.symm
                      refine r_cond_f rfl ?_
                      refine r_skip ?_
                      refine r_seq ?_
                      refine r_region ?_
                      refine OL.q (Q1.move rfl) rfl rfl ?_
                      refine OL.q (Q1.move rfl) rfl rfl ?_
                      refine OL.q (Q1.mulI ((16 * ((hexI ((btAt ((inner s)) (p + 1))))))) rfl rfl (by omega)) rfl rfl ?_
                      refine OL.q (Q1.move rfl) rfl rfl ?_
                      refine OL.q (Q1.addI (((16 * ((hexI ((btAt ((inner s)) (p + 1)))))) + ((hexI ((btAt ((inner s)) (p + 2))))))) rfl rfl (by omega)) rfl rfl ?_
                      refine OL.q (Q1.convB (by kernel_rfl) Tryd.underlying5 rfl) rfl rfl ?_
                      refine OL.act rfl rfl (AW.buildSlice [(.int .u8 (((byN (((16 * ((hexI ((btAt ((inner s)) (p + 1)))))) + ((hexI ((btAt ((inner s)) (p + 2)))))))).toNat : Int)) : Value)] Tryd.underlying52 ti5 rfl rfl rfl (by decide) ?_)
                      intro w7 b10 hm6 hb10 hz3 hk3
                      have hS10 := hS9.ext hm6
                      have hl1 := Sl.of_blk (enc := encB) hk3 ([(byN (((16 * ((hexI ((btAt ((inner s)) (p + 1)))))) + ((hexI ((btAt ((inner s)) (p + 2))))))))] : List UInt8) 1 rfl rfl (by unfold maxLen; omega)
                      have hS11 : St (fun _ => False) (fun _ => False) w0 w7 [accR encB 5 1 v_b b, itR b4 ((inner s)) ((p + (dec (((inner s)).drop p)).2)), slR encB [((.slice (some ⟨b10, 0, none⟩) 1 1), [(byN (((16 * ((hexI ((btAt ((inner s)) (p + 1)))))) + ((hexI ((btAt ((inner s)) (p + 2))))))))])]] := hS9.newSlB hm6 hb10 hz3 hl1
                      obtain ⟨g2, f2, hl2, k1⟩ := hS11.accK (i := 0) rfl
                      have f3 := hS11.sl (i := 2) (k := 0) rfl rfl
                      refine OL.act rfl rfl (AW.append f2 Tryd.underlying52 ti5 rfl encB_len encB_one rfl rfl (f3) (by first | omega | (simp only [List.length_append, List.length_cons, List.length_nil]; omega) | (simp; omega)) (by unfold maxLen; first | omega | (simp only [List.length_append, List.length_cons, List.length_nil]; omega) | (simp; omega)) ?_)
                      intro v1 g1 w8 ha1 hm7 hg1 hz4
                      have hS12 : St (fun _ => False) (fun _ => False) w0 w8 [accR encB 5 1 v1 ((b ++ [(byN (((16 * ((hexI ((btAt ((inner s)) (p + 1)))))) + ((hexI ((btAt ((inner s)) (p + 2))))))))])), itR b4 ((inner s)) ((p + (dec (((inner s)).drop p)).2)), slR encB [((.slice (some ⟨b10, 0, none⟩) 1 1), [(byN (((16 * ((hexI ((btAt ((inner s)) (p + 1)))))) + ((hexI ((btAt ((inner s)) (p + 2))))))))])]] := k1 _ _ _ _ hm7 ha1 hg1
                      clear hg1
                      refine OL.q (Q1.assign rfl) rfl rfl ?_
                      refine OL.nil ?_
                      refine r_region ?_
                      refine OL.q (Q1.assign rfl) rfl rfl ?_
                      refine OL.nil ?_
                      refine r_inBlock ?_
                      refine r_inBlock ?_
                      have hS13 : St (fun _ => False) (fun _ => False) w0 w8 [accR encB 5 1 v1 ((b ++ [(byN (((16 * ((hexI ((btAt ((inner s)) (p + 1)))))) + ((hexI ((btAt ((inner s)) (p + 2))))))))])), itR b4 ((inner s)) ((p + (dec (((inner s)).drop p)).2))] := hS12.sel [0, 1] (by rfl) (by decide)
                      exact (ih1 _ _ _ ⟨(v1 : Value), ((b ++ [(byN (((16 * ((hexI ((btAt ((inner s)) (p + 1)))))) + ((hexI ((btAt ((inner s)) (p + 2))))))))]) : List UInt8), (2 : Nat), ((p + (dec (((inner s)).drop p)).2) : Nat), rfl, rfl, hS13, (by first | exact hU.skip (by omega) hlt | exact hU.esc (by omega) (by omega) (by assumption) (by assumption) | exact hU.go hlt (by omega) (by omega) | (exfalso; omega))⟩ (by omega)).sub ⟨rfl, rfl, rfl, rfl, rfl, trivial⟩
              | false =>
                replace hb6 := ne_of_beq_false hb6.symm
                refine r_cond_f rfl ?_
                refine r_seq ?_
                refine r_region ?_
                refine OL.q (Q1.move rfl) rfl rfl ?_
                refine OL.qb (Q1.gt rfl rfl) rfl rfl ?_
                intro b7 hb7
                refine OL.q (Q1.assign rfl) rfl rfl ?_
                refine OL.nil ?_
                cases b7 with
                | true =>
                  replace hb7 := of_decide_eq_true hb7.symm
                  refine r_cond_t rfl ?_
                  refine r_seq ?_
                  refine r_region ?_
                  refine OL.q (Q1.assign rfl) rfl rfl ?_
                  refine OL.q (Q1.assign rfl) rfl rfl ?_
                  refine OL.nil ?_
                  refine r_ret2 Tryd.func10 rfl rfl rfl ?_
                  exact Ret.mk ⟨_, _, rfl, (congrArg strV (by first | (rw [show unqM s = none from by first | exact uq_frame (by omega) | exact uq_none (UqAt.short hU (hU.lt (by assumption)) (by omega) (by omega)) | exact uq_none (UqAt.bad hU (by omega) (by omega) (by omega)) | exact uq_rune (hU.lt (by assumption)) (by omega) | exact uq_no (by omega) (hU.fin (by assumption)) (by assumption)]; rfl) | (rw [show unqM s = some b from uq_yes (by omega) (hU.fin (by assumption)) (by assumption)]; rfl) | (exfalso; omega))), ⟨_, (by first | (rw [show unqM s = none from by first | exact uq_frame (by omega) | exact uq_none (UqAt.short hU (hU.lt (by assumption)) (by omega) (by omega)) | exact uq_none (UqAt.bad hU (by omega) (by omega) (by omega)) | exact uq_rune (hU.lt (by assumption)) (by omega) | exact uq_no (by omega) (hU.fin (by assumption)) (by assumption)]; rfl) | (rw [show unqM s = some b from uq_yes (by omega) (hU.fin (by assumption)) (by assumption)]; rfl) | (exfalso; omega)), rfl⟩, hS6.mod⟩
                | false =>
                  replace hb7 := of_decide_eq_false hb7.symm
                  refine r_cond_f rfl ?_
                  refine r_region ?_
                  refine OL.q (Q1.move rfl) rfl rfl ?_
                  refine OL.q (Q1.move rfl) rfl rfl ?_
                  refine OL.q (Q1.convB (by kernel_rfl) Tryd.underlying5 rfl) rfl rfl ?_
                  refine OL.act rfl rfl (AW.buildSlice [(.int .u8 (((byN (((dec (((inner s)).drop p)).1 : Int))).toNat : Int)) : Value)] Tryd.underlying52 ti5 rfl rfl rfl (by decide) ?_)
                  intro w4 b8 hm3 hb8 hz3 hk3
                  have hS7 := hS6.ext hm3
                  have hl1 := Sl.of_blk (enc := encB) hk3 ([(byN (((dec (((inner s)).drop p)).1 : Int)))] : List UInt8) 1 rfl rfl (by unfold maxLen; omega)
                  have hS8 : St (fun _ => False) (fun _ => False) w0 w4 [accR encB 5 1 v_b b, itR b4 ((inner s)) ((p + (dec (((inner s)).drop p)).2)), slR encB [((.slice (some ⟨b8, 0, none⟩) 1 1), [(byN (((dec (((inner s)).drop p)).1 : Int)))])]] := hS6.newSlB hm3 hb8 hz3 hl1
                  obtain ⟨g2, f2, hl2, k1⟩ := hS8.accK (i := 0) rfl
                  have f3 := hS8.sl (i := 2) (k := 0) rfl rfl
                  refine OL.act rfl rfl (AW.append f2 Tryd.underlying52 ti5 rfl encB_len encB_one rfl rfl (f3) (by first | omega | (simp only [List.length_append, List.length_cons, List.length_nil]; omega) | (simp; omega)) (by unfold maxLen; first | omega | (simp only [List.length_append, List.length_cons, List.length_nil]; omega) | (simp; omega)) ?_)
                  intro v1 g1 w5 ha1 hm4 hg1 hz4
                  have hS9 : St (fun _ => False) (fun _ => False) w0 w5 [accR encB 5 1 v1 ((b ++ [(byN (((dec (((inner s)).drop p)).1 : Int)))])), itR b4 ((inner s)) ((p + (dec (((inner s)).drop p)).2)), slR encB [((.slice (some ⟨b8, 0, none⟩) 1 1), [(byN (((dec (((inner s)).drop p)).1 : Int)))])]] := k1 _ _ _ _ hm4 ha1 hg1
                  clear hg1
                  refine OL.q (Q1.assign rfl) rfl rfl ?_
                  refine OL.nil ?_
                  refine r_inBlock ?_
                  refine r_inBlock ?_
                  have hS10 : St (fun _ => False) (fun _ => False) w0 w5 [accR encB 5 1 v1 ((b ++ [(byN (((dec (((inner s)).drop p)).1 : Int)))])), itR b4 ((inner s)) ((p + (dec (((inner s)).drop p)).2))] := hS9.sel [0, 1] (by rfl) (by decide)
                  exact (ih1 _ _ _ ⟨(v1 : Value), ((b ++ [(byN (((dec (((inner s)).drop p)).1 : Int)))]) : List UInt8), (0 : Nat), ((p + (dec (((inner s)).drop p)).2) : Nat), rfl, rfl, hS10, (by first | exact hU.skip (by omega) hlt | exact hU.esc (by omega) (by omega) (by assumption) (by assumption) | exact hU.go hlt (by omega) (by omega) | (exfalso; omega))⟩ (by omega)).sub ⟨rfl, rfl, rfl, rfl, rfl, trivial⟩
set_option maxRecDepth 20000 in
set_option maxHeartbeats 4000000 in
theorem r29quote_c {w0 : World}  (s : Str) (hsl : s.length ≤ 300000) :
    Calls Tryd.prog 12 #[strV s] w0 (Ret fun rv w1 => rv = strV (quoteM s) ∧ Ext w0 w1) := by
  have hS0 := St.start0 w0
  refine calls_enter Tryd.func12 rfl Tryd.ntmps12 rfl ?_
  refine r_seq ?_
  refine r_region ?_
  refine OL.q (Q1.assign rfl) rfl rfl ?_
  refine OL.nil ?_
  refine r_seq ?_
  refine r_region ?_
  refine OL.act rfl rfl (AW.buildSlice [(.int .u8 34 : Value)] Tryd.underlying52 ti5 rfl rfl rfl (by decide) ?_)
  intro w1 b1 hm1 hb1 hz1 hk1
  have hS1 := hS0.ext hm1
  have hl1 := Acc.of_blk (enc := encB) hk1 ([(34 : UInt8)] : List UInt8) 1 rfl encB_len rfl (by unfold maxLen; omega)
  have hS2 : St (fun _ => False) (fun _ => False) w0 w1 [accR encB 5 1 ((.slice (some ⟨b1, 0, none⟩) 1 1)) ([(34 : UInt8)])] := hS0.newAcc hm1 hl1 (.inr (by omega))
  refine OL.q (Q1.assign rfl) rfl rfl ?_
  refine OL.nil ?_
  refine r_seq ?_
  refine r_seq ?_
  refine r_region ?_
  refine OL.q (Q1.assign rfl) rfl rfl ?_
  refine OL.nil ?_
  refine r_block ?_
  refine r_loop (I := fun m E W => ∃ (v_tx : Value) (tx : List UInt8) (i : Nat), E = [(0, strV s), (3, v_tx), (4, .int .i64 (((i : Nat) : Int)))] ∧ m = s.length - i ∧ St (fun _ => False) (fun _ => False) w0 W [accR encB 5 1 v_tx tx] ∧ (tx = 34 :: (s.take i).flatMap q1)) ?_ ?_
  · refine ⟨_, _, ⟨((.slice (some ⟨b1, 0, none⟩) 1 1) : Value), ([(34 : UInt8)] : List UInt8), (0 : Nat), rfl, rfl, hS2, (by rfl)⟩, ⟨rfl, rfl, rfl, trivial⟩⟩
  · rintro _ _ w2 ⟨v_tx, tx, i, rfl, rfl, hS3, htx⟩ ih1
    have htl := q_len htx
    refine r_seq ?_
    refine r_seq ?_
    refine r_region ?_
    refine OL.q (Q1.move rfl) rfl rfl ?_
    refine OL.q (Q1.move rfl) rfl rfl ?_
    refine OL.q (Q1.lenS Tryd.underlying9 rfl) rfl rfl ?_
    refine OL.qb (Q1.lt rfl rfl) rfl rfl ?_
    intro b2 hb2
    refine OL.nil ?_
    cases b2 with
    | true =>
      replace hb2 := of_decide_eq_true hb2.symm
      refine r_cond_t rfl ?_
      refine r_skip ?_
      refine r_seq ?_
      refine r_block ?_
      refine r_seq ?_
      refine r_region ?_
      refine OL.q (Q1.move rfl) rfl rfl ?_
      refine OL.q (Q1.move rfl) rfl rfl ?_
      refine OL.q (Q1.indexBt (i) Tryd.underlying9 rfl rfl (by omega) (by first | assumption | omega | (simp; done) | (simp; omega))) rfl rfl ?_
      refine OL.q (Q1.assign rfl) rfl rfl ?_
      have hby := (btAt s i).toNat_lt
      refine OL.nil ?_
      refine r_seq ?_
      refine r_region ?_
      refine OL.q (Q1.move rfl) rfl rfl ?_
      refine OL.qb (Q1.ge rfl rfl) rfl rfl ?_
      intro b3 hb3
      refine OL.q (Q1.move rfl) rfl rfl ?_
      cases b3 with
      | true =>
        replace hb3 := of_decide_eq_true hb3.symm
        refine OL.q (Q1.move rfl) rfl rfl ?_
        refine OL.qb (Q1.le rfl rfl) rfl rfl ?_
        intro b4 hb4
        refine OL.q (Q1.pick_t rfl rfl) rfl rfl ?_
        refine OL.q (Q1.move rfl) rfl rfl ?_
        cases b4 with
        | true =>
          replace hb4 := of_decide_eq_true hb4.symm
          refine OL.q (Q1.move rfl) rfl rfl ?_
          refine OL.qb (Q1.ne rfl rfl) rfl rfl ?_
          intro b5 hb5
          refine OL.q (Q1.pick_t rfl rfl) rfl rfl ?_
          refine OL.q (Q1.move rfl) rfl rfl ?_
          cases b5 with
          | true =>
            replace hb5 := bne_iff_ne.1 hb5.symm
            refine OL.q (Q1.move rfl) rfl rfl ?_
            refine OL.qb (Q1.ne rfl rfl) rfl rfl ?_
            intro b6 hb6
            refine OL.q (Q1.pick_t rfl rfl) rfl rfl ?_
            refine OL.nil ?_
            cases b6 with
            | true =>
              replace hb6 := bne_iff_ne.1 hb6.symm
              refine r_cond_t rfl ?_
              refine r_region ?_
              refine OL.q (Q1.move rfl) rfl rfl ?_
              refine OL.q (Q1.move rfl) rfl rfl ?_
              refine OL.act rfl rfl (AW.buildSlice [(.int .u8 (((btAt s i).toNat : Int)) : Value)] Tryd.underlying52 ti5 rfl rfl rfl (by decide) ?_)
              intro w3 b7 hm2 hb7 hz2 hk2
              have hS4 := hS3.ext hm2
              have hl2 := Sl.of_blk (enc := encB) hk2 ([(btAt s i)] : List UInt8) 1 rfl rfl (by unfold maxLen; omega)
              have hS5 : St (fun _ => False) (fun _ => False) w0 w3 [accR encB 5 1 v_tx tx, slR encB [((.slice (some ⟨b7, 0, none⟩) 1 1), [(btAt s i)])]] := hS3.newSlB hm2 hb7 hz2 hl2
              obtain ⟨g2, f1, hl3, k1⟩ := hS5.accK (i := 0) rfl
              have f2 := hS5.sl (i := 1) (k := 0) rfl rfl
              refine OL.act rfl rfl (AW.append f1 Tryd.underlying52 ti5 rfl encB_len encB_one rfl rfl (f2) (by first | omega | (simp only [List.length_append, List.length_cons, List.length_nil]; omega) | (simp; omega)) (by unfold maxLen; first | omega | (simp only [List.length_append, List.length_cons, List.length_nil]; omega) | (simp; omega)) ?_)
              intro v1 g1 w4 ha1 hm3 hg1 hz3
              have hS6 : St (fun _ => False) (fun _ => False) w0 w4 [accR encB 5 1 v1 ((tx ++ [(btAt s i)])), slR encB [((.slice (some ⟨b7, 0, none⟩) 1 1), [(btAt s i)])]] := k1 _ _ _ _ hm3 ha1 hg1
              clear hg1
              refine OL.q (Q1.assign rfl) rfl rfl ?_
              refine OL.nil ?_
              refine r_inBlock ?_
              refine r_region ?_
              refine OL.q (Q1.move rfl) rfl rfl ?_
              refine OL.q (Q1.addI (((i + 1 : Nat) : Int)) rfl rfl (by omega)) rfl rfl ?_
              refine OL.q (Q1.assign rfl) rfl rfl ?_
              refine OL.nil ?_
              have hS7 : St (fun _ => False) (fun _ => False) w0 w4 [accR encB 5 1 v1 ((tx ++ [(btAt s i)]))] := hS6.sel [0] (by rfl) (by decide)
              exact (ih1 _ _ _ ⟨(v1 : Value), ((tx ++ [(btAt s i)]) : List UInt8), (i + 1 : Nat), rfl, rfl, hS7, (by first | exact q_yes htx (by omega) (pl_c (by omega)) | exact q_no htx (by omega) (pl_a (by omega)).symm | (exfalso; omega))⟩ (by omega)).sub ⟨rfl, rfl, rfl, trivial⟩
            | false =>
              replace hb6 := bne_eq_false_iff_eq.1 hb6.symm
              refine r_cond_f rfl ?_
              obtain ⟨g1, f1, hl2, k1⟩ := hS3.accK (i := 0) rfl
              refine r_draw1 (fun i => Nat.beq i 7 || Nat.beq i 8) 10 (fun w' => Mod (Mg g1) w2 w') mixed (by kernel_rfl) ?_
              intro w3 hm2
              have hS4 := hS3.ext hm2
              have hCw3 : Mod (Mg g1) w2 w3 := Mod.ofExt hm2
              refine ⟨hCw3, ?_⟩
              rw [show List.range' 0 (Array.size _) = [0, 1, 2, 3, 4, 5, 6, 7, 8, 9] from rfl]
              refine OD.q rfl rfl (Q1.move rfl) rfl rfl ?_
              refine OD.q rfl rfl (Q1.move rfl) rfl rfl ?_
              refine OD.q rfl rfl (Q1.quoU8 (a := (btAt s i).toNat) 16 rfl rfl (by omega) (by first | omega | exact UInt8.toNat_lt _)) rfl rfl ?_
              refine OD.q rfl rfl (Q1.indexBt (((btAt s i).toNat) / 16) Tryd.underlying9 rfl rfl (by omega) (by first | assumption | omega | (simp; done) | (simp; omega))) rfl rfl ?_
              refine OD.q rfl rfl (Q1.move rfl) rfl rfl ?_
              have := Int.emod_nonneg (((btAt s i).toNat : Int) : Int) (by omega : (16 : Int) ≠ 0)
              have := Int.emod_lt_of_pos (((btAt s i).toNat : Int) : Int) (by omega : (0 : Int) < 16)
              refine OD.q rfl rfl (Q1.remI ((((btAt s i).toNat : Int) % 16)) rfl rfl ⟨by omega, by omega, rfl⟩) rfl rfl ?_
              refine OD.q rfl rfl (Q1.indexBt ((((btAt s i).toNat) % 16)) Tryd.underlying9 rfl rfl (by omega) (by first | assumption | omega | (simp; done) | (simp; omega))) rfl rfl ?_
              refine OD.act rfl rfl rfl rfl (AW.buildSlice [(.int .u8 92 : Value), (.int .u8 (((btAt (([48, 49, 50, 51, 52, 53, 54, 55, 56, 57, 97, 98, 99, 100, 101, 102] : Str)) (((btAt s i).toNat) / 16)).toNat : Int)) : Value), (.int .u8 (((btAt (([48, 49, 50, 51, 52, 53, 54, 55, 56, 57, 97, 98, 99, 100, 101, 102] : Str)) ((((btAt s i).toNat) % 16))).toNat : Int)) : Value)] Tryd.underlying52 ti5 rfl rfl rfl (by decide) ?_)
              intro w4 b7 hm3 hb7 hz2 hk2
              have hS5 := hS4.ext hm3
              have hl3 := Sl.of_blk (enc := encB) hk2 ([(92 : UInt8), (btAt (([48, 49, 50, 51, 52, 53, 54, 55, 56, 57, 97, 98, 99, 100, 101, 102] : Str)) (((btAt s i).toNat) / 16)), (btAt (([48, 49, 50, 51, 52, 53, 54, 55, 56, 57, 97, 98, 99, 100, 101, 102] : Str)) ((((btAt s i).toNat) % 16)))] : List UInt8) 3 rfl rfl (by unfold maxLen; omega)
              have hS6 : St (fun _ => False) (fun _ => False) w0 w4 [accR encB 5 1 v_tx tx, slR encB [((.slice (some ⟨b7, 0, none⟩) 3 3), [(92 : UInt8), (btAt (([48, 49, 50, 51, 52, 53, 54, 55, 56, 57, 97, 98, 99, 100, 101, 102] : Str)) (((btAt s i).toNat) / 16)), (btAt (([48, 49, 50, 51, 52, 53, 54, 55, 56, 57, 97, 98, 99, 100, 101, 102] : Str)) ((((btAt s i).toNat) % 16)))])]] := hS4.newSlB hm3 hb7 hz2 hl3
              have hCw4 := hCw3.ext hm3
              refine ⟨.inr hCw4, ?_⟩
              obtain ⟨g3, f2, hl4, k2⟩ := hS6.accK (i := 0) rfl
              have he1 := Acc.uniq f1 f2
              subst he1
              have f3 := hS6.sl (i := 1) (k := 0) rfl rfl
              refine OD.act rfl rfl rfl rfl (AW.append f2 Tryd.underlying52 ti5 rfl encB_len encB_one rfl rfl (f3) (by first | omega | (simp only [List.length_append, List.length_cons, List.length_nil]; omega) | (simp; omega)) (by unfold maxLen; first | omega | (simp only [List.length_append, List.length_cons, List.length_nil]; omega) | (simp; omega)) ?_)
              intro v1 g2 w5 ha1 hm4 hg1 hz3
              have hS7 : St (fun _ => False) (fun _ => False) w0 w5 [accR encB 5 1 v1 ((tx ++ [(92 : UInt8), (btAt (([48, 49, 50, 51, 52, 53, 54, 55, 56, 57, 97, 98, 99, 100, 101, 102] : Str)) (((btAt s i).toNat) / 16)), (btAt (([48, 49, 50, 51, 52, 53, 54, 55, 56, 57, 97, 98, 99, 100, 101, 102] : Str)) ((((btAt s i).toNat) % 16)))])), slR encB [((.slice (some ⟨b7, 0, none⟩) 3 3), [(92 : UInt8), (btAt (([48, 49, 50, 51, 52, 53, 54, 55, 56, 57, 97, 98, 99, 100, 101, 102] : Str)) (((btAt s i).toNat) / 16)), (btAt (([48, 49, 50, 51, 52, 53, 54, 55, 56, 57, 97, 98, 99, 100, 101, 102] : Str)) ((((btAt s i).toNat) % 16)))])]] := k2 _ _ _ _ hm4 ha1 hg1
              have hCw5 := hCw4.trans hm4
              refine ⟨.inr hCw5, ?_⟩
              clear hg1
              refine OD.q rfl rfl (Q1.assign rfl) rfl rfl ?_
              refine OD.nil ?_
              refine r_inBlock ?_
              refine r_region ?_
              refine OL.q (Q1.move rfl) rfl rfl ?_
              refine OL.q (Q1.addI (((i + 1 : Nat) : Int)) rfl rfl (by omega)) rfl rfl ?_
              refine OL.q (Q1.assign rfl) rfl rfl ?_
              refine OL.nil ?_
              have hS8 : St (fun _ => False) (fun _ => False) w0 w5 [accR encB 5 1 v1 ((tx ++ [(92 : UInt8), (btAt (([48, 49, 50, 51, 52, 53, 54, 55, 56, 57, 97, 98, 99, 100, 101, 102] : Str)) (((btAt s i).toNat) / 16)), (btAt (([48, 49, 50, 51, 52, 53, 54, 55, 56, 57, 97, 98, 99, 100, 101, 102] : Str)) ((((btAt s i).toNat) % 16)))]))] := hS7.sel [0] (by rfl) (by decide)
              exact (ih1 _ _ _ ⟨(v1 : Value), ((tx ++ [(92 : UInt8), (btAt (([48, 49, 50, 51, 52, 53, 54, 55, 56, 57, 97, 98, 99, 100, 101, 102] : Str)) (((btAt s i).toNat) / 16)), (btAt (([48, 49, 50, 51, 52, 53, 54, 55, 56, 57, 97, 98, 99, 100, 101, 102] : Str)) ((((btAt s i).toNat) % 16)))]) : List UInt8), (i + 1 : Nat), rfl, rfl, hS8, (by first | exact q_yes htx (by omega) (pl_c (by omega)) | exact q_no htx (by omega) (pl_a (by omega)).symm | (exfalso; omega))⟩ (by omega)).sub ⟨rfl, rfl, rfl, trivial⟩
          | false =>
            replace hb5 := bne_eq_false_iff_eq.1 hb5.symm
            refine OL.sk rfl rfl ?_
            refine OL.sk rfl rfl ?_
            refine OL.q (Q1.pick_f rfl rfl) rfl rfl ?_
            refine OL.nil ?_
            refine r_cond_f rfl ?_
            obtain ⟨g1, f1, hl2, k1⟩ := hS3.accK (i := 0) rfl
            refine r_draw1 (fun i => Nat.beq i 7 || Nat.beq i 8) 10 (fun w' => Mod (Mg g1) w2 w') mixed (by kernel_rfl) ?_
            intro w3 hm2
            have hS4 := hS3.ext hm2
            have hCw3 : Mod (Mg g1) w2 w3 := Mod.ofExt hm2
            refine ⟨hCw3, ?_⟩
            rw [show List.range' 0 (Array.size _) = [0, 1, 2, 3, 4, 5, 6, 7, 8, 9] from rfl]
            refine OD.q rfl rfl (Q1.move rfl) rfl rfl ?_
            refine OD.q rfl rfl (Q1.move rfl) rfl rfl ?_
            refine OD.q rfl rfl (Q1.quoU8 (a := (btAt s i).toNat) 16 rfl rfl (by omega) (by first | omega | exact UInt8.toNat_lt _)) rfl rfl ?_
            refine OD.q rfl rfl (Q1.indexBt (((btAt s i).toNat) / 16) Tryd.underlying9 rfl rfl (by omega) (by first | assumption | omega | (simp; done) | (simp; omega))) rfl rfl ?_
            refine OD.q rfl rfl (Q1.move rfl) rfl rfl ?_
            have := Int.emod_nonneg (((btAt s i).toNat : Int) : Int) (by omega : (16 : Int) ≠ 0)
            have := Int.emod_lt_of_pos (((btAt s i).toNat : Int) : Int) (by omega : (0 : Int) < 16)
            refine OD.q rfl rfl (Q1.remI ((((btAt s i).toNat : Int) % 16)) rfl rfl ⟨by omega, by omega, rfl⟩) rfl rfl ?_
            refine OD.q rfl rfl (Q1.indexBt ((((btAt s i).toNat) % 16)) Tryd.underlying9 rfl rfl (by omega) (by first | assumption | omega | (simp; done) | (simp; omega))) rfl rfl ?_
            refine OD.act rfl rfl rfl rfl (AW.buildSlice [(.int .u8 92 : Value), (.int .u8 (((btAt (([48, 49, 50, 51, 52, 53, 54, 55, 56, 57, 97, 98, 99, 100, 101, 102] : Str)) (((btAt s i).toNat) / 16)).toNat : Int)) : Value), (.int .u8 (((btAt (([48, 49, 50, 51, 52, 53, 54, 55, 56, 57, 97, 98, 99, 100, 101, 102] : Str)) ((((btAt s i).toNat) % 16))).toNat : Int)) : Value)] Tryd.underlying52 ti5 rfl rfl rfl (by decide) ?_)
            intro w4 b6 hm3 hb6 hz2 hk2
            have hS5 := hS4.ext hm3
            have hl3 := Sl.of_blk (enc := encB) hk2 ([(92 : UInt8), (btAt (([48, 49, 50, 51, 52, 53, 54, 55, 56, 57, 97, 98, 99, 100, 101, 102] : Str)) (((btAt s i).toNat) / 16)), (btAt (([48, 49, 50, 51, 52, 53, 54, 55, 56, 57, 97, 98, 99, 100, 101, 102] : Str)) ((((btAt s i).toNat) % 16)))] : List UInt8) 3 rfl rfl (by unfold maxLen; omega)
            have hS6 : St (fun _ => False) (fun _ => False) w0 w4 [accR encB 5 1 v_tx tx, slR encB [((.slice (some ⟨b6, 0, none⟩) 3 3), [(92 : UInt8), (btAt (([48, 49, 50, 51, 52, 53, 54, 55, 56, 57, 97, 98, 99, 100, 101, 102] : Str)) (((btAt s i).toNat) / 16)), (btAt (([48, 49, 50, 51, 52, 53, 54, 55, 56, 57, 97, 98, 99, 100, 101, 102] : Str)) ((((btAt s i).toNat) % 16)))])]] := hS4.newSlB hm3 hb6 hz2 hl3
            have hCw4 := hCw3.ext hm3
            refine ⟨.inr hCw4, ?_⟩
            obtain ⟨g3, f2, hl4, k2⟩ := hS6.accK (i := 0) rfl
            have he1 := Acc.uniq f1 f2
            subst he1
            have f3 := hS6.sl (i := 1) (k := 0) rfl rfl
            refine OD.act rfl rfl rfl rfl (AW.append f2 Tryd.underlying52 ti5 rfl encB_len encB_one rfl rfl (f3) (by first | omega | (simp only [List.length_append, List.length_cons, List.length_nil]; omega) | (simp; omega)) (by unfold maxLen; first | omega | (simp only [List.length_append, List.length_cons, List.length_nil]; omega) | (simp; omega)) ?_)
            intro v1 g2 w5 ha1 hm4 hg1 hz3
            have hS7 : St (fun _ => False) (fun _ => False) w0 w5 [accR encB 5 1 v1 ((tx ++ [(92 : UInt8), (btAt (([48, 49, 50, 51, 52, 53, 54, 55, 56, 57, 97, 98, 99, 100, 101, 102] : Str)) (((btAt s i).toNat) / 16)), (btAt (([48, 49, 50, 51, 52, 53, 54, 55, 56, 57, 97, 98, 99, 100, 101, 102] : Str)) ((((btAt s i).toNat) % 16)))])), slR encB [((.slice (some ⟨b6, 0, none⟩) 3 3), [(92 : UInt8), (btAt (([48, 49, 50, 51, 52, 53, 54, 55, 56, 57, 97, 98, 99, 100, 101, 102] : Str)) (((btAt s i).toNat) / 16)), (btAt (([48, 49, 50, 51, 52, 53, 54, 55, 56, 57, 97, 98, 99, 100, 101, 102] : Str)) ((((btAt s i).toNat) % 16)))])]] := k2 _ _ _ _ hm4 ha1 hg1
            have hCw5 := hCw4.trans hm4
            refine ⟨.inr hCw5, ?_⟩
            clear hg1
            refine OD.q rfl rfl (Q1.assign rfl) rfl rfl ?_
            refine OD.nil ?_
            refine r_inBlock ?_
            refine r_region ?_
            refine OL.q (Q1.move rfl) rfl rfl ?_
            refine OL.q (Q1.addI (((i + 1 : Nat) : Int)) rfl rfl (by omega)) rfl rfl ?_
            refine OL.q (Q1.assign rfl) rfl rfl ?_
            refine OL.nil ?_
            have hS8 : St (fun _ => False) (fun _ => False) w0 w5 [accR encB 5 1 v1 ((tx ++ [(92 : UInt8), (btAt (([48, 49, 50, 51, 52, 53, 54, 55, 56, 57, 97, 98, 99, 100, 101, 102] : Str)) (((btAt s i).toNat) / 16)), (btAt (([48, 49, 50, 51, 52, 53, 54, 55, 56, 57, 97, 98, 99, 100, 101, 102] : Str)) ((((btAt s i).toNat) % 16)))]))] := hS7.sel [0] (by rfl) (by decide)
            exact (ih1 _ _ _ ⟨(v1 : Value), ((tx ++ [(92 : UInt8), (btAt (([48, 49, 50, 51, 52, 53, 54, 55, 56, 57, 97, 98, 99, 100, 101, 102] : Str)) (((btAt s i).toNat) / 16)), (btAt (([48, 49, 50, 51, 52, 53, 54, 55, 56, 57, 97, 98, 99, 100, 101, 102] : Str)) ((((btAt s i).toNat) % 16)))]) : List UInt8), (i + 1 : Nat), rfl, rfl, hS8, (by first | exact q_yes htx (by omega) (pl_c (by omega)) | exact q_no htx (by omega) (pl_a (by omega)).symm | (exfalso; omega))⟩ (by omega)).sub ⟨rfl, rfl, rfl, trivial⟩
        | false =>
          replace hb4 := of_decide_eq_false hb4.symm
          refine OL.sk rfl rfl ?_
          refine OL.sk rfl rfl ?_
          refine OL.q (Q1.pick_f rfl rfl) rfl rfl ?_
          refine OL.q (Q1.move rfl) rfl rfl ?_
          refine OL.sk rfl rfl ?_
          refine OL.sk rfl rfl ?_
          refine OL.q (Q1.pick_f rfl rfl) rfl rfl ?_
          refine OL.nil ?_
          refine r_cond_f rfl ?_
          obtain ⟨g1, f1, hl2, k1⟩ := hS3.accK (i := 0) rfl
          refine r_draw1 (fun i => Nat.beq i 7 || Nat.beq i 8) 10 (fun w' => Mod (Mg g1) w2 w') mixed (by kernel_rfl) ?_
          intro w3 hm2
          have hS4 := hS3.ext hm2
          have hCw3 : Mod (Mg g1) w2 w3 := Mod.ofExt hm2
          refine ⟨hCw3, ?_⟩
          rw [show List.range' 0 (Array.size _) = [0, 1, 2, 3, 4, 5, 6, 7, 8, 9] from rfl]
          refine OD.q rfl rfl (Q1.move rfl) rfl rfl ?_
          refine OD.q rfl rfl (Q1.move rfl) rfl rfl ?_
          refine OD.q rfl rfl (Q1.quoU8 (a := (btAt s i).toNat) 16 rfl rfl (by omega) (by first | omega | exact UInt8.toNat_lt _)) rfl rfl ?_
          refine OD.q rfl rfl (Q1.indexBt (((btAt s i).toNat) / 16) Tryd.underlying9 rfl rfl (by omega) (by first | assumption | omega | (simp; done) | (simp; omega))) rfl rfl ?_
          refine OD.q rfl rfl (Q1.move rfl) rfl rfl ?_
          have := Int.emod_nonneg (((btAt s i).toNat : Int) : Int) (by omega : (16 : Int) ≠ 0)
          have := Int.emod_lt_of_pos (((btAt s i).toNat : Int) : Int) (by omega : (0 : Int) < 16)
          refine OD.q rfl rfl (Q1.remI ((((btAt s i).toNat : Int) % 16)) rfl rfl ⟨by omega, by omega, rfl⟩) rfl rfl ?_
          refine OD.q rfl rfl (Q1.indexBt ((((btAt s i).toNat) % 16)) Tryd.underlying9 rfl rfl (by omega) (by first | assumption | omega | (simp; done) | (simp; omega))) rfl rfl ?_
          refine OD.act rfl rfl rfl rfl (AW.buildSlice [(.int .u8 92 : Value), (.int .u8 (((btAt (([48, 49, 50, 51, 52, 53, 54, 55, 56, 57, 97, 98, 99, 100, 101, 102] : Str)) (((btAt s i).toNat) / 16)).toNat : Int)) : Value), (.int .u8 (((btAt (([48, 49, 50, 51, 52, 53, 54, 55, 56, 57, 97, 98, 99, 100, 101, 102] : Str)) ((((btAt s i).toNat) % 16))).toNat : Int)) : Value)] Tryd.underlying52 ti5 rfl rfl rfl (by decide) ?_)
          intro w4 b5 hm3 hb5 hz2 hk2
          have hS5 := hS4.ext hm3
          have hl3 := Sl.of_blk (enc := encB) hk2 ([(92 : UInt8), (btAt (([48, 49, 50, 51, 52, 53, 54, 55, 56, 57, 97, 98, 99, 100, 101, 102] : Str)) (((btAt s i).toNat) / 16)), (btAt (([48, 49, 50, 51, 52, 53, 54, 55, 56, 57, 97, 98, 99, 100, 101, 102] : Str)) ((((btAt s i).toNat) % 16)))] : List UInt8) 3 rfl rfl (by unfold maxLen; omega)
          have hS6 : St (fun _ => False) (fun _ => False) w0 w4 [accR encB 5 1 v_tx tx, slR encB [((.slice (some ⟨b5, 0, none⟩) 3 3), [(92 : UInt8), (btAt (([48, 49, 50, 51, 52, 53, 54, 55, 56, 57, 97, 98, 99, 100, 101, 102] : Str)) (((btAt s i).toNat) / 16)), (btAt (([48, 49, 50, 51, 52, 53, 54, 55, 56, 57, 97, 98, 99, 100, 101, 102] : Str)) ((((btAt s i).toNat) % 16)))])]] := hS4.newSlB hm3 hb5 hz2 hl3
          have hCw4 := hCw3.ext hm3
          refine ⟨.inr hCw4, ?_⟩
          obtain ⟨g3, f2, hl4, k2⟩ := hS6.accK (i := 0) rfl
          have he1 := Acc.uniq f1 f2
          subst he1
          have f3 := hS6.sl (i := 1) (k := 0) rfl rfl
          refine OD.act rfl rfl rfl rfl (AW.append f2 Tryd.underlying52 ti5 rfl encB_len encB_one rfl rfl (f3) (by first | omega | (simp only [List.length_append, List.length_cons, List.length_nil]; omega) | (simp; omega)) (by unfold maxLen; first | omega | (simp only [List.length_append, List.length_cons, List.length_nil]; omega) | (simp; omega)) ?_)
          intro v1 g2 w5 ha1 hm4 hg1 hz3
          have hS7 : St (fun _ => False) (fun _ => False) w0 w5 [accR encB 5 1 v1 ((tx ++ [(92 : UInt8), (btAt (([48, 49, 50, 51, 52, 53, 54, 55, 56, 57, 97, 98, 99, 100, 101, 102] : Str)) (((btAt s i).toNat) / 16)), (btAt (([48, 49, 50, 51, 52, 53, 54, 55, 56, 57, 97, 98, 99, 100, 101, 102] : Str)) ((((btAt s i).toNat) % 16)))])), slR encB [((.slice (some ⟨b5, 0, none⟩) 3 3), [(92 : UInt8), (btAt (([48, 49, 50, 51, 52, 53, 54, 55, 56, 57, 97, 98, 99, 100, 101, 102] : Str)) (((btAt s i).toNat) / 16)), (btAt (([48, 49, 50, 51, 52, 53, 54, 55, 56, 57, 97, 98, 99, 100, 101, 102] : Str)) ((((btAt s i).toNat) % 16)))])]] := k2 _ _ _ _ hm4 ha1 hg1
          have hCw5 := hCw4.trans hm4
          refine ⟨.inr hCw5, ?_⟩
          clear hg1
          refine OD.q rfl rfl (Q1.assign rfl) rfl rfl ?_
          refine OD.nil ?_
          refine r_inBlock ?_
          refine r_region ?_
          refine OL.q (Q1.move rfl) rfl rfl ?_
          refine OL.q (Q1.addI (((i + 1 : Nat) : Int)) rfl rfl (by omega)) rfl rfl ?_
          refine OL.q (Q1.assign rfl) rfl rfl ?_
          refine OL.nil ?_
          have hS8 : St (fun _ => False) (fun _ => False) w0 w5 [accR encB 5 1 v1 ((tx ++ [(92 : UInt8), (btAt (([48, 49, 50, 51, 52, 53, 54, 55, 56, 57, 97, 98, 99, 100, 101, 102] : Str)) (((btAt s i).toNat) / 16)), (btAt (([48, 49, 50, 51, 52, 53, 54, 55, 56, 57, 97, 98, 99, 100, 101, 102] : Str)) ((((btAt s i).toNat) % 16)))]))] := hS7.sel [0] (by rfl) (by decide)
          exact (ih1 _ _ _ ⟨(v1 : Value), ((tx ++ [(92 : UInt8), (btAt (([48, 49, 50, 51, 52, 53, 54, 55, 56, 57, 97, 98, 99, 100, 101, 102] : Str)) (((btAt s i).toNat) / 16)), (btAt (([48, 49, 50, 51, 52, 53, 54, 55, 56, 57, 97, 98, 99, 100, 101, 102] : Str)) ((((btAt s i).toNat) % 16)))]) : List UInt8), (i + 1 : Nat), rfl, rfl, hS8, (by first | exact q_yes htx (by omega) (pl_c (by omega)) | exact q_no htx (by omega) (pl_a (by omega)).symm | (exfalso; omega))⟩ (by omega)).sub ⟨rfl, rfl, rfl, trivial⟩
      | false =>
        replace hb3 := of_decide_eq_false hb3.symm
        refine OL.sk rfl rfl ?_
        refine OL.sk rfl rfl ?_
        refine OL.q (Q1.pick_f rfl rfl) rfl rfl ?_
        refine OL.q (Q1.move rfl) rfl rfl ?_
        refine OL.sk rfl rfl ?_
        refine OL.sk rfl rfl ?_
        refine OL.q (Q1.pick_f rfl rfl) rfl rfl ?_
        refine OL.q (Q1.move rfl) rfl rfl ?_
        refine OL.sk rfl rfl ?_
        refine OL.sk rfl rfl ?_
        refine OL.q (Q1.pick_f rfl rfl) rfl rfl ?_
        refine OL.nil ?_
        refine r_cond_f rfl ?_
        obtain ⟨g1, f1, hl2, k1⟩ := hS3.accK (i := 0) rfl
        refine r_draw1 (fun i => Nat.beq i 7 || Nat.beq i 8) 10 (fun w' => Mod (Mg g1) w2 w') mixed (by kernel_rfl) ?_
        intro w3 hm2
        have hS4 := hS3.ext hm2
        have hCw3 : Mod (Mg g1) w2 w3 := Mod.ofExt hm2
        refine ⟨hCw3, ?_⟩
        rw [show List.range' 0 (Array.size _) = [0, 1, 2, 3, 4, 5, 6, 7, 8, 9] from rfl]
        refine OD.q rfl rfl (Q1.move rfl) rfl rfl ?_
        refine OD.q rfl rfl (Q1.move rfl) rfl rfl ?_
        refine OD.q rfl rfl (Q1.quoU8 (a := (btAt s i).toNat) 16 rfl rfl (by omega) (by first | omega | exact UInt8.toNat_lt _)) rfl rfl ?_
        refine OD.q rfl rfl (Q1.indexBt (((btAt s i).toNat) / 16) Tryd.underlying9 rfl rfl (by omega) (by first | assumption | omega | (simp; done) | (simp; omega))) rfl rfl ?_
        refine OD.q rfl rfl (Q1.move rfl) rfl rfl ?_
        have := Int.emod_nonneg (((btAt s i).toNat : Int) : Int) (by omega : (16 : Int) ≠ 0)
        have := Int.emod_lt_of_pos (((btAt s i).toNat : Int) : Int) (by omega : (0 : Int) < 16)
        refine OD.q rfl rfl (Q1.remI ((((btAt s i).toNat : Int) % 16)) rfl rfl ⟨by omega, by omega, rfl⟩) rfl rfl ?_
        refine OD.q rfl rfl (Q1.indexBt ((((btAt s i).toNat) % 16)) Tryd.underlying9 rfl rfl (by omega) (by first | assumption | omega | (simp; done) | (simp; omega))) rfl rfl ?_
        refine OD.act rfl rfl rfl rfl (AW.buildSlice [(.int .u8 92 : Value), (.int .u8 (((btAt (([48, 49, 50, 51, 52, 53, 54, 55, 56, 57, 97, 98, 99, 100, 101, 102] : Str)) (((btAt s i).toNat) / 16)).toNat : Int)) : Value), (.int .u8 (((btAt (([48, 49, 50, 51, 52, 53, 54, 55, 56, 57, 97, 98, 99, 100, 101, 102] : Str)) ((((btAt s i).toNat) % 16))).toNat : Int)) : Value)] Tryd.underlying52 ti5 rfl rfl rfl (by decide) ?_)
        intro w4 b4 hm3 hb4 hz2 hk2
        have hS5 := hS4.ext hm3
        have hl3 := Sl.of_blk (enc := encB) hk2 ([(92 : UInt8), (btAt (([48, 49, 50, 51, 52, 53, 54, 55, 56, 57, 97, 98, 99, 100, 101, 102] : Str)) (((btAt s i).toNat) / 16)), (btAt (([48, 49, 50, 51, 52, 53, 54, 55, 56, 57, 97, 98, 99, 100, 101, 102] : Str)) ((((btAt s i).toNat) % 16)))] : List UInt8) 3 rfl rfl (by unfold maxLen; omega)
        have hS6 : St (fun _ => False) (fun _ => False) w0 w4 [accR encB 5 1 v_tx tx, slR encB [((.slice (some ⟨b4, 0, none⟩) 3 3), [(92 : UInt8), (btAt (([48, 49, 50, 51, 52, 53, 54, 55, 56, 57, 97, 98, 99, 100, 101, 102] : Str)) (((btAt s i).toNat) / 16)), (btAt (([48, 49, 50, 51, 52, 53, 54, 55, 56, 57, 97, 98, 99, 100, 101, 102] : Str)) ((((btAt s i).toNat) % 16)))])]] := hS4.newSlB hm3 hb4 hz2 hl3
        have hCw4 := hCw3.ext hm3
        refine ⟨.inr hCw4, ?_⟩
        obtain ⟨g3, f2, hl4, k2⟩ := hS6.accK (i := 0) rfl
        have he1 := Acc.uniq f1 f2
        subst he1
        have f3 := hS6.sl (i := 1) (k := 0) rfl rfl
        refine OD.act rfl rfl rfl rfl (AW.append f2 Tryd.underlying52 ti5 rfl encB_len encB_one rfl rfl (f3) (by first | omega | (simp only [List.length_append, List.length_cons, List.length_nil]; omega) | (simp; omega)) (by unfold maxLen; first | omega | (simp only [List.length_append, List.length_cons, List.length_nil]; omega) | (simp; omega)) ?_)
        intro v1 g2 w5 ha1 hm4 hg1 hz3
        have hS7 : St (fun _ => False) (fun _ => False) w0 w5 [accR encB 5 1 v1 ((tx ++ [(92 : UInt8), (btAt (([48, 49, 50, 51, 52, 53, 54, 55, 56, 57, 97, 98, 99, 100, 101, 102] : Str)) (((btAt s i).toNat) / 16)), (btAt (([48, 49, 50, 51, 52, 53, 54, 55, 56, 57, 97, 98, 99, 100, 101, 102] : Str)) ((((btAt s i).toNat) % 16)))])), slR encB [((.slice (some ⟨b4, 0, none⟩) 3 3), [(92 : UInt8), (btAt (([48, 49, 50, 51, 52, 53, 54, 55, 56, 57, 97, 98, 99, 100, 101, 102] : Str)) (((btAt s i).toNat) / 16)), (btAt (([48, 49, 50, 51, 52, 53, 54, 55, 56, 57, 97, 98, 99, 100, 101, 102] : Str)) ((((btAt s i).toNat) % 16)))])]] := k2 _ _ _ _ hm4 ha1 hg1
        have hCw5 := hCw4.trans hm4
        refine ⟨.inr hCw5, ?_⟩
        clear hg1
        refine OD.q rfl rfl (Q1.assign rfl) rfl rfl ?_
        refine OD.nil ?_
        refine r_inBlock ?_
        refine r_region ?_
        refine OL.q (Q1.move rfl) rfl rfl ?_
        refine OL.q (Q1.addI (((i + 1 : Nat) : Int)) rfl rfl (by omega)) rfl rfl ?_
        refine OL.q (Q1.assign rfl) rfl rfl ?_
        refine OL.nil ?_
        have hS8 : St (fun _ => False) (fun _ => False) w0 w5 [accR encB 5 1 v1 ((tx ++ [(92 : UInt8), (btAt (([48, 49, 50, 51, 52, 53, 54, 55, 56, 57, 97, 98, 99, 100, 101, 102] : Str)) (((btAt s i).toNat) / 16)), (btAt (([48, 49, 50, 51, 52, 53, 54, 55, 56, 57, 97, 98, 99, 100, 101, 102] : Str)) ((((btAt s i).toNat) % 16)))]))] := hS7.sel [0] (by rfl) (by decide)
        exact (ih1 _ _ _ ⟨(v1 : Value), ((tx ++ [(92 : UInt8), (btAt (([48, 49, 50, 51, 52, 53, 54, 55, 56, 57, 97, 98, 99, 100, 101, 102] : Str)) (((btAt s i).toNat) / 16)), (btAt (([48, 49, 50, 51, 52, 53, 54, 55, 56, 57, 97, 98, 99, 100, 101, 102] : Str)) ((((btAt s i).toNat) % 16)))]) : List UInt8), (i + 1 : Nat), rfl, rfl, hS8, (by first | exact q_yes htx (by omega) (pl_c (by omega)) | exact q_no htx (by omega) (pl_a (by omega)).symm | (exfalso; omega))⟩ (by omega)).sub ⟨rfl, rfl, rfl, trivial⟩
    | false =>
      replace hb2 := of_decide_eq_false hb2.symm
      refine r_cond_f rfl ?_
      refine r_exit rfl ?_
      refine r_seq ?_
      refine r_region ?_
      refine OL.q (Q1.move rfl) rfl rfl ?_
      refine OL.act rfl rfl (AW.buildSlice [(.int .u8 34 : Value)] Tryd.underlying52 ti5 rfl rfl rfl (by decide) ?_)
      intro w3 b3 hm2 hb3 hz2 hk2
      have hS4 := hS3.ext hm2
      have hl2 := Sl.of_blk (enc := encB) hk2 ([(34 : UInt8)] : List UInt8) 1 rfl rfl (by unfold maxLen; omega)
      have hS5 : St (fun _ => False) (fun _ => False) w0 w3 [accR encB 5 1 v_tx tx, slR encB [((.slice (some ⟨b3, 0, none⟩) 1 1), [(34 : UInt8)])]] := hS3.newSlB hm2 hb3 hz2 hl2
      obtain ⟨g2, f1, hl3, k1⟩ := hS5.accK (i := 0) rfl
      have f2 := hS5.sl (i := 1) (k := 0) rfl rfl
      refine OL.act rfl rfl (AW.append f1 Tryd.underlying52 ti5 rfl encB_len encB_one rfl rfl (f2) (by first | omega | (simp only [List.length_append, List.length_cons, List.length_nil]; omega) | (simp; omega)) (by unfold maxLen; first | omega | (simp only [List.length_append, List.length_cons, List.length_nil]; omega) | (simp; omega)) ?_)
      intro v1 g1 w4 ha1 hm3 hg1 hz3
      have hS6 : St (fun _ => False) (fun _ => False) w0 w4 [accR encB 5 1 v1 ((tx ++ [(34 : UInt8)])), slR encB [((.slice (some ⟨b3, 0, none⟩) 1 1), [(34 : UInt8)])]] := k1 _ _ _ _ hm3 ha1 hg1
      clear hg1
      obtain ⟨g3, f3, hl4, k2⟩ := hS6.accK (i := 0) rfl
      refine OL.act rfl rfl (AW.bytesStr Tryd.underlying52 Tryd.underlying5 Tryd.underlying9 rfl (f3.sl) ?_)
      refine OL.q (Q1.assign rfl) rfl rfl ?_
      refine OL.nil ?_
      refine r_ret1 Tryd.func12 rfl rfl ?_
      exact Ret.mk ⟨(congrArg strV (by first | exact q_end htx (by omega) | (exfalso; omega))), hS6.mod⟩
set_option maxRecDepth 20000 in
set_option maxHeartbeats 4000000 in
theorem r29hex_c {w0 : World}  (c : UInt8)  :
    Calls Tryd.prog 27 #[.int .u8 ((c.toNat : Int))] w0 (Ret fun rv w1 => rv = .int .i64 (hexI c) ∧ Ext w0 w1) := by
  have hS0 := St.start0 w0
  refine calls_enter Tryd.func27 rfl Tryd.ntmps27 rfl ?_
  refine r_seq ?_
  refine r_region ?_
  refine OL.q (Q1.assign rfl) rfl rfl ?_
  refine OL.nil ?_
  refine r_seq ?_
  refine r_seq ?_
  refine r_region ?_
  refine OL.q (Q1.assign rfl) rfl rfl ?_
  refine OL.nil ?_
  refine r_block ?_
  refine r_loop (I := fun m E W => ∃ (i : Nat), E = [(0, .int .u8 ((c.toNat : Int))), (3, .int .i64 (((i : Nat) : Int)))] ∧ m = 16 - i ∧ St (fun _ => False) (fun _ => False) w0 W [] ∧ (∀ j < i, btAt ([48, 49, 50, 51, 52, 53, 54, 55, 56, 57, 97, 98, 99, 100, 101, 102] : Str) j ≠ c) ∧ (i ≤ 16)) ?_ ?_
  · refine ⟨_, _, ⟨(0 : Nat), rfl, rfl, hS0, (by (intro j hj; omega)), (by omega)⟩, ⟨rfl, rfl, trivial⟩⟩
  · rintro _ _ w1 ⟨i, rfl, rfl, hS1, hno, hi16⟩ ih1
    refine r_seq ?_
    refine r_seq ?_
    refine r_region ?_
    refine OL.q (Q1.move rfl) rfl rfl ?_
    refine OL.qb (Q1.lt rfl rfl) rfl rfl ?_
    intro b1 hb1
    refine OL.nil ?_
    cases b1 with
    | true =>
      replace hb1 := of_decide_eq_true hb1.symm
      refine r_cond_t rfl ?_
      refine r_skip ?_
      refine r_seq ?_
      refine r_block ?_
      refine r_seq ?_
      refine r_region ?_
      refine OL.q (Q1.move rfl) rfl rfl ?_
      refine OL.q (Q1.indexBt (i) Tryd.underlying9 rfl rfl (by omega) (by first | assumption | omega | (simp; done) | (simp; omega))) rfl rfl ?_
      refine OL.q (Q1.move rfl) rfl rfl ?_
      refine OL.qb (Q1.eq rfl rfl) rfl rfl ?_
      intro b2 hb2
      refine OL.nil ?_
      cases b2 with
      | true =>
        replace hb2 := eq_of_beq hb2.symm
        refine r_cond_t rfl ?_
        refine r_seq ?_
        refine r_region ?_
        refine OL.q (Q1.move rfl) rfl rfl ?_
        refine OL.q (Q1.assign rfl) rfl rfl ?_
        refine OL.nil ?_
        refine r_ret1 Tryd.func27 rfl rfl ?_
        exact Ret.mk ⟨(congrArg (Value.int .i64) (by first | exact hex_found (by omega) (by assumption) | exact hex_none hno (by omega) | (exfalso; omega))), hS1.mod⟩
      | false =>
        replace hb2 := ne_of_beq_false hb2.symm
        refine r_cond_f rfl ?_
        refine r_skip ?_
        refine r_inBlock ?_
        refine r_region ?_
        refine OL.q (Q1.move rfl) rfl rfl ?_
        refine OL.q (Q1.addI (((i + 1 : Nat) : Int)) rfl rfl (by omega)) rfl rfl ?_
        refine OL.q (Q1.assign rfl) rfl rfl ?_
        refine OL.nil ?_
        exact (ih1 _ _ _ ⟨(i + 1 : Nat), rfl, rfl, hS1, (by first | exact hex_step hno (by assumption) | (exfalso; omega)), (by first | omega | (exfalso; omega))⟩ (by omega)).sub ⟨rfl, rfl, trivial⟩
    | false =>
      replace hb1 := of_decide_eq_false hb1.symm
      refine r_cond_f rfl ?_
      refine r_exit rfl ?_
      refine r_seq ?_
      refine r_region ?_
      refine OL.q (Q1.assign rfl) rfl rfl ?_
      refine OL.nil ?_
      refine r_ret1 Tryd.func27 rfl rfl ?_
      exact Ret.mk ⟨(congrArg (Value.int .i64) (by first | exact hex_found (by omega) (by assumption) | exact hex_none hno (by omega) | (exfalso; omega))), hS1.mod⟩
set_option maxRecDepth 20000 in
set_option maxHeartbeats 4000000 in
theorem r29unquote_c {w0 : World}  (s : Str) (hsl : s.length ≤ 300000) :
    Calls Tryd.prog 11 #[strV s] w0 (Ret fun rv w1 => ∃ u0 u1, rv = .tuple #[u0, u1] ∧ u0 = strV ((unqM s).getD []) ∧ (∃ rb : Bool, rb = ((unqM s).isSome) ∧ u1 = .bool rb) ∧ Ext w0 w1) := by
  have hS0 := St.start0 w0
  refine calls_enter Tryd.func11 rfl Tryd.ntmps11 rfl ?_
  refine r_seq ?_
  refine r_region ?_
  refine OL.q (Q1.assign rfl) rfl rfl ?_
  refine OL.q (Q1.assign rfl) rfl rfl ?_
  refine OL.nil ?_
  refine r_seq ?_
  refine r_seq ?_
  refine r_region ?_
  refine OL.q (Q1.move rfl) rfl rfl ?_
  refine OL.q (Q1.lenS Tryd.underlying9 rfl) rfl rfl ?_
  refine OL.qb (Q1.lt rfl rfl) rfl rfl ?_
  intro b1 hb1
  refine OL.q (Q1.move rfl) rfl rfl ?_
  cases b1 with
  | true =>
    replace hb1 := of_decide_eq_true hb1.symm
    refine OL.sk rfl rfl ?_
    refine OL.sk rfl rfl ?_
    refine OL.sk rfl rfl ?_
    refine OL.q (Q1.pick_t rfl rfl) rfl rfl ?_
    refine OL.q (Q1.move rfl) rfl rfl ?_
    refine OL.sk rfl rfl ?_
    refine OL.sk rfl rfl ?_
    refine OL.sk rfl rfl ?_
    refine OL.sk rfl rfl ?_
    refine OL.sk rfl rfl ?_
    refine OL.sk rfl rfl ?_
    refine OL.q (Q1.pick_t rfl rfl) rfl rfl ?_
    refine OL.nil ?_
    refine r_cond_t rfl ?_
    refine r_seq ?_
    refine r_region ?_
    refine OL.q (Q1.assign rfl) rfl rfl ?_
    refine OL.q (Q1.assign rfl) rfl rfl ?_
    refine OL.nil ?_
    refine r_ret2 Tryd.func11 rfl rfl rfl ?_
    exact Ret.mk ⟨_, _, rfl, (congrArg strV (by first | (rw [show unqM s = none from by first | exact uq_frame (by omega) | exact uq_none (rq_bad hU (by omega) (by omega) (by omega) (by omega)) | exact uq_no (by omega) (rq_fin hU (by omega)) (by assumption)]; rfl) | (rw [show unqM s = some b from uq_yes (by omega) (rq_fin hU (by omega)) (by assumption)]; rfl) | (exfalso; omega))), ⟨_, (by first | (rw [show unqM s = none from by first | exact uq_frame (by omega) | exact uq_none (rq_bad hU (by omega) (by omega) (by omega) (by omega)) | exact uq_no (by omega) (rq_fin hU (by omega)) (by assumption)]; rfl) | (rw [show unqM s = some b from uq_yes (by omega) (rq_fin hU (by omega)) (by assumption)]; rfl) | (exfalso; omega)), rfl⟩, hS0.mod⟩
  | false =>
    replace hb1 := of_decide_eq_false hb1.symm
    refine OL.q (Q1.move rfl) rfl rfl ?_
    refine OL.q (Q1.indexBt (0) Tryd.underlying9 rfl rfl (by omega) (by first | assumption | omega | (simp; done) | (simp; omega))) rfl rfl ?_
    refine OL.qb (Q1.ne rfl rfl) rfl rfl ?_
    intro b2 hb2
    refine OL.q (Q1.pick_f rfl rfl) rfl rfl ?_
    refine OL.q (Q1.move rfl) rfl rfl ?_
    cases b2 with
    | true =>
      replace hb2 := bne_iff_ne.1 hb2.symm
      refine OL.sk rfl rfl ?_
      refine OL.sk rfl rfl ?_
      refine OL.sk rfl rfl ?_
      refine OL.sk rfl rfl ?_
      refine OL.sk rfl rfl ?_
      refine OL.sk rfl rfl ?_
      refine OL.q (Q1.pick_t rfl rfl) rfl rfl ?_
      refine OL.nil ?_
      refine r_cond_t rfl ?_
      refine r_seq ?_
      refine r_region ?_
      refine OL.q (Q1.assign rfl) rfl rfl ?_
      refine OL.q (Q1.assign rfl) rfl rfl ?_
      refine OL.nil ?_
      refine r_ret2 Tryd.func11 rfl rfl rfl ?_
      exact Ret.mk ⟨_, _, rfl, (congrArg strV (by first | (rw [show unqM s = none from by first | exact uq_frame (by omega) | exact uq_none (rq_bad hU (by omega) (by omega) (by omega) (by omega)) | exact uq_no (by omega) (rq_fin hU (by omega)) (by assumption)]; rfl) | (rw [show unqM s = some b from uq_yes (by omega) (rq_fin hU (by omega)) (by assumption)]; rfl) | (exfalso; omega))), ⟨_, (by first | (rw [show unqM s = none from by first | exact uq_frame (by omega) | exact uq_none (rq_bad hU (by omega) (by omega) (by omega) (by omega)) | exact uq_no (by omega) (rq_fin hU (by omega)) (by assumption)]; rfl) | (rw [show unqM s = some b from uq_yes (by omega) (rq_fin hU (by omega)) (by assumption)]; rfl) | (exfalso; omega)), rfl⟩, hS0.mod⟩
    | false =>
      replace hb2 := bne_eq_false_iff_eq.1 hb2.symm
      refine OL.q (Q1.move rfl) rfl rfl ?_
      refine OL.q (Q1.move rfl) rfl rfl ?_
      refine OL.q (Q1.lenS Tryd.underlying9 rfl) rfl rfl ?_
      refine OL.q (Q1.subI ((((s.length : Nat) : Int) - 1)) rfl rfl (by omega)) rfl rfl ?_
      refine OL.q (Q1.indexBt ((s.length - 1)) Tryd.underlying9 rfl rfl (by omega) (by first | assumption | omega | (simp; done) | (simp; omega))) rfl rfl ?_
      refine OL.qb (Q1.ne rfl rfl) rfl rfl ?_
      intro b3 hb3
      refine OL.q (Q1.pick_f rfl rfl) rfl rfl ?_
      refine OL.nil ?_
      cases b3 with
      | true =>
        replace hb3 := bne_iff_ne.1 hb3.symm
        refine r_cond_t rfl ?_
        refine r_seq ?_
        refine r_region ?_
        refine OL.q (Q1.assign rfl) rfl rfl ?_
        refine OL.q (Q1.assign rfl) rfl rfl ?_
        refine OL.nil ?_
        refine r_ret2 Tryd.func11 rfl rfl rfl ?_
        exact Ret.mk ⟨_, _, rfl, (congrArg strV (by first | (rw [show unqM s = none from by first | exact uq_frame (by omega) | exact uq_none (rq_bad hU (by omega) (by omega) (by omega) (by omega)) | exact uq_no (by omega) (rq_fin hU (by omega)) (by assumption)]; rfl) | (rw [show unqM s = some b from uq_yes (by omega) (rq_fin hU (by omega)) (by assumption)]; rfl) | (exfalso; omega))), ⟨_, (by first | (rw [show unqM s = none from by first | exact uq_frame (by omega) | exact uq_none (rq_bad hU (by omega) (by omega) (by omega) (by omega)) | exact uq_no (by omega) (rq_fin hU (by omega)) (by assumption)]; rfl) | (rw [show unqM s = some b from uq_yes (by omega) (rq_fin hU (by omega)) (by assumption)]; rfl) | (exfalso; omega)), rfl⟩, hS0.mod⟩
      | false =>
        replace hb3 := bne_eq_false_iff_eq.1 hb3.symm
        refine r_cond_f rfl ?_
        refine r_skip ?_
        refine r_seq ?_
        refine r_region ?_
        refine OL.q (Q1.assign rfl) rfl rfl ?_
        refine OL.nil ?_
        refine r_seq ?_
        refine r_seq ?_
        refine r_region ?_
        refine OL.q (Q1.assign rfl) rfl rfl ?_
        refine OL.nil ?_
        refine r_block ?_
        have hS2 : St (fun _ => False) (fun _ => False) w0 w0 [accR encB 5 1 (.slice none 0 0) []] := hS0.newAcc (Mod.refl _ _) Acc.nil (.inl rfl)
        refine r_loop (I := fun m E W => ∃ (v_b : Value) (b : List UInt8) (k : Nat), E = [(0, strV s), (4, v_b), (5, .int .i64 (((k : Nat) : Int)))] ∧ m = s.length - k ∧ St (fun _ => False) (fun _ => False) w0 W [accR encB 5 1 v_b b] ∧ (unq (inner s) = (unq ((inner s).drop (k - 1))).map (b ++ ·)) ∧ (1 ≤ k) ∧ (b.length ≤ k) ∧ (k ≤ s.length)) ?_ ?_
        · refine ⟨_, _, ⟨(.slice none 0 0 : Value), ([] : List UInt8), (1 : Nat), rfl, rfl, hS2, (by simp), (by omega), (by exact Nat.zero_le _), (by omega)⟩, ⟨rfl, rfl, rfl, trivial⟩⟩
        · rintro _ _ w1 ⟨v_b, b, k, rfl, rfl, hS1, hU, hk1, hbk, hks⟩ ih1
          refine r_seq ?_
          refine r_seq ?_
          refine r_region ?_
          refine OL.q (Q1.move rfl) rfl rfl ?_
          refine OL.q (Q1.move rfl) rfl rfl ?_
          refine OL.q (Q1.lenS Tryd.underlying9 rfl) rfl rfl ?_
          refine OL.q (Q1.subI ((((s.length : Nat) : Int) - 1)) rfl rfl (by omega)) rfl rfl ?_
          refine OL.qb (Q1.lt rfl rfl) rfl rfl ?_
          intro b4 hb4
          refine OL.nil ?_
          cases b4 with
          | true =>
            replace hb4 := of_decide_eq_true hb4.symm
            refine r_cond_t rfl ?_
            refine r_skip ?_
            refine r_seq ?_
            refine r_block ?_
            refine r_seq ?_
            refine r_seq ?_
            refine r_region ?_
            refine OL.q (Q1.move rfl) rfl rfl ?_
            refine OL.q (Q1.move rfl) rfl rfl ?_
            refine OL.q (Q1.indexBt (k) Tryd.underlying9 rfl rfl (by omega) (by first | assumption | omega | (simp; done) | (simp; omega))) rfl rfl ?_
            refine OL.qb (Q1.ne rfl rfl) rfl rfl ?_
            intro b5 hb5
            refine OL.nil ?_
            cases b5 with
            | true =>
              replace hb5 := bne_iff_ne.1 hb5.symm
              refine r_cond_t rfl ?_
              refine r_seq ?_
              refine r_region ?_
              refine OL.q (Q1.move rfl) rfl rfl ?_
              refine OL.q (Q1.move rfl) rfl rfl ?_
              refine OL.q (Q1.move rfl) rfl rfl ?_
              refine OL.q (Q1.indexBt (k) Tryd.underlying9 rfl rfl (by omega) (by first | assumption | omega | (simp; done) | (simp; omega))) rfl rfl ?_
              refine OL.act rfl rfl (AW.buildSlice [(.int .u8 (((btAt s k).toNat : Int)) : Value)] Tryd.underlying52 ti5 rfl rfl rfl (by decide) ?_)
              intro w2 b6 hm1 hb6 hz1 hk1
              have hS3 := hS1.ext hm1
              have hl1 := Sl.of_blk (enc := encB) hk1 ([(btAt s k)] : List UInt8) 1 rfl rfl (by unfold maxLen; omega)
              have hS4 : St (fun _ => False) (fun _ => False) w0 w2 [accR encB 5 1 v_b b, slR encB [((.slice (some ⟨b6, 0, none⟩) 1 1), [(btAt s k)])]] := hS1.newSlB hm1 hb6 hz1 hl1
              obtain ⟨g2, f1, hl2, k1⟩ := hS4.accK (i := 0) rfl
              have f2 := hS4.sl (i := 1) (k := 0) rfl rfl
              refine OL.act rfl rfl (AW.append f1 Tryd.underlying52 ti5 rfl encB_len encB_one rfl rfl (f2) (by first | omega | (simp only [List.length_append, List.length_cons, List.length_nil]; omega) | (simp; omega)) (by unfold maxLen; first | omega | (simp only [List.length_append, List.length_cons, List.length_nil]; omega) | (simp; omega)) ?_)
              intro v1 g1 w3 ha1 hm2 hg1 hz2
              have hS5 : St (fun _ => False) (fun _ => False) w0 w3 [accR encB 5 1 v1 ((b ++ [(btAt s k)])), slR encB [((.slice (some ⟨b6, 0, none⟩) 1 1), [(btAt s k)])]] := k1 _ _ _ _ hm2 ha1 hg1
              clear hg1
              refine OL.q (Q1.assign rfl) rfl rfl ?_
              refine OL.nil ?_
              refine r_exit rfl ?_
              refine r_region ?_
              refine OL.q (Q1.move rfl) rfl rfl ?_
              refine OL.q (Q1.addI (((k + 1 : Nat) : Int)) rfl rfl (by omega)) rfl rfl ?_
              refine OL.q (Q1.assign rfl) rfl rfl ?_
              refine OL.nil ?_
              have hS6 : St (fun _ => False) (fun _ => False) w0 w3 [accR encB 5 1 v1 ((b ++ [(btAt s k)]))] := hS5.sel [0] (by rfl) (by decide)
              exact (ih1 _ _ _ ⟨(v1 : Value), ((b ++ [(btAt s k)]) : List UInt8), (k + 1 : Nat), rfl, rfl, hS6, (by first | exact rq_go hU (by omega) (by omega) (by assumption) | exact rq_esc hU (by omega) (by omega) (by omega) (by assumption) (by assumption) | (exfalso; omega)), (by first | omega | (exfalso; omega)), (by first | omega | (simp only [List.length_append, List.length_cons, List.length_nil]; omega) | (exfalso; omega)), (by first | omega | (exfalso; omega))⟩ (by omega)).sub ⟨rfl, rfl, rfl, trivial⟩
            | false =>
              replace hb5 := bne_eq_false_iff_eq.1 hb5.symm
              refine r_cond_f rfl ?_
              refine r_skip ?_
              refine r_seq ?_
              refine r_seq ?_
              refine r_region ?_
              refine OL.q (Q1.move rfl) rfl rfl ?_
              refine OL.q (Q1.addI (((k + 2 : Nat) : Int)) rfl rfl (by omega)) rfl rfl ?_
              refine OL.q (Q1.move rfl) rfl rfl ?_
              refine OL.q (Q1.lenS Tryd.underlying9 rfl) rfl rfl ?_
              refine OL.q (Q1.subI ((((s.length : Nat) : Int) - 1)) rfl rfl (by omega)) rfl rfl ?_
              refine OL.qb (Q1.ge rfl rfl) rfl rfl ?_
              intro b6 hb6
              refine OL.q (Q1.move rfl) rfl rfl ?_
              cases b6 with
              | true =>
                replace hb6 := of_decide_eq_true hb6.symm
                refine OL.sk rfl rfl ?_
                refine OL.sk rfl rfl ?_
                refine OL.sk rfl rfl ?_
                refine OL.sk rfl rfl ?_
                refine OL.sk rfl rfl ?_
                refine OL.sk rfl rfl ?_
                refine OL.q (Q1.pick_t rfl rfl) rfl rfl ?_
                refine OL.q (Q1.move rfl) rfl rfl ?_
                refine OL.sk rfl rfl ?_
                refine OL.sk rfl rfl ?_
                refine OL.sk rfl rfl ?_
                refine OL.sk rfl rfl ?_
                refine OL.sk rfl rfl ?_
                refine OL.sk rfl rfl ?_
                refine OL.q (Q1.pick_t rfl rfl) rfl rfl ?_
                refine OL.nil ?_
                refine r_cond_t rfl ?_
                refine r_seq ?_
                refine r_region ?_
                refine OL.q (Q1.assign rfl) rfl rfl ?_
                refine OL.q (Q1.assign rfl) rfl rfl ?_
                refine OL.nil ?_
                refine r_ret2 Tryd.func11 rfl rfl rfl ?_
                exact Ret.mk ⟨_, _, rfl, (congrArg strV (by first | (rw [show unqM s = none from by first | exact uq_frame (by omega) | exact uq_none (rq_bad hU (by omega) (by omega) (by omega) (by omega)) | exact uq_no (by omega) (rq_fin hU (by omega)) (by assumption)]; rfl) | (rw [show unqM s = some b from uq_yes (by omega) (rq_fin hU (by omega)) (by assumption)]; rfl) | (exfalso; omega))), ⟨_, (by first | (rw [show unqM s = none from by first | exact uq_frame (by omega) | exact uq_none (rq_bad hU (by omega) (by omega) (by omega) (by omega)) | exact uq_no (by omega) (rq_fin hU (by omega)) (by assumption)]; rfl) | (rw [show unqM s = some b from uq_yes (by omega) (rq_fin hU (by omega)) (by assumption)]; rfl) | (exfalso; omega)), rfl⟩, hS1.mod⟩
              | false =>
                replace hb6 := of_decide_eq_false hb6.symm
                refine OL.q (Q1.move rfl) rfl rfl ?_
                refine OL.q (Q1.move rfl) rfl rfl ?_
                refine OL.q (Q1.addI (((k + 1 : Nat) : Int)) rfl rfl (by omega)) rfl rfl ?_
                refine OL.q (Q1.indexBt (k + 1) Tryd.underlying9 rfl rfl (by omega) (by first | assumption | omega | (simp; done) | (simp; omega))) rfl rfl ?_
                refine OL.act rfl rfl (AW.callF cl27 rfl (r29hex_c (w0 := w1)  ((btAt s (k + 1))) ) ?_)
                rintro _ w2 ⟨rfl, hm1⟩
                have hS3 := hS1.ext hm1
                have := hexI_rng ((btAt s (k + 1)))
                refine OL.qb (Q1.lt rfl rfl) rfl rfl ?_
                intro b7 hb7
                refine OL.q (Q1.pick_f rfl rfl) rfl rfl ?_
                refine OL.q (Q1.move rfl) rfl rfl ?_
                cases b7 with
                | true =>
                  replace hb7 := of_decide_eq_true hb7.symm
                  refine OL.sk rfl rfl ?_
                  refine OL.sk rfl rfl ?_
                  refine OL.sk rfl rfl ?_
                  refine OL.sk rfl rfl ?_
                  refine OL.sk rfl rfl ?_
                  refine OL.sk rfl rfl ?_
                  refine OL.q (Q1.pick_t rfl rfl) rfl rfl ?_
                  refine OL.nil ?_
                  refine r_cond_t rfl ?_
                  refine r_seq ?_
                  refine r_region ?_
                  refine OL.q (Q1.assign rfl) rfl rfl ?_
                  refine OL.q (Q1.assign rfl) rfl rfl ?_
                  refine OL.nil ?_
                  refine r_ret2 Tryd.func11 rfl rfl rfl ?_
                  exact Ret.mk ⟨_, _, rfl, (congrArg strV (by first | (rw [show unqM s = none from by first | exact uq_frame (by omega) | exact uq_none (rq_bad hU (by omega) (by omega) (by omega) (by omega)) | exact uq_no (by omega) (rq_fin hU (by omega)) (by assumption)]; rfl) | (rw [show unqM s = some b from uq_yes (by omega) (rq_fin hU (by omega)) (by assumption)]; rfl) | (exfalso; omega))), ⟨_, (by first | (rw [show unqM s = none from by first | exact uq_frame (by omega) | exact uq_none (rq_bad hU (by omega) (by omega) (by omega) (by omega)) | exact uq_no (by omega) (rq_fin hU (by omega)) (by assumption)]; rfl) | (rw [show unqM s = some b from uq_yes (by omega) (rq_fin hU (by omega)) (by assumption)]; rfl) | (exfalso; omega)), rfl⟩, hS3.mod⟩
                | false =>
                  replace hb7 := of_decide_eq_false hb7.symm
                  refine OL.q (Q1.move rfl) rfl rfl ?_
                  refine OL.q (Q1.move rfl) rfl rfl ?_
                  refine OL.q (Q1.addI (((k + 2 : Nat) : Int)) rfl rfl (by omega)) rfl rfl ?_
                  refine OL.q (Q1.indexBt (k + 2) Tryd.underlying9 rfl rfl (by omega) (by first | assumption | omega | (simp; done) | (simp; omega))) rfl rfl ?_
                  refine OL.act rfl rfl (AW.callF cl27 rfl (r29hex_c (w0 := w2)  ((btAt s (k + 2))) ) ?_)
                  rintro _ w3 ⟨rfl, hm2⟩
                  have hS4 := hS3.ext hm2
                  have := hexI_rng ((btAt s (k + 2)))
                  refine OL.qb (Q1.lt rfl rfl) rfl rfl ?_
                  intro b8 hb8
                  refine OL.q (Q1.pick_f rfl rfl) rfl rfl ?_
                  refine OL.nil ?_
                  cases b8 with
                  | true =>
                    replace hb8 := of_decide_eq_true hb8.symm
                    refine r_cond_t rfl ?_
                    refine r_seq ?_
                    refine r_region ?_
                    refine OL.q (Q1.assign rfl) rfl rfl ?_
                    refine OL.q (Q1.assign rfl) rfl rfl ?_
                    refine OL.nil ?_
                    refine r_ret2 Tryd.func11 rfl rfl rfl ?_
                    exact Ret.mk ⟨_, _, rfl, (congrArg strV (by first | (rw [show unqM s = none from by first | exact uq_frame (by omega) | exact uq_none (rq_bad hU (by omega) (by omega) (by omega) (by omega)) | exact uq_no (by omega) (rq_fin hU (by omega)) (by assumption)]; rfl) | (rw [show unqM s = some b from uq_yes (by omega) (rq_fin hU (by omega)) (by assumption)]; rfl) | (exfalso; omega))), ⟨_, (by first | (rw [show unqM s = none from by first | exact uq_frame (by omega) | exact uq_none (rq_bad hU (by omega) (by omega) (by omega) (by omega)) | exact uq_no (by omega) (rq_fin hU (by omega)) (by assumption)]; rfl) | (rw [show unqM s = some b from uq_yes (by omega) (rq_fin hU (by omega)) (by assumption)]; rfl) | (exfalso; omega)), rfl⟩, hS4.mod⟩
                  | false =>
                    replace hb8 := of_decide_eq_false hb8.symm
                    refine r_cond_f rfl ?_
                    refine r_skip ?_
                    refine r_seq ?_
                    obtain ⟨g1, f1, hl1, k1⟩ := hS4.accK (i := 0) rfl
                    refine r_draw1 (fun i => Nat.beq i 5 || Nat.beq i 11 || Nat.beq i 14 || Nat.beq i 15) 17 (fun w' => Mod (Mg g1) w3 w') mixed (by kernel_rfl) ?_
                    intro w4 hm3
                    have hS5 := hS4.ext hm3
                    have hCw4 : Mod (Mg g1) w3 w4 := Mod.ofExt hm3
                    refine ⟨hCw4, ?_⟩
                    rw [show List.range' 0 (Array.size _) = [0, 1, 2, 3, 4, 5, 6, 7, 8, 9, 10, 11, 12, 13, 14, 15, 16] from rfl]
                    refine OD.q rfl rfl (Q1.move rfl) rfl rfl ?_
                    refine OD.q rfl rfl (Q1.move rfl) rfl rfl ?_
                    refine OD.q rfl rfl (Q1.move rfl) rfl rfl ?_
                    refine OD.q rfl rfl (Q1.addI (((k + 1 : Nat) : Int)) rfl rfl (by omega)) rfl rfl ?_
                    refine OD.q rfl rfl (Q1.indexBt (k + 1) Tryd.underlying9 rfl rfl (by omega) (by first | assumption | omega | (simp; done) | (simp; omega))) rfl rfl ?_
                    refine OD.act rfl rfl rfl rfl (AW.callF cl27 rfl (r29hex_c (w0 := w4)  ((btAt s (k + 1))) ) ?_)
                    rintro _ w5 ⟨rfl, hm4⟩
                    have hS6 := hS5.ext hm4
                    have hCw5 := hCw4.ext hm4
                    refine ⟨.inr hCw5, ?_⟩
                    have := hexI_rng ((btAt s (k + 1)))
                    refine OD.q rfl rfl (Q1.mulI ((16 * ((hexI ((btAt s (k + 1))))))) rfl rfl (by omega)) rfl rfl ?_
                    refine OD.q rfl rfl (Q1.move rfl) rfl rfl ?_
                    refine OD.q rfl rfl (Q1.move rfl) rfl rfl ?_
                    refine OD.q rfl rfl (Q1.addI (((k + 2 : Nat) : Int)) rfl rfl (by omega)) rfl rfl ?_
                    refine OD.q rfl rfl (Q1.indexBt (k + 2) Tryd.underlying9 rfl rfl (by omega) (by first | assumption | omega | (simp; done) | (simp; omega))) rfl rfl ?_
                    refine OD.act rfl rfl rfl rfl (AW.callF cl27 rfl (r29hex_c (w0 := w5)  ((btAt s (k + 2))) ) ?_)
                    rintro _ w6 ⟨rfl, hm5⟩
                    have hS7 := hS6.ext hm5
                    have hCw6 := hCw5.ext hm5
                    refine ⟨.inr hCw6, ?_⟩
                    have := hexI_rng ((btAt s (k + 2)))
                    refine OD.q rfl rfl (Q1.addI (((16 * ((hexI ((btAt s (k + 1)))))) + ((hexI ((btAt s (k + 2))))))) rfl rfl (by omega)) rfl rfl ?_
                    refine OD.q rfl rfl (Q1.convB (by kernel_rfl) Tryd.underlying5 rfl) rfl rfl ?_
                    refine OD.act rfl rfl rfl rfl (AW.buildSlice [(.int .u8 (((byN (((16 * ((hexI ((btAt s (k + 1)))))) + ((hexI ((btAt s (k + 2)))))))).toNat : Int)) : Value)] Tryd.underlying52 ti5 rfl rfl rfl (by decide) ?_)
                    intro w7 b9 hm6 hb9 hz1 hk1
                    have hS8 := hS7.ext hm6
                    have hl2 := Sl.of_blk (enc := encB) hk1 ([(byN (((16 * ((hexI ((btAt s (k + 1)))))) + ((hexI ((btAt s (k + 2))))))))] : List UInt8) 1 rfl rfl (by unfold maxLen; omega)
                    have hS9 : St (fun _ => False) (fun _ => False) w0 w7 [accR encB 5 1 v_b b, slR encB [((.slice (some ⟨b9, 0, none⟩) 1 1), [(byN (((16 * ((hexI ((btAt s (k + 1)))))) + ((hexI ((btAt s (k + 2))))))))])]] := hS7.newSlB hm6 hb9 hz1 hl2
                    have hCw7 := hCw6.ext hm6
                    refine ⟨.inr hCw7, ?_⟩
                    obtain ⟨g3, f2, hl3, k2⟩ := hS9.accK (i := 0) rfl
                    have he1 := Acc.uniq f1 f2
                    subst he1
                    have f3 := hS9.sl (i := 1) (k := 0) rfl rfl
                    refine OD.act rfl rfl rfl rfl (AW.append f2 Tryd.underlying52 ti5 rfl encB_len encB_one rfl rfl (f3) (by first | omega | (simp only [List.length_append, List.length_cons, List.length_nil]; omega) | (simp; omega)) (by unfold maxLen; first | omega | (simp only [List.length_append, List.length_cons, List.length_nil]; omega) | (simp; omega)) ?_)
                    intro v1 g2 w8 ha1 hm7 hg1 hz2
                    have hS10 : St (fun _ => False) (fun _ => False) w0 w8 [accR encB 5 1 v1 ((b ++ [(byN (((16 * ((hexI ((btAt s (k + 1)))))) + ((hexI ((btAt s (k + 2))))))))])), slR encB [((.slice (some ⟨b9, 0, none⟩) 1 1), [(byN (((16 * ((hexI ((btAt s (k + 1)))))) + ((hexI ((btAt s (k + 2))))))))])]] := k2 _ _ _ _ hm7 ha1 hg1
                    have hCw8 := hCw7.trans hm7
                    refine ⟨.inr hCw8, ?_⟩
                    clear hg1
                    refine OD.q rfl rfl (Q1.assign rfl) rfl rfl ?_
                    refine OD.nil ?_
                    refine r_region ?_
                    refine OL.q (Q1.move rfl) rfl rfl ?_
                    refine OL.q (Q1.addI (((k + 2 : Nat) : Int)) rfl rfl (by omega)) rfl rfl ?_
                    refine OL.q (Q1.assign rfl) rfl rfl ?_
                    refine OL.nil ?_
                    refine r_inBlock ?_
                    refine r_region ?_
                    refine OL.q (Q1.move rfl) rfl rfl ?_
                    refine OL.q (Q1.addI ((((k + 2) + 1 : Nat) : Int)) rfl rfl (by omega)) rfl rfl ?_
                    refine OL.q (Q1.assign rfl) rfl rfl ?_
                    refine OL.nil ?_
                    have hS11 : St (fun _ => False) (fun _ => False) w0 w8 [accR encB 5 1 v1 ((b ++ [(byN (((16 * ((hexI ((btAt s (k + 1)))))) + ((hexI ((btAt s (k + 2))))))))]))] := hS10.sel [0] (by rfl) (by decide)
                    exact (ih1 _ _ _ ⟨(v1 : Value), ((b ++ [(byN (((16 * ((hexI ((btAt s (k + 1)))))) + ((hexI ((btAt s (k + 2))))))))]) : List UInt8), ((k + 2) + 1 : Nat), rfl, rfl, hS11, (by first | exact rq_go hU (by omega) (by omega) (by assumption) | exact rq_esc hU (by omega) (by omega) (by omega) (by assumption) (by assumption) | (exfalso; omega)), (by first | omega | (exfalso; omega)), (by first | omega | (simp only [List.length_append, List.length_cons, List.length_nil]; omega) | (exfalso; omega)), (by first | omega | (exfalso; omega))⟩ (by omega)).sub ⟨rfl, rfl, rfl, trivial⟩
          | false =>
            replace hb4 := of_decide_eq_false hb4.symm
            refine r_cond_f rfl ?_
            refine r_exit rfl ?_
            refine r_seq ?_
            refine r_seq ?_
            refine r_region ?_
            refine OL.q (Q1.move rfl) rfl rfl ?_
            obtain ⟨g1, f1, hl1, k1⟩ := hS1.accK (i := 0) rfl
            refine OL.act rfl rfl (AW.bytesStr Tryd.underlying52 Tryd.underlying5 Tryd.underlying9 rfl (f1.sl) ?_)
            refine OL.act rfl rfl (AW.callF cl12 rfl (r29quote_c (w0 := w1)  b (by first | assumption | omega | decide)) ?_)
            rintro _ w2 ⟨rfl, hm1⟩
            have hS3 := hS1.ext hm1
            have := quote_len b
            refine OL.q (Q1.move rfl) rfl rfl ?_
            refine OL.qb (Q1.neS rfl rfl) rfl rfl ?_
            intro b5 hb5
            refine OL.nil ?_
            cases b5 with
            | true =>
              replace hb5 := nbeq_t hb5
              refine r_cond_t rfl ?_
              refine r_seq ?_
              refine r_region ?_
              refine OL.q (Q1.assign rfl) rfl rfl ?_
              refine OL.q (Q1.assign rfl) rfl rfl ?_
              refine OL.nil ?_
              refine r_ret2 Tryd.func11 rfl rfl rfl ?_
              exact Ret.mk ⟨_, _, rfl, (congrArg strV (by first | (rw [show unqM s = none from by first | exact uq_frame (by omega) | exact uq_none (rq_bad hU (by omega) (by omega) (by omega) (by omega)) | exact uq_no (by omega) (rq_fin hU (by omega)) (by assumption)]; rfl) | (rw [show unqM s = some b from uq_yes (by omega) (rq_fin hU (by omega)) (by assumption)]; rfl) | (exfalso; omega))), ⟨_, (by first | (rw [show unqM s = none from by first | exact uq_frame (by omega) | exact uq_none (rq_bad hU (by omega) (by omega) (by omega) (by omega)) | exact uq_no (by omega) (rq_fin hU (by omega)) (by assumption)]; rfl) | (rw [show unqM s = some b from uq_yes (by omega) (rq_fin hU (by omega)) (by assumption)]; rfl) | (exfalso; omega)), rfl⟩, hS3.mod⟩
            | false =>
              replace hb5 := nbeq_f hb5
              refine r_cond_f rfl ?_
              refine r_skip ?_
              refine r_seq ?_
              refine r_region ?_
              refine OL.q (Q1.move rfl) rfl rfl ?_
              obtain ⟨g2, f2, hl2, k2⟩ := hS3.accK (i := 0) rfl
              refine OL.act rfl rfl (AW.bytesStr Tryd.underlying52 Tryd.underlying5 Tryd.underlying9 rfl (f2.sl) ?_)
              refine OL.q (Q1.assign rfl) rfl rfl ?_
              refine OL.q (Q1.assign rfl) rfl rfl ?_
              refine OL.nil ?_
              refine r_ret2 Tryd.func11 rfl rfl rfl ?_
              exact Ret.mk ⟨_, _, rfl, (congrArg strV (by first | (rw [show unqM s = none from by first | exact uq_frame (by omega) | exact uq_none (rq_bad hU (by omega) (by omega) (by omega) (by omega)) | exact uq_no (by omega) (rq_fin hU (by omega)) (by assumption)]; rfl) | (rw [show unqM s = some b from uq_yes (by omega) (rq_fin hU (by omega)) (by assumption)]; rfl) | (exfalso; omega))), ⟨_, (by first | (rw [show unqM s = none from by first | exact uq_frame (by omega) | exact uq_none (rq_bad hU (by omega) (by omega) (by omega) (by omega)) | exact uq_no (by omega) (rq_fin hU (by omega)) (by assumption)]; rfl) | (rw [show unqM s = some b from uq_yes (by omega) (rq_fin hU (by omega)) (by assumption)]; rfl) | (exfalso; omega)), rfl⟩, hS3.mod⟩
end Go.Proofs
