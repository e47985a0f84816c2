/-
  Walks through the references of chapters 10 and 11.
-/
import Derived.Test.YtjhbobjjkbppkaaWRef
set_option linter.unusedVariables false
set_option linter.unusedSimpArgs false
namespace Go.Proofs
open Go.Ik Go.Ml
set_option maxRecDepth 20000 in
set_option maxHeartbeats 4000000 in
theorem r10less_c {w0 : World}  {a : Itm} {b : Itm} (haw : a.word.length ≤ 1000000) (hbw : b.word.length ≤ 1000000) :
    Calls Try.prog 41 #[.agg #[.int .i64 a.dist, strV a.word], .agg #[.int .i64 b.dist, strV b.word]] w0 (Ret fun rv w1 => (∃ rb : Bool, rb = (itmLess a b) ∧ rv = .bool rb) ∧ Ext w0 w1) := by
  have hE0 : Ext w0 w0 := Mod.refl _ _
  refine calls_enter Try.func41 rfl Try.ntmps41 rfl ?_
  refine r_seq ?_
  refine r_region ?_
  refine OL.act rfl rfl (AW.box [.int .i64 a.dist, strV a.word] rfl rfl ?_)
  intro w1 b1 hm1 hb1 hz1 hk1
  have hE1 := hE0.ext hm1
  have hs1 := hm1.size
  refine OL.act rfl rfl (AW.box [.int .i64 b.dist, strV b.word] rfl rfl ?_)
  intro w2 b2 hm2 hb2 hz2 hk2
  have f1 := hk1.ext hm2
  have hE2 := hE1.ext hm2
  have hs2 := hm2.size
  refine OL.q (Q1.assign rfl) rfl rfl ?_
  refine OL.nil ?_
  refine r_seq ?_
  refine r_region ?_
  refine OL.q (Q1.fieldAddr fl24_0 rfl) rfl rfl ?_
  refine OL.q (Q1.load1 ti3 rfl (fun _ e => e ▸ (f1.cell 0 _ rfl))) rfl rfl ?_
  refine OL.q (Q1.fieldAddr fl24_0 rfl) rfl rfl ?_
  refine OL.q (Q1.load1 ti3 rfl (fun _ e => e ▸ (hk2.cell 0 _ rfl))) rfl rfl ?_
  refine OL.qb (Q1.lt rfl rfl) rfl rfl ?_
  intro b3 hb3
  refine OL.q (Q1.move rfl) rfl rfl ?_
  cases b3 with
  | true =>
    replace hb3 := of_decide_eq_true hb3.symm
    refine OL.sk rfl rfl ?_
    refine OL.sk rfl rfl ?_
    refine OL.sk rfl rfl ?_
    refine OL.sk rfl rfl ?_
    refine OL.sk rfl rfl ?_
    refine OL.sk rfl rfl ?_
    refine OL.sk rfl rfl ?_
    refine OL.sk rfl rfl ?_
    refine OL.sk rfl rfl ?_
    refine OL.sk rfl rfl ?_
    refine OL.sk rfl rfl ?_
    refine OL.sk rfl rfl ?_
    refine OL.sk rfl rfl ?_
    refine OL.q (Q1.pick_t rfl rfl) rfl rfl ?_
    refine OL.q (Q1.assign rfl) rfl rfl ?_
    refine OL.nil ?_
    refine r_ret1 Try.func41 rfl rfl ?_
    exact Ret.mk ⟨⟨_, (by first | exact (itmLess_iff.2 (.inl (by assumption))).symm | exact less_no1 (by assumption) (by assumption) | exact less_dec (by assumption) (by assumption) | exact less_eq (by assumption) (by assumption) | (exfalso; omega)), rfl⟩, hE2⟩
  | false =>
    replace hb3 := of_decide_eq_false hb3.symm
    refine OL.q (Q1.fieldAddr fl24_0 rfl) rfl rfl ?_
    refine OL.q (Q1.load1 ti3 rfl (fun _ e => e ▸ (f1.cell 0 _ rfl))) rfl rfl ?_
    refine OL.q (Q1.fieldAddr fl24_0 rfl) rfl rfl ?_
    refine OL.q (Q1.load1 ti3 rfl (fun _ e => e ▸ (hk2.cell 0 _ rfl))) rfl rfl ?_
    refine OL.qb (Q1.eq rfl rfl) rfl rfl ?_
    intro b4 hb4
    refine OL.q (Q1.move rfl) rfl rfl ?_
    cases b4 with
    | true =>
      replace hb4 := eq_of_beq hb4.symm
      refine OL.q (Q1.fieldAddr fl24_1 rfl) rfl rfl ?_
      refine OL.q (Q1.load1 ti9 rfl (fun _ e => e ▸ (f1.cell 1 _ rfl))) rfl rfl ?_
      refine OL.q (Q1.fieldAddr fl24_1 rfl) rfl rfl ?_
      refine OL.q (Q1.load1 ti9 rfl (fun _ e => e ▸ (hk2.cell 1 _ rfl))) rfl rfl ?_
      refine OL.act rfl rfl (AW.callF cl64 rfl (rcmp_c (w0 := w2)  a.word b.word (by first | assumption | omega) (by first | assumption | omega)) ?_)
      rintro _ w3 ⟨rfl, hm3, hp1⟩
      have f2 := f1.ext hm3
      have f3 := hk2.ext hm3
      have hE3 := hE2.ext hm3
      have hs3 := hm3.size
      refine OL.qb (Q1.lt rfl rfl) rfl rfl ?_
      intro b5 hb5
      refine OL.q (Q1.pick_t rfl rfl) rfl rfl ?_
      refine OL.q (Q1.pick_f rfl rfl) rfl rfl ?_
      refine OL.q (Q1.assign rfl) rfl rfl ?_
      refine OL.nil ?_
      refine r_ret1 Try.func41 rfl rfl ?_
      exact Ret.mk ⟨⟨_, (by first | exact (itmLess_iff.2 (.inl (by assumption))).symm | exact less_no1 (by assumption) (by assumption) | exact less_dec (by assumption) (by assumption) | exact less_eq (by assumption) (by assumption) | (exfalso; omega)), rfl⟩, hE3⟩
    | false =>
      replace hb4 := ne_of_beq_false hb4.symm
      refine OL.sk rfl rfl ?_
      refine OL.sk rfl rfl ?_
      refine OL.sk rfl rfl ?_
      refine OL.sk rfl rfl ?_
      refine OL.sk rfl rfl ?_
      refine OL.sk rfl rfl ?_
      refine OL.q (Q1.pick_f rfl rfl) rfl rfl ?_
      refine OL.q (Q1.pick_f rfl rfl) rfl rfl ?_
      refine OL.q (Q1.assign rfl) rfl rfl ?_
      refine OL.nil ?_
      refine r_ret1 Try.func41 rfl rfl ?_
      exact Ret.mk ⟨⟨_, (by first | exact (itmLess_iff.2 (.inl (by assumption))).symm | exact less_no1 (by assumption) (by assumption) | exact less_dec (by assumption) (by assumption) | exact less_eq (by assumption) (by assumption) | (exfalso; omega)), rfl⟩, hE2⟩
set_option maxRecDepth 20000 in
set_option maxHeartbeats 4000000 in
theorem r10put_c {w0 : World}  {v_l : Value} {l : List Itm} {x : Itm} (h_l : Sl encItm w0 (Iv 0 w0.heap.size) v_l l) (hll : l.length ≤ 100000) (hsil : ∀ x ∈ l, x.word.length ≤ 1000) (hxw : x.word.length ≤ 1000) :
    Calls Try.prog 63 #[v_l, .agg #[.int .i64 x.dist, strV x.word]] w0 (Ret fun rv w1 => (∃ gr, Acc encItm 24 2 w1 gr rv (putI x l) ∧ (gr = 0 ∨ w0.heap.size < gr)) ∧ Ext w0 w1) := by
  have hE0 : Ext w0 w0 := Mod.refl _ _
  have hle1 := h_l.le
  refine calls_enter Try.func63 rfl Try.ntmps63 rfl ?_
  refine r_seq ?_
  refine r_region ?_
  refine OL.act rfl rfl (AW.box [.int .i64 x.dist, strV x.word] rfl rfl ?_)
  intro w1 b1 hm1 hb1 hz1 hk1
  have f1 := h_l.ext hm1
  have hE1 := hE0.ext hm1
  have hs1 := hm1.size
  refine OL.q (Q1.assign rfl) rfl rfl ?_
  refine OL.nil ?_
  refine r_seq ?_
  refine r_region ?_
  refine OL.q (Q1.assign rfl) rfl rfl ?_
  refine OL.nil ?_
  refine r_seq ?_
  refine r_region ?_
  refine OL.q (Q1.assign rfl) rfl rfl ?_
  refine OL.nil ?_
  refine r_seq ?_
  refine r_seq ?_
  refine r_region ?_
  refine OL.q (Q1.assign rfl) rfl rfl ?_
  refine OL.nil ?_
  refine r_block ?_
  refine r_loop (I := fun m E W => ∃ (v_out : Value) (g_out : Nat) (out : List Itm) (inn : Bool) (k : Nat), E = [(0, v_l), (3, ptr b1 0), (5, v_out), (6, .bool inn), (7, .int .i64 (((k : Nat) : Int)))] ∧ m = l.length - k ∧ Ext w0 W ∧ w1.heap.size ≤ W.heap.size ∧ Acc encItm 24 2 W g_out v_out out ∧ (g_out = 0 ∨ w0.heap.size < g_out) ∧ Sl encItm W (Iv 0 w0.heap.size) v_l l ∧ Bk W b1 [.int .i64 x.dist, strV x.word] 24 ∧ b1 + 1 ≠ g_out ∧ (PutI l x k out inn) ∧ (k ≤ l.length)) ?_ ?_
  · refine ⟨_, _, ⟨(.slice none 0 0 : Value), (0 : Nat), ([] : List Itm), (false : Bool), (0 : Nat), rfl, rfl, hE1, Nat.le_refl _, Acc.nil, (by omega), f1, hk1, (by omega), (by exact PutI.start l x), (by omega)⟩, ⟨rfl, rfl, rfl, rfl, rfl, trivial⟩⟩
  · rintro _ _ w2 ⟨v_out, g_out, out, inn, k, rfl, rfl, hE2, hs2, ha1, hg1, f2, f3, hn1, hp, hkl⟩ ih1
    have hpl := hp.len
    refine r_seq ?_
    refine r_seq ?_
    refine r_region ?_
    refine OL.q (Q1.move rfl) rfl rfl ?_
    refine OL.q (Q1.move rfl) rfl rfl ?_
    refine OL.q (Q1.lenSl Try.underlying31 (f2) rfl) rfl rfl ?_
    refine OL.qb (Q1.lt rfl rfl) rfl rfl ?_
    intro b2 hb2
    refine OL.nil ?_
    cases b2 with
    | true =>
      replace hb2 := of_decide_eq_true hb2.symm
      refine r_cond_t rfl ?_
      refine r_skip ?_
      refine r_seq ?_
      refine r_block ?_
      refine r_seq ?_
      refine r_seq ?_
      refine r_draw1 (fun i => Nat.beq i 8) 10 (fun w' => Mod (Mg 0) w2 w') mixed (by kernel_rfl) ?_
      intro w3 hm2
      have hl1 := ha1.lt
      have f4 := ha1.ext hm2
      have f5 := f2.ext hm2
      have f6 := f3.ext hm2
      have hE3 := hE2.ext hm2
      have hs3 := hm2.size
      have hCw3 : Mod (Mg 0) w2 w3 := Mod.ofExt hm2
      refine ⟨hCw3, ?_⟩
      rw [show List.range' 0 (Array.size _) = [0, 1, 2, 3, 4, 5, 6, 7, 8, 9] from rfl]
      refine OD.q rfl rfl (Q1.move rfl) rfl rfl ?_
      cases inn with
      | true =>
        refine OD.q rfl rfl (Q1.not rfl) rfl rfl ?_
        refine OD.q rfl rfl (Q1.move rfl) rfl rfl ?_
        refine OD.sk rfl rfl rfl ?_
        refine OD.sk rfl rfl rfl ?_
        refine OD.sk rfl rfl rfl ?_
        refine OD.sk rfl rfl rfl ?_
        refine OD.sk rfl rfl rfl ?_
        refine OD.sk rfl rfl rfl ?_
        refine OD.q rfl rfl (Q1.pick_f rfl rfl) rfl rfl ?_
        refine OD.nil ?_
        refine r_cond_f rfl ?_
        refine r_skip ?_
        refine r_region ?_
        refine OL.q (Q1.move rfl) rfl rfl ?_
        refine OL.q (Q1.move rfl) rfl rfl ?_
        refine OL.q (Q1.move rfl) rfl rfl ?_
        obtain ⟨x1, b3, o1, hx1, hr1, hl2, hu1, hw1⟩ := Sl.at' (P := Try.prog) f5 Try.underlying31 ti24 encItm_len (k := .i64) (n := ((k : Nat) : Int)) (k) (by omega) (by first | assumption | omega)
        refine OL.q (Q1.indexAddr rfl rfl hr1) rfl rfl ?_
        refine OL.q (Q1.loadN ti24 rfl (fun _ e => e ▸ hw1) rfl) rfl rfl ?_
        refine OL.act rfl rfl (AW.buildSlice [(.agg #[.int .i64 x1.dist, strV x1.word] : Value)] Try.underlying31 ti24 rfl rfl rfl (by decide) ?_)
        intro w4 b4 hm3 hb3 hz2 hk2
        have hl3 := f4.lt
        have f7 := f4.ext hm3
        have f8 := f5.ext hm3
        have f9 := f6.ext hm3
        have hE4 := hE3.ext hm3
        have hs4 := hm3.size
        have hl4 := Sl.of_blk (enc := encItm) hk2 ([x1] : List Itm) 1 rfl rfl (by unfold maxLen; omega)
        have hl5 := f7.lt
        refine OL.act rfl rfl (AW.append f7 Try.underlying31 ti24 rfl encItm_len encItm_one rfl rfl (hl4) (by first | omega | (simp only [List.length_append, List.length_cons, List.length_nil]; omega) | (simp; omega)) (by unfold maxLen; first | omega | (simp only [List.length_append, List.length_cons, List.length_nil]; omega) | (simp; omega)) ?_)
        intro v1 g1 w5 ha2 hm4 hg2 hz3
        have hl6 := f7.lt
        have f10 := f8.keepG hm4 (by omega)
        have f11 := f9.keepG hm4 (by omega)
        have f12 := hl4.keepG hm4 (by omega)
        have hE5 := Ext.thenG hE4 hm4 (by omega)
        have hs5 := hm4.size
        refine OL.q (Q1.assign rfl) rfl rfl ?_
        refine OL.nil ?_
        refine r_inBlock ?_
        refine r_region ?_
        refine OL.q (Q1.move rfl) rfl rfl ?_
        refine OL.q (Q1.addI (((k + 1 : Nat) : Int)) rfl rfl (by omega)) rfl rfl ?_
        refine OL.q (Q1.assign rfl) rfl rfl ?_
        refine OL.nil ?_
        exact (ih1 _ _ _ ⟨(v1 : Value), (g1 : Nat), ((out ++ [x1]) : List Itm), (true : Bool), (k + 1 : Nat), rfl, rfl, hE5, (by omega), ha2, (by omega), f10, f11, (by omega), (by first | exact hp.next (by assumption) | exact hp.here (by assumption) (by assumption) | exact hp.past (by assumption) (by assumption) | (exfalso; omega)), (by first | omega | (exfalso; omega))⟩ (by omega)).sub ⟨rfl, rfl, rfl, rfl, rfl, trivial⟩
      | false =>
        refine OD.q rfl rfl (Q1.not rfl) rfl rfl ?_
        refine OD.q rfl rfl (Q1.move rfl) rfl rfl ?_
        refine OD.q rfl rfl (Q1.loadN ti24 rfl (fun _ hc => f3.row.keepG hc (by omega)) rfl) rfl rfl ?_
        refine OD.q rfl rfl (Q1.move rfl) rfl rfl ?_
        refine OD.q rfl rfl (Q1.move rfl) rfl rfl ?_
        obtain ⟨x1, b3, o1, hx1, hr1, hl2, hu1, hw1⟩ := Sl.at' (P := Try.prog) f2 Try.underlying31 ti24 encItm_len (k := .i64) (n := ((k : Nat) : Int)) (k) (by omega) (by first | assumption | omega)
        refine OD.q rfl rfl (Q1.indexAddr rfl rfl hr1) rfl rfl ?_
        have hx1l := hsil _ (List.mem_of_getElem? hx1)
        refine OD.q rfl rfl (Q1.loadN ti24 rfl (fun _ hc => hw1.keepG hc (by omega)) rfl) rfl rfl ?_
        refine OD.act rfl rfl rfl rfl (AW.callF cl41 rfl (r10less_c (w0 := w3) (a := x) (b := x1)  (by first | assumption | omega) (by first | assumption | omega)) ?_)
        rintro _ w4 ⟨⟨b4, hb3, rfl⟩, hm3⟩
        have hl3 := f4.lt
        have f7 := f4.ext hm3
        have f8 := f5.ext hm3
        have f9 := f6.ext hm3
        have hE4 := hE3.ext hm3
        have hs4 := hm3.size
        have hCw4 := hCw3.ext hm3
        refine ⟨.inr hCw4, ?_⟩
        refine OD.q rfl rfl (Q1.pick_t rfl rfl) rfl rfl ?_
        refine OD.nil ?_
        cases b4 with
        | true =>
          replace hb3 := hb3.symm
          refine r_cond_t rfl ?_
          refine r_seq ?_
          refine r_region ?_
          refine OL.q (Q1.move rfl) rfl rfl ?_
          refine OL.q (Q1.loadN ti24 rfl (fun _ e => e ▸ f9.row) rfl) rfl rfl ?_
          refine OL.act rfl rfl (AW.buildSlice [(.agg #[.int .i64 x.dist, strV x.word] : Value)] Try.underlying31 ti24 rfl rfl rfl (by decide) ?_)
          intro w5 b5 hm4 hb4 hz2 hk2
          have hl4 := f7.lt
          have f10 := f7.ext hm4
          have f11 := f8.ext hm4
          have f12 := f9.ext hm4
          have hE5 := hE4.ext hm4
          have hs5 := hm4.size
          have hl5 := Sl.of_blk (enc := encItm) hk2 ([x] : List Itm) 1 rfl rfl (by unfold maxLen; omega)
          have hl6 := f10.lt
          refine OL.act rfl rfl (AW.append f10 Try.underlying31 ti24 rfl encItm_len encItm_one rfl rfl (hl5) (by first | omega | (simp only [List.length_append, List.length_cons, List.length_nil]; omega) | (simp; omega)) (by unfold maxLen; first | omega | (simp only [List.length_append, List.length_cons, List.length_nil]; omega) | (simp; omega)) ?_)
          intro v1 g1 w6 ha2 hm5 hg2 hz3
          have hl7 := f10.lt
          have f13 := f11.keepG hm5 (by omega)
          have f14 := f12.keepG hm5 (by omega)
          have f15 := hl5.keepG hm5 (by omega)
          have hE6 := Ext.thenG hE5 hm5 (by omega)
          have hs6 := hm5.size
          refine OL.q (Q1.assign rfl) rfl rfl ?_
          refine OL.nil ?_
          refine r_region ?_
          refine OL.q (Q1.assign rfl) rfl rfl ?_
          refine OL.nil ?_
          refine r_region ?_
          refine OL.q (Q1.move rfl) rfl rfl ?_
          refine OL.q (Q1.move rfl) rfl rfl ?_
          refine OL.q (Q1.move rfl) rfl rfl ?_
          obtain ⟨x2, b6, o2, hx2, hr2, hl8, hu2, hw2⟩ := Sl.at' (P := Try.prog) f13 Try.underlying31 ti24 encItm_len (k := .i64) (n := ((k : Nat) : Int)) (k) (by omega) (by first | assumption | omega)
          obtain rfl : x1 = x2 := Option.some.inj (hx1.symm.trans hx2)
          refine OL.q (Q1.indexAddr rfl rfl hr2) rfl rfl ?_
          refine OL.q (Q1.loadN ti24 rfl (fun _ e => e ▸ hw2) rfl) rfl rfl ?_
          refine OL.act rfl rfl (AW.buildSlice [(.agg #[.int .i64 x1.dist, strV x1.word] : Value)] Try.underlying31 ti24 rfl rfl rfl (by decide) ?_)
          intro w7 b7 hm6 hb5 hz4 hk3
          have hl9 := ha2.lt
          have f16 := ha2.ext hm6
          have f17 := f13.ext hm6
          have f18 := f14.ext hm6
          have f19 := f15.ext hm6
          have hE7 := hE6.ext hm6
          have hs7 := hm6.size
          have hl10 := Sl.of_blk (enc := encItm) hk3 ([x1] : List Itm) 1 rfl rfl (by unfold maxLen; omega)
          have hl11 := f16.lt
          refine OL.act rfl rfl (AW.append f16 Try.underlying31 ti24 rfl encItm_len encItm_one rfl rfl (hl10) (by first | omega | (simp only [List.length_append, List.length_cons, List.length_nil]; omega) | (simp; omega)) (by unfold maxLen; first | omega | (simp only [List.length_append, List.length_cons, List.length_nil]; omega) | (simp; omega)) ?_)
          intro v2 g2 w8 ha3 hm7 hg3 hz5
          have hl12 := f16.lt
          have f20 := f17.keepG hm7 (by omega)
          have f21 := f18.keepG hm7 (by omega)
          have f22 := f19.keepG hm7 (by omega)
          have f23 := hl10.keepG hm7 (by omega)
          have hE8 := Ext.thenG hE7 hm7 (by omega)
          have hs8 := hm7.size
          refine OL.q (Q1.assign rfl) rfl rfl ?_
          refine OL.nil ?_
          refine r_inBlock ?_
          refine r_region ?_
          refine OL.q (Q1.move rfl) rfl rfl ?_
          refine OL.q (Q1.addI (((k + 1 : Nat) : Int)) rfl rfl (by omega)) rfl rfl ?_
          refine OL.q (Q1.assign rfl) rfl rfl ?_
          refine OL.nil ?_
          exact (ih1 _ _ _ ⟨(v2 : Value), (g2 : Nat), (((out ++ [x]) ++ [x1]) : List Itm), (true : Bool), (k + 1 : Nat), rfl, rfl, hE8, (by omega), ha3, (by omega), f20, f21, (by omega), (by first | exact hp.next (by assumption) | exact hp.here (by assumption) (by assumption) | exact hp.past (by assumption) (by assumption) | (exfalso; omega)), (by first | omega | (exfalso; omega))⟩ (by omega)).sub ⟨rfl, rfl, rfl, rfl, rfl, trivial⟩
        | false =>
          replace hb3 := hb3.symm
          refine r_cond_f rfl ?_
          refine r_skip ?_
          refine r_region ?_
          refine OL.q (Q1.move rfl) rfl rfl ?_
          refine OL.q (Q1.move rfl) rfl rfl ?_
          refine OL.q (Q1.move rfl) rfl rfl ?_
          obtain ⟨x2, b5, o2, hx2, hr2, hl4, hu2, hw2⟩ := Sl.at' (P := Try.prog) f8 Try.underlying31 ti24 encItm_len (k := .i64) (n := ((k : Nat) : Int)) (k) (by omega) (by first | assumption | omega)
          obtain rfl : x1 = x2 := Option.some.inj (hx1.symm.trans hx2)
          refine OL.q (Q1.indexAddr rfl rfl hr2) rfl rfl ?_
          refine OL.q (Q1.loadN ti24 rfl (fun _ e => e ▸ hw2) rfl) rfl rfl ?_
          refine OL.act rfl rfl (AW.buildSlice [(.agg #[.int .i64 x1.dist, strV x1.word] : Value)] Try.underlying31 ti24 rfl rfl rfl (by decide) ?_)
          intro w5 b6 hm4 hb4 hz2 hk2
          have hl5 := f7.lt
          have f10 := f7.ext hm4
          have f11 := f8.ext hm4
          have f12 := f9.ext hm4
          have hE5 := hE4.ext hm4
          have hs5 := hm4.size
          have hl6 := Sl.of_blk (enc := encItm) hk2 ([x1] : List Itm) 1 rfl rfl (by unfold maxLen; omega)
          have hl7 := f10.lt
          refine OL.act rfl rfl (AW.append f10 Try.underlying31 ti24 rfl encItm_len encItm_one rfl rfl (hl6) (by first | omega | (simp only [List.length_append, List.length_cons, List.length_nil]; omega) | (simp; omega)) (by unfold maxLen; first | omega | (simp only [List.length_append, List.length_cons, List.length_nil]; omega) | (simp; omega)) ?_)
          intro v1 g1 w6 ha2 hm5 hg2 hz3
          have hl8 := f10.lt
          have f13 := f11.keepG hm5 (by omega)
          have f14 := f12.keepG hm5 (by omega)
          have f15 := hl6.keepG hm5 (by omega)
          have hE6 := Ext.thenG hE5 hm5 (by omega)
          have hs6 := hm5.size
          refine OL.q (Q1.assign rfl) rfl rfl ?_
          refine OL.nil ?_
          refine r_inBlock ?_
          refine r_region ?_
          refine OL.q (Q1.move rfl) rfl rfl ?_
          refine OL.q (Q1.addI (((k + 1 : Nat) : Int)) rfl rfl (by omega)) rfl rfl ?_
          refine OL.q (Q1.assign rfl) rfl rfl ?_
          refine OL.nil ?_
          exact (ih1 _ _ _ ⟨(v1 : Value), (g1 : Nat), ((out ++ [x1]) : List Itm), (false : Bool), (k + 1 : Nat), rfl, rfl, hE6, (by omega), ha2, (by omega), f13, f14, (by omega), (by first | exact hp.next (by assumption) | exact hp.here (by assumption) (by assumption) | exact hp.past (by assumption) (by assumption) | (exfalso; omega)), (by first | omega | (exfalso; omega))⟩ (by omega)).sub ⟨rfl, rfl, rfl, rfl, rfl, trivial⟩
    | false =>
      replace hb2 := of_decide_eq_false hb2.symm
      refine r_cond_f rfl ?_
      refine r_exit rfl ?_
      refine r_seq ?_
      refine r_seq ?_
      refine r_region ?_
      refine OL.q (Q1.move rfl) rfl rfl ?_
      cases inn with
      | true =>
        refine OL.q (Q1.not rfl) rfl rfl ?_
        refine OL.nil ?_
        refine r_cond_f rfl ?_
        refine r_skip ?_
        refine r_seq ?_
        refine r_region ?_
        refine OL.q (Q1.move rfl) rfl rfl ?_
        refine OL.q (Q1.assign rfl) rfl rfl ?_
        refine OL.nil ?_
        refine r_ret1 Try.func63 rfl rfl ?_
        exact Ret.mk ⟨⟨_, Acc.cast ha1 (by first | exact hp.endT (by omega) | exact hp.endF (by omega) | (exfalso; omega)), by omega⟩, hE2⟩
      | false =>
        refine OL.q (Q1.not rfl) rfl rfl ?_
        refine OL.nil ?_
        refine r_cond_t rfl ?_
        refine r_region ?_
        refine OL.q (Q1.move rfl) rfl rfl ?_
        refine OL.q (Q1.loadN ti24 rfl (fun _ e => e ▸ f3.row) rfl) rfl rfl ?_
        refine OL.act rfl rfl (AW.buildSlice [(.agg #[.int .i64 x.dist, strV x.word] : Value)] Try.underlying31 ti24 rfl rfl rfl (by decide) ?_)
        intro w3 b3 hm2 hb3 hz2 hk2
        have hl1 := ha1.lt
        have f4 := ha1.ext hm2
        have f5 := f2.ext hm2
        have f6 := f3.ext hm2
        have hE3 := hE2.ext hm2
        have hs3 := hm2.size
        have hl2 := Sl.of_blk (enc := encItm) hk2 ([x] : List Itm) 1 rfl rfl (by unfold maxLen; omega)
        have hl3 := f4.lt
        refine OL.act rfl rfl (AW.append f4 Try.underlying31 ti24 rfl encItm_len encItm_one rfl rfl (hl2) (by first | omega | (simp only [List.length_append, List.length_cons, List.length_nil]; omega) | (simp; omega)) (by unfold maxLen; first | omega | (simp only [List.length_append, List.length_cons, List.length_nil]; omega) | (simp; omega)) ?_)
        intro v1 g1 w4 ha2 hm3 hg2 hz3
        have hl4 := f4.lt
        have f7 := f5.keepG hm3 (by omega)
        have f8 := f6.keepG hm3 (by omega)
        have f9 := hl2.keepG hm3 (by omega)
        have hE4 := Ext.thenG hE3 hm3 (by omega)
        have hs4 := hm3.size
        refine OL.q (Q1.assign rfl) rfl rfl ?_
        refine OL.nil ?_
        refine r_seq ?_
        refine r_region ?_
        refine OL.q (Q1.move rfl) rfl rfl ?_
        refine OL.q (Q1.assign rfl) rfl rfl ?_
        refine OL.nil ?_
        refine r_ret1 Try.func63 rfl rfl ?_
        exact Ret.mk ⟨⟨_, Acc.cast ha2 (by first | exact hp.endT (by omega) | exact hp.endF (by omega) | (exfalso; omega)), by omega⟩, hE4⟩
set_option maxRecDepth 20000 in
set_option maxHeartbeats 4000000 in
theorem r10all_c {w0 : World}  {v_words : Value} {words : List Str} (s : Str) (k : Int) (h_words : Sl encS w0 (Iv 0 w0.heap.size) v_words words) (h_k : I64 k) (hwl : words.length ≤ 1000) (hws : ∀ w ∈ words, w.length ≤ 1000) (hsl : s.length ≤ 1000) :
    Calls Try.prog 40 #[v_words, strV s, .int .i64 k] w0 (Ret fun rv w1 => (∃ gr, Acc encItm 24 2 w1 gr rv (refAll words s k) ∧ (gr = 0 ∨ w0.heap.size < gr)) ∧ Ext w0 w1) := by
  have hE0 : Ext w0 w0 := Mod.refl _ _
  have hle1 := h_words.le
  refine calls_enter Try.func40 rfl Try.ntmps40 rfl ?_
  refine r_seq ?_
  refine r_region ?_
  refine OL.q (Q1.assign rfl) rfl rfl ?_
  refine OL.nil ?_
  refine r_seq ?_
  refine r_region ?_
  refine OL.q (Q1.assign rfl) rfl rfl ?_
  refine OL.nil ?_
  refine r_seq ?_
  refine r_seq ?_
  refine r_region ?_
  refine OL.q (Q1.assign rfl) rfl rfl ?_
  refine OL.nil ?_
  refine r_block ?_
  refine r_loop (I := fun m E W => ∃ (v_out : Value) (g_out : Nat) (out : List Itm) (i : Nat), E = [(0, v_words), (1, strV s), (2, .int .i64 k), (7, v_out), (8, .int .i64 (((i : Nat) : Int)))] ∧ m = words.length - i ∧ Ext w0 W ∧ w0.heap.size ≤ W.heap.size ∧ Acc encItm 24 2 W g_out v_out out ∧ (g_out = 0 ∨ w0.heap.size < g_out) ∧ Sl encS W (Iv 0 w0.heap.size) v_words words ∧ (out = (words.take i).foldl (refStep s k) []) ∧ (out.length ≤ i) ∧ (∀ x ∈ out, x.word.length ≤ 1000) ∧ (i ≤ words.length)) ?_ ?_
  · refine ⟨_, _, ⟨(.slice none 0 0 : Value), (0 : Nat), ([] : List Itm), (0 : Nat), rfl, rfl, hE0, Nat.le_refl _, Acc.nil, (by omega), h_words, (by rfl), (by simp), (by simp), (by omega)⟩, ⟨rfl, rfl, rfl, rfl, rfl, trivial⟩⟩
  · rintro _ _ w1 ⟨v_out, g_out, out, i, rfl, rfl, hE1, hs1, ha1, hg1, f1, ho, hol, hos, hil⟩ ih1
    refine r_seq ?_
    refine r_seq ?_
    refine r_region ?_
    refine OL.q (Q1.move rfl) rfl rfl ?_
    refine OL.q (Q1.move rfl) rfl rfl ?_
    refine OL.q (Q1.lenSl Try.underlying22 (f1) rfl) rfl rfl ?_
    refine OL.qb (Q1.lt rfl rfl) rfl rfl ?_
    intro b1 hb1
    refine OL.nil ?_
    cases b1 with
    | true =>
      replace hb1 := of_decide_eq_true hb1.symm
      refine r_cond_t rfl ?_
      refine r_skip ?_
      refine r_seq ?_
      refine r_block ?_
      refine r_seq ?_
      refine r_region ?_
      refine OL.q (Q1.move rfl) rfl rfl ?_
      refine OL.q (Q1.move rfl) rfl rfl ?_
      obtain ⟨x1, b2, o1, hx1, hr1, hl1, hu1, hw1⟩ := Sl.at' (P := Try.prog) f1 Try.underlying22 ti9 encS_len (k := .i64) (n := ((i : Nat) : Int)) (i) (by omega) (by first | assumption | omega)
      refine OL.q (Q1.indexAddr rfl rfl hr1) rfl rfl ?_
      refine OL.q (Q1.load1 ti9 rfl (fun _ e => e ▸ hw1)) rfl rfl ?_
      have hx1l := hws _ (List.mem_of_getElem? hx1)
      refine OL.q (Q1.move rfl) rfl rfl ?_
      refine OL.act rfl rfl (AW.callF cl62 rfl (rdist_c (w0 := w1)  x1 s (by first | assumption | omega) (by first | assumption | omega)) ?_)
      rintro _ w2 ⟨rfl, hm1⟩
      have hl2 := ha1.lt
      have f2 := ha1.ext hm1
      have f3 := f1.ext hm1
      have hE2 := hE1.ext hm1
      have hs2 := hm1.size
      have := distT_rng x1 s
      refine OL.q (Q1.assign rfl) rfl rfl ?_
      refine OL.nil ?_
      refine r_seq ?_
      refine r_region ?_
      refine OL.q (Q1.move rfl) rfl rfl ?_
      refine OL.qb (Q1.ge rfl rfl) rfl rfl ?_
      intro b3 hb2
      refine OL.q (Q1.move rfl) rfl rfl ?_
      cases b3 with
      | true =>
        replace hb2 := of_decide_eq_true hb2.symm
        refine OL.q (Q1.move rfl) rfl rfl ?_
        refine OL.q (Q1.move rfl) rfl rfl ?_
        refine OL.qb (Q1.le rfl rfl) rfl rfl ?_
        intro b4 hb3
        refine OL.q (Q1.pick_t rfl rfl) rfl rfl ?_
        refine OL.nil ?_
        cases b4 with
        | true =>
          replace hb3 := of_decide_eq_true hb3.symm
          refine r_cond_t rfl ?_
          refine r_region ?_
          refine OL.q (Q1.move rfl) rfl rfl ?_
          refine OL.q (Q1.move rfl) rfl rfl ?_
          refine OL.q (Q1.move rfl) rfl rfl ?_
          refine OL.q (Q1.move rfl) rfl rfl ?_
          obtain ⟨x2, b5, o2, hx2, hr2, hl3, hu2, hw2⟩ := Sl.at' (P := Try.prog) f3 Try.underlying22 ti9 encS_len (k := .i64) (n := ((i : Nat) : Int)) (i) (by omega) (by first | assumption | omega)
          obtain rfl : x1 = x2 := Option.some.inj (hx1.symm.trans hx2)
          refine OL.q (Q1.indexAddr rfl rfl hr2) rfl rfl ?_
          refine OL.q (Q1.load1 ti9 rfl (fun _ e => e ▸ hw2)) rfl rfl ?_
          refine OL.q (Q1.build (vs := #[(0, (.int .i64 ((distT x1 s)) : Value)), (1, strV x1)]) (v := .agg #[.int .i64 ((distT x1 s)), strV x1]) rfl (fun _ => by kernel_rfl)) rfl rfl ?_
          refine OL.act rfl rfl (AW.callF cl63 rfl (r10put_c (w0 := w2) (l := out) (x := (Itm.mk ((distT x1 s)) x1))  ((f2.sl).iv (Nat.zero_le _) (by omega)) (by first | assumption | omega) (by first | assumption) (by first | assumption | omega)) ?_)
          rintro v1 w3 ⟨⟨gr1, h1, hg2⟩, hm2⟩
          have hl4 := f2.lt
          have f4 := f2.ext hm2
          have f5 := f3.ext hm2
          have hE3 := hE2.ext hm2
          have hs3 := hm2.size
          have hle_1 := h1.le
          have hlt_1 := h1.lt
          refine OL.q (Q1.assign rfl) rfl rfl ?_
          refine OL.nil ?_
          refine r_inBlock ?_
          refine r_region ?_
          refine OL.q (Q1.move rfl) rfl rfl ?_
          refine OL.q (Q1.addI (((i + 1 : Nat) : Int)) rfl rfl (by omega)) rfl rfl ?_
          refine OL.q (Q1.assign rfl) rfl rfl ?_
          refine OL.nil ?_
          exact (ih1 _ _ _ ⟨(v1 : Value), (gr1 : Nat), ((putI ((Itm.mk ((distT x1 s)) x1)) out) : List Itm), (i + 1 : Nat), rfl, rfl, hE3, (by omega), h1, (by omega), f5, (by first | (rw [refAll_take hx1, ← ho, refStep_yes (by omega) (by omega)]) | (rw [refAll_take hx1, ← ho, refStep_no (by omega)]) | (exfalso; omega)), (by first | omega | (rw [putI_len]; omega) | (exfalso; omega)), (by first | exact hos | exact put_short hos (by omega) | (exfalso; omega)), (by first | omega | (exfalso; omega))⟩ (by omega)).sub ⟨rfl, rfl, rfl, rfl, rfl, trivial⟩
        | false =>
          replace hb3 := of_decide_eq_false hb3.symm
          refine r_cond_f rfl ?_
          refine r_skip ?_
          refine r_inBlock ?_
          refine r_region ?_
          refine OL.q (Q1.move rfl) rfl rfl ?_
          refine OL.q (Q1.addI (((i + 1 : Nat) : Int)) rfl rfl (by omega)) rfl rfl ?_
          refine OL.q (Q1.assign rfl) rfl rfl ?_
          refine OL.nil ?_
          exact (ih1 _ _ _ ⟨(v_out : Value), (g_out : Nat), (out : List Itm), (i + 1 : Nat), rfl, rfl, hE2, (by omega), f2, (by omega), f3, (by first | (rw [refAll_take hx1, ← ho, refStep_yes (by omega) (by omega)]) | (rw [refAll_take hx1, ← ho, refStep_no (by omega)]) | (exfalso; omega)), (by first | omega | (rw [putI_len]; omega) | (exfalso; omega)), (by first | exact hos | exact put_short hos (by omega) | (exfalso; omega)), (by first | omega | (exfalso; omega))⟩ (by omega)).sub ⟨rfl, rfl, rfl, rfl, rfl, trivial⟩
      | false =>
        replace hb2 := of_decide_eq_false hb2.symm
        refine OL.sk rfl rfl ?_
        refine OL.sk rfl rfl ?_
        refine OL.sk rfl rfl ?_
        refine OL.q (Q1.pick_f rfl rfl) rfl rfl ?_
        refine OL.nil ?_
        refine r_cond_f rfl ?_
        refine r_skip ?_
        refine r_inBlock ?_
        refine r_region ?_
        refine OL.q (Q1.move rfl) rfl rfl ?_
        refine OL.q (Q1.addI (((i + 1 : Nat) : Int)) rfl rfl (by omega)) rfl rfl ?_
        refine OL.q (Q1.assign rfl) rfl rfl ?_
        refine OL.nil ?_
        exact (ih1 _ _ _ ⟨(v_out : Value), (g_out : Nat), (out : List Itm), (i + 1 : Nat), rfl, rfl, hE2, (by omega), f2, (by omega), f3, (by first | (rw [refAll_take hx1, ← ho, refStep_yes (by omega) (by omega)]) | (rw [refAll_take hx1, ← ho, refStep_no (by omega)]) | (exfalso; omega)), (by first | omega | (rw [putI_len]; omega) | (exfalso; omega)), (by first | exact hos | exact put_short hos (by omega) | (exfalso; omega)), (by first | omega | (exfalso; omega))⟩ (by omega)).sub ⟨rfl, rfl, rfl, rfl, rfl, trivial⟩
    | false =>
      replace hb1 := of_decide_eq_false hb1.symm
      refine r_cond_f rfl ?_
      refine r_exit rfl ?_
      refine r_seq ?_
      refine r_region ?_
      refine OL.q (Q1.move rfl) rfl rfl ?_
      refine OL.q (Q1.assign rfl) rfl rfl ?_
      refine OL.nil ?_
      refine r_ret1 Try.func40 rfl rfl ?_
      exact Ret.mk ⟨⟨_, Acc.cast ha1 (by first | (rw [ho, List.take_of_length_le (by omega)]; rfl) | (exfalso; omega)), by omega⟩, hE1⟩
set_option maxRecDepth 20000 in
set_option maxHeartbeats 4000000 in
theorem r11next_c {w0 : World}  {v_words : Value} {words : List Str} (s : Str) (k : Int) (first : Bool) {after : Itm} (batch : Int) (h_words : Sl encS w0 (Iv 0 w0.heap.size) v_words words) (h_k : I64 k) (h_batch : I64 batch) (hwl : words.length ≤ 1000) (hws : ∀ w ∈ words, w.length ≤ 1000) (hsl : s.length ≤ 1000) (haw : after.word.length ≤ 1000) :
    Calls Try.prog 16 #[v_words, strV s, .int .i64 k, .bool first, .agg #[.int .i64 after.dist, strV after.word], .int .i64 batch] w0 (Ret fun rv w1 => ∃ u0 u1, rv = .tuple #[u0, u1] ∧ Sl encItm w1 (Iv w0.heap.size w1.heap.size) u0 ((nextR words s k first after batch).1) ∧ (∃ rb : Bool, rb = ((nextR words s k first after batch).2) ∧ u1 = .bool rb) ∧ Ext w0 w1) := by
  have hle_words := h_words.le
  have hS0 := St.start0 w0
  refine calls_enter Try.func16 rfl Try.ntmps16 rfl ?_
  refine r_seq ?_
  refine r_region ?_
  refine OL.act rfl rfl (AW.box [.int .i64 after.dist, strV after.word] rfl rfl ?_)
  intro w1 b1 hm1 hb1 hz1 hk1
  have hS1 := hS0.ext hm1
  have hS2 : St (fun _ => False) (fun _ => False) w0 w1 [bkR b1 [.int .i64 after.dist, strV after.word] 24] := hS0.newBk hm1 hb1 hk1
  refine OL.q (Q1.assign rfl) rfl rfl ?_
  refine OL.q (Q1.assign rfl) rfl rfl ?_
  refine OL.nil ?_
  refine r_seq ?_
  refine r_seq ?_
  refine r_region ?_
  refine OL.q (Q1.move rfl) rfl rfl ?_
  refine OL.act rfl rfl (AW.callF cl39 rfl (rasked_c (w0 := w1)  s (by first | assumption | omega)) ?_)
  rintro _ w2 ⟨⟨b2, hb2, rfl⟩, hm2⟩
  have hS3 := hS2.ext hm2
  cases b2 with
  | true =>
    replace hb2 := hb2.symm
    refine OL.q (Q1.not rfl) rfl rfl ?_
    refine OL.q (Q1.move rfl) rfl rfl ?_
    refine OL.q (Q1.move rfl) rfl rfl ?_
    refine OL.qb (Q1.lt rfl rfl) rfl rfl ?_
    intro b3 hb3
    refine OL.q (Q1.pick_f rfl rfl) rfl rfl ?_
    refine OL.q (Q1.move rfl) rfl rfl ?_
    cases b3 with
    | true =>
      replace hb3 := of_decide_eq_true hb3.symm
      refine OL.sk rfl rfl ?_
      refine OL.sk rfl rfl ?_
      refine OL.q (Q1.pick_t rfl rfl) rfl rfl ?_
      refine OL.nil ?_
      refine r_cond_t rfl ?_
      refine r_seq ?_
      refine r_region ?_
      refine OL.q (Q1.assign rfl) rfl rfl ?_
      refine OL.q (Q1.assign rfl) rfl rfl ?_
      refine OL.nil ?_
      refine r_ret2 Try.func16 rfl rfl rfl ?_
      exact Ret.mk ⟨_, _, rfl, (Sl.cast Sl.nil (by first | exact nextR_no (by omega) | exact nextR_no2 (by assumption) | exact nextR_noB (by omega) | exact nextR_noB2 (by assumption) | exact nextR_l hr (by omega) (by assumption) (by omega) | exact nextR_b hr (by omega) (by assumption) (by omega) (by assumption) | (exfalso; omega))), ⟨_, (by first | exact nextR_no (by omega) | exact nextR_no2 (by assumption) | exact nextR_noB (by omega) | exact nextR_noB2 (by assumption) | exact nextR_l hr (by omega) (by assumption) (by omega) | exact nextR_b hr (by omega) (by assumption) (by omega) (by assumption) | (exfalso; omega)), rfl⟩, hS3.mod⟩
    | false =>
      replace hb3 := of_decide_eq_false hb3.symm
      refine OL.q (Q1.move rfl) rfl rfl ?_
      refine OL.qb (Q1.gt rfl rfl) rfl rfl ?_
      intro b4 hb4
      refine OL.q (Q1.pick_f rfl rfl) rfl rfl ?_
      refine OL.nil ?_
      cases b4 with
      | true =>
        replace hb4 := of_decide_eq_true hb4.symm
        refine r_cond_t rfl ?_
        refine r_seq ?_
        refine r_region ?_
        refine OL.q (Q1.assign rfl) rfl rfl ?_
        refine OL.q (Q1.assign rfl) rfl rfl ?_
        refine OL.nil ?_
        refine r_ret2 Try.func16 rfl rfl rfl ?_
        exact Ret.mk ⟨_, _, rfl, (Sl.cast Sl.nil (by first | exact nextR_no (by omega) | exact nextR_no2 (by assumption) | exact nextR_noB (by omega) | exact nextR_noB2 (by assumption) | exact nextR_l hr (by omega) (by assumption) (by omega) | exact nextR_b hr (by omega) (by assumption) (by omega) (by assumption) | (exfalso; omega))), ⟨_, (by first | exact nextR_no (by omega) | exact nextR_no2 (by assumption) | exact nextR_noB (by omega) | exact nextR_noB2 (by assumption) | exact nextR_l hr (by omega) (by assumption) (by omega) | exact nextR_b hr (by omega) (by assumption) (by omega) (by assumption) | (exfalso; omega)), rfl⟩, hS3.mod⟩
      | false =>
        replace hb4 := of_decide_eq_false hb4.symm
        refine r_cond_f rfl ?_
        refine r_skip ?_
        refine r_seq ?_
        refine r_region ?_
        refine OL.q (Q1.move rfl) rfl rfl ?_
        refine OL.q (Q1.move rfl) rfl rfl ?_
        refine OL.q (Q1.move rfl) rfl rfl ?_
        have f1 := hS3.out h_words (fun _ _ h => h)
        refine OL.act rfl rfl (AW.callF cl40 rfl (r10all_c (w0 := w2) (words := words) s (k) (f1.iv (Nat.zero_le _) hS3.mod.size) (by first | omega | assumption) (by first | assumption | omega) (by first | assumption) (by first | assumption | omega)) ?_)
        rintro v1 w3 ⟨⟨gr1, h1, hg1⟩, hm3⟩
        have hS4 := hS3.ext hm3
        have hS5 : St (fun _ => False) (fun _ => False) w0 w3 [bkR b1 [.int .i64 after.dist, strV after.word] 24, accR encItm 24 2 v1 ((refAll words s k))] := hS3.newAcc hm3 h1 hg1
        clear hg1
        have hle_1 := h1.le
        have := refAll_len words s k
        have := refAll_shortE words s k hws
        have hsa := refAll_shortE words s k hws
        have hal := refAll_len words s k
        refine OL.q (Q1.assign rfl) rfl rfl ?_
        refine OL.nil ?_
        refine r_seq ?_
        refine r_region ?_
        refine OL.q (Q1.assign rfl) rfl rfl ?_
        refine OL.nil ?_
        refine r_seq ?_
        refine r_seq ?_
        refine r_region ?_
        refine OL.q (Q1.assign rfl) rfl rfl ?_
        refine OL.nil ?_
        refine r_block ?_
        have hS7 : St (fun _ => False) (fun _ => False) w0 w3 [bkR b1 [.int .i64 after.dist, strV after.word] 24, accR encItm 24 2 v1 ((refAll words s k)), accR encItm 24 2 (.slice none 0 0) []] := hS5.newAcc (Mod.refl _ _) Acc.nil (.inl rfl)
        refine r_loop (I := fun m E W => ∃ (v_rest : Value) (rest : List Itm) (i : Nat), E = [(3, .bool first), (5, .int .i64 batch), (10, ptr b1 0), (14, v1), (15, v_rest), (16, .int .i64 (((i : Nat) : Int)))] ∧ m = (refAll words s k).length - i ∧ St (fun _ => False) (fun _ => False) w0 W [bkR b1 [.int .i64 after.dist, strV after.word] 24, accR encItm 24 2 v1 ((refAll words s k)), accR encItm 24 2 v_rest rest] ∧ (rest = ((refAll words s k).take i).filter (okI first after)) ∧ (rest.length ≤ i) ∧ (i ≤ (refAll words s k).length)) ?_ ?_
        · refine ⟨_, _, ⟨(.slice none 0 0 : Value), ([] : List Itm), (0 : Nat), rfl, rfl, hS7, (by rfl), (by simp), (by omega)⟩, ⟨rfl, rfl, rfl, rfl, rfl, rfl, trivial⟩⟩
        · rintro _ _ w4 ⟨v_rest, rest, i, rfl, rfl, hS6, hr, hrl, hil⟩ ih1
          refine r_seq ?_
          refine r_seq ?_
          refine r_region ?_
          refine OL.q (Q1.move rfl) rfl rfl ?_
          refine OL.q (Q1.move rfl) rfl rfl ?_
          obtain ⟨g1, f2, hl1, k1⟩ := hS6.accK (i := 1) rfl
          refine OL.q (Q1.lenSl Try.underlying31 (f2.sl) rfl) rfl rfl ?_
          refine OL.qb (Q1.lt rfl rfl) rfl rfl ?_
          intro b5 hb5
          refine OL.nil ?_
          cases b5 with
          | true =>
            replace hb5 := of_decide_eq_true hb5.symm
            refine r_cond_t rfl ?_
            refine r_skip ?_
            refine r_seq ?_
            refine r_block ?_
            refine r_seq ?_
            refine r_draw1 (fun i => Nat.beq i 7) 9 (fun w' => Mod (Mg 0) w4 w') mixed (by kernel_rfl) ?_
            intro w5 hm4
            have hS8 := hS6.ext hm4
            have hCw5 : Mod (Mg 0) w4 w5 := Mod.ofExt hm4
            refine ⟨hCw5, ?_⟩
            rw [show List.range' 0 (Array.size _) = [0, 1, 2, 3, 4, 5, 6, 7, 8] from rfl]
            refine OD.q rfl rfl (Q1.move rfl) rfl rfl ?_
            refine OD.q rfl rfl (Q1.move rfl) rfl rfl ?_
            cases first with
            | true =>
              refine OD.sk rfl rfl rfl ?_
              refine OD.sk rfl rfl rfl ?_
              refine OD.sk rfl rfl rfl ?_
              refine OD.sk rfl rfl rfl ?_
              refine OD.sk rfl rfl rfl ?_
              refine OD.sk rfl rfl rfl ?_
              refine OD.q rfl rfl (Q1.pick_t rfl rfl) rfl rfl ?_
              refine OD.nil ?_
              refine r_cond_t rfl ?_
              refine r_region ?_
              refine OL.q (Q1.move rfl) rfl rfl ?_
              refine OL.q (Q1.move rfl) rfl rfl ?_
              refine OL.q (Q1.move rfl) rfl rfl ?_
              obtain ⟨g2, f3, hl2, k2⟩ := hS8.accK (i := 1) rfl
              obtain ⟨x1, b6, o1, hx1, hr1, hl3, hw1⟩ := Sl.atF (P := Try.prog) f3.sl Try.underlying31 ti24 encItm_len (k := .i64) (n := ((i : Nat) : Int)) (i) (by omega) (by first | assumption | omega)
              refine OL.q (Q1.indexAddr rfl rfl hr1) rfl rfl ?_
              refine OL.q (Q1.loadN ti24 rfl (fun _ e => e ▸ hw1) rfl) rfl rfl ?_
              refine OL.act rfl rfl (AW.buildSlice [(.agg #[.int .i64 x1.dist, strV x1.word] : Value)] Try.underlying31 ti24 rfl rfl rfl (by decide) ?_)
              intro w6 b7 hm5 hb6 hz2 hk2
              have hS9 := hS8.ext hm5
              have hl4 := Sl.of_blk (enc := encItm) hk2 ([x1] : List Itm) 1 rfl rfl (by unfold maxLen; omega)
              have hS10 : St (fun _ => False) (fun _ => False) w0 w6 [bkR b1 [.int .i64 after.dist, strV after.word] 24, accR encItm 24 2 v1 ((refAll words s k)), accR encItm 24 2 v_rest rest, slR encItm [((.slice (some ⟨b7, 0, none⟩) 1 1), [x1])]] := hS8.newSlB hm5 hb6 hz2 hl4
              obtain ⟨g4, f4, hl5, k3⟩ := hS10.accK (i := 2) rfl
              have f5 := hS10.sl (i := 3) (k := 0) rfl rfl
              refine OL.act rfl rfl (AW.append f4 Try.underlying31 ti24 rfl encItm_len encItm_one rfl rfl (f5) (by first | omega | (simp only [List.length_append, List.length_cons, List.length_nil]; omega) | (simp; omega)) (by unfold maxLen; first | omega | (simp only [List.length_append, List.length_cons, List.length_nil]; omega) | (simp; omega)) ?_)
              intro v2 g3 w7 ha1 hm6 hg2 hz3
              have hS11 : St (fun _ => False) (fun _ => False) w0 w7 [bkR b1 [.int .i64 after.dist, strV after.word] 24, accR encItm 24 2 v1 ((refAll words s k)), accR encItm 24 2 v2 ((rest ++ [x1])), slR encItm [((.slice (some ⟨b7, 0, none⟩) 1 1), [x1])]] := k3 _ _ _ _ hm6 ha1 hg2
              clear hg2
              refine OL.q (Q1.assign rfl) rfl rfl ?_
              refine OL.nil ?_
              refine r_inBlock ?_
              refine r_region ?_
              refine OL.q (Q1.move rfl) rfl rfl ?_
              refine OL.q (Q1.addI (((i + 1 : Nat) : Int)) rfl rfl (by omega)) rfl rfl ?_
              refine OL.q (Q1.assign rfl) rfl rfl ?_
              refine OL.nil ?_
              have hS12 : St (fun _ => False) (fun _ => False) w0 w7 [bkR b1 [.int .i64 after.dist, strV after.word] 24, accR encItm 24 2 v1 ((refAll words s k)), accR encItm 24 2 v2 ((rest ++ [x1]))] := hS11.sel [0, 1, 2] (by rfl) (by decide)
              exact (ih1 _ _ _ ⟨(v2 : Value), ((rest ++ [x1]) : List Itm), (i + 1 : Nat), rfl, rfl, hS12, (by first | exact rest_yes hr hx1 (by first | exact .inl rfl | exact .inr (by assumption)) | exact rest_no hr hx1 rfl (by assumption) | (exfalso; omega)), (by first | omega | (simp only [List.length_append, List.length_cons, List.length_nil]; omega) | (exfalso; omega)), (by first | omega | (exfalso; omega))⟩ (by omega)).sub ⟨rfl, rfl, rfl, rfl, rfl, rfl, trivial⟩
            | false =>
              have f3 := hS6.bk (i := 0) rfl
              refine OD.q rfl rfl (Q1.loadN ti24 rfl (fun _ hc => f3.row.keepG hc (Nat.succ_ne_zero _)) rfl) rfl rfl ?_
              refine OD.q rfl rfl (Q1.move rfl) rfl rfl ?_
              refine OD.q rfl rfl (Q1.move rfl) rfl rfl ?_
              obtain ⟨x1, b6, o1, hx1, hr1, hl2, hw1⟩ := Sl.atF (P := Try.prog) f2.sl Try.underlying31 ti24 encItm_len (k := .i64) (n := ((i : Nat) : Int)) (i) (by omega) (by first | assumption | omega)
              refine OD.q rfl rfl (Q1.indexAddr rfl rfl hr1) rfl rfl ?_
              refine OD.q rfl rfl (Q1.loadN ti24 rfl (fun _ hc => hw1.keepG hc (Nat.succ_ne_zero _)) rfl) rfl rfl ?_
              have hx1l := hsa _ (List.mem_of_getElem? hx1)
              refine OD.act rfl rfl rfl rfl (AW.callF cl41 rfl (r10less_c (w0 := w5) (a := after) (b := x1)  (by first | assumption | omega) (by first | assumption | omega)) ?_)
              rintro _ w6 ⟨⟨b7, hb6, rfl⟩, hm5⟩
              have hS9 := hS8.ext hm5
              have hCw6 := hCw5.ext hm5
              refine ⟨.inr hCw6, ?_⟩
              refine OD.q rfl rfl (Q1.pick_f rfl rfl) rfl rfl ?_
              refine OD.nil ?_
              cases b7 with
              | true =>
                replace hb6 := hb6.symm
                refine r_cond_t rfl ?_
                refine r_region ?_
                refine OL.q (Q1.move rfl) rfl rfl ?_
                refine OL.q (Q1.move rfl) rfl rfl ?_
                refine OL.q (Q1.move rfl) rfl rfl ?_
                obtain ⟨g2, f4, hl3, k2⟩ := hS9.accK (i := 1) rfl
                obtain ⟨x2, b8, o2, hx2, hr2, hl4, hw2⟩ := Sl.atF (P := Try.prog) f4.sl Try.underlying31 ti24 encItm_len (k := .i64) (n := ((i : Nat) : Int)) (i) (by omega) (by first | assumption | omega)
                obtain rfl : x1 = x2 := Option.some.inj (hx1.symm.trans hx2)
                refine OL.q (Q1.indexAddr rfl rfl hr2) rfl rfl ?_
                refine OL.q (Q1.loadN ti24 rfl (fun _ e => e ▸ hw2) rfl) rfl rfl ?_
                refine OL.act rfl rfl (AW.buildSlice [(.agg #[.int .i64 x1.dist, strV x1.word] : Value)] Try.underlying31 ti24 rfl rfl rfl (by decide) ?_)
                intro w7 b9 hm6 hb7 hz2 hk2
                have hS10 := hS9.ext hm6
                have hl5 := Sl.of_blk (enc := encItm) hk2 ([x1] : List Itm) 1 rfl rfl (by unfold maxLen; omega)
                have hS11 : St (fun _ => False) (fun _ => False) w0 w7 [bkR b1 [.int .i64 after.dist, strV after.word] 24, accR encItm 24 2 v1 ((refAll words s k)), accR encItm 24 2 v_rest rest, slR encItm [((.slice (some ⟨b9, 0, none⟩) 1 1), [x1])]] := hS9.newSlB hm6 hb7 hz2 hl5
                obtain ⟨g4, f5, hl6, k3⟩ := hS11.accK (i := 2) rfl
                have f6 := hS11.sl (i := 3) (k := 0) rfl rfl
                refine OL.act rfl rfl (AW.append f5 Try.underlying31 ti24 rfl encItm_len encItm_one rfl rfl (f6) (by first | omega | (simp only [List.length_append, List.length_cons, List.length_nil]; omega) | (simp; omega)) (by unfold maxLen; first | omega | (simp only [List.length_append, List.length_cons, List.length_nil]; omega) | (simp; omega)) ?_)
                intro v2 g3 w8 ha1 hm7 hg2 hz3
                have hS12 : St (fun _ => False) (fun _ => False) w0 w8 [bkR b1 [.int .i64 after.dist, strV after.word] 24, accR encItm 24 2 v1 ((refAll words s k)), accR encItm 24 2 v2 ((rest ++ [x1])), slR encItm [((.slice (some ⟨b9, 0, none⟩) 1 1), [x1])]] := k3 _ _ _ _ hm7 ha1 hg2
                clear hg2
                refine OL.q (Q1.assign rfl) rfl rfl ?_
                refine OL.nil ?_
                refine r_inBlock ?_
                refine r_region ?_
                refine OL.q (Q1.move rfl) rfl rfl ?_
                refine OL.q (Q1.addI (((i + 1 : Nat) : Int)) rfl rfl (by omega)) rfl rfl ?_
                refine OL.q (Q1.assign rfl) rfl rfl ?_
                refine OL.nil ?_
                have hS13 : St (fun _ => False) (fun _ => False) w0 w8 [bkR b1 [.int .i64 after.dist, strV after.word] 24, accR encItm 24 2 v1 ((refAll words s k)), accR encItm 24 2 v2 ((rest ++ [x1]))] := hS12.sel [0, 1, 2] (by rfl) (by decide)
                exact (ih1 _ _ _ ⟨(v2 : Value), ((rest ++ [x1]) : List Itm), (i + 1 : Nat), rfl, rfl, hS13, (by first | exact rest_yes hr hx1 (by first | exact .inl rfl | exact .inr (by assumption)) | exact rest_no hr hx1 rfl (by assumption) | (exfalso; omega)), (by first | omega | (simp only [List.length_append, List.length_cons, List.length_nil]; omega) | (exfalso; omega)), (by first | omega | (exfalso; omega))⟩ (by omega)).sub ⟨rfl, rfl, rfl, rfl, rfl, rfl, trivial⟩
              | false =>
                replace hb6 := hb6.symm
                refine r_cond_f rfl ?_
                refine r_skip ?_
                refine r_inBlock ?_
                refine r_region ?_
                refine OL.q (Q1.move rfl) rfl rfl ?_
                refine OL.q (Q1.addI (((i + 1 : Nat) : Int)) rfl rfl (by omega)) rfl rfl ?_
                refine OL.q (Q1.assign rfl) rfl rfl ?_
                refine OL.nil ?_
                exact (ih1 _ _ _ ⟨(v_rest : Value), (rest : List Itm), (i + 1 : Nat), rfl, rfl, hS9, (by first | exact rest_yes hr hx1 (by first | exact .inl rfl | exact .inr (by assumption)) | exact rest_no hr hx1 rfl (by assumption) | (exfalso; omega)), (by first | omega | (simp only [List.length_append, List.length_cons, List.length_nil]; omega) | (exfalso; omega)), (by first | omega | (exfalso; omega))⟩ (by omega)).sub ⟨rfl, rfl, rfl, rfl, rfl, rfl, trivial⟩
          | false =>
            replace hb5 := of_decide_eq_false hb5.symm
            refine r_cond_f rfl ?_
            refine r_exit rfl ?_
            refine r_seq ?_
            refine r_region ?_
            refine OL.q (Q1.move rfl) rfl rfl ?_
            refine OL.q (Q1.max rfl rfl) rfl rfl ?_
            refine OL.q (Q1.move rfl) rfl rfl ?_
            obtain ⟨g2, f3, hl2, k2⟩ := hS6.accK (i := 2) rfl
            refine OL.q (Q1.lenSl Try.underlying31 (f3.sl) rfl) rfl rfl ?_
            refine OL.q (Q1.min rfl rfl) rfl rfl ?_
            refine OL.q (Q1.assign rfl) rfl rfl ?_
            refine OL.nil ?_
            refine r_seq ?_
            refine r_region ?_
            refine OL.q (Q1.move rfl) rfl rfl ?_
            refine OL.q (Q1.move rfl) rfl rfl ?_
            have hS8 : St (fun _ => False) (fun _ => False) w0 w4 [bkR b1 [.int .i64 after.dist, strV after.word] 24, accR encItm 24 2 v1 ((refAll words s k)), slR encItm [(v_rest, rest)]] := hS6.freeze (i := 2) rfl
            obtain ⟨Fp1, f4, k3⟩ := hS8.slK (i := 2) (k := 0) rfl rfl
            obtain ⟨v2, hr1, hl3⟩ := Sl.part (P := Try.prog) f4 Try.underlying31 ti24 encItm_len (0) (((min ((max batch 0)) (((rest.length : Nat) : Int)))).toNat) (.inl ⟨rfl, rfl⟩) (.inr ⟨.i64, (min ((max batch 0)) (((rest.length : Nat) : Int))), rfl, by omega⟩) (by omega) (by first | assumption | omega)
            replace hl3 : Sl encItm w4 Fp1 v2 (rest.take (((min ((max batch 0)) (((rest.length : Nat) : Int)))).toNat)) := by simpa using hl3
            refine OL.q (Q1.sliceV rfl rfl rfl rfl hr1) rfl rfl ?_
            have hS9 : St (fun _ => False) (fun _ => False) w0 w4 [bkR b1 [.int .i64 after.dist, strV after.word] 24, accR encItm 24 2 v1 ((refAll words s k)), slR encItm [(v_rest, rest), (v2, (rest.take (((min ((max batch 0)) (((rest.length : Nat) : Int)))).toNat)))]] := k3 _ _ hl3
            refine OL.q (Q1.move rfl) rfl rfl ?_
            refine OL.q (Q1.move rfl) rfl rfl ?_
            have f5 := hS9.sl (i := 2) (k := 0) rfl rfl
            refine OL.q (Q1.lenSl Try.underlying31 (f5) rfl) rfl rfl ?_
            refine OL.qb (Q1.eq rfl rfl) rfl rfl ?_
            intro b6 hb6
            refine OL.q (Q1.assign rfl) rfl rfl ?_
            refine OL.q (Q1.assign rfl) rfl rfl ?_
            refine OL.nil ?_
            refine r_ret2 Try.func16 rfl rfl rfl ?_
            have f6 := hS9.slOut (i := 2) (k := 1) rfl rfl
            exact Ret.mk ⟨_, _, rfl, (Sl.cast f6 (by first | exact nextR_no (by omega) | exact nextR_no2 (by assumption) | exact nextR_noB (by omega) | exact nextR_noB2 (by assumption) | exact nextR_l hr (by omega) (by assumption) (by omega) | exact nextR_b hr (by omega) (by assumption) (by omega) (by assumption) | (exfalso; omega))), ⟨_, (by first | exact nextR_no (by omega) | exact nextR_no2 (by assumption) | exact nextR_noB (by omega) | exact nextR_noB2 (by assumption) | exact nextR_l hr (by omega) (by assumption) (by omega) | exact nextR_b hr (by omega) (by assumption) (by omega) (by assumption) | (exfalso; omega)), rfl⟩, hS9.mod⟩
  | false =>
    replace hb2 := hb2.symm
    refine OL.q (Q1.not rfl) rfl rfl ?_
    refine OL.q (Q1.move rfl) rfl rfl ?_
    refine OL.sk rfl rfl ?_
    refine OL.sk rfl rfl ?_
    refine OL.q (Q1.pick_t rfl rfl) rfl rfl ?_
    refine OL.q (Q1.move rfl) rfl rfl ?_
    refine OL.sk rfl rfl ?_
    refine OL.sk rfl rfl ?_
    refine OL.q (Q1.pick_t rfl rfl) rfl rfl ?_
    refine OL.nil ?_
    refine r_cond_t rfl ?_
    refine r_seq ?_
    refine r_region ?_
    refine OL.q (Q1.assign rfl) rfl rfl ?_
    refine OL.q (Q1.assign rfl) rfl rfl ?_
    refine OL.nil ?_
    refine r_ret2 Try.func16 rfl rfl rfl ?_
    exact Ret.mk ⟨_, _, rfl, (Sl.cast Sl.nil (by first | exact nextR_no (by omega) | exact nextR_no2 (by assumption) | exact nextR_noB (by omega) | exact nextR_noB2 (by assumption) | exact nextR_l hr (by omega) (by assumption) (by omega) | exact nextR_b hr (by omega) (by assumption) (by omega) (by assumption) | (exfalso; omega))), ⟨_, (by first | exact nextR_no (by omega) | exact nextR_no2 (by assumption) | exact nextR_noB (by omega) | exact nextR_noB2 (by assumption) | exact nextR_l hr (by omega) (by assumption) (by omega) | exact nextR_b hr (by omega) (by assumption) (by omega) (by assumption) | (exfalso; omega)), rfl⟩, hS3.mod⟩
set_option maxRecDepth 20000 in
set_option maxHeartbeats 4000000 in
theorem r11dists_c {w0 : World}  {v_words : Value} {words : List Str} (s : Str) (d : Int) (h_words : Sl encS w0 (Iv 0 w0.heap.size) v_words words) (h_d : I64 d) (hwl : words.length ≤ 1000) (hws : ∀ w ∈ words, w.length ≤ 1000) (hsl : s.length ≤ 1000) :
    Calls Try.prog 23 #[v_words, strV s, .int .i64 d] w0 (Ret fun rv w1 => (∃ gr, Acc encS 9 1 w1 gr rv (distsR words s d) ∧ (gr = 0 ∨ w0.heap.size < gr)) ∧ Ext w0 w1) := by
  have hE0 : Ext w0 w0 := Mod.refl _ _
  have hle1 := h_words.le
  refine calls_enter Try.func23 rfl Try.ntmps23 rfl ?_
  refine r_seq ?_
  refine r_region ?_
  refine OL.q (Q1.assign rfl) rfl rfl ?_
  refine OL.nil ?_
  refine r_seq ?_
  refine r_region ?_
  refine OL.q (Q1.assign rfl) rfl rfl ?_
  refine OL.nil ?_
  refine r_seq ?_
  refine r_seq ?_
  refine r_region ?_
  refine OL.q (Q1.move rfl) rfl rfl ?_
  refine OL.act rfl rfl (AW.callF cl39 rfl (rasked_c (w0 := w0)  s (by first | assumption | omega)) ?_)
  rintro _ w1 ⟨⟨b1, hb1, rfl⟩, hm1⟩
  have f1 := h_words.ext hm1
  have hE1 := hE0.ext hm1
  have hs1 := hm1.size
  cases b1 with
  | true =>
    replace hb1 := hb1.symm
    refine OL.q (Q1.not rfl) rfl rfl ?_
    refine OL.q (Q1.move rfl) rfl rfl ?_
    refine OL.q (Q1.move rfl) rfl rfl ?_
    refine OL.qb (Q1.lt rfl rfl) rfl rfl ?_
    intro b2 hb2
    refine OL.q (Q1.pick_f rfl rfl) rfl rfl ?_
    refine OL.q (Q1.move rfl) rfl rfl ?_
    cases b2 with
    | true =>
      replace hb2 := of_decide_eq_true hb2.symm
      refine OL.sk rfl rfl ?_
      refine OL.sk rfl rfl ?_
      refine OL.q (Q1.pick_t rfl rfl) rfl rfl ?_
      refine OL.nil ?_
      refine r_cond_t rfl ?_
      refine r_seq ?_
      refine r_region ?_
      refine OL.q (Q1.assign rfl) rfl rfl ?_
      refine OL.nil ?_
      refine r_ret1 Try.func23 rfl rfl ?_
      exact Ret.mk ⟨⟨0, Acc.cast Acc.nil (by first | exact distsR_no (by omega) | exact distsR_no2 (by assumption) | exact distsR_yes ho (by omega) (by assumption) (by omega) | (exfalso; omega)), .inl rfl⟩, hE1⟩
    | false =>
      replace hb2 := of_decide_eq_false hb2.symm
      refine OL.q (Q1.move rfl) rfl rfl ?_
      refine OL.qb (Q1.gt rfl rfl) rfl rfl ?_
      intro b3 hb3
      refine OL.q (Q1.pick_f rfl rfl) rfl rfl ?_
      refine OL.nil ?_
      cases b3 with
      | true =>
        replace hb3 := of_decide_eq_true hb3.symm
        refine r_cond_t rfl ?_
        refine r_seq ?_
        refine r_region ?_
        refine OL.q (Q1.assign rfl) rfl rfl ?_
        refine OL.nil ?_
        refine r_ret1 Try.func23 rfl rfl ?_
        exact Ret.mk ⟨⟨0, Acc.cast Acc.nil (by first | exact distsR_no (by omega) | exact distsR_no2 (by assumption) | exact distsR_yes ho (by omega) (by assumption) (by omega) | (exfalso; omega)), .inl rfl⟩, hE1⟩
      | false =>
        replace hb3 := of_decide_eq_false hb3.symm
        refine r_cond_f rfl ?_
        refine r_skip ?_
        refine r_seq ?_
        refine r_region ?_
        refine OL.q (Q1.move rfl) rfl rfl ?_
        refine OL.q (Q1.move rfl) rfl rfl ?_
        refine OL.q (Q1.move rfl) rfl rfl ?_
        refine OL.act rfl rfl (AW.callF cl40 rfl (r10all_c (w0 := w1) (words := words) s (d) ((f1).iv (Nat.zero_le _) (by omega)) (by first | omega | assumption) (by first | assumption | omega) (by first | assumption) (by first | assumption | omega)) ?_)
        rintro v1 w2 ⟨⟨gr1, h1, hg1⟩, hm2⟩
        have f2 := f1.ext hm2
        have hE2 := hE1.ext hm2
        have hs2 := hm2.size
        have hle_1 := h1.le
        have hlt_1 := h1.lt
        have := refAll_len words s d
        have := refAll_shortE words s d hws
        have hal := refAll_len words s d
        refine OL.q (Q1.assign rfl) rfl rfl ?_
        refine OL.nil ?_
        refine r_seq ?_
        refine r_seq ?_
        refine r_region ?_
        refine OL.q (Q1.assign rfl) rfl rfl ?_
        refine OL.nil ?_
        refine r_block ?_
        refine r_loop (I := fun m E W => ∃ (v_out : Value) (g_out : Nat) (out : List Str) (i : Nat), E = [(2, .int .i64 d), (7, v_out), (8, v1), (9, .int .i64 (((i : Nat) : Int)))] ∧ m = (refAll words s d).length - i ∧ Ext w0 W ∧ w2.heap.size ≤ W.heap.size ∧ Acc encS 9 1 W g_out v_out out ∧ (g_out = 0 ∨ w0.heap.size < g_out) ∧ Acc encItm 24 2 W gr1 v1 ((refAll words s d)) ∧ (g_out ≠ gr1 ∨ gr1 = 0) ∧ (out = (((refAll words s d).take i).filter fun x => decide (x.dist = d)).map (·.word)) ∧ (out.length ≤ i) ∧ (i ≤ (refAll words s d).length)) ?_ ?_
        · refine ⟨_, _, ⟨(.slice none 0 0 : Value), (0 : Nat), ([] : List Str), (0 : Nat), rfl, rfl, hE2, Nat.le_refl _, Acc.nil, (by omega), h1, (by omega), (by rfl), (by simp), (by omega)⟩, ⟨rfl, rfl, rfl, rfl, trivial⟩⟩
        · rintro _ _ w3 ⟨v_out, g_out, out, i, rfl, rfl, hE3, hs3, ha1, hg2, f3, hn1, ho, hol, hil⟩ ih1
          refine r_seq ?_
          refine r_seq ?_
          refine r_region ?_
          refine OL.q (Q1.move rfl) rfl rfl ?_
          refine OL.q (Q1.move rfl) rfl rfl ?_
          refine OL.q (Q1.lenSl Try.underlying31 (f3.sl) rfl) rfl rfl ?_
          refine OL.qb (Q1.lt rfl rfl) rfl rfl ?_
          intro b4 hb4
          refine OL.nil ?_
          cases b4 with
          | true =>
            replace hb4 := of_decide_eq_true hb4.symm
            refine r_cond_t rfl ?_
            refine r_skip ?_
            refine r_seq ?_
            refine r_block ?_
            refine r_seq ?_
            refine r_region ?_
            refine OL.q (Q1.move rfl) rfl rfl ?_
            refine OL.q (Q1.move rfl) rfl rfl ?_
            obtain ⟨x1, b5, o1, hx1, hr1, hl1, hu1, hw1⟩ := Sl.at' (P := Try.prog) f3.sl Try.underlying31 ti24 encItm_len (k := .i64) (n := ((i : Nat) : Int)) (i) (by omega) (by first | assumption | omega)
            refine OL.q (Q1.indexAddr rfl rfl hr1) rfl rfl ?_
            refine OL.q (Q1.fieldAddr fl24_0 rfl) rfl rfl ?_
            have hr2 := hw1.sub 0 1 (Nat.le_of_ble_eq_true rfl)
            refine OL.q (Q1.load1 ti3 rfl (fun _ e => e ▸ hr2)) rfl rfl ?_
            refine OL.q (Q1.move rfl) rfl rfl ?_
            refine OL.qb (Q1.eq rfl rfl) rfl rfl ?_
            intro b6 hb5
            refine OL.nil ?_
            cases b6 with
            | true =>
              replace hb5 := eq_of_beq hb5.symm
              refine r_cond_t rfl ?_
              refine r_region ?_
              refine OL.q (Q1.move rfl) rfl rfl ?_
              refine OL.q (Q1.move rfl) rfl rfl ?_
              refine OL.q (Q1.move rfl) rfl rfl ?_
              obtain ⟨x2, b7, o2, hx2, hr3, hl2, hu2, hw2⟩ := Sl.at' (P := Try.prog) f3.sl Try.underlying31 ti24 encItm_len (k := .i64) (n := ((i : Nat) : Int)) (i) (by omega) (by first | assumption | omega)
              obtain rfl : x1 = x2 := Option.some.inj (hx1.symm.trans hx2)
              refine OL.q (Q1.indexAddr rfl rfl hr3) rfl rfl ?_
              refine OL.q (Q1.fieldAddr fl24_1 rfl) rfl rfl ?_
              have hr4 := hw2.sub 1 1 (Nat.le_of_ble_eq_true rfl)
              refine OL.q (Q1.load1 ti9 rfl (fun _ e => e ▸ hr4)) rfl rfl ?_
              refine OL.act rfl rfl (AW.buildSlice [strV x1.word] Try.underlying22 ti9 rfl rfl rfl (by decide) ?_)
              intro w4 b8 hm3 hb6 hz1 hk1
              have hl3 := ha1.lt
              have hl4 := f3.lt
              have f4 := ha1.ext hm3
              have f5 := f3.ext hm3
              have hE4 := hE3.ext hm3
              have hs4 := hm3.size
              have hl5 := Sl.of_blk (enc := encS) hk1 ([x1.word] : List Str) 1 rfl rfl (by unfold maxLen; omega)
              have hl6 := f4.lt
              refine OL.act rfl rfl (AW.append f4 Try.underlying22 ti9 rfl encS_len encS_one rfl rfl (hl5) (by first | omega | (simp only [List.length_append, List.length_cons, List.length_nil]; omega) | (simp; omega)) (by unfold maxLen; first | omega | (simp only [List.length_append, List.length_cons, List.length_nil]; omega) | (simp; omega)) ?_)
              intro v2 g1 w5 ha2 hm4 hg3 hz2
              have hl7 := f4.lt
              have hl8 := f5.lt
              have f6 := f5.keepG hm4 (by omega)
              have f7 := hl5.keepG hm4 (by omega)
              have hE5 := Ext.thenG hE4 hm4 (by omega)
              have hs5 := hm4.size
              refine OL.q (Q1.assign rfl) rfl rfl ?_
              refine OL.nil ?_
              refine r_inBlock ?_
              refine r_region ?_
              refine OL.q (Q1.move rfl) rfl rfl ?_
              refine OL.q (Q1.addI (((i + 1 : Nat) : Int)) rfl rfl (by omega)) rfl rfl ?_
              refine OL.q (Q1.assign rfl) rfl rfl ?_
              refine OL.nil ?_
              exact (ih1 _ _ _ ⟨(v2 : Value), (g1 : Nat), ((out ++ [x1.word]) : List Str), (i + 1 : Nat), rfl, rfl, hE5, (by omega), ha2, (by omega), f6, (by omega), (by first | exact dr_yes ho hx1 (by assumption) | exact dr_no ho hx1 (by assumption) | (exfalso; omega)), (by first | omega | (simp only [List.length_append, List.length_cons, List.length_nil]; omega) | (exfalso; omega)), (by first | omega | (exfalso; omega))⟩ (by omega)).sub ⟨rfl, rfl, rfl, rfl, trivial⟩
            | false =>
              replace hb5 := ne_of_beq_false hb5.symm
              refine r_cond_f rfl ?_
              refine r_skip ?_
              refine r_inBlock ?_
              refine r_region ?_
              refine OL.q (Q1.move rfl) rfl rfl ?_
              refine OL.q (Q1.addI (((i + 1 : Nat) : Int)) rfl rfl (by omega)) rfl rfl ?_
              refine OL.q (Q1.assign rfl) rfl rfl ?_
              refine OL.nil ?_
              exact (ih1 _ _ _ ⟨(v_out : Value), (g_out : Nat), (out : List Str), (i + 1 : Nat), rfl, rfl, hE3, (by omega), ha1, (by omega), f3, (by omega), (by first | exact dr_yes ho hx1 (by assumption) | exact dr_no ho hx1 (by assumption) | (exfalso; omega)), (by first | omega | (simp only [List.length_append, List.length_cons, List.length_nil]; omega) | (exfalso; omega)), (by first | omega | (exfalso; omega))⟩ (by omega)).sub ⟨rfl, rfl, rfl, rfl, trivial⟩
          | false =>
            replace hb4 := of_decide_eq_false hb4.symm
            refine r_cond_f rfl ?_
            refine r_exit rfl ?_
            refine r_seq ?_
            refine r_region ?_
            refine OL.q (Q1.move rfl) rfl rfl ?_
            refine OL.q (Q1.assign rfl) rfl rfl ?_
            refine OL.nil ?_
            refine r_ret1 Try.func23 rfl rfl ?_
            exact Ret.mk ⟨⟨_, Acc.cast ha1 (by first | exact distsR_no (by omega) | exact distsR_no2 (by assumption) | exact distsR_yes ho (by omega) (by assumption) (by omega) | (exfalso; omega)), by omega⟩, hE3⟩
  | false =>
    replace hb1 := hb1.symm
    refine OL.q (Q1.not rfl) rfl rfl ?_
    refine OL.q (Q1.move rfl) rfl rfl ?_
    refine OL.sk rfl rfl ?_
    refine OL.sk rfl rfl ?_
    refine OL.q (Q1.pick_t rfl rfl) rfl rfl ?_
    refine OL.q (Q1.move rfl) rfl rfl ?_
    refine OL.sk rfl rfl ?_
    refine OL.sk rfl rfl ?_
    refine OL.q (Q1.pick_t rfl rfl) rfl rfl ?_
    refine OL.nil ?_
    refine r_cond_t rfl ?_
    refine r_seq ?_
    refine r_region ?_
    refine OL.q (Q1.assign rfl) rfl rfl ?_
    refine OL.nil ?_
    refine r_ret1 Try.func23 rfl rfl ?_
    exact Ret.mk ⟨⟨0, Acc.cast Acc.nil (by first | exact distsR_no (by omega) | exact distsR_no2 (by assumption) | exact distsR_yes ho (by omega) (by assumption) (by omega) | (exfalso; omega)), .inl rfl⟩, hE1⟩
end Go.Proofs
