/-
  Walks through the reference of chapter 9: what is laid.
-/
import Derived.Test.YtajedfbogchkcaaWRef8
import Derived.Test.YtajedfbogchkcaaWSum
set_option linter.unusedVariables false
set_option linter.unusedSimpArgs false
namespace Go.Proofs
open Go.Ik Go.Ml
set_option maxRecDepth 20000 in
set_option maxHeartbeats 4000000 in
theorem r9seal_c {w0 : World}  {v_b : Value} {b : List UInt8} (h_b : Sl encB w0 (Iv 0 w0.heap.size) v_b b) (hbl : b.length ≤ 3000000) :
    Calls Try.prog 95 #[v_b] w0 (Ret fun rv w1 => (∃ gr, Acc encB 5 1 w1 gr rv (sealB b) ∧ (gr = 0 ∨ w0.heap.size < gr)) ∧ Ext w0 w1) := by
  have hE0 : Ext w0 w0 := Mod.refl _ _
  have hle1 := h_b.le
  refine calls_enter Try.func95 rfl Try.ntmps95 rfl ?_
  refine r_seq ?_
  refine r_region ?_
  refine OL.q (Q1.assign rfl) rfl rfl ?_
  refine OL.nil ?_
  refine r_seq ?_
  refine r_region ?_
  refine OL.q (Q1.move rfl) rfl rfl ?_
  refine OL.q (Q1.move rfl) rfl rfl ?_
  refine OL.act rfl rfl (AW.callF cl104 rfl (r2of_c (w0 := w0) (b := b)  ((h_b).iv (Nat.zero_le _) (by omega)) (by first | assumption | omega | (simp only [List.length_append, putN_len, List.length_cons, List.length_nil]; omega))) ?_)
  rintro _ w1 ⟨rfl, hm1⟩
  have f1 := h_b.ext hm1
  have hE1 := hE0.ext hm1
  have hs1 := hm1.size
  have := sumF_lt 0 b
  change sumN b < _ at this
  refine OL.q (Q1.convN (by kernel_rfl) Try.underlying3 rfl (IntWalk.i64_in _ (by omega))) rfl rfl ?_
  refine OL.act rfl rfl (AW.callF cl93 rfl (r3put_c (w0 := w1) (b := b) ((((sumN b : Nat) : Int))) (4) ((f1).iv (Nat.zero_le _) (by omega)) (by first | assumption | omega | (simp only [List.length_append, putN_len, List.length_cons, List.length_nil]; omega)) (by first | omega | decide)) ?_)
  rintro v1 w2 ⟨⟨gr1, h1, hg1⟩, hm2⟩
  have f2 := f1.ext hm2
  have hE2 := hE1.ext hm2
  have hs2 := hm2.size
  have hle_1 := h1.le
  have hlt_1 := h1.lt
  have := putN_len ((((sumN b : Nat) : Int))) 4
  refine OL.q (Q1.assign rfl) rfl rfl ?_
  refine OL.nil ?_
  refine r_ret1 Try.func95 rfl rfl ?_
  exact Ret.mk ⟨⟨_, Acc.cast h1 (by rfl), by omega⟩, hE2⟩
set_option maxRecDepth 20000 in
set_option maxHeartbeats 1000000 in
theorem r9encode_c {w0 : World}  {vN_g : Value} {lo_g hi_g b_g : Nat} {nds_g : List RNd} {g : GS} (hrw_g : Rw w0 lo_g hi_g b_g [vN_g]) (hsl_g : Sl encRd w0 (Iv lo_g hi_g) vN_g nds_g) (hrr_g : RR w0 (Iv 0 hi_g) nds_g g) (hgn_g : nds_g.length ≤ 1000000 ∧ hi_g ≤ w0.heap.size) (hel : ∀ x ∈ g, x.2.length ≤ 1000000) (hI : ∀ x ∈ gnOf g, ∀ e ∈ x.2, I64 e.to ∧ -2147483648 ≤ e.rune ∧ e.rune ≤ 2147483647) (hbd : (bodyB (gnOf g)).length ≤ 3000000) :
    Calls Try.prog 60 #[ptr b_g 0] w0 (Ret fun rv w1 => (∃ gr, Acc encB 5 1 w1 gr rv (encB_ (gnOf g)) ∧ (gr = 0 ∨ w0.heap.size < gr)) ∧ Ext w0 w1) := by
  have hE0 : Ext w0 w0 := Mod.refl _ _
  have hle1 := hsl_g.le
  have hgl := (All2.get hrr_g).1
  obtain ⟨hgn1, hgn2⟩ := hgn_g
  have hgo := gnOf_len g
  refine calls_enter Try.func60 rfl Try.ntmps60 rfl ?_
  refine r_seq ?_
  refine r_region ?_
  refine OL.q (Q1.assign rfl) rfl rfl ?_
  refine OL.nil ?_
  refine r_seq ?_
  refine r_region ?_
  refine OL.act rfl rfl (AW.buildSlice [(.int .u8 73 : Value), (.int .u8 78 : Value), (.int .u8 75 : Value), (.int .u8 49 : Value)] Try.underlying25 ti5 rfl rfl rfl (by decide) ?_)
  intro w1 b1 hm1 hb1 hz1 hk1
  have f1 := hsl_g.ext hm1
  have f2 := hrr_g.ext hm1
  have f3 := hrw_g.ext hm1
  have hE1 := hE0.ext hm1
  have hs1 := hm1.size
  have hl1 := Sl.of_blk (enc := encB) hk1 ([(73 : UInt8), (78 : UInt8), (75 : UInt8), (49 : UInt8)] : List UInt8) 4 rfl rfl (by unfold maxLen; omega)
  refine OL.q (Q1.move rfl) rfl rfl ?_
  refine OL.q (Q1.nilCheckP rfl) rfl rfl ?_
  refine OL.q (Q1.fieldAddr fl142_0 rfl) rfl rfl ?_
  refine OL.q (Q1.load1 ti140 rfl (fun _ e => e ▸ (f3.cell 0 _ rfl))) rfl rfl ?_
  refine OL.q (Q1.lenSl Try.underlying140 (f1) rfl) rfl rfl ?_
  refine OL.act rfl rfl (AW.callF cl93 rfl (r3put_c (w0 := w1) (b := [(73 : UInt8), (78 : UInt8), (75 : UInt8), (49 : UInt8)]) (((nds_g.length : Nat) : Int)) (2) ((hl1).iv (Nat.zero_le _) (by omega)) (by first | assumption | omega | (simp only [List.length_append, putN_len, List.length_cons, List.length_nil]; omega)) (by first | omega | decide)) ?_)
  rintro v1 w2 ⟨⟨gr1, h1, hg1⟩, hm2⟩
  have f4 := f1.ext hm2
  have f5 := f2.ext hm2
  have f6 := f3.ext hm2
  have f7 := hl1.ext hm2
  have hE2 := hE1.ext hm2
  have hs2 := hm2.size
  have hle_1 := h1.le
  have hlt_1 := h1.lt
  have := putN_len (((nds_g.length : Nat) : Int)) 2
  refine OL.q (Q1.assign rfl) rfl rfl ?_
  refine OL.nil ?_
  refine r_seq ?_
  refine r_seq ?_
  refine r_region ?_
  refine OL.q (Q1.assign rfl) rfl rfl ?_
  refine OL.nil ?_
  refine r_block ?_
  refine r_loop (I := fun m E W => ∃ (v_out : Value) (g_out : Nat) (out : List UInt8) (i : Nat), E = [(0, ptr b_g 0), (3, v_out), (4, .int .i64 (((i : Nat) : Int)))] ∧ m = g.length - i ∧ Ext w0 W ∧ w2.heap.size ≤ W.heap.size ∧ Acc encB 5 1 W g_out v_out out ∧ (g_out = 0 ∨ w0.heap.size < g_out) ∧ Rw W lo_g hi_g b_g [vN_g] ∧ Sl encRd W (Iv lo_g hi_g) vN_g nds_g ∧ RR W (Iv 0 hi_g) nds_g g ∧ (g_out ≤ lo_g ∨ hi_g < g_out) ∧ (out ++ ((gnOf g).drop i).flatMap nodeB = bodyB (gnOf g)) ∧ (i ≤ g.length)) ?_ ?_
  · refine ⟨_, _, ⟨(v1 : Value), (gr1 : Nat), ((([(73 : UInt8), (78 : UInt8), (75 : UInt8), (49 : UInt8)]) ++ putN (((nds_g.length : Nat) : Int)) 2) : List UInt8), (0 : Nat), rfl, rfl, hE2, Nat.le_refl _, h1, (by omega), f6, f4, f5, (by omega), (by (have := enc_start (gnOf g); rw [hgo] at this; rw [hgl]; exact this)), (by omega)⟩, ⟨rfl, rfl, rfl, trivial⟩⟩
  · rintro _ _ w3 ⟨v_out, g_out, out, i, rfl, rfl, hE3, hs3, ha1, hg2, f8, f9, f10, hn1, hO, hil⟩ ih1
    have hbl := enc_len hO
    refine r_seq ?_
    refine r_seq ?_
    refine r_region ?_
    refine OL.q (Q1.move rfl) rfl rfl ?_
    refine OL.q (Q1.move rfl) rfl rfl ?_
    refine OL.q (Q1.nilCheckP rfl) rfl rfl ?_
    refine OL.q (Q1.fieldAddr fl142_0 rfl) rfl rfl ?_
    refine OL.q (Q1.load1 ti140 rfl (fun _ e => e ▸ (f8.cell 0 _ rfl))) rfl rfl ?_
    refine OL.q (Q1.lenSl Try.underlying140 (f9) rfl) rfl rfl ?_
    refine OL.qb (Q1.lt rfl rfl) rfl rfl ?_
    intro b2 hb2
    refine OL.nil ?_
    cases b2 with
    | true =>
      replace hb2 := of_decide_eq_true hb2.symm
      refine r_cond_t rfl ?_
      refine r_skip ?_
      refine r_seq ?_
      refine r_block ?_
      refine r_seq ?_
      refine r_region ?_
      refine OL.q (Q1.assign rfl) rfl rfl ?_
      refine OL.nil ?_
      refine r_seq ?_
      refine r_seq ?_
      refine r_region ?_
      refine OL.q (Q1.move rfl) rfl rfl ?_
      refine OL.q (Q1.move rfl) rfl rfl ?_
      refine OL.act rfl rfl (AW.callF cl94 rfl (r8final_c (w0 := w3)  (((i : Nat) : Int)) f8 f9 f10 ⟨by omega, by omega⟩ (by first | omega | assumption)) ?_)
      rintro _ w4 ⟨⟨b3, hb3, rfl⟩, hm3⟩
      have hl2 := ha1.lt
      have f11 := ha1.ext hm3
      have f12 := f8.ext hm3
      have f13 := f9.ext hm3
      have f14 := f10.ext hm3
      have hE4 := hE3.ext hm3
      have hs4 := hm3.size
      refine OL.nil ?_
      cases b3 with
      | true =>
        replace hb3 := hb3.symm
        refine r_cond_t rfl ?_
        refine r_region ?_
        refine OL.q (Q1.assign rfl) rfl rfl ?_
        refine OL.nil ?_
        refine r_seq ?_
        refine r_draw1 (fun i => Nat.beq i 2 || Nat.beq i 12) 14 (fun w' => Mod (Mg 0) w4 w') mixed (by kernel_rfl) ?_
        intro w5 hm4
        have hl3 := f11.lt
        have f15 := f11.ext hm4
        have f16 := f12.ext hm4
        have f17 := f13.ext hm4
        have f18 := f14.ext hm4
        have hE5 := hE4.ext hm4
        have hs5 := hm4.size
        have hCw5 : Mod (Mg 0) w4 w5 := Mod.ofExt hm4
        refine ⟨hCw5, ?_⟩
        rw [show List.range' 0 (Array.size _) = [0, 1, 2, 3, 4, 5, 6, 7, 8, 9, 10, 11, 12, 13] from rfl]
        refine OD.q rfl rfl (Q1.move rfl) rfl rfl ?_
        refine OD.q rfl rfl (Q1.move rfl) rfl rfl ?_
        refine OD.act rfl rfl rfl rfl (AW.callF cl93 rfl (r3put_c (w0 := w5) (b := out) (1) (1) ((f15.sl).iv (Nat.zero_le _) (by omega)) (by first | assumption | omega | (simp only [List.length_append, putN_len, List.length_cons, List.length_nil]; omega)) (by first | omega | decide)) ?_)
        rintro v2 w6 ⟨⟨gr2, h2, hg3⟩, hm5⟩
        have hl4 := f15.lt
        have f19 := f15.ext hm5
        have f20 := f16.ext hm5
        have f21 := f17.ext hm5
        have f22 := f18.ext hm5
        have hE6 := hE5.ext hm5
        have hs6 := hm5.size
        have hCw6 := hCw5.ext hm5
        refine ⟨.inr hCw6, ?_⟩
        have hle_2 := h2.le
        have hlt_2 := h2.lt
        have := putN_len 1 1
        refine OD.q rfl rfl (Q1.move rfl) rfl rfl ?_
        refine OD.q rfl rfl (Q1.nilCheckP rfl) rfl rfl ?_
        refine OD.q rfl rfl (Q1.fieldAddr fl142_0 rfl) rfl rfl ?_
        refine OD.q rfl rfl (Q1.load1 ti140 rfl (fun _ hc => (f12.cell 0 _ rfl).keepG hc (by omega))) rfl rfl ?_
        refine OD.q rfl rfl (Q1.move rfl) rfl rfl ?_
        obtain ⟨x1, b4, o1, hx1, hr1, hl5, hu1, hw1⟩ := Sl.at' (P := Try.prog) f13 Try.underlying140 ti144 encRd_len (k := .i64) (n := ((i : Nat) : Int)) (i) (by omega) (by first | assumption | omega)
        refine OD.q rfl rfl (Q1.indexAddr rfl rfl hr1) rfl rfl ?_
        refine OD.q rfl rfl (Q1.fieldAddr fl144_1 rfl) rfl rfl ?_
        have hr2 := hw1.sub 1 1 (Nat.le_of_ble_eq_true rfl)
        obtain ⟨gx1, hgx1, hn2, hn3⟩ := RR.at f22 hx1
        replace hn3 : Sl encE w6 (Iv 0 hi_g) x1.e.val gx1.2 := hn3
        have hle_3 := hn3.le
        refine OD.q rfl rfl (Q1.load1 ti49 rfl (fun _ hc => hr2.keepG hc (by omega))) rfl rfl ?_
        have hgi := gnOf_get hgx1
        have hgl3 := enc_lenN hO hgi
        have hxe := hel _ (List.mem_of_getElem? hgx1)
        refine OD.q rfl rfl (Q1.lenSl Try.underlying49 (hn3) rfl) rfl rfl ?_
        refine OD.act rfl rfl rfl rfl (AW.callF cl93 rfl (r3put_c (w0 := w6) (b := (out ++ putN 1 1)) (((gx1.2.length : Nat) : Int)) (2) ((h2.sl).iv (Nat.zero_le _) (by omega)) (by first | assumption | omega | (simp only [List.length_append, putN_len, List.length_cons, List.length_nil]; omega)) (by first | omega | decide)) ?_)
        rintro v3 w7 ⟨⟨gr3, h3, hg4⟩, hm6⟩
        have hl6 := f19.lt
        have hl7 := h2.lt
        have f23 := f19.ext hm6
        have f24 := f20.ext hm6
        have f25 := f21.ext hm6
        have f26 := f22.ext hm6
        have f27 := h2.ext hm6
        have f28 := hn3.ext hm6
        have hE7 := hE6.ext hm6
        have hs7 := hm6.size
        have hCw7 := hCw6.ext hm6
        refine ⟨.inr hCw7, ?_⟩
        have hle_4 := h3.le
        have hlt_3 := h3.lt
        have := putN_len (((gx1.2.length : Nat) : Int)) 2
        refine OD.q rfl rfl (Q1.assign rfl) rfl rfl ?_
        refine OD.nil ?_
        refine r_seq ?_
        refine r_region ?_
        refine OL.q (Q1.assign rfl) rfl rfl ?_
        refine OL.nil ?_
        refine r_block ?_
        refine r_loop (I := fun m E W => ∃ (v_out2 : Value) (g_out2 : Nat) (out2 : List UInt8) (k : Nat), E = [(0, ptr b_g 0), (3, v_out2), (4, .int .i64 (((i : Nat) : Int))), (6, .int .i64 (((k : Nat) : Int)))] ∧ m = gx1.2.length - k ∧ Ext w0 W ∧ w7.heap.size ≤ W.heap.size ∧ Acc encB 5 1 W g_out2 v_out2 out2 ∧ (g_out2 = 0 ∨ w0.heap.size < g_out2) ∧ Rw W lo_g hi_g b_g [vN_g] ∧ Sl encRd W (Iv lo_g hi_g) vN_g nds_g ∧ RR W (Iv 0 hi_g) nds_g g ∧ (g_out2 ≤ lo_g ∨ hi_g < g_out2) ∧ (out2 ++ ((gx1.2.drop k).flatMap edgeB ++ ((gnOf g).drop (i + 1)).flatMap nodeB) = bodyB (gnOf g))) ?_ ?_
        · refine ⟨_, _, ⟨(v3 : Value), (gr3 : Nat), ((((out ++ putN 1 1)) ++ putN (((gx1.2.length : Nat) : Int)) 2) : List UInt8), (0 : Nat), rfl, rfl, hE7, Nat.le_refl _, h3, (by omega), f24, f25, f26, (by omega), (by first | exact enc_nodeT hO hgx1 (by assumption) | exact enc_nodeF hO hgx1 (by assumption))⟩, ⟨rfl, rfl, rfl, rfl, trivial⟩⟩
        · rintro _ _ w8 ⟨v_out2, g_out2, out2, k, rfl, rfl, hE8, hs8, ha2, hg5, f29, f30, f31, hn4, hO2⟩ ih2
          have hbl2 := enc_len hO2
          refine r_seq ?_
          refine r_seq ?_
          refine r_region ?_
          refine OL.q (Q1.move rfl) rfl rfl ?_
          refine OL.q (Q1.move rfl) rfl rfl ?_
          refine OL.q (Q1.nilCheckP rfl) rfl rfl ?_
          refine OL.q (Q1.fieldAddr fl142_0 rfl) rfl rfl ?_
          refine OL.q (Q1.load1 ti140 rfl (fun _ e => e ▸ (f29.cell 0 _ rfl))) rfl rfl ?_
          refine OL.q (Q1.move rfl) rfl rfl ?_
          obtain ⟨x2, b5, o2, hx2, hr3, hl8, hu2, hw2⟩ := Sl.at' (P := Try.prog) f30 Try.underlying140 ti144 encRd_len (k := .i64) (n := ((i : Nat) : Int)) (i) (by omega) (by first | assumption | omega)
          obtain rfl : x1 = x2 := Option.some.inj (hx1.symm.trans hx2)
          refine OL.q (Q1.indexAddr rfl rfl hr3) rfl rfl ?_
          refine OL.q (Q1.fieldAddr fl144_1 rfl) rfl rfl ?_
          have hr4 := hw2.sub 1 1 (Nat.le_of_ble_eq_true rfl)
          obtain ⟨gx2, hgx2, hn5, hn6⟩ := RR.at f31 hx2
          obtain rfl : gx1 = gx2 := Option.some.inj (hgx1.symm.trans hgx2)
          replace hn6 : Sl encE w8 (Iv 0 hi_g) x1.e.val gx1.2 := hn6
          have hle_5 := hn6.le
          refine OL.q (Q1.load1 ti49 rfl (fun _ e => e ▸ hr4)) rfl rfl ?_
          refine OL.q (Q1.lenSl Try.underlying49 (hn6) rfl) rfl rfl ?_
          refine OL.qb (Q1.lt rfl rfl) rfl rfl ?_
          intro b6 hb4
          refine OL.nil ?_
          cases b6 with
          | true =>
            replace hb4 := of_decide_eq_true hb4.symm
            refine r_cond_t rfl ?_
            refine r_skip ?_
            refine r_seq ?_
            refine r_block ?_
            refine r_seq ?_
            refine r_region ?_
            refine OL.q (Q1.move rfl) rfl rfl ?_
            refine OL.q (Q1.nilCheckP rfl) rfl rfl ?_
            refine OL.q (Q1.fieldAddr fl142_0 rfl) rfl rfl ?_
            refine OL.q (Q1.load1 ti140 rfl (fun _ e => e ▸ (f29.cell 0 _ rfl))) rfl rfl ?_
            refine OL.q (Q1.move rfl) rfl rfl ?_
            obtain ⟨x3, b7, o3, hx3, hr5, hl9, hu3, hw3⟩ := Sl.at' (P := Try.prog) f30 Try.underlying140 ti144 encRd_len (k := .i64) (n := ((i : Nat) : Int)) (i) (by omega) (by first | assumption | omega)
            obtain rfl : x1 = x3 := Option.some.inj (hx1.symm.trans hx3)
            refine OL.q (Q1.indexAddr rfl rfl hr5) rfl rfl ?_
            refine OL.q (Q1.fieldAddr fl144_1 rfl) rfl rfl ?_
            have hr6 := hw3.sub 1 1 (Nat.le_of_ble_eq_true rfl)
            obtain ⟨gx3, hgx3, hn7, hn8⟩ := RR.at f31 hx3
            obtain rfl : gx1 = gx3 := Option.some.inj (hgx1.symm.trans hgx3)
            replace hn8 : Sl encE w8 (Iv 0 hi_g) x1.e.val gx1.2 := hn8
            have hle_6 := hn8.le
            refine OL.q (Q1.load1 ti49 rfl (fun _ e => e ▸ hr6)) rfl rfl ?_
            refine OL.q (Q1.move rfl) rfl rfl ?_
            obtain ⟨x4, b8, o4, hx4, hr7, hl10, hu4, hw4⟩ := Sl.at' (P := Try.prog) hn8 Try.underlying49 ti94 encE_len (k := .i64) (n := ((k : Nat) : Int)) (k) (by omega) (by first | assumption | omega)
            refine OL.q (Q1.indexAddr rfl rfl hr7) rfl rfl ?_
            have hl6 := enc_len4 hO2 hx4
            have hie := hI _ (List.mem_of_getElem? hgi) _ (List.mem_of_getElem? hx4)
            refine OL.q (Q1.loadN ti94 rfl (fun _ e => e ▸ hw4) rfl) rfl rfl ?_
            refine OL.act rfl rfl (AW.alloc ti94 ?_)
            intro w9 b9 hm7 hb5 hz2 hk2
            have hl11 := ha2.lt
            have f32 := ha2.ext hm7
            have f33 := f29.ext hm7
            have f34 := f30.ext hm7
            have f35 := f31.ext hm7
            have f36 := hn6.ext hm7
            have f37 := hn8.ext hm7
            have hE9 := hE8.ext hm7
            have hs9 := hm7.size
            refine OL.act rfl rfl (AW.store ti94 rfl rfl rfl rfl rfl hk2 (Nat.le_of_ble_eq_true rfl) ?_)
            intro w10 hm8 hz3 hk3
            replace hk3 : Bk w10 b9 [.int .i32 x4.rune, .int .i64 x4.to] 94 := hk3
            have hl12 := f32.lt
            have f38 := f32.keepG hm8 (by omega)
            have f39 := f33.keepG hm8 (by omega)
            have f40 := f34.keepG hm8 (by omega)
            have f41 := f35.keepG hm8 (by omega)
            have f42 := f36.keepG hm8 (by omega)
            have f43 := f37.keepG hm8 (by omega)
            have hE10 := Ext.thenG hE9 hm8 (by omega)
            have hs10 := hm8.size
            refine OL.nil ?_
            refine r_draw1 (fun i => Nat.beq i 4 || Nat.beq i 7) 9 (fun w' => Mod (Mg 0) w10 w') mixed (by kernel_rfl) ?_
            intro w11 hm9
            have hl13 := f38.lt
            have f44 := f38.ext hm9
            have f45 := f39.ext hm9
            have f46 := f40.ext hm9
            have f47 := f41.ext hm9
            have f48 := f42.ext hm9
            have f49 := f43.ext hm9
            have f50 := hk3.ext hm9
            have hE11 := hE10.ext hm9
            have hs11 := hm9.size
            have hCw11 : Mod (Mg 0) w10 w11 := Mod.ofExt hm9
            refine ⟨hCw11, ?_⟩
            rw [show List.range' 0 (Array.size _) = [0, 1, 2, 3, 4, 5, 6, 7, 8] from rfl]
            refine OD.q rfl rfl (Q1.move rfl) rfl rfl ?_
            refine OD.q rfl rfl (Q1.fieldAddr fl94_0 rfl) rfl rfl ?_
            refine OD.q rfl rfl (Q1.load1 ti21 rfl (fun _ hc => (hk3.cell 0 _ rfl).keepG hc (by omega))) rfl rfl ?_
            refine OD.q rfl rfl (Q1.convN (by kernel_rfl) Try.underlying3 rfl (IntWalk.i64_in _ (by omega))) rfl rfl ?_
            refine OD.act rfl rfl rfl rfl (AW.callF cl93 rfl (r3put_c (w0 := w11) (b := out2) (x4.rune) (4) ((f44.sl).iv (Nat.zero_le _) (by omega)) (by first | assumption | omega | (simp only [List.length_append, putN_len, List.length_cons, List.length_nil]; omega)) (by first | omega | decide)) ?_)
            rintro v4 w12 ⟨⟨gr4, h4, hg6⟩, hm10⟩
            have hl14 := f44.lt
            have f51 := f44.ext hm10
            have f52 := f45.ext hm10
            have f53 := f46.ext hm10
            have f54 := f47.ext hm10
            have f55 := f48.ext hm10
            have f56 := f49.ext hm10
            have f57 := f50.ext hm10
            have hE12 := hE11.ext hm10
            have hs12 := hm10.size
            have hCw12 := hCw11.ext hm10
            refine ⟨.inr hCw12, ?_⟩
            have hle_7 := h4.le
            have hlt_4 := h4.lt
            have := putN_len x4.rune 4
            refine OD.q rfl rfl (Q1.fieldAddr fl94_1 rfl) rfl rfl ?_
            refine OD.q rfl rfl (Q1.load1 ti3 rfl (fun _ hc => (hk3.cell 1 _ rfl).keepG hc (by omega))) rfl rfl ?_
            refine OD.act rfl rfl rfl rfl (AW.callF cl93 rfl (r3put_c (w0 := w12) (b := (out2 ++ putN x4.rune 4)) (x4.to) (2) ((h4.sl).iv (Nat.zero_le _) (by omega)) (by first | assumption | omega | (simp only [List.length_append, putN_len, List.length_cons, List.length_nil]; omega)) (by first | omega | decide)) ?_)
            rintro v5 w13 ⟨⟨gr5, h5, hg7⟩, hm11⟩
            have hl15 := f51.lt
            have hl16 := h4.lt
            have f58 := f51.ext hm11
            have f59 := f52.ext hm11
            have f60 := f53.ext hm11
            have f61 := f54.ext hm11
            have f62 := f55.ext hm11
            have f63 := f56.ext hm11
            have f64 := f57.ext hm11
            have f65 := h4.ext hm11
            have hE13 := hE12.ext hm11
            have hs13 := hm11.size
            have hCw13 := hCw12.ext hm11
            refine ⟨.inr hCw13, ?_⟩
            have hle_8 := h5.le
            have hlt_5 := h5.lt
            have := putN_len x4.to 2
            refine OD.q rfl rfl (Q1.assign rfl) rfl rfl ?_
            refine OD.nil ?_
            refine r_inBlock ?_
            refine r_region ?_
            refine OL.q (Q1.move rfl) rfl rfl ?_
            refine OL.q (Q1.addI (((k + 1 : Nat) : Int)) rfl rfl (by omega)) rfl rfl ?_
            refine OL.q (Q1.assign rfl) rfl rfl ?_
            refine OL.nil ?_
            exact (ih2 _ _ _ ⟨(v5 : Value), (gr5 : Nat), ((((out2 ++ putN x4.rune 4)) ++ putN x4.to 2) : List UInt8), (k + 1 : Nat), rfl, rfl, hE13, (by omega), h5, (by omega), f59, f60, f61, (by omega), (by first | exact enc_edge hO2 hx4 | (exfalso; omega))⟩ (by omega)).sub ⟨rfl, rfl, rfl, rfl, trivial⟩
          | false =>
            replace hb4 := of_decide_eq_false hb4.symm
            refine r_cond_f rfl ?_
            refine r_exit rfl ?_
            refine r_inBlock ?_
            refine r_region ?_
            refine OL.q (Q1.move rfl) rfl rfl ?_
            refine OL.q (Q1.addI (((i + 1 : Nat) : Int)) rfl rfl (by omega)) rfl rfl ?_
            refine OL.q (Q1.assign rfl) rfl rfl ?_
            refine OL.nil ?_
            exact (ih1 _ _ _ ⟨(v_out2 : Value), (g_out2 : Nat), (out2 : List UInt8), (i + 1 : Nat), rfl, rfl, hE8, (by omega), ha2, (by omega), f29, f30, f31, (by omega), (by first | exact enc_next hO2 (by omega) | (exfalso; omega)), (by first | omega | (exfalso; omega))⟩ (by omega)).sub ⟨rfl, rfl, rfl, trivial⟩
      | false =>
        replace hb3 := hb3.symm
        refine r_cond_f rfl ?_
        refine r_skip ?_
        refine r_seq ?_
        refine r_draw1 (fun i => Nat.beq i 2 || Nat.beq i 12) 14 (fun w' => Mod (Mg 0) w4 w') mixed (by kernel_rfl) ?_
        intro w5 hm4
        have hl3 := f11.lt
        have f15 := f11.ext hm4
        have f16 := f12.ext hm4
        have f17 := f13.ext hm4
        have f18 := f14.ext hm4
        have hE5 := hE4.ext hm4
        have hs5 := hm4.size
        have hCw5 : Mod (Mg 0) w4 w5 := Mod.ofExt hm4
        refine ⟨hCw5, ?_⟩
        rw [show List.range' 0 (Array.size _) = [0, 1, 2, 3, 4, 5, 6, 7, 8, 9, 10, 11, 12, 13] from rfl]
        refine OD.q rfl rfl (Q1.move rfl) rfl rfl ?_
        refine OD.q rfl rfl (Q1.move rfl) rfl rfl ?_
        refine OD.act rfl rfl rfl rfl (AW.callF cl93 rfl (r3put_c (w0 := w5) (b := out) (0) (1) ((f15.sl).iv (Nat.zero_le _) (by omega)) (by first | assumption | omega | (simp only [List.length_append, putN_len, List.length_cons, List.length_nil]; omega)) (by first | omega | decide)) ?_)
        rintro v2 w6 ⟨⟨gr2, h2, hg3⟩, hm5⟩
        have hl4 := f15.lt
        have f19 := f15.ext hm5
        have f20 := f16.ext hm5
        have f21 := f17.ext hm5
        have f22 := f18.ext hm5
        have hE6 := hE5.ext hm5
        have hs6 := hm5.size
        have hCw6 := hCw5.ext hm5
        refine ⟨.inr hCw6, ?_⟩
        have hle_2 := h2.le
        have hlt_2 := h2.lt
        have := putN_len 0 1
        refine OD.q rfl rfl (Q1.move rfl) rfl rfl ?_
        refine OD.q rfl rfl (Q1.nilCheckP rfl) rfl rfl ?_
        refine OD.q rfl rfl (Q1.fieldAddr fl142_0 rfl) rfl rfl ?_
        refine OD.q rfl rfl (Q1.load1 ti140 rfl (fun _ hc => (f12.cell 0 _ rfl).keepG hc (by omega))) rfl rfl ?_
        refine OD.q rfl rfl (Q1.move rfl) rfl rfl ?_
        obtain ⟨x1, b4, o1, hx1, hr1, hl5, hu1, hw1⟩ := Sl.at' (P := Try.prog) f13 Try.underlying140 ti144 encRd_len (k := .i64) (n := ((i : Nat) : Int)) (i) (by omega) (by first | assumption | omega)
        refine OD.q rfl rfl (Q1.indexAddr rfl rfl hr1) rfl rfl ?_
        refine OD.q rfl rfl (Q1.fieldAddr fl144_1 rfl) rfl rfl ?_
        have hr2 := hw1.sub 1 1 (Nat.le_of_ble_eq_true rfl)
        obtain ⟨gx1, hgx1, hn2, hn3⟩ := RR.at f22 hx1
        replace hn3 : Sl encE w6 (Iv 0 hi_g) x1.e.val gx1.2 := hn3
        have hle_3 := hn3.le
        refine OD.q rfl rfl (Q1.load1 ti49 rfl (fun _ hc => hr2.keepG hc (by omega))) rfl rfl ?_
        have hgi := gnOf_get hgx1
        have hgl3 := enc_lenN hO hgi
        have hxe := hel _ (List.mem_of_getElem? hgx1)
        refine OD.q rfl rfl (Q1.lenSl Try.underlying49 (hn3) rfl) rfl rfl ?_
        refine OD.act rfl rfl rfl rfl (AW.callF cl93 rfl (r3put_c (w0 := w6) (b := (out ++ putN 0 1)) (((gx1.2.length : Nat) : Int)) (2) ((h2.sl).iv (Nat.zero_le _) (by omega)) (by first | assumption | omega | (simp only [List.length_append, putN_len, List.length_cons, List.length_nil]; omega)) (by first | omega | decide)) ?_)
        rintro v3 w7 ⟨⟨gr3, h3, hg4⟩, hm6⟩
        have hl6 := f19.lt
        have hl7 := h2.lt
        have f23 := f19.ext hm6
        have f24 := f20.ext hm6
        have f25 := f21.ext hm6
        have f26 := f22.ext hm6
        have f27 := h2.ext hm6
        have f28 := hn3.ext hm6
        have hE7 := hE6.ext hm6
        have hs7 := hm6.size
        have hCw7 := hCw6.ext hm6
        refine ⟨.inr hCw7, ?_⟩
        have hle_4 := h3.le
        have hlt_3 := h3.lt
        have := putN_len (((gx1.2.length : Nat) : Int)) 2
        refine OD.q rfl rfl (Q1.assign rfl) rfl rfl ?_
        refine OD.nil ?_
        refine r_seq ?_
        refine r_region ?_
        refine OL.q (Q1.assign rfl) rfl rfl ?_
        refine OL.nil ?_
        refine r_block ?_
        refine r_loop (I := fun m E W => ∃ (v_out2 : Value) (g_out2 : Nat) (out2 : List UInt8) (k : Nat), E = [(0, ptr b_g 0), (3, v_out2), (4, .int .i64 (((i : Nat) : Int))), (6, .int .i64 (((k : Nat) : Int)))] ∧ m = gx1.2.length - k ∧ Ext w0 W ∧ w7.heap.size ≤ W.heap.size ∧ Acc encB 5 1 W g_out2 v_out2 out2 ∧ (g_out2 = 0 ∨ w0.heap.size < g_out2) ∧ Rw W lo_g hi_g b_g [vN_g] ∧ Sl encRd W (Iv lo_g hi_g) vN_g nds_g ∧ RR W (Iv 0 hi_g) nds_g g ∧ (g_out2 ≤ lo_g ∨ hi_g < g_out2) ∧ (out2 ++ ((gx1.2.drop k).flatMap edgeB ++ ((gnOf g).drop (i + 1)).flatMap nodeB) = bodyB (gnOf g))) ?_ ?_
        · refine ⟨_, _, ⟨(v3 : Value), (gr3 : Nat), ((((out ++ putN 0 1)) ++ putN (((gx1.2.length : Nat) : Int)) 2) : List UInt8), (0 : Nat), rfl, rfl, hE7, Nat.le_refl _, h3, (by omega), f24, f25, f26, (by omega), (by first | exact enc_nodeT hO hgx1 (by assumption) | exact enc_nodeF hO hgx1 (by assumption))⟩, ⟨rfl, rfl, rfl, rfl, trivial⟩⟩
        · rintro _ _ w8 ⟨v_out2, g_out2, out2, k, rfl, rfl, hE8, hs8, ha2, hg5, f29, f30, f31, hn4, hO2⟩ ih2
          have hbl2 := enc_len hO2
          refine r_seq ?_
          refine r_seq ?_
          refine r_region ?_
          refine OL.q (Q1.move rfl) rfl rfl ?_
          refine OL.q (Q1.move rfl) rfl rfl ?_
          refine OL.q (Q1.nilCheckP rfl) rfl rfl ?_
          refine OL.q (Q1.fieldAddr fl142_0 rfl) rfl rfl ?_
          refine OL.q (Q1.load1 ti140 rfl (fun _ e => e ▸ (f29.cell 0 _ rfl))) rfl rfl ?_
          refine OL.q (Q1.move rfl) rfl rfl ?_
          obtain ⟨x2, b5, o2, hx2, hr3, hl8, hu2, hw2⟩ := Sl.at' (P := Try.prog) f30 Try.underlying140 ti144 encRd_len (k := .i64) (n := ((i : Nat) : Int)) (i) (by omega) (by first | assumption | omega)
          obtain rfl : x1 = x2 := Option.some.inj (hx1.symm.trans hx2)
          refine OL.q (Q1.indexAddr rfl rfl hr3) rfl rfl ?_
          refine OL.q (Q1.fieldAddr fl144_1 rfl) rfl rfl ?_
          have hr4 := hw2.sub 1 1 (Nat.le_of_ble_eq_true rfl)
          obtain ⟨gx2, hgx2, hn5, hn6⟩ := RR.at f31 hx2
          obtain rfl : gx1 = gx2 := Option.some.inj (hgx1.symm.trans hgx2)
          replace hn6 : Sl encE w8 (Iv 0 hi_g) x1.e.val gx1.2 := hn6
          have hle_5 := hn6.le
          refine OL.q (Q1.load1 ti49 rfl (fun _ e => e ▸ hr4)) rfl rfl ?_
          refine OL.q (Q1.lenSl Try.underlying49 (hn6) rfl) rfl rfl ?_
          refine OL.qb (Q1.lt rfl rfl) rfl rfl ?_
          intro b6 hb4
          refine OL.nil ?_
          cases b6 with
          | true =>
            replace hb4 := of_decide_eq_true hb4.symm
            refine r_cond_t rfl ?_
            refine r_skip ?_
            refine r_seq ?_
            refine r_block ?_
            refine r_seq ?_
            refine r_region ?_
            refine OL.q (Q1.move rfl) rfl rfl ?_
            refine OL.q (Q1.nilCheckP rfl) rfl rfl ?_
            refine OL.q (Q1.fieldAddr fl142_0 rfl) rfl rfl ?_
            refine OL.q (Q1.load1 ti140 rfl (fun _ e => e ▸ (f29.cell 0 _ rfl))) rfl rfl ?_
            refine OL.q (Q1.move rfl) rfl rfl ?_
            obtain ⟨x3, b7, o3, hx3, hr5, hl9, hu3, hw3⟩ := Sl.at' (P := Try.prog) f30 Try.underlying140 ti144 encRd_len (k := .i64) (n := ((i : Nat) : Int)) (i) (by omega) (by first | assumption | omega)
            obtain rfl : x1 = x3 := Option.some.inj (hx1.symm.trans hx3)
            refine OL.q (Q1.indexAddr rfl rfl hr5) rfl rfl ?_
            refine OL.q (Q1.fieldAddr fl144_1 rfl) rfl rfl ?_
            have hr6 := hw3.sub 1 1 (Nat.le_of_ble_eq_true rfl)
            obtain ⟨gx3, hgx3, hn7, hn8⟩ := RR.at f31 hx3
            obtain rfl : gx1 = gx3 := Option.some.inj (hgx1.symm.trans hgx3)
            replace hn8 : Sl encE w8 (Iv 0 hi_g) x1.e.val gx1.2 := hn8
            have hle_6 := hn8.le
            refine OL.q (Q1.load1 ti49 rfl (fun _ e => e ▸ hr6)) rfl rfl ?_
            refine OL.q (Q1.move rfl) rfl rfl ?_
            obtain ⟨x4, b8, o4, hx4, hr7, hl10, hu4, hw4⟩ := Sl.at' (P := Try.prog) hn8 Try.underlying49 ti94 encE_len (k := .i64) (n := ((k : Nat) : Int)) (k) (by omega) (by first | assumption | omega)
            refine OL.q (Q1.indexAddr rfl rfl hr7) rfl rfl ?_
            have hl6 := enc_len4 hO2 hx4
            have hie := hI _ (List.mem_of_getElem? hgi) _ (List.mem_of_getElem? hx4)
            refine OL.q (Q1.loadN ti94 rfl (fun _ e => e ▸ hw4) rfl) rfl rfl ?_
            refine OL.act rfl rfl (AW.alloc ti94 ?_)
            intro w9 b9 hm7 hb5 hz2 hk2
            have hl11 := ha2.lt
            have f32 := ha2.ext hm7
            have f33 := f29.ext hm7
            have f34 := f30.ext hm7
            have f35 := f31.ext hm7
            have f36 := hn6.ext hm7
            have f37 := hn8.ext hm7
            have hE9 := hE8.ext hm7
            have hs9 := hm7.size
            refine OL.act rfl rfl (AW.store ti94 rfl rfl rfl rfl rfl hk2 (Nat.le_of_ble_eq_true rfl) ?_)
            intro w10 hm8 hz3 hk3
            replace hk3 : Bk w10 b9 [.int .i32 x4.rune, .int .i64 x4.to] 94 := hk3
            have hl12 := f32.lt
            have f38 := f32.keepG hm8 (by omega)
            have f39 := f33.keepG hm8 (by omega)
            have f40 := f34.keepG hm8 (by omega)
            have f41 := f35.keepG hm8 (by omega)
            have f42 := f36.keepG hm8 (by omega)
            have f43 := f37.keepG hm8 (by omega)
            have hE10 := Ext.thenG hE9 hm8 (by omega)
            have hs10 := hm8.size
            refine OL.nil ?_
            refine r_draw1 (fun i => Nat.beq i 4 || Nat.beq i 7) 9 (fun w' => Mod (Mg 0) w10 w') mixed (by kernel_rfl) ?_
            intro w11 hm9
            have hl13 := f38.lt
            have f44 := f38.ext hm9
            have f45 := f39.ext hm9
            have f46 := f40.ext hm9
            have f47 := f41.ext hm9
            have f48 := f42.ext hm9
            have f49 := f43.ext hm9
            have f50 := hk3.ext hm9
            have hE11 := hE10.ext hm9
            have hs11 := hm9.size
            have hCw11 : Mod (Mg 0) w10 w11 := Mod.ofExt hm9
            refine ⟨hCw11, ?_⟩
            rw [show List.range' 0 (Array.size _) = [0, 1, 2, 3, 4, 5, 6, 7, 8] from rfl]
            refine OD.q rfl rfl (Q1.move rfl) rfl rfl ?_
            refine OD.q rfl rfl (Q1.fieldAddr fl94_0 rfl) rfl rfl ?_
            refine OD.q rfl rfl (Q1.load1 ti21 rfl (fun _ hc => (hk3.cell 0 _ rfl).keepG hc (by omega))) rfl rfl ?_
            refine OD.q rfl rfl (Q1.convN (by kernel_rfl) Try.underlying3 rfl (IntWalk.i64_in _ (by omega))) rfl rfl ?_
            refine OD.act rfl rfl rfl rfl (AW.callF cl93 rfl (r3put_c (w0 := w11) (b := out2) (x4.rune) (4) ((f44.sl).iv (Nat.zero_le _) (by omega)) (by first | assumption | omega | (simp only [List.length_append, putN_len, List.length_cons, List.length_nil]; omega)) (by first | omega | decide)) ?_)
            rintro v4 w12 ⟨⟨gr4, h4, hg6⟩, hm10⟩
            have hl14 := f44.lt
            have f51 := f44.ext hm10
            have f52 := f45.ext hm10
            have f53 := f46.ext hm10
            have f54 := f47.ext hm10
            have f55 := f48.ext hm10
            have f56 := f49.ext hm10
            have f57 := f50.ext hm10
            have hE12 := hE11.ext hm10
            have hs12 := hm10.size
            have hCw12 := hCw11.ext hm10
            refine ⟨.inr hCw12, ?_⟩
            have hle_7 := h4.le
            have hlt_4 := h4.lt
            have := putN_len x4.rune 4
            refine OD.q rfl rfl (Q1.fieldAddr fl94_1 rfl) rfl rfl ?_
            refine OD.q rfl rfl (Q1.load1 ti3 rfl (fun _ hc => (hk3.cell 1 _ rfl).keepG hc (by omega))) rfl rfl ?_
            refine OD.act rfl rfl rfl rfl (AW.callF cl93 rfl (r3put_c (w0 := w12) (b := (out2 ++ putN x4.rune 4)) (x4.to) (2) ((h4.sl).iv (Nat.zero_le _) (by omega)) (by first | assumption | omega | (simp only [List.length_append, putN_len, List.length_cons, List.length_nil]; omega)) (by first | omega | decide)) ?_)
            rintro v5 w13 ⟨⟨gr5, h5, hg7⟩, hm11⟩
            have hl15 := f51.lt
            have hl16 := h4.lt
            have f58 := f51.ext hm11
            have f59 := f52.ext hm11
            have f60 := f53.ext hm11
            have f61 := f54.ext hm11
            have f62 := f55.ext hm11
            have f63 := f56.ext hm11
            have f64 := f57.ext hm11
            have f65 := h4.ext hm11
            have hE13 := hE12.ext hm11
            have hs13 := hm11.size
            have hCw13 := hCw12.ext hm11
            refine ⟨.inr hCw13, ?_⟩
            have hle_8 := h5.le
            have hlt_5 := h5.lt
            have := putN_len x4.to 2
            refine OD.q rfl rfl (Q1.assign rfl) rfl rfl ?_
            refine OD.nil ?_
            refine r_inBlock ?_
            refine r_region ?_
            refine OL.q (Q1.move rfl) rfl rfl ?_
            refine OL.q (Q1.addI (((k + 1 : Nat) : Int)) rfl rfl (by omega)) rfl rfl ?_
            refine OL.q (Q1.assign rfl) rfl rfl ?_
            refine OL.nil ?_
            exact (ih2 _ _ _ ⟨(v5 : Value), (gr5 : Nat), ((((out2 ++ putN x4.rune 4)) ++ putN x4.to 2) : List UInt8), (k + 1 : Nat), rfl, rfl, hE13, (by omega), h5, (by omega), f59, f60, f61, (by omega), (by first | exact enc_edge hO2 hx4 | (exfalso; omega))⟩ (by omega)).sub ⟨rfl, rfl, rfl, rfl, trivial⟩
          | false =>
            replace hb4 := of_decide_eq_false hb4.symm
            refine r_cond_f rfl ?_
            refine r_exit rfl ?_
            refine r_inBlock ?_
            refine r_region ?_
            refine OL.q (Q1.move rfl) rfl rfl ?_
            refine OL.q (Q1.addI (((i + 1 : Nat) : Int)) rfl rfl (by omega)) rfl rfl ?_
            refine OL.q (Q1.assign rfl) rfl rfl ?_
            refine OL.nil ?_
            exact (ih1 _ _ _ ⟨(v_out2 : Value), (g_out2 : Nat), (out2 : List UInt8), (i + 1 : Nat), rfl, rfl, hE8, (by omega), ha2, (by omega), f29, f30, f31, (by omega), (by first | exact enc_next hO2 (by omega) | (exfalso; omega)), (by first | omega | (exfalso; omega))⟩ (by omega)).sub ⟨rfl, rfl, rfl, trivial⟩
    | false =>
      replace hb2 := of_decide_eq_false hb2.symm
      refine r_cond_f rfl ?_
      refine r_exit rfl ?_
      refine r_seq ?_
      refine r_region ?_
      refine OL.q (Q1.move rfl) rfl rfl ?_
      have hl2 := ha1.lt
      refine OL.act rfl rfl (AW.callF cl95 rfl (r9seal_c (w0 := w3) (b := out)  ((ha1.sl).iv (Nat.zero_le _) (by omega)) (by first | assumption | omega | (simp only [List.length_append, putN_len, List.length_cons, List.length_nil]; omega))) ?_)
      rintro v2 w4 ⟨⟨gr2, h2, hg3⟩, hm3⟩
      have hl3 := ha1.lt
      have f11 := ha1.ext hm3
      have f12 := f8.ext hm3
      have f13 := f9.ext hm3
      have f14 := f10.ext hm3
      have hE4 := hE3.ext hm3
      have hs4 := hm3.size
      have hle_2 := h2.le
      have hlt_2 := h2.lt
      refine OL.q (Q1.assign rfl) rfl rfl ?_
      refine OL.nil ?_
      refine r_ret1 Try.func60 rfl rfl ?_
      exact Ret.mk ⟨⟨_, Acc.cast h2 (by first | (rw [enc_fin hO (by omega)]; rfl) | (exfalso; omega)), by omega⟩, hE4⟩
set_option maxRecDepth 20000 in
set_option maxHeartbeats 4000000 in
theorem r9of_c {w0 : World}  {v_words : Value} {words : List Str} (h_words : Sl encS w0 (Iv 0 w0.heap.size) v_words words) (hso : SOk words) (hsz : words.length ≤ 1000000) :
    Calls Try.prog 16 #[v_words] w0 (Ret fun rv w1 => ∃ u0 u1, rv = .tuple #[u0, u1] ∧ (∃ gr, Acc encB 5 1 w1 gr u0 (imgM words) ∧ (gr = 0 ∨ w0.heap.size < gr)) ∧ u1 = .int .i64 (goodL words) ∧ Ext w0 w1) := by
  have hE0 : Ext w0 w0 := Mod.refl _ _
  have hle1 := h_words.le
  refine calls_enter Try.func16 rfl Try.ntmps16 rfl ?_
  refine r_seq ?_
  refine r_region ?_
  refine OL.q (Q1.assign rfl) rfl rfl ?_
  refine OL.q (Q1.assign rfl) rfl rfl ?_
  refine OL.nil ?_
  refine r_seq ?_
  refine r_region ?_
  refine OL.q (Q1.move rfl) rfl rfl ?_
  refine OL.act rfl rfl (AW.callF cl59 rfl (r8build_c (w0 := w0) (R := Iv 0 w0.heap.size) (words := words) (h_words.iv (Nat.zero_le _) (by omega)) (fun b hb => hb.2) (by first | assumption) (by first | assumption | omega)) ?_)
  rintro _ w1 ⟨u1, rfl, hm1, hrg8⟩
  have f1 := h_words.ext hm1
  have hE1 := hE0.ext hm1
  have hs1 := hm1.size
  have := goodL_range words
  rcases hrg8 with ⟨hrn, hru⟩ | ⟨hry, bG8, hs8, F8, hru, hA8, hF8⟩
  · subst hru
    refine OL.q (Q1.move rfl) rfl rfl ?_
    refine OL.q (Q1.extract rfl rfl) rfl rfl ?_
    refine OL.q (Q1.extract rfl rfl) rfl rfl ?_
    refine OL.q (Q1.assign rfl) rfl rfl ?_
    refine OL.q (Q1.assign rfl) rfl rfl ?_
    refine OL.nil ?_
    refine r_seq ?_
    refine r_seq ?_
    refine r_region ?_
    refine OL.q (Q1.move rfl) rfl rfl ?_
    refine OL.qb (Q1.ne rfl rfl) rfl rfl ?_
    intro b1 hb1
    obtain rfl : b1 = true := hb1.trans (by exact bne_iff_ne.2 hrn)
    refine OL.nil ?_
    refine r_cond_t rfl ?_
    refine r_seq ?_
    refine r_region ?_
    refine OL.q (Q1.move rfl) rfl rfl ?_
    refine OL.q (Q1.assign rfl) rfl rfl ?_
    refine OL.q (Q1.assign rfl) rfl rfl ?_
    refine OL.nil ?_
    refine r_ret2 Try.func16 rfl rfl rfl ?_
    exact Ret.mk ⟨_, _, rfl, ⟨0, Acc.cast Acc.nil (by first | exact imgM_no hrn | rfl | (rw [← gnodes_yes hry]; exact enc_img hry) | exact hry.symm | (exfalso; omega)), .inl rfl⟩, (congrArg (Value.int .i64) (by first | exact imgM_no hrn | rfl | (rw [← gnodes_yes hry]; exact enc_img hry) | exact hry.symm | (exfalso; omega))), hE1⟩
  · subst hru
    obtain ⟨vN8, nds8, hrw8, hsl8, hrr8⟩ := rg_facts hA8 hF8 (fun b hb => by have := hb.2; omega)
    have hnl8 := (All2.get hrr8).1
    have hgok8 := gok_of hry
    have hsz8 := hgok8.size
    refine OL.q (Q1.move rfl) rfl rfl ?_
    refine OL.q (Q1.extract rfl rfl) rfl rfl ?_
    refine OL.q (Q1.extract rfl rfl) rfl rfl ?_
    refine OL.q (Q1.assign rfl) rfl rfl ?_
    refine OL.q (Q1.assign rfl) rfl rfl ?_
    refine OL.nil ?_
    refine r_seq ?_
    refine r_seq ?_
    refine r_region ?_
    refine OL.q (Q1.move rfl) rfl rfl ?_
    refine OL.qb (Q1.ne rfl rfl) rfl rfl ?_
    intro b1 hb1
    obtain rfl : b1 = false := hb1.trans (by exact bne_eq_false_iff_eq.2 hry)
    refine OL.nil ?_
    refine r_cond_f rfl ?_
    refine r_skip ?_
    refine r_seq ?_
    refine r_region ?_
    refine OL.q (Q1.move rfl) rfl rfl ?_
    refine OL.act rfl rfl (AW.callF cl60 rfl (r9encode_c (w0 := w1)   hrw8 hsl8 hrr8 ⟨by omega, by omega⟩ (by exact hgok8.elen) (by (rw [← gnodes_yes hry]; exact hgok8.edges.1)) (by (rw [← gnodes_yes hry]; exact body_len hry))) ?_)
    rintro v1 w2 ⟨⟨gr1, h1, hg1⟩, hm2⟩
    have f2 := f1.ext hm2
    have f3 := hsl8.ext hm2
    have f4 := hrr8.ext hm2
    have f5 := hrw8.ext hm2
    have hE2 := hE1.ext hm2
    have hs2 := hm2.size
    have hle_1 := h1.le
    have hlt_1 := h1.lt
    refine OL.q (Q1.assign rfl) rfl rfl ?_
    refine OL.q (Q1.assign rfl) rfl rfl ?_
    refine OL.nil ?_
    refine r_ret2 Try.func16 rfl rfl rfl ?_
    exact Ret.mk ⟨_, _, rfl, ⟨_, Acc.cast h1 (by first | exact imgM_no hrn | rfl | (rw [← gnodes_yes hry]; exact enc_img hry) | exact hry.symm | (exfalso; omega)), by omega⟩, (congrArg (Value.int .i64) (by first | exact imgM_no hrn | rfl | (rw [← gnodes_yes hry]; exact enc_img hry) | exact hry.symm | (exfalso; omega))), hE2⟩
end Go.Proofs
