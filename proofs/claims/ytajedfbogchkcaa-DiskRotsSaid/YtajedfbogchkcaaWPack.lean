/-
  Walks through package pack: what is laid.
-/
import Derived.Test.YtajedfbogchkcaaWBuild
import Derived.Test.YtajedfbogchkcaaWSum
set_option linter.unusedVariables false
set_option linter.unusedSimpArgs false
namespace Go.Proofs
open Go.Ik Go.Ml
set_option maxRecDepth 20000 in
set_option maxHeartbeats 4000000 in
theorem encode_c {w0 : World}  {v_g : Value} {lo_g hi_g : Nat} {g : List GN} (h_g : Gr 0 w0 lo_g hi_g v_g g) (hhi_g : hi_g ≤ w0.heap.size) (hgl : g.length ≤ 1000000) (hel : ∀ x ∈ g, x.2.length ≤ 1000000) (hI : ∀ x ∈ g, ∀ e ∈ x.2, I64 e.to ∧ -2147483648 ≤ e.rune ∧ e.rune ≤ 2147483647) (hbd : (bodyB g).length ≤ 3000000) :
    Calls Try.prog 20 #[v_g] w0 (Ret fun rv w1 => ∃ u0 u1, rv = .tuple #[u0, u1] ∧ (∃ gr, Acc encB 5 1 w1 gr u0 (encA g) ∧ (gr = 0 ∨ w0.heap.size < gr)) ∧ u1 = .int .i64 (errA g) ∧ Ext w0 w1) := by
  have hE0 : Ext w0 w0 := Mod.refl _ _
  refine calls_enter Try.func20 rfl Try.ntmps20 rfl ?_
  refine r_seq ?_
  refine r_region ?_
  refine OL.q (Q1.assign rfl) rfl rfl ?_
  refine OL.q (Q1.assign rfl) rfl rfl ?_
  refine OL.nil ?_
  refine r_seq ?_
  refine r_seq ?_
  refine r_region ?_
  refine OL.q (Q1.move rfl) rfl rfl ?_
  have hgr1 := h_g
  rcases h_g with ⟨hv1, hN1⟩ | ⟨b1, vn1, nds1, hv1, hN1, hrw1, hsl1, hrel1⟩
  · subst hv1
    try subst hN1
    refine OL.q (Q1.eqNil Try.underlying33 rfl rfl) rfl rfl ?_
    refine OL.nil ?_
    refine r_cond_t rfl ?_
    refine r_seq ?_
    refine r_region ?_
    refine OL.q (Q1.assign rfl) rfl rfl ?_
    refine OL.q (Q1.assign rfl) rfl rfl ?_
    refine OL.nil ?_
    refine r_ret2 Try.func20 rfl rfl rfl ?_
    exact Ret.mk ⟨_, _, rfl, ⟨0, Acc.cast Acc.nil (by first | (rw [encA_no rfl]; done) | (rw [encA_no rfl]) | rfl | (rw [encA_yes (by assumption), enc_fin hO (by omega)]; rfl) | exact errA_yes (by assumption) | (exfalso; omega)), .inl rfl⟩, (congrArg (Value.int .i64) (by first | (rw [encA_no rfl]; done) | (rw [encA_no rfl]) | rfl | (rw [encA_yes (by assumption), enc_fin hO (by omega)]; rfl) | exact errA_yes (by assumption) | (exfalso; omega))), hE0⟩
  · subst hv1
    have hnl1 := (All2.get hrel1).1
    refine OL.q (Q1.eqNil Try.underlying33 rfl rfl) rfl rfl ?_
    refine OL.nil ?_
    refine r_cond_f rfl ?_
    refine r_skip ?_
    refine r_seq ?_
    refine r_region ?_
    refine OL.act rfl rfl (AW.buildSlice [(.int .u8 73 : Value), (.int .u8 78 : Value), (.int .u8 75 : Value), (.int .u8 49 : Value)] Try.underlying25 ti5 rfl rfl rfl (by decide) ?_)
    intro w1 b2 hm1 hb1 hz1 hk1
    have f1 := hgr1.ext hm1
    have f2 := hrel1.ext hm1
    have f3 := hsl1.ext hm1
    have f4 := hrw1.ext hm1
    have hE1 := hE0.ext hm1
    have hs1 := hm1.size
    have hl1 := Sl.of_blk (enc := encB) hk1 ([(73 : UInt8), (78 : UInt8), (75 : UInt8), (49 : UInt8)] : List UInt8) 4 rfl rfl (by unfold maxLen; omega)
    refine OL.act rfl rfl (AW.convSl Try.underlying25 Try.underlying5 rfl hk1 ?_)
    intro w2 hm2 hz2 hrw2
    have f5 := f1.keepG hm2 (by omega)
    have f6 := f2.keepG hm2 (by omega)
    have f7 := f3.keepG hm2 (by omega)
    have f8 := f4.keepG hm2 (by omega)
    have hE2 := Ext.thenG hE1 hm2 (by omega)
    have hs2 := hm2.size
    have hl2 : Sl encB w2 (Iv b2 (b2 + 1)) (.slice (some ⟨b2, 0, none⟩) 4 4) [(73 : UInt8), (78 : UInt8), (75 : UInt8), (49 : UInt8)] := Sl.of_row (enc := encB) (l := [(73 : UInt8), (78 : UInt8), (75 : UInt8), (49 : UInt8)]) hrw2 4 rfl (by unfold maxLen; omega)
    refine OL.q (Q1.move rfl) rfl rfl ?_
    refine OL.act rfl rfl (AW.callF cl30 rfl (nodes_c (w0 := w2)   f5 (by omega)) ?_)
    rintro _ w3 ⟨rfl, hm3⟩
    have f9 := f5.ext hm3
    have f10 := f6.ext hm3
    have f11 := f7.ext hm3
    have f12 := f8.ext hm3
    have f13 := hl2.ext hm3
    have hE3 := hE2.ext hm3
    have hs3 := hm3.size
    refine OL.act rfl rfl (AW.callF cl63 rfl (put_c (w0 := w3) (b := [(73 : UInt8), (78 : UInt8), (75 : UInt8), (49 : UInt8)]) ((((g.length : Nat) : Int))) (2) ((f13).iv (Nat.zero_le _) (by omega)) (by first | assumption | omega | (simp only [List.length_append, putN_len, List.length_cons, List.length_nil]; omega)) (by first | omega | decide)) ?_)
    rintro v1 w4 ⟨⟨gr1, h1, hg1⟩, hm4⟩
    have f14 := f9.ext hm4
    have f15 := f10.ext hm4
    have f16 := f11.ext hm4
    have f17 := f12.ext hm4
    have f18 := f13.ext hm4
    have hE4 := hE3.ext hm4
    have hs4 := hm4.size
    have hle_1 := h1.le
    have hlt_1 := h1.lt
    have := putN_len ((((g.length : Nat) : Int))) 2
    refine OL.q (Q1.assign rfl) rfl rfl ?_
    refine OL.nil ?_
    refine r_seq ?_
    refine r_seq ?_
    refine r_region ?_
    refine OL.q (Q1.move rfl) rfl rfl ?_
    refine OL.act rfl rfl (AW.callF cl30 rfl (nodes_c (w0 := w4)   f14 (by omega)) ?_)
    rintro _ w5 ⟨rfl, hm5⟩
    have hl3 := h1.lt
    have f19 := f14.ext hm5
    have f20 := f15.ext hm5
    have f21 := f16.ext hm5
    have f22 := f17.ext hm5
    have f23 := f18.ext hm5
    have f24 := h1.ext hm5
    have hE5 := hE4.ext hm5
    have hs5 := hm5.size
    refine OL.q (Q1.move rfl) rfl rfl ?_
    refine OL.nil ?_
    refine r_block ?_
    refine r_loop (I := fun m E W => ∃ (v_out : Value) (g_out : Nat) (out : List UInt8) (i : Nat), E = [(0, ptr b1 0), (4, v_out), (18, .int .i64 ((((g.length : Nat) : Int)))), (19, .int .i64 (((i : Nat) : Int)))] ∧ m = g.length - i ∧ Ext w0 W ∧ w5.heap.size ≤ W.heap.size ∧ Acc encB 5 1 W g_out v_out out ∧ (g_out = 0 ∨ w0.heap.size < g_out) ∧ Rw W lo_g hi_g b1 [vn1] ∧ Sl encN W (Iv lo_g hi_g) vn1 nds1 ∧ NRel W (Iv lo_g hi_g) nds1 g ∧ Gr 0 W lo_g hi_g ((ptr b1 0)) g ∧ (g_out ≤ lo_g ∨ hi_g < g_out) ∧ (out ++ (g.drop i).flatMap nodeB = bodyB g) ∧ (i ≤ g.length)) ?_ ?_
    · refine ⟨_, _, ⟨(v1 : Value), (gr1 : Nat), ((([(73 : UInt8), (78 : UInt8), (75 : UInt8), (49 : UInt8)]) ++ putN ((((g.length : Nat) : Int))) 2) : List UInt8), (0 : Nat), rfl, rfl, hE5, Nat.le_refl _, f24, (by omega), f22, f21, f20, f19, (by omega), (by exact enc_start g), (by omega)⟩, ⟨rfl, rfl, rfl, rfl, trivial⟩⟩
    · rintro _ _ w6 ⟨v_out, g_out, out, i, rfl, rfl, hE6, hs6, ha1, hg2, f25, f26, f27, f28, hn1, hO, hil⟩ ih1
      have hbl := enc_len hO
      refine r_seq ?_
      refine r_region ?_
      refine OL.qb (Q1.lt rfl rfl) rfl rfl ?_
      intro b3 hb2
      refine OL.nil ?_
      refine r_seq ?_
      cases b3 with
      | true =>
        replace hb2 := of_decide_eq_true hb2.symm
        refine r_cond_t rfl ?_
        refine r_skip ?_
        refine r_seq ?_
        refine r_block ?_
        refine r_seq ?_
        refine r_region ?_
        refine OL.q (Q1.move rfl) rfl rfl ?_
        have hgi := nodeAt_some (g := g) (i := i) (by omega)
        have hgl3 := enc_lenN hO hgi
        have hnl := nodeAt_len hel (i : Int)
        refine OL.q (Q1.assign rfl) rfl rfl ?_
        refine OL.nil ?_
        refine r_seq ?_
        refine r_region ?_
        refine OL.q (Q1.assign rfl) rfl rfl ?_
        refine OL.nil ?_
        refine r_seq ?_
        refine r_seq ?_
        refine r_region ?_
        refine OL.q (Q1.move rfl) rfl rfl ?_
        refine OL.q (Q1.move rfl) rfl rfl ?_
        refine OL.act rfl rfl (AW.callF cl64 rfl (final_c (w0 := w6)  (((i : Nat) : Int)) f28 (by omega) (by first | omega | assumption) (by first | assumption | omega | (simp; done))) ?_)
        rintro _ w7 ⟨⟨b4, hb3, rfl⟩, hm6⟩
        have hl4 := ha1.lt
        have f29 := ha1.ext hm6
        have f30 := f25.ext hm6
        have f31 := f26.ext hm6
        have f32 := f27.ext hm6
        have f33 := f28.ext hm6
        have hE7 := hE6.ext hm6
        have hs7 := hm6.size
        refine OL.nil ?_
        cases b4 with
        | true =>
          replace hb3 := hb3.symm
          refine r_cond_t rfl ?_
          refine r_region ?_
          refine OL.q (Q1.assign rfl) rfl rfl ?_
          refine OL.nil ?_
          refine r_seq ?_
          refine r_region ?_
          refine OL.q (Q1.move rfl) rfl rfl ?_
          refine OL.q (Q1.move rfl) rfl rfl ?_
          refine OL.act rfl rfl (AW.callF cl63 rfl (put_c (w0 := w7) (b := out) (1) (1) ((f29.sl).iv (Nat.zero_le _) (by omega)) (by first | assumption | omega | (simp only [List.length_append, putN_len, List.length_cons, List.length_nil]; omega)) (by first | omega | decide)) ?_)
          rintro v2 w8 ⟨⟨gr2, h2, hg3⟩, hm7⟩
          have hl5 := f29.lt
          have f34 := f29.ext hm7
          have f35 := f30.ext hm7
          have f36 := f31.ext hm7
          have f37 := f32.ext hm7
          have f38 := f33.ext hm7
          have hE8 := hE7.ext hm7
          have hs8 := hm7.size
          have hle_2 := h2.le
          have hlt_2 := h2.lt
          have := putN_len 1 1
          refine OL.q (Q1.assign rfl) rfl rfl ?_
          refine OL.nil ?_
          refine r_seq ?_
          refine r_region ?_
          refine OL.q (Q1.move rfl) rfl rfl ?_
          refine OL.q (Q1.move rfl) rfl rfl ?_
          refine OL.act rfl rfl (AW.callF cl31 rfl (edges_c (w0 := w8)  (((i : Nat) : Int)) f38 (by omega) (by first | omega | assumption) (by first | assumption | omega | (simp; done)) (by first | assumption | (simp; done))) ?_)
          rintro v3 w9 ⟨⟨gr3, h3, hg4⟩, hm8⟩
          have hl6 := f34.lt
          have hl7 := h2.lt
          have f39 := f34.ext hm8
          have f40 := f35.ext hm8
          have f41 := f36.ext hm8
          have f42 := f37.ext hm8
          have f43 := f38.ext hm8
          have f44 := h2.ext hm8
          have hE9 := hE8.ext hm8
          have hs9 := hm8.size
          have hle_3 := h3.le
          have hlt_3 := h3.lt
          refine OL.q (Q1.assign rfl) rfl rfl ?_
          refine OL.nil ?_
          refine r_seq ?_
          refine r_region ?_
          refine OL.q (Q1.move rfl) rfl rfl ?_
          refine OL.q (Q1.move rfl) rfl rfl ?_
          refine OL.q (Q1.lenSl Try.underlying49 (h3.sl) rfl) rfl rfl ?_
          refine OL.act rfl rfl (AW.callF cl63 rfl (put_c (w0 := w9) (b := (out ++ putN 1 1)) ((((((nodeAt g (((i : Nat) : Int))).2)).length : Nat) : Int)) (2) ((f44.sl).iv (Nat.zero_le _) (by omega)) (by first | assumption | omega | (simp only [List.length_append, putN_len, List.length_cons, List.length_nil]; omega)) (by first | omega | decide)) ?_)
          rintro v4 w10 ⟨⟨gr4, h4, hg5⟩, hm9⟩
          have hl8 := f39.lt
          have hl9 := f44.lt
          have hl10 := h3.lt
          have f45 := f39.ext hm9
          have f46 := f40.ext hm9
          have f47 := f41.ext hm9
          have f48 := f42.ext hm9
          have f49 := f43.ext hm9
          have f50 := f44.ext hm9
          have f51 := h3.ext hm9
          have hE10 := hE9.ext hm9
          have hs10 := hm9.size
          have hle_4 := h4.le
          have hlt_4 := h4.lt
          have := putN_len ((((((nodeAt g (((i : Nat) : Int))).2)).length : Nat) : Int)) 2
          refine OL.q (Q1.assign rfl) rfl rfl ?_
          refine OL.nil ?_
          refine r_seq ?_
          refine r_region ?_
          refine OL.q (Q1.move rfl) rfl rfl ?_
          refine OL.q (Q1.lenSl Try.underlying49 (f51.sl) rfl) rfl rfl ?_
          refine OL.q (Q1.move rfl) rfl rfl ?_
          refine OL.nil ?_
          refine r_block ?_
          refine r_loop (I := fun m E W => ∃ (v_out2 : Value) (g_out2 : Nat) (out2 : List UInt8) (k : Nat), E = [(0, ptr b1 0), (4, v_out2), (18, .int .i64 ((((g.length : Nat) : Int)))), (19, .int .i64 (((i : Nat) : Int))), (35, v3), (36, .int .i64 ((((((nodeAt g (((i : Nat) : Int))).2)).length : Nat) : Int))), (37, .int .i64 (((k : Nat) : Int)))] ∧ m = (nodeAt g (i : Int)).2.length - k ∧ Ext w0 W ∧ w10.heap.size ≤ W.heap.size ∧ Acc encB 5 1 W g_out2 v_out2 out2 ∧ (g_out2 = 0 ∨ w0.heap.size < g_out2) ∧ Rw W lo_g hi_g b1 [vn1] ∧ Sl encN W (Iv lo_g hi_g) vn1 nds1 ∧ NRel W (Iv lo_g hi_g) nds1 g ∧ Gr 0 W lo_g hi_g ((ptr b1 0)) g ∧ Acc encE 94 2 W gr3 v3 (((nodeAt g (((i : Nat) : Int))).2)) ∧ (g_out2 ≤ lo_g ∨ hi_g < g_out2) ∧ (g_out2 ≠ gr3 ∨ gr3 = 0) ∧ (out2 ++ (((nodeAt g (i : Int)).2.drop k).flatMap edgeB ++ (g.drop (i + 1)).flatMap nodeB) = bodyB g) ∧ (k ≤ (nodeAt g (i : Int)).2.length)) ?_ ?_
          · refine ⟨_, _, ⟨(v4 : Value), (gr4 : Nat), ((((out ++ putN 1 1)) ++ putN ((((((nodeAt g (((i : Nat) : Int))).2)).length : Nat) : Int)) 2) : List UInt8), (0 : Nat), rfl, rfl, hE10, Nat.le_refl _, h4, (by omega), f46, f47, f48, f49, f51, (by omega), (by omega), (by first | exact enc_node hO hgi (by rw [if_pos (by assumption)]) | exact enc_node hO hgi (by rw [if_neg (by simp [*])])), (by omega)⟩, ⟨rfl, rfl, rfl, rfl, rfl, rfl, rfl, trivial⟩⟩
          · rintro _ _ w11 ⟨v_out2, g_out2, out2, k, rfl, rfl, hE11, hs11, ha2, hg6, f52, f53, f54, f55, f56, hn2, hn3, hO2, hkl⟩ ih2
            have hbl2 := enc_len hO2
            refine r_seq ?_
            refine r_region ?_
            refine OL.qb (Q1.lt rfl rfl) rfl rfl ?_
            intro b5 hb4
            refine OL.nil ?_
            refine r_seq ?_
            cases b5 with
            | true =>
              replace hb4 := of_decide_eq_true hb4.symm
              refine r_cond_t rfl ?_
              refine r_skip ?_
              refine r_seq ?_
              refine r_block ?_
              refine r_seq ?_
              refine r_region ?_
              obtain ⟨x1, b6, o1, hx1, hr1, hl11, hu1, hw1⟩ := Sl.at' (P := Try.prog) f56.sl Try.underlying49 ti94 encE_len (k := .i64) (n := ((k : Nat) : Int)) (k) (by omega) (by first | assumption | omega)
              refine OL.q (Q1.indexAddr rfl rfl hr1) rfl rfl ?_
              refine OL.q (Q1.loadN ti94 rfl (fun _ e => e ▸ hw1) rfl) rfl rfl ?_
              have hl6 := enc_len4 hO2 hx1
              have hie := hI _ (List.mem_of_getElem? hgi) _ (List.mem_of_getElem? hx1)
              refine OL.act rfl rfl (AW.alloc ti94 ?_)
              intro w12 b7 hm10 hb5 hz3 hk2
              have hl12 := ha2.lt
              have hl13 := f56.lt
              have f57 := ha2.ext hm10
              have f58 := f52.ext hm10
              have f59 := f53.ext hm10
              have f60 := f54.ext hm10
              have f61 := f55.ext hm10
              have f62 := f56.ext hm10
              have hE12 := hE11.ext hm10
              have hs12 := hm10.size
              refine OL.act rfl rfl (AW.store ti94 rfl rfl rfl rfl rfl hk2 (Nat.le_of_ble_eq_true rfl) ?_)
              intro w13 hm11 hz4 hk3
              replace hk3 : Bk w13 b7 [.int .i32 x1.rune, .int .i64 x1.to] 94 := hk3
              have hl14 := f57.lt
              have hl15 := f62.lt
              have f63 := f57.keepG hm11 (by omega)
              have f64 := f58.keepG hm11 (by omega)
              have f65 := f59.keepG hm11 (by omega)
              have f66 := f60.keepG hm11 (by omega)
              have f67 := f61.keepG hm11 (by omega)
              have f68 := f62.keepG hm11 (by omega)
              have hE13 := Ext.thenG hE12 hm11 (by omega)
              have hs13 := hm11.size
              refine OL.nil ?_
              refine r_seq ?_
              refine r_region ?_
              refine OL.q (Q1.move rfl) rfl rfl ?_
              refine OL.q (Q1.fieldAddr fl94_0 rfl) rfl rfl ?_
              refine OL.q (Q1.load1 ti21 rfl (fun _ e => e ▸ (hk3.cell 0 _ rfl))) rfl rfl ?_
              refine OL.q (Q1.convN (by kernel_rfl) Try.underlying3 rfl (IntWalk.i64_in _ (by omega))) rfl rfl ?_
              refine OL.act rfl rfl (AW.callF cl63 rfl (put_c (w0 := w13) (b := out2) (x1.rune) (4) ((f63.sl).iv (Nat.zero_le _) (by omega)) (by first | assumption | omega | (simp only [List.length_append, putN_len, List.length_cons, List.length_nil]; omega)) (by first | omega | decide)) ?_)
              rintro v5 w14 ⟨⟨gr5, h5, hg7⟩, hm12⟩
              have hl16 := f63.lt
              have hl17 := f68.lt
              have f69 := f63.ext hm12
              have f70 := f64.ext hm12
              have f71 := f65.ext hm12
              have f72 := f66.ext hm12
              have f73 := f67.ext hm12
              have f74 := f68.ext hm12
              have f75 := hk3.ext hm12
              have hE14 := hE13.ext hm12
              have hs14 := hm12.size
              have hle_5 := h5.le
              have hlt_5 := h5.lt
              have := putN_len x1.rune 4
              refine OL.q (Q1.assign rfl) rfl rfl ?_
              refine OL.nil ?_
              refine r_region ?_
              refine OL.q (Q1.move rfl) rfl rfl ?_
              refine OL.q (Q1.fieldAddr fl94_1 rfl) rfl rfl ?_
              refine OL.q (Q1.load1 ti3 rfl (fun _ e => e ▸ (f75.cell 1 _ rfl))) rfl rfl ?_
              refine OL.act rfl rfl (AW.callF cl63 rfl (put_c (w0 := w14) (b := (out2 ++ putN x1.rune 4)) (x1.to) (2) ((h5.sl).iv (Nat.zero_le _) (by omega)) (by first | assumption | omega | (simp only [List.length_append, putN_len, List.length_cons, List.length_nil]; omega)) (by first | omega | decide)) ?_)
              rintro v6 w15 ⟨⟨gr6, h6, hg8⟩, hm13⟩
              have hl18 := f69.lt
              have hl19 := f74.lt
              have hl20 := h5.lt
              have f76 := f69.ext hm13
              have f77 := f70.ext hm13
              have f78 := f71.ext hm13
              have f79 := f72.ext hm13
              have f80 := f73.ext hm13
              have f81 := f74.ext hm13
              have f82 := f75.ext hm13
              have f83 := h5.ext hm13
              have hE15 := hE14.ext hm13
              have hs15 := hm13.size
              have hle_6 := h6.le
              have hlt_6 := h6.lt
              have := putN_len x1.to 2
              refine OL.q (Q1.assign rfl) rfl rfl ?_
              refine OL.nil ?_
              refine r_inBlock ?_
              refine r_region ?_
              refine OL.q (Q1.addI (((k + 1 : Nat) : Int)) rfl rfl (by omega)) rfl rfl ?_
              refine OL.q (Q1.move rfl) rfl rfl ?_
              refine OL.nil ?_
              exact (ih2 _ _ _ ⟨(v6 : Value), (gr6 : Nat), ((((out2 ++ putN x1.rune 4)) ++ putN x1.to 2) : List UInt8), (k + 1 : Nat), rfl, rfl, hE15, (by omega), h6, (by omega), f77, f78, f79, f80, f81, (by omega), (by omega), (by first | exact enc_edge hO2 hx1 | (exfalso; omega)), (by first | omega | (exfalso; omega))⟩ (by omega)).sub ⟨rfl, rfl, rfl, rfl, rfl, rfl, rfl, trivial⟩
            | false =>
              replace hb4 := of_decide_eq_false hb4.symm
              refine r_cond_f rfl ?_
              refine r_exit rfl ?_
              refine r_inBlock ?_
              refine r_region ?_
              refine OL.q (Q1.addI (((i + 1 : Nat) : Int)) rfl rfl (by omega)) rfl rfl ?_
              refine OL.q (Q1.move rfl) rfl rfl ?_
              refine OL.nil ?_
              exact (ih1 _ _ _ ⟨(v_out2 : Value), (g_out2 : Nat), (out2 : List UInt8), (i + 1 : Nat), rfl, rfl, hE11, (by omega), ha2, (by omega), f52, f53, f54, f55, (by omega), (by first | exact enc_next hO2 (by omega) | (exfalso; omega)), (by first | omega | (exfalso; omega))⟩ (by omega)).sub ⟨rfl, rfl, rfl, rfl, trivial⟩
        | false =>
          replace hb3 := hb3.symm
          refine r_cond_f rfl ?_
          refine r_skip ?_
          refine r_seq ?_
          refine r_region ?_
          refine OL.q (Q1.move rfl) rfl rfl ?_
          refine OL.q (Q1.move rfl) rfl rfl ?_
          refine OL.act rfl rfl (AW.callF cl63 rfl (put_c (w0 := w7) (b := out) (0) (1) ((f29.sl).iv (Nat.zero_le _) (by omega)) (by first | assumption | omega | (simp only [List.length_append, putN_len, List.length_cons, List.length_nil]; omega)) (by first | omega | decide)) ?_)
          rintro v2 w8 ⟨⟨gr2, h2, hg3⟩, hm7⟩
          have hl5 := f29.lt
          have f34 := f29.ext hm7
          have f35 := f30.ext hm7
          have f36 := f31.ext hm7
          have f37 := f32.ext hm7
          have f38 := f33.ext hm7
          have hE8 := hE7.ext hm7
          have hs8 := hm7.size
          have hle_2 := h2.le
          have hlt_2 := h2.lt
          have := putN_len 0 1
          refine OL.q (Q1.assign rfl) rfl rfl ?_
          refine OL.nil ?_
          refine r_seq ?_
          refine r_region ?_
          refine OL.q (Q1.move rfl) rfl rfl ?_
          refine OL.q (Q1.move rfl) rfl rfl ?_
          refine OL.act rfl rfl (AW.callF cl31 rfl (edges_c (w0 := w8)  (((i : Nat) : Int)) f38 (by omega) (by first | omega | assumption) (by first | assumption | omega | (simp; done)) (by first | assumption | (simp; done))) ?_)
          rintro v3 w9 ⟨⟨gr3, h3, hg4⟩, hm8⟩
          have hl6 := f34.lt
          have hl7 := h2.lt
          have f39 := f34.ext hm8
          have f40 := f35.ext hm8
          have f41 := f36.ext hm8
          have f42 := f37.ext hm8
          have f43 := f38.ext hm8
          have f44 := h2.ext hm8
          have hE9 := hE8.ext hm8
          have hs9 := hm8.size
          have hle_3 := h3.le
          have hlt_3 := h3.lt
          refine OL.q (Q1.assign rfl) rfl rfl ?_
          refine OL.nil ?_
          refine r_seq ?_
          refine r_region ?_
          refine OL.q (Q1.move rfl) rfl rfl ?_
          refine OL.q (Q1.move rfl) rfl rfl ?_
          refine OL.q (Q1.lenSl Try.underlying49 (h3.sl) rfl) rfl rfl ?_
          refine OL.act rfl rfl (AW.callF cl63 rfl (put_c (w0 := w9) (b := (out ++ putN 0 1)) ((((((nodeAt g (((i : Nat) : Int))).2)).length : Nat) : Int)) (2) ((f44.sl).iv (Nat.zero_le _) (by omega)) (by first | assumption | omega | (simp only [List.length_append, putN_len, List.length_cons, List.length_nil]; omega)) (by first | omega | decide)) ?_)
          rintro v4 w10 ⟨⟨gr4, h4, hg5⟩, hm9⟩
          have hl8 := f39.lt
          have hl9 := f44.lt
          have hl10 := h3.lt
          have f45 := f39.ext hm9
          have f46 := f40.ext hm9
          have f47 := f41.ext hm9
          have f48 := f42.ext hm9
          have f49 := f43.ext hm9
          have f50 := f44.ext hm9
          have f51 := h3.ext hm9
          have hE10 := hE9.ext hm9
          have hs10 := hm9.size
          have hle_4 := h4.le
          have hlt_4 := h4.lt
          have := putN_len ((((((nodeAt g (((i : Nat) : Int))).2)).length : Nat) : Int)) 2
          refine OL.q (Q1.assign rfl) rfl rfl ?_
          refine OL.nil ?_
          refine r_seq ?_
          refine r_region ?_
          refine OL.q (Q1.move rfl) rfl rfl ?_
          refine OL.q (Q1.lenSl Try.underlying49 (f51.sl) rfl) rfl rfl ?_
          refine OL.q (Q1.move rfl) rfl rfl ?_
          refine OL.nil ?_
          refine r_block ?_
          refine r_loop (I := fun m E W => ∃ (v_out2 : Value) (g_out2 : Nat) (out2 : List UInt8) (k : Nat), E = [(0, ptr b1 0), (4, v_out2), (18, .int .i64 ((((g.length : Nat) : Int)))), (19, .int .i64 (((i : Nat) : Int))), (35, v3), (36, .int .i64 ((((((nodeAt g (((i : Nat) : Int))).2)).length : Nat) : Int))), (37, .int .i64 (((k : Nat) : Int)))] ∧ m = (nodeAt g (i : Int)).2.length - k ∧ Ext w0 W ∧ w10.heap.size ≤ W.heap.size ∧ Acc encB 5 1 W g_out2 v_out2 out2 ∧ (g_out2 = 0 ∨ w0.heap.size < g_out2) ∧ Rw W lo_g hi_g b1 [vn1] ∧ Sl encN W (Iv lo_g hi_g) vn1 nds1 ∧ NRel W (Iv lo_g hi_g) nds1 g ∧ Gr 0 W lo_g hi_g ((ptr b1 0)) g ∧ Acc encE 94 2 W gr3 v3 (((nodeAt g (((i : Nat) : Int))).2)) ∧ (g_out2 ≤ lo_g ∨ hi_g < g_out2) ∧ (g_out2 ≠ gr3 ∨ gr3 = 0) ∧ (out2 ++ (((nodeAt g (i : Int)).2.drop k).flatMap edgeB ++ (g.drop (i + 1)).flatMap nodeB) = bodyB g) ∧ (k ≤ (nodeAt g (i : Int)).2.length)) ?_ ?_
          · refine ⟨_, _, ⟨(v4 : Value), (gr4 : Nat), ((((out ++ putN 0 1)) ++ putN ((((((nodeAt g (((i : Nat) : Int))).2)).length : Nat) : Int)) 2) : List UInt8), (0 : Nat), rfl, rfl, hE10, Nat.le_refl _, h4, (by omega), f46, f47, f48, f49, f51, (by omega), (by omega), (by first | exact enc_node hO hgi (by rw [if_pos (by assumption)]) | exact enc_node hO hgi (by rw [if_neg (by simp [*])])), (by omega)⟩, ⟨rfl, rfl, rfl, rfl, rfl, rfl, rfl, trivial⟩⟩
          · rintro _ _ w11 ⟨v_out2, g_out2, out2, k, rfl, rfl, hE11, hs11, ha2, hg6, f52, f53, f54, f55, f56, hn2, hn3, hO2, hkl⟩ ih2
            have hbl2 := enc_len hO2
            refine r_seq ?_
            refine r_region ?_
            refine OL.qb (Q1.lt rfl rfl) rfl rfl ?_
            intro b5 hb4
            refine OL.nil ?_
            refine r_seq ?_
            cases b5 with
            | true =>
              replace hb4 := of_decide_eq_true hb4.symm
              refine r_cond_t rfl ?_
              refine r_skip ?_
              refine r_seq ?_
              refine r_block ?_
              refine r_seq ?_
              refine r_region ?_
              obtain ⟨x1, b6, o1, hx1, hr1, hl11, hu1, hw1⟩ := Sl.at' (P := Try.prog) f56.sl Try.underlying49 ti94 encE_len (k := .i64) (n := ((k : Nat) : Int)) (k) (by omega) (by first | assumption | omega)
              refine OL.q (Q1.indexAddr rfl rfl hr1) rfl rfl ?_
              refine OL.q (Q1.loadN ti94 rfl (fun _ e => e ▸ hw1) rfl) rfl rfl ?_
              have hl6 := enc_len4 hO2 hx1
              have hie := hI _ (List.mem_of_getElem? hgi) _ (List.mem_of_getElem? hx1)
              refine OL.act rfl rfl (AW.alloc ti94 ?_)
              intro w12 b7 hm10 hb5 hz3 hk2
              have hl12 := ha2.lt
              have hl13 := f56.lt
              have f57 := ha2.ext hm10
              have f58 := f52.ext hm10
              have f59 := f53.ext hm10
              have f60 := f54.ext hm10
              have f61 := f55.ext hm10
              have f62 := f56.ext hm10
              have hE12 := hE11.ext hm10
              have hs12 := hm10.size
              refine OL.act rfl rfl (AW.store ti94 rfl rfl rfl rfl rfl hk2 (Nat.le_of_ble_eq_true rfl) ?_)
              intro w13 hm11 hz4 hk3
              replace hk3 : Bk w13 b7 [.int .i32 x1.rune, .int .i64 x1.to] 94 := hk3
              have hl14 := f57.lt
              have hl15 := f62.lt
              have f63 := f57.keepG hm11 (by omega)
              have f64 := f58.keepG hm11 (by omega)
              have f65 := f59.keepG hm11 (by omega)
              have f66 := f60.keepG hm11 (by omega)
              have f67 := f61.keepG hm11 (by omega)
              have f68 := f62.keepG hm11 (by omega)
              have hE13 := Ext.thenG hE12 hm11 (by omega)
              have hs13 := hm11.size
              refine OL.nil ?_
              refine r_seq ?_
              refine r_region ?_
              refine OL.q (Q1.move rfl) rfl rfl ?_
              refine OL.q (Q1.fieldAddr fl94_0 rfl) rfl rfl ?_
              refine OL.q (Q1.load1 ti21 rfl (fun _ e => e ▸ (hk3.cell 0 _ rfl))) rfl rfl ?_
              refine OL.q (Q1.convN (by kernel_rfl) Try.underlying3 rfl (IntWalk.i64_in _ (by omega))) rfl rfl ?_
              refine OL.act rfl rfl (AW.callF cl63 rfl (put_c (w0 := w13) (b := out2) (x1.rune) (4) ((f63.sl).iv (Nat.zero_le _) (by omega)) (by first | assumption | omega | (simp only [List.length_append, putN_len, List.length_cons, List.length_nil]; omega)) (by first | omega | decide)) ?_)
              rintro v5 w14 ⟨⟨gr5, h5, hg7⟩, hm12⟩
              have hl16 := f63.lt
              have hl17 := f68.lt
              have f69 := f63.ext hm12
              have f70 := f64.ext hm12
              have f71 := f65.ext hm12
              have f72 := f66.ext hm12
              have f73 := f67.ext hm12
              have f74 := f68.ext hm12
              have f75 := hk3.ext hm12
              have hE14 := hE13.ext hm12
              have hs14 := hm12.size
              have hle_5 := h5.le
              have hlt_5 := h5.lt
              have := putN_len x1.rune 4
              refine OL.q (Q1.assign rfl) rfl rfl ?_
              refine OL.nil ?_
              refine r_region ?_
              refine OL.q (Q1.move rfl) rfl rfl ?_
              refine OL.q (Q1.fieldAddr fl94_1 rfl) rfl rfl ?_
              refine OL.q (Q1.load1 ti3 rfl (fun _ e => e ▸ (f75.cell 1 _ rfl))) rfl rfl ?_
              refine OL.act rfl rfl (AW.callF cl63 rfl (put_c (w0 := w14) (b := (out2 ++ putN x1.rune 4)) (x1.to) (2) ((h5.sl).iv (Nat.zero_le _) (by omega)) (by first | assumption | omega | (simp only [List.length_append, putN_len, List.length_cons, List.length_nil]; omega)) (by first | omega | decide)) ?_)
              rintro v6 w15 ⟨⟨gr6, h6, hg8⟩, hm13⟩
              have hl18 := f69.lt
              have hl19 := f74.lt
              have hl20 := h5.lt
              have f76 := f69.ext hm13
              have f77 := f70.ext hm13
              have f78 := f71.ext hm13
              have f79 := f72.ext hm13
              have f80 := f73.ext hm13
              have f81 := f74.ext hm13
              have f82 := f75.ext hm13
              have f83 := h5.ext hm13
              have hE15 := hE14.ext hm13
              have hs15 := hm13.size
              have hle_6 := h6.le
              have hlt_6 := h6.lt
              have := putN_len x1.to 2
              refine OL.q (Q1.assign rfl) rfl rfl ?_
              refine OL.nil ?_
              refine r_inBlock ?_
              refine r_region ?_
              refine OL.q (Q1.addI (((k + 1 : Nat) : Int)) rfl rfl (by omega)) rfl rfl ?_
              refine OL.q (Q1.move rfl) rfl rfl ?_
              refine OL.nil ?_
              exact (ih2 _ _ _ ⟨(v6 : Value), (gr6 : Nat), ((((out2 ++ putN x1.rune 4)) ++ putN x1.to 2) : List UInt8), (k + 1 : Nat), rfl, rfl, hE15, (by omega), h6, (by omega), f77, f78, f79, f80, f81, (by omega), (by omega), (by first | exact enc_edge hO2 hx1 | (exfalso; omega)), (by first | omega | (exfalso; omega))⟩ (by omega)).sub ⟨rfl, rfl, rfl, rfl, rfl, rfl, rfl, trivial⟩
            | false =>
              replace hb4 := of_decide_eq_false hb4.symm
              refine r_cond_f rfl ?_
              refine r_exit rfl ?_
              refine r_inBlock ?_
              refine r_region ?_
              refine OL.q (Q1.addI (((i + 1 : Nat) : Int)) rfl rfl (by omega)) rfl rfl ?_
              refine OL.q (Q1.move rfl) rfl rfl ?_
              refine OL.nil ?_
              exact (ih1 _ _ _ ⟨(v_out2 : Value), (g_out2 : Nat), (out2 : List UInt8), (i + 1 : Nat), rfl, rfl, hE11, (by omega), ha2, (by omega), f52, f53, f54, f55, (by omega), (by first | exact enc_next hO2 (by omega) | (exfalso; omega)), (by first | omega | (exfalso; omega))⟩ (by omega)).sub ⟨rfl, rfl, rfl, rfl, trivial⟩
      | false =>
        replace hb2 := of_decide_eq_false hb2.symm
        refine r_cond_f rfl ?_
        refine r_exit rfl ?_
        refine r_seq ?_
        refine r_region ?_
        refine OL.q (Q1.move rfl) rfl rfl ?_
        have hl4 := ha1.lt
        refine OL.q (Q1.move rfl) rfl rfl ?_
        refine OL.act rfl rfl (AW.callF cl65 rfl (sumof_c (w0 := w6) (b := out)  ((ha1.sl).iv (Nat.zero_le _) (by omega)) (by first | assumption | omega | (simp only [List.length_append, putN_len, List.length_cons, List.length_nil]; omega))) ?_)
        rintro _ w7 ⟨rfl, hm6⟩
        have hl5 := ha1.lt
        have f29 := ha1.ext hm6
        have f30 := f25.ext hm6
        have f31 := f26.ext hm6
        have f32 := f27.ext hm6
        have f33 := f28.ext hm6
        have hE7 := hE6.ext hm6
        have hs7 := hm6.size
        have := sumF_lt 0 out
        change sumN out < _ at this
        refine OL.q (Q1.convN (by kernel_rfl) Try.underlying3 rfl (IntWalk.i64_in _ (by omega))) rfl rfl ?_
        refine OL.act rfl rfl (AW.callF cl63 rfl (put_c (w0 := w7) (b := out) ((((sumN out : Nat) : Int))) (4) ((f29.sl).iv (Nat.zero_le _) (by omega)) (by first | assumption | omega | (simp only [List.length_append, putN_len, List.length_cons, List.length_nil]; omega)) (by first | omega | decide)) ?_)
        rintro v2 w8 ⟨⟨gr2, h2, hg3⟩, hm7⟩
        have hl6 := f29.lt
        have f34 := f29.ext hm7
        have f35 := f30.ext hm7
        have f36 := f31.ext hm7
        have f37 := f32.ext hm7
        have f38 := f33.ext hm7
        have hE8 := hE7.ext hm7
        have hs8 := hm7.size
        have hle_2 := h2.le
        have hlt_2 := h2.lt
        have := putN_len ((((sumN out : Nat) : Int))) 4
        refine OL.q (Q1.assign rfl) rfl rfl ?_
        refine OL.q (Q1.assign rfl) rfl rfl ?_
        refine OL.nil ?_
        refine r_ret2 Try.func20 rfl rfl rfl ?_
        exact Ret.mk ⟨_, _, rfl, ⟨_, Acc.cast h2 (by first | (rw [encA_no rfl]; done) | (rw [encA_no rfl]) | rfl | (rw [encA_yes (by assumption), enc_fin hO (by omega)]; rfl) | exact errA_yes (by assumption) | (exfalso; omega)), by omega⟩, (congrArg (Value.int .i64) (by first | (rw [encA_no rfl]; done) | (rw [encA_no rfl]) | rfl | (rw [encA_yes (by assumption), enc_fin hO (by omega)]; rfl) | exact errA_yes (by assumption) | (exfalso; omega))), hE8⟩
set_option maxRecDepth 20000 in
set_option maxHeartbeats 4000000 in
theorem packof_c {w0 : World}  {v_words : Value} {words : List Str} (h_words : Sl encS w0 (Iv 0 w0.heap.size) v_words words) (hok : Ml.LOk words) (hsz : words.length ≤ 1000000) :
    Calls Try.prog 15 #[v_words] w0 (Ret fun rv w1 => ∃ u0 u1, rv = .tuple #[u0, u1] ∧ (∃ gr, Acc encB 5 1 w1 gr u0 (imgM words) ∧ (gr = 0 ∨ w0.heap.size < gr)) ∧ u1 = .int .i64 (goodL words) ∧ Ext w0 w1) := by
  have hE0 : Ext w0 w0 := Mod.refl _ _
  have hle1 := h_words.le
  refine calls_enter Try.func15 rfl Try.ntmps15 rfl ?_
  refine r_seq ?_
  refine r_region ?_
  refine OL.q (Q1.assign rfl) rfl rfl ?_
  refine OL.q (Q1.assign rfl) rfl rfl ?_
  refine OL.nil ?_
  refine r_seq ?_
  refine r_region ?_
  refine OL.q (Q1.move rfl) rfl rfl ?_
  refine OL.act rfl rfl (AW.callF cl19 rfl (build_c (w0 := w0) (words := words)  ((h_words).iv (Nat.zero_le _) (by omega)) (by assumption) (by first | assumption | omega)) ?_)
  rintro _ w1 ⟨vg1, _, rfl, ⟨lo1, hi1, hgr_1, hlo1, hhi1⟩, rfl, hm1⟩
  have f1 := h_words.ext hm1
  have hE1 := hE0.ext hm1
  have hs1 := hm1.size
  have := Ml.goodL_range words
  refine OL.q (Q1.move rfl) rfl rfl ?_
  refine OL.q (Q1.extract rfl rfl) rfl rfl ?_
  refine OL.q (Q1.extract rfl rfl) rfl rfl ?_
  refine OL.q (Q1.assign rfl) rfl rfl ?_
  refine OL.q (Q1.assign rfl) rfl rfl ?_
  refine OL.nil ?_
  refine r_seq ?_
  refine r_seq ?_
  refine r_region ?_
  refine OL.q (Q1.move rfl) rfl rfl ?_
  refine OL.qb (Q1.ne rfl rfl) rfl rfl ?_
  intro b1 hb1
  refine OL.nil ?_
  cases b1 with
  | true =>
    replace hb1 := bne_iff_ne.1 hb1.symm
    refine r_cond_t rfl ?_
    refine r_seq ?_
    refine r_region ?_
    refine OL.q (Q1.move rfl) rfl rfl ?_
    refine OL.q (Q1.assign rfl) rfl rfl ?_
    refine OL.q (Q1.assign rfl) rfl rfl ?_
    refine OL.nil ?_
    refine r_ret2 Try.func15 rfl rfl rfl ?_
    exact Ret.mk ⟨_, _, rfl, ⟨0, Acc.cast Acc.nil (by first | exact imgM_no (by assumption) | rfl | exact encA_img hg0 | exact errA_img hg0 | assumption | (exfalso; omega)), .inl rfl⟩, (congrArg (Value.int .i64) (by first | exact imgM_no (by assumption) | rfl | exact encA_img hg0 | exact errA_img hg0 | assumption | (exfalso; omega))), hE1⟩
  | false =>
    replace hb1 := bne_eq_false_iff_eq.1 hb1.symm
    refine r_cond_f rfl ?_
    refine r_skip ?_
    refine r_seq ?_
    refine r_region ?_
    refine OL.q (Q1.move rfl) rfl rfl ?_
    have hg0 : goodL words = 0 := by assumption
    have hgok := gok_of hg0
    obtain ⟨hI, hgl, hel⟩ := hgok.edges
    have hbd := body_len hg0
    refine OL.act rfl rfl (AW.callF cl20 rfl (encode_c (w0 := w1)   hgr_1 (by omega) (by first | assumption | omega | (simp; done)) (by first | assumption | (simp; done)) (by first | assumption | (simp; done)) (by first | assumption | omega | (simp [bodyB, putN_len]; done))) ?_)
    rintro _ w2 ⟨v1, _, rfl, ⟨gr1, h1, hg1⟩, rfl, hm2⟩
    have f2 := f1.ext hm2
    have f3 := hgr_1.ext hm2
    have hE2 := hE1.ext hm2
    have hs2 := hm2.size
    have hle_1 := h1.le
    have hlt_1 := h1.lt
    have := encA_lenE ((Ml.gnodes words)) (by first | assumption | omega | (simp [bodyB, putN_len]; done))
    refine OL.q (Q1.extract rfl rfl) rfl rfl ?_
    refine OL.q (Q1.extract rfl rfl) rfl rfl ?_
    refine OL.q (Q1.assign rfl) rfl rfl ?_
    refine OL.q (Q1.assign rfl) rfl rfl ?_
    refine OL.nil ?_
    refine r_ret2 Try.func15 rfl rfl rfl ?_
    exact Ret.mk ⟨_, _, rfl, ⟨_, Acc.cast h1 (by first | exact imgM_no (by assumption) | rfl | exact encA_img hg0 | exact errA_img hg0 | assumption | (exfalso; omega)), by omega⟩, (congrArg (Value.int .i64) (by first | exact imgM_no (by assumption) | rfl | exact encA_img hg0 | exact errA_img hg0 | assumption | (exfalso; omega))), hE2⟩
end Go.Proofs
