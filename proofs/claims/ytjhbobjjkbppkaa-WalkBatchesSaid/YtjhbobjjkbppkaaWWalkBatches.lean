/-
  The walk through the law WalkBatches.
-/
import Derived.Test.YtjhbobjjkbppkaaWAwake
import Derived.Test.YtjhbobjjkbppkaaWAll
set_option linter.unusedVariables false
set_option linter.unusedSimpArgs false
namespace Go.Proofs
open Go.Ik Go.Ml
set_option maxRecDepth 20000 in
set_option maxHeartbeats 4000000 in
theorem WalkBatches_c {w0 : World}  {v_words : Value} {words : List Str} {q : Qry} {v_sizes : Value} {sizes : List Int} (h_words : Sl encS w0 (Iv 0 w0.heap.size) v_words words) (h_sizes : Sl Ik.encI w0 (Iv 0 w0.heap.size) v_sizes sizes) (hok : Ml.LOk words) (hqk : I64 q.k) (hqn : I64 q.n) (hsI : ∀ n ∈ sizes, I64 n) :
    Calls Try.prog 8 #[v_words, .agg #[strV q.text, .int .i64 q.k, .int .i64 q.n], v_sizes] w0 (Ret fun rv w1 => (∃ rb : Bool, rb = true ∧ rv = .bool rb) ∧ Ext w0 w1) := by
  have hE0 : Ext w0 w0 := Mod.refl _ _
  have hle1 := h_words.le
  have hle2 := h_sizes.le
  refine calls_enter Try.func8 rfl Try.ntmps8 rfl ?_
  refine r_seq ?_
  refine r_region ?_
  refine OL.act rfl rfl (AW.box [strV q.text, .int .i64 q.k, .int .i64 q.n] rfl rfl ?_)
  intro w1 b1 hm1 hb1 hz1 hk1
  have f1 := h_words.ext hm1
  have f2 := h_sizes.ext hm1
  have hE1 := hE0.ext hm1
  have hs1 := hm1.size
  refine OL.q (Q1.assign rfl) rfl rfl ?_
  refine OL.nil ?_
  refine r_seq ?_
  refine r_seq ?_
  refine r_region ?_
  refine OL.q (Q1.move rfl) rfl rfl ?_
  refine OL.q (Q1.fieldAddr fl39_0 rfl) rfl rfl ?_
  refine OL.q (Q1.load1 ti9 rfl (fun _ e => e ▸ (hk1.cell 0 _ rfl))) rfl rfl ?_
  refine OL.act rfl rfl (AW.callF cl12 rfl (great11_c (w0 := w1) (words := words) q.text ((f1).iv (Nat.zero_le _) (by omega))) ?_)
  rintro _ w2 ⟨⟨b2, hb2, rfl⟩, hm2⟩
  have f3 := f1.ext hm2
  have f4 := f2.ext hm2
  have f5 := hk1.ext hm2
  have hE2 := hE1.ext hm2
  have hs2 := hm2.size
  refine OL.q (Q1.move rfl) rfl rfl ?_
  cases b2 with
  | true =>
    replace hb2 := hb2.symm
    refine OL.sk rfl rfl ?_
    refine OL.sk rfl rfl ?_
    refine OL.sk rfl rfl ?_
    refine OL.q (Q1.pick_t rfl rfl) rfl rfl ?_
    refine OL.q (Q1.move rfl) rfl rfl ?_
    refine OL.sk rfl rfl ?_
    refine OL.sk rfl rfl ?_
    refine OL.sk rfl rfl ?_
    refine OL.q (Q1.pick_t rfl rfl) rfl rfl ?_
    refine OL.nil ?_
    refine r_cond_t rfl ?_
    refine r_seq ?_
    refine r_region ?_
    refine OL.act rfl rfl (AW.callF cl13 rfl (awake11_c (w0 := w2)   ) ?_)
    rintro _ w3 ⟨⟨_, rfl, rfl⟩, hm3⟩
    have f6 := f3.ext hm3
    have f7 := f4.ext hm3
    have f8 := f5.ext hm3
    have hE3 := hE2.ext hm3
    have hs3 := hm3.size
    refine OL.q (Q1.assign rfl) rfl rfl ?_
    refine OL.nil ?_
    refine r_ret1 Try.func8 rfl rfl ?_
    exact Ret.mk ⟨⟨_, (by first | rfl | exact (bt_no hbt (by assumption) (by omega)).elim | (exfalso; omega)), rfl⟩, hE3⟩
  | false =>
    replace hb2 := hb2.symm
    refine OL.q (Q1.move rfl) rfl rfl ?_
    refine OL.q (Q1.lenSl Try.underlying55 (f4) rfl) rfl rfl ?_
    refine OL.qb (Q1.gt rfl rfl) rfl rfl ?_
    intro b3 hb3
    refine OL.q (Q1.pick_f rfl rfl) rfl rfl ?_
    refine OL.q (Q1.move rfl) rfl rfl ?_
    cases b3 with
    | true =>
      replace hb3 := of_decide_eq_true hb3.symm
      refine OL.sk rfl rfl ?_
      refine OL.sk rfl rfl ?_
      refine OL.sk rfl rfl ?_
      refine OL.q (Q1.pick_t rfl rfl) rfl rfl ?_
      refine OL.nil ?_
      refine r_cond_t rfl ?_
      refine r_seq ?_
      refine r_region ?_
      refine OL.act rfl rfl (AW.callF cl13 rfl (awake11_c (w0 := w2)   ) ?_)
      rintro _ w3 ⟨⟨_, rfl, rfl⟩, hm3⟩
      have f6 := f3.ext hm3
      have f7 := f4.ext hm3
      have f8 := f5.ext hm3
      have hE3 := hE2.ext hm3
      have hs3 := hm3.size
      refine OL.q (Q1.assign rfl) rfl rfl ?_
      refine OL.nil ?_
      refine r_ret1 Try.func8 rfl rfl ?_
      exact Ret.mk ⟨⟨_, (by first | rfl | exact (bt_no hbt (by assumption) (by omega)).elim | (exfalso; omega)), rfl⟩, hE3⟩
    | false =>
      replace hb3 := of_decide_eq_false hb3.symm
      refine OL.q (Q1.loadN ti39 rfl (fun _ e => e ▸ f5.row) rfl) rfl rfl ?_
      refine OL.act rfl rfl (AW.callF cl19 rfl (may_c (w0 := w2) (q := q)  (by have := (greatS_no (by assumption : greatS words q.text = false)).2; omega)) ?_)
      rintro _ w3 ⟨⟨b4, hb4, rfl⟩, hm3⟩
      have f6 := f3.ext hm3
      have f7 := f4.ext hm3
      have f8 := f5.ext hm3
      have hE3 := hE2.ext hm3
      have hs3 := hm3.size
      cases b4 with
      | true =>
        replace hb4 := hb4.symm
        refine OL.q (Q1.not rfl) rfl rfl ?_
        refine OL.q (Q1.pick_f rfl rfl) rfl rfl ?_
        refine OL.nil ?_
        refine r_cond_f rfl ?_
        refine r_skip ?_
        refine r_seq ?_
        refine r_region ?_
        refine OL.q (Q1.move rfl) rfl rfl ?_
        have hg3 := greatS_no (by assumption : greatS words q.text = false)
        have hl8 := Ml.greatT_len hg3.1
        have hmq := mayQ_iff (q := q) (by assumption)
        refine OL.act rfl rfl (AW.callF cl14 rfl (build_c (w0 := w3) (words := words)  ((f6).iv (Nat.zero_le _) (by omega)) (by assumption) (by first | assumption | omega)) ?_)
        rintro _ w4 ⟨vg1, _, rfl, ⟨lo1, hi1, hgr_1, hlo1, hhi1⟩, rfl, hm4⟩
        have f9 := f6.ext hm4
        have f10 := f7.ext hm4
        have f11 := f8.ext hm4
        have hE4 := hE3.ext hm4
        have hs4 := hm4.size
        have := Ml.goodL_range words
        refine OL.q (Q1.move rfl) rfl rfl ?_
        refine OL.q (Q1.extract rfl rfl) rfl rfl ?_
        refine OL.q (Q1.extract rfl rfl) rfl rfl ?_
        refine OL.q (Q1.assign rfl) rfl rfl ?_
        refine OL.q (Q1.assign rfl) rfl rfl ?_
        refine OL.nil ?_
        refine r_seq ?_
        refine r_seq ?_
        refine r_region ?_
        refine OL.q (Q1.move rfl) rfl rfl ?_
        refine OL.qb (Q1.ne rfl rfl) rfl rfl ?_
        intro b5 hb5
        refine OL.q (Q1.move rfl) rfl rfl ?_
        cases b5 with
        | true =>
          replace hb5 := bne_iff_ne.1 hb5.symm
          refine OL.sk rfl rfl ?_
          refine OL.sk rfl rfl ?_
          refine OL.q (Q1.pick_t rfl rfl) rfl rfl ?_
          refine OL.nil ?_
          refine r_cond_t rfl ?_
          refine r_seq ?_
          refine r_region ?_
          refine OL.q (Q1.move rfl) rfl rfl ?_
          have hgr1 := hgr_1
          rcases hgr_1 with ⟨hv1, hN1⟩ | ⟨b6, vn1, nds1, hv1, hN1, hrw1, hsl1, hrel1⟩
          · subst hv1
            try subst hN1
            refine OL.q (Q1.eqNil Try.underlying27 rfl rfl) rfl rfl ?_
            refine OL.q (Q1.move rfl) rfl rfl ?_
            refine OL.act rfl rfl (AW.callF cl13 rfl (awake11_c (w0 := w4)   ) ?_)
            rintro _ w5 ⟨⟨_, rfl, rfl⟩, hm5⟩
            have f12 := f9.ext hm5
            have f13 := f10.ext hm5
            have f14 := f11.ext hm5
            have f15 := hgr1.ext hm5
            have hE5 := hE4.ext hm5
            have hs5 := hm5.size
            refine OL.q (Q1.pick_t rfl rfl) rfl rfl ?_
            refine OL.q (Q1.assign rfl) rfl rfl ?_
            refine OL.nil ?_
            refine r_ret1 Try.func8 rfl rfl ?_
            exact Ret.mk ⟨⟨_, (by first | rfl | exact (bt_no hbt (by assumption) (by omega)).elim | (exfalso; omega)), rfl⟩, hE5⟩
          · exact absurd (by exact Ml.gnodes_no (by assumption)) hN1
        | false =>
          replace hb5 := bne_eq_false_iff_eq.1 hb5.symm
          refine OL.q (Q1.move rfl) rfl rfl ?_
          have hgr1 := hgr_1
          rcases hgr_1 with ⟨hv1, hN1⟩ | ⟨b6, vn1, nds1, hv1, hN1, hrw1, hsl1, hrel1⟩
          · exact absurd hN1 (by exact Ml.gnodes_ne (by assumption))
          · subst hv1
            have hnl1 := (All2.get hrel1).1
            refine OL.q (Q1.eqNil Try.underlying27 rfl rfl) rfl rfl ?_
            refine OL.q (Q1.pick_f rfl rfl) rfl rfl ?_
            refine OL.nil ?_
            refine r_cond_f rfl ?_
            refine r_skip ?_
            refine r_seq ?_
            refine r_region ?_
            refine OL.q (Q1.assign rfl) rfl rfl ?_
            have hg0 : Ml.goodL words = 0 := by assumption
            have hgok : GOk (Ml.gnodes words) (Ml.graphB words) words := Ml.gok_of (by assumption)
            obtain ⟨hI, hgl, hel⟩ := hgok.edges
            have hso := Ml.good_sorted hg0
            have hl60 := Ml.good_len hg0
            have hws : ∀ w ∈ words, w.length ≤ 1000 := good_len48 hg0
            have hnd := sorted_nodup hso
            have hRl := refAll_len words q.text q.k
            have hRI : ∀ x ∈ (refAll words q.text q.k), I64 x.dist ∧ x.word.length ≤ 1000 := fun x hx => by have h := ((refAll_spec hnd).2 x).1 hx; exact ⟨by constructor <;> omega, hws _ h.1⟩
            refine OL.nil ?_
            refine r_seq ?_
            refine r_region ?_
            refine OL.q (Q1.assign rfl) rfl rfl ?_
            refine OL.nil ?_
            refine r_seq ?_
            refine r_seq ?_
            refine r_region ?_
            refine OL.q (Q1.assign rfl) rfl rfl ?_
            refine OL.nil ?_
            refine r_block ?_
            refine r_loop (I := fun m E W => ∃ (v_all : Value) (g_all : Nat) (all : List Itm) (fin : Bool) (i : Nat), E = [(0, v_words), (2, v_sizes), (4, ptr b1 0), (7, ptr b6 0), (9, v_all), (10, .bool fin), (11, .int .i64 (((i : Nat) : Int)))] ∧ m = words.length + 1 - i ∧ Ext w0 W ∧ w4.heap.size ≤ W.heap.size ∧ Acc encItm 24 2 W g_all v_all all ∧ (g_all = 0 ∨ w0.heap.size < g_all) ∧ Sl encS W (Iv 0 w0.heap.size) v_words words ∧ Sl Ik.encI W (Iv 0 w0.heap.size) v_sizes sizes ∧ Bk W b1 [strV q.text, .int .i64 q.k, .int .i64 q.n] 39 ∧ Rw W lo1 hi1 b6 [vn1] ∧ Sl encN W (Iv lo1 hi1) vn1 nds1 ∧ NRel W (Iv lo1 hi1) nds1 ((Ml.gnodes words)) ∧ Gr 0 W lo1 hi1 ((ptr b6 0)) ((Ml.gnodes words)) ∧ b1 + 1 ≠ g_all ∧ (g_all ≤ lo1 ∨ hi1 < g_all) ∧ (Gath (refAll words q.text q.k) all i fin) ∧ (i ≤ words.length + 1)) ?_ ?_
            · refine ⟨_, _, ⟨(.slice none 0 0 : Value), (0 : Nat), ([] : List Itm), (false : Bool), (0 : Nat), rfl, rfl, hE4, Nat.le_refl _, Acc.nil, (by omega), f9, f10, f11, hrw1, hsl1, hrel1, hgr1, (by omega), (by omega), (by exact Gath.start _), (by omega)⟩, ⟨rfl, rfl, rfl, rfl, rfl, rfl, rfl, trivial⟩⟩
            · rintro _ _ w5 ⟨v_all, g_all, all, fin, i, rfl, rfl, hE5, hs5, ha1, hg1, f12, f13, f14, f15, f16, f17, f18, hn1, hn2, hga0, hil⟩ ih1
              have hgl_ := congrArg List.length hga0.eq
              rw [List.length_take] at hgl_
              refine r_seq ?_
              refine r_seq ?_
              refine r_region ?_
              refine OL.q (Q1.move rfl) rfl rfl ?_
              refine OL.q (Q1.move rfl) rfl rfl ?_
              refine OL.q (Q1.lenSl Try.underlying22 (f12) rfl) rfl rfl ?_
              refine OL.qb (Q1.le rfl rfl) rfl rfl ?_
              intro b7 hb6
              refine OL.q (Q1.move rfl) rfl rfl ?_
              cases b7 with
              | true =>
                replace hb6 := of_decide_eq_true hb6.symm
                refine OL.q (Q1.move rfl) rfl rfl ?_
                cases fin with
                | true =>
                  refine OL.q (Q1.not rfl) rfl rfl ?_
                  refine OL.q (Q1.pick_t rfl rfl) rfl rfl ?_
                  refine OL.nil ?_
                  refine r_cond_f rfl ?_
                  refine r_exit rfl ?_
                  refine r_seq ?_
                  refine r_region ?_
                  refine OL.q (Q1.move rfl) rfl rfl ?_
                  obtain ⟨hge, hga⟩ := hga0.fin (m := words.length) hRl (by first | (left; rfl) | (right; omega))
                  refine OL.q (Q1.move rfl) rfl rfl ?_
                  refine OL.q (Q1.move rfl) rfl rfl ?_
                  refine OL.q (Q1.move rfl) rfl rfl ?_
                  refine OL.q (Q1.fieldAddr fl39_0 rfl) rfl rfl ?_
                  refine OL.q (Q1.load1 ti9 rfl (fun _ e => e ▸ (f14.cell 0 _ rfl))) rfl rfl ?_
                  refine OL.q (Q1.fieldAddr fl39_1 rfl) rfl rfl ?_
                  refine OL.q (Q1.load1 ti3 rfl (fun _ e => e ▸ (f14.cell 1 _ rfl))) rfl rfl ?_
                  refine OL.act rfl rfl (AW.callF cl30 rfl (rall_c (w0 := w5) (words := words) q.text (q.k) ((f12).iv (Nat.zero_le _) (by omega)) (by first | omega | assumption) (by assumption) (by omega) (by exact fun w h => Nat.le_trans (hws w h) (by decide)) (by have := (greatS_no (by assumption : greatS words q.text = false)).2; omega)) ?_)
                  rintro v1 w6 ⟨⟨gr1, h1, hg2⟩, hm5⟩
                  have hl1 := ha1.lt
                  have f19 := ha1.ext hm5
                  have f20 := f12.ext hm5
                  have f21 := f13.ext hm5
                  have f22 := f14.ext hm5
                  have f23 := f15.ext hm5
                  have f24 := f16.ext hm5
                  have f25 := f17.ext hm5
                  have f26 := f18.ext hm5
                  have hE6 := hE5.ext hm5
                  have hs6 := hm5.size
                  have hle_1 := h1.le
                  have hlt_1 := h1.lt
                  refine OL.act rfl rfl (AW.callF cl17 rfl (sameIt_c (w0 := w6) (a := all) (b := (refAll words q.text q.k))  ((f19.sl).iv (Nat.zero_le _) (by omega)) ((h1.sl).iv (Nat.zero_le _) (by omega))) ?_)
                  rintro _ w7 ⟨⟨b8, hb7, rfl⟩, hm6⟩
                  have hl2 := f19.lt
                  have hl3 := h1.lt
                  have f27 := f19.ext hm6
                  have f28 := f20.ext hm6
                  have f29 := f21.ext hm6
                  have f30 := f22.ext hm6
                  have f31 := f23.ext hm6
                  have f32 := f24.ext hm6
                  have f33 := f25.ext hm6
                  have f34 := f26.ext hm6
                  have f35 := h1.ext hm6
                  have hE7 := hE6.ext hm6
                  have hs7 := hm6.size
                  obtain rfl : b8 = true := hb7.trans (by exact decide_eq_true hga)
                  refine OL.q (Q1.pick_t rfl rfl) rfl rfl ?_
                  refine OL.q (Q1.move rfl) rfl rfl ?_
                  refine OL.act rfl rfl (AW.callF cl13 rfl (awake11_c (w0 := w7)   ) ?_)
                  rintro _ w8 ⟨⟨_, rfl, rfl⟩, hm7⟩
                  have hl4 := f27.lt
                  have hl5 := f35.lt
                  have f36 := f27.ext hm7
                  have f37 := f28.ext hm7
                  have f38 := f29.ext hm7
                  have f39 := f30.ext hm7
                  have f40 := f31.ext hm7
                  have f41 := f32.ext hm7
                  have f42 := f33.ext hm7
                  have f43 := f34.ext hm7
                  have f44 := f35.ext hm7
                  have hE8 := hE7.ext hm7
                  have hs8 := hm7.size
                  refine OL.q (Q1.pick_t rfl rfl) rfl rfl ?_
                  refine OL.q (Q1.assign rfl) rfl rfl ?_
                  refine OL.nil ?_
                  refine r_ret1 Try.func8 rfl rfl ?_
                  exact Ret.mk ⟨⟨_, (by first | rfl | exact (bt_no hbt (by assumption) (by omega)).elim | (exfalso; omega)), rfl⟩, hE8⟩
                | false =>
                  refine OL.q (Q1.not rfl) rfl rfl ?_
                  refine OL.q (Q1.pick_t rfl rfl) rfl rfl ?_
                  refine OL.nil ?_
                  refine r_cond_t rfl ?_
                  refine r_skip ?_
                  refine r_seq ?_
                  refine r_block ?_
                  refine r_seq ?_
                  refine r_region ?_
                  refine OL.q (Q1.assign rfl) rfl rfl ?_
                  refine OL.nil ?_
                  refine r_seq ?_
                  refine r_seq ?_
                  refine r_region ?_
                  refine OL.q (Q1.move rfl) rfl rfl ?_
                  refine OL.q (Q1.move rfl) rfl rfl ?_
                  refine OL.q (Q1.lenSl Try.underlying55 (f13) rfl) rfl rfl ?_
                  refine OL.qb (Q1.lt rfl rfl) rfl rfl ?_
                  intro b8 hb7
                  refine OL.nil ?_
                  cases b8 with
                  | true =>
                    replace hb7 := of_decide_eq_true hb7.symm
                    refine r_cond_t rfl ?_
                    refine r_region ?_
                    refine OL.q (Q1.move rfl) rfl rfl ?_
                    refine OL.q (Q1.move rfl) rfl rfl ?_
                    obtain ⟨x1, b9, o1, hx1, hr1, hl1, hu1, hw1⟩ := Sl.at' (P := Try.prog) f13 Try.underlying55 ti3 Ik.encI_len (k := .i64) (n := ((i : Nat) : Int)) (i) (by omega) (by first | assumption | omega)
                    refine OL.q (Q1.indexAddr rfl rfl hr1) rfl rfl ?_
                    refine OL.q (Q1.load1 ti3 rfl (fun _ e => e ▸ hw1)) rfl rfl ?_
                    have hx1I : I64 x1 := hsI _ (List.mem_of_getElem? hx1)
                    refine OL.act rfl rfl (AW.callF cl20 rfl (low_c (w0 := w5)  (x1) (7) (by first | omega | assumption) (by first | omega | assumption) (by omega)) ?_)
                    rintro _ w6 ⟨rfl, hm5, hp1⟩
                    have hl2 := ha1.lt
                    have f19 := ha1.ext hm5
                    have f20 := f12.ext hm5
                    have f21 := f13.ext hm5
                    have f22 := f14.ext hm5
                    have f23 := f15.ext hm5
                    have f24 := f16.ext hm5
                    have f25 := f17.ext hm5
                    have f26 := f18.ext hm5
                    have hE6 := hE5.ext hm5
                    have hs6 := hm5.size
                    refine OL.q (Q1.addI ((1 + ((Ml.lowM x1 7)))) rfl rfl (by omega)) rfl rfl ?_
                    refine OL.q (Q1.assign rfl) rfl rfl ?_
                    refine OL.nil ?_
                    refine r_seq ?_
                    refine r_region ?_
                    refine OL.act rfl rfl (AW.alloc ti24 ?_)
                    intro w7 b10 hm6 hb8 hz2 hk2
                    have hl3 := f19.lt
                    have f27 := f19.ext hm6
                    have f28 := f20.ext hm6
                    have f29 := f21.ext hm6
                    have f30 := f22.ext hm6
                    have f31 := f23.ext hm6
                    have f32 := f24.ext hm6
                    have f33 := f25.ext hm6
                    have f34 := f26.ext hm6
                    have hE7 := hE6.ext hm6
                    have hs7 := hm6.size
                    refine OL.nil ?_
                    refine r_seq ?_
                    refine r_seq ?_
                    refine r_region ?_
                    refine OL.q (Q1.move rfl) rfl rfl ?_
                    refine OL.q (Q1.lenSl Try.underlying31 (f27.sl) rfl) rfl rfl ?_
                    refine OL.qb (Q1.gt rfl rfl) rfl rfl ?_
                    intro b11 hb9
                    refine OL.nil ?_
                    cases b11 with
                    | true =>
                      replace hb9 := of_decide_eq_true hb9.symm
                      refine r_cond_t rfl ?_
                      refine r_region ?_
                      refine OL.q (Q1.move rfl) rfl rfl ?_
                      refine OL.q (Q1.move rfl) rfl rfl ?_
                      refine OL.q (Q1.lenSl Try.underlying31 (f27.sl) rfl) rfl rfl ?_
                      refine OL.q (Q1.subI ((((all.length : Nat) : Int) - 1)) rfl rfl (by omega)) rfl rfl ?_
                      obtain ⟨x2, b12, o2, hx2, hr2, hl4, hu2, hw2⟩ := Sl.at' (P := Try.prog) f27.sl Try.underlying31 ti24 encItm_len (k := .i64) (n := (((all.length : Nat) : Int) - 1)) ((all.length - 1)) (by omega) (by first | assumption | omega)
                      refine OL.q (Q1.indexAddr rfl rfl hr2) rfl rfl ?_
                      refine OL.q (Q1.loadN ti24 rfl (fun _ e => e ▸ hw2) rfl) rfl rfl ?_
                      have hxI := hRI _ (List.mem_of_getElem? (hga0.after (by omega) hx2))
                      refine OL.act rfl rfl (AW.store ti24 rfl rfl rfl rfl rfl hk2 (Nat.le_of_ble_eq_true rfl) ?_)
                      intro w8 hm7 hz3 hk3
                      replace hk3 : Bk w8 b10 [.int .i64 x2.dist, strV x2.word] 24 := hk3
                      have hl5 := f27.lt
                      have f35 := f27.keepG hm7 (by omega)
                      have f36 := f28.keepG hm7 (by omega)
                      have f37 := f29.keepG hm7 (by omega)
                      have f38 := f30.keepG hm7 (by omega)
                      have f39 := f31.keepG hm7 (by omega)
                      have f40 := f32.keepG hm7 (by omega)
                      have f41 := f33.keepG hm7 (by omega)
                      have f42 := f34.keepG hm7 (by omega)
                      have hE8 := Ext.thenG hE7 hm7 (by omega)
                      have hs8 := hm7.size
                      refine OL.nil ?_
                      refine r_seq ?_
                      refine r_region ?_
                      refine OL.q (Q1.move rfl) rfl rfl ?_
                      refine OL.q (Q1.fieldAddr fl39_0 rfl) rfl rfl ?_
                      refine OL.q (Q1.load1 ti9 rfl (fun _ e => e ▸ (f38.cell 0 _ rfl))) rfl rfl ?_
                      refine OL.q (Q1.fieldAddr fl39_1 rfl) rfl rfl ?_
                      refine OL.q (Q1.load1 ti3 rfl (fun _ e => e ▸ (f38.cell 1 _ rfl))) rfl rfl ?_
                      refine OL.q (Q1.move rfl) rfl rfl ?_
                      refine OL.q (Q1.lenSl Try.underlying31 (f35.sl) rfl) rfl rfl ?_
                      refine OL.qb (Q1.eq rfl rfl) rfl rfl ?_
                      intro b13 hb10
                      obtain rfl : b13 = false := hb10.trans (by exact beq_eq_false_iff_ne.2 (by omega))
                      refine OL.q (Q1.loadN ti24 rfl (fun _ e => e ▸ hk3.row) rfl) rfl rfl ?_
                      refine OL.q (Q1.move rfl) rfl rfl ?_
                      refine OL.act rfl rfl (AW.callF cl15 rfl (wnext_c (w0 := w8) (after := x2) q.text (q.k) false ((1 + ((Ml.lowM x1 7)))) f42 (by omega) (by first | omega | assumption) (by first | omega | assumption) (by first | assumption) (by first | assumption | omega | (simp; done)) (by first | assumption | omega) (by first | assumption | exact hxI.1 | decide | (show I64 (0 : Int); decide)) (by first | (simp; done) | exact Nat.le_trans hxI.2 (by decide) | (have := hxI.2; omega))) ?_)
                      rintro _ w9 ⟨v1, _, rfl, ⟨gr1, h1, hg2⟩, ⟨b14, hb11, rfl⟩, hm8⟩
                      have hl6 := f35.lt
                      have f43 := f35.ext hm8
                      have f44 := f36.ext hm8
                      have f45 := f37.ext hm8
                      have f46 := f38.ext hm8
                      have f47 := f39.ext hm8
                      have f48 := f40.ext hm8
                      have f49 := f41.ext hm8
                      have f50 := f42.ext hm8
                      have f51 := hk3.ext hm8
                      have hE9 := hE8.ext hm8
                      have hs9 := hm8.size
                      have hle_1 := h1.le
                      have hlt_1 := h1.lt
                      have := nextA_lenE ((Ml.gnodes words)) words q.text q.k false x2 ((1 + ((Ml.lowM x1 7))))
                      have hbt := batch_law (words := words) (s := q.text) (k := q.k) (c := all.length) (first := false) (after := x2) (b := (1 + ((Ml.lowM x1 7)))) hg0 hmq.1 hmq.2.1 (by omega) (.inr ⟨rfl, by omega, hga0.after (by omega) hx2⟩)
                      have hXl := congrArg (fun p : List Itm × Bool => p.1.length) hbt
                      simp only [List.length_take, List.length_drop] at hXl
                      refine OL.q (Q1.move rfl) rfl rfl ?_
                      refine OL.q (Q1.extract rfl rfl) rfl rfl ?_
                      refine OL.q (Q1.extract rfl rfl) rfl rfl ?_
                      refine OL.q (Q1.assign rfl) rfl rfl ?_
                      refine OL.q (Q1.assign rfl) rfl rfl ?_
                      refine OL.nil ?_
                      refine r_seq ?_
                      refine r_seq ?_
                      refine r_region ?_
                      refine OL.q (Q1.move rfl) rfl rfl ?_
                      refine OL.q (Q1.lenSl Try.underlying31 (h1.sl) rfl) rfl rfl ?_
                      refine OL.q (Q1.move rfl) rfl rfl ?_
                      refine OL.qb (Q1.gt rfl rfl) rfl rfl ?_
                      intro b15 hb12
                      obtain rfl : b15 = false := hb12.trans (by exact decide_eq_false (by omega))
                      refine OL.q (Q1.move rfl) rfl rfl ?_
                      refine OL.q (Q1.move rfl) rfl rfl ?_
                      refine OL.q (Q1.lenSl Try.underlying31 (h1.sl) rfl) rfl rfl ?_
                      refine OL.q (Q1.move rfl) rfl rfl ?_
                      refine OL.qb (Q1.lt rfl rfl) rfl rfl ?_
                      intro b16 hb13
                      refine OL.q (Q1.move rfl) rfl rfl ?_
                      cases b16 with
                      | true =>
                        replace hb13 := of_decide_eq_true hb13.symm
                        refine OL.q (Q1.move rfl) rfl rfl ?_
                        cases b14 with
                        | true =>
                          replace hb11 := hb11.symm
                          refine OL.q (Q1.not rfl) rfl rfl ?_
                          refine OL.q (Q1.pick_t rfl rfl) rfl rfl ?_
                          refine OL.q (Q1.pick_f rfl rfl) rfl rfl ?_
                          refine OL.nil ?_
                          refine r_cond_f rfl ?_
                          refine r_skip ?_
                          refine r_seq ?_
                          refine r_region ?_
                          refine OL.q (Q1.move rfl) rfl rfl ?_
                          refine OL.q (Q1.move rfl) rfl rfl ?_
                          have hl7 := f43.lt
                          refine OL.act rfl rfl (AW.append f43 Try.underlying31 ti24 rfl encItm_len encItm_one rfl rfl (h1.sl) (by first | omega | (simp only [List.length_append, List.length_cons, List.length_nil]; omega) | (simp; omega)) (by unfold maxLen; first | omega | (simp only [List.length_append, List.length_cons, List.length_nil]; omega) | (simp; omega)) ?_)
                          intro v2 g1 w10 ha2 hm9 hg3 hz4
                          have hl8 := f43.lt
                          have hl9 := h1.lt
                          have f52 := f44.keepG hm9 (by omega)
                          have f53 := f45.keepG hm9 (by omega)
                          have f54 := f46.keepG hm9 (by omega)
                          have f55 := f47.keepG hm9 (by omega)
                          have f56 := f48.keepG hm9 (by omega)
                          have f57 := f49.keepG hm9 (by omega)
                          have f58 := f50.keepG hm9 (by omega)
                          have f59 := f51.keepG hm9 (by omega)
                          have f60 := h1.keepG hm9 (by omega)
                          have hE10 := Ext.thenG hE9 hm9 (by omega)
                          have hs10 := hm9.size
                          refine OL.q (Q1.assign rfl) rfl rfl ?_
                          refine OL.nil ?_
                          refine r_region ?_
                          refine OL.q (Q1.move rfl) rfl rfl ?_
                          refine OL.q (Q1.assign rfl) rfl rfl ?_
                          refine OL.nil ?_
                          refine r_inBlock ?_
                          refine r_region ?_
                          refine OL.q (Q1.move rfl) rfl rfl ?_
                          refine OL.q (Q1.addI (((i + 1 : Nat) : Int)) rfl rfl (by omega)) rfl rfl ?_
                          refine OL.q (Q1.assign rfl) rfl rfl ?_
                          refine OL.nil ?_
                          exact (ih1 _ _ _ ⟨(v2 : Value), (g1 : Nat), ((all ++ ((nextA ((Ml.gnodes words)) words q.text q.k false x2 ((1 + ((Ml.lowM x1 7))))).1)) : List Itm), (true : Bool), (i + 1 : Nat), rfl, rfl, hE10, (by omega), ha2, (by omega), f52, f53, f54, f55, f56, f57, f58, (by omega), (by omega), (by first | exact hga0.step (by omega) (congrArg Prod.fst hbt) (Eq.trans (by assumption) (congrArg Prod.snd hbt)) | exact hga0.step (by omega) (congrArg Prod.fst hbt) (Eq.trans (Eq.symm (by assumption)) (congrArg Prod.snd hbt)) | (exfalso; omega)), (by first | omega | (exfalso; omega))⟩ (by omega)).sub ⟨rfl, rfl, rfl, rfl, rfl, rfl, rfl, trivial⟩
                        | false =>
                          replace hb11 := hb11.symm
                          refine OL.q (Q1.not rfl) rfl rfl ?_
                          refine OL.q (Q1.pick_t rfl rfl) rfl rfl ?_
                          refine OL.q (Q1.pick_f rfl rfl) rfl rfl ?_
                          refine OL.nil ?_
                          refine r_cond_t rfl ?_
                          refine r_seq ?_
                          refine r_region ?_
                          refine OL.q (Q1.assign rfl) rfl rfl ?_
                          refine OL.nil ?_
                          refine r_ret1 Try.func8 rfl rfl ?_
                          exact Ret.mk ⟨⟨_, (by first | rfl | exact (bt_no hbt (by assumption) (by omega)).elim | (exfalso; omega)), rfl⟩, hE9⟩
                      | false =>
                        replace hb13 := of_decide_eq_false hb13.symm
                        refine OL.sk rfl rfl ?_
                        refine OL.sk rfl rfl ?_
                        refine OL.q (Q1.pick_f rfl rfl) rfl rfl ?_
                        refine OL.q (Q1.pick_f rfl rfl) rfl rfl ?_
                        refine OL.nil ?_
                        refine r_cond_f rfl ?_
                        refine r_skip ?_
                        refine r_seq ?_
                        refine r_region ?_
                        refine OL.q (Q1.move rfl) rfl rfl ?_
                        refine OL.q (Q1.move rfl) rfl rfl ?_
                        have hl7 := f43.lt
                        refine OL.act rfl rfl (AW.append f43 Try.underlying31 ti24 rfl encItm_len encItm_one rfl rfl (h1.sl) (by first | omega | (simp only [List.length_append, List.length_cons, List.length_nil]; omega) | (simp; omega)) (by unfold maxLen; first | omega | (simp only [List.length_append, List.length_cons, List.length_nil]; omega) | (simp; omega)) ?_)
                        intro v2 g1 w10 ha2 hm9 hg3 hz4
                        have hl8 := f43.lt
                        have hl9 := h1.lt
                        have f52 := f44.keepG hm9 (by omega)
                        have f53 := f45.keepG hm9 (by omega)
                        have f54 := f46.keepG hm9 (by omega)
                        have f55 := f47.keepG hm9 (by omega)
                        have f56 := f48.keepG hm9 (by omega)
                        have f57 := f49.keepG hm9 (by omega)
                        have f58 := f50.keepG hm9 (by omega)
                        have f59 := f51.keepG hm9 (by omega)
                        have f60 := h1.keepG hm9 (by omega)
                        have hE10 := Ext.thenG hE9 hm9 (by omega)
                        have hs10 := hm9.size
                        refine OL.q (Q1.assign rfl) rfl rfl ?_
                        refine OL.nil ?_
                        refine r_region ?_
                        refine OL.q (Q1.move rfl) rfl rfl ?_
                        refine OL.q (Q1.assign rfl) rfl rfl ?_
                        refine OL.nil ?_
                        refine r_inBlock ?_
                        refine r_region ?_
                        refine OL.q (Q1.move rfl) rfl rfl ?_
                        refine OL.q (Q1.addI (((i + 1 : Nat) : Int)) rfl rfl (by omega)) rfl rfl ?_
                        refine OL.q (Q1.assign rfl) rfl rfl ?_
                        refine OL.nil ?_
                        exact (ih1 _ _ _ ⟨(v2 : Value), (g1 : Nat), ((all ++ ((nextA ((Ml.gnodes words)) words q.text q.k false x2 ((1 + ((Ml.lowM x1 7))))).1)) : List Itm), (b14 : Bool), (i + 1 : Nat), rfl, rfl, hE10, (by omega), ha2, (by omega), f52, f53, f54, f55, f56, f57, f58, (by omega), (by omega), (by first | exact hga0.step (by omega) (congrArg Prod.fst hbt) (Eq.trans (by assumption) (congrArg Prod.snd hbt)) | exact hga0.step (by omega) (congrArg Prod.fst hbt) (Eq.trans (Eq.symm (by assumption)) (congrArg Prod.snd hbt)) | (exfalso; omega)), (by first | omega | (exfalso; omega))⟩ (by omega)).sub ⟨rfl, rfl, rfl, rfl, rfl, rfl, rfl, trivial⟩
                    | false =>
                      replace hb9 := of_decide_eq_false hb9.symm
                      refine r_cond_f rfl ?_
                      refine r_skip ?_
                      refine r_seq ?_
                      refine r_region ?_
                      refine OL.q (Q1.move rfl) rfl rfl ?_
                      refine OL.q (Q1.fieldAddr fl39_0 rfl) rfl rfl ?_
                      refine OL.q (Q1.load1 ti9 rfl (fun _ e => e ▸ (f30.cell 0 _ rfl))) rfl rfl ?_
                      refine OL.q (Q1.fieldAddr fl39_1 rfl) rfl rfl ?_
                      refine OL.q (Q1.load1 ti3 rfl (fun _ e => e ▸ (f30.cell 1 _ rfl))) rfl rfl ?_
                      refine OL.q (Q1.move rfl) rfl rfl ?_
                      refine OL.q (Q1.lenSl Try.underlying31 (f27.sl) rfl) rfl rfl ?_
                      refine OL.qb (Q1.eq rfl rfl) rfl rfl ?_
                      intro b12 hb10
                      obtain rfl : b12 = true := hb10.trans (by exact beq_iff_eq.2 (by omega))
                      refine OL.q (Q1.loadN ti24 rfl (fun _ e => e ▸ hk2.row) rfl) rfl rfl ?_
                      refine OL.q (Q1.move rfl) rfl rfl ?_
                      refine OL.act rfl rfl (AW.callF cl15 rfl (wnext_c (w0 := w7) (after := (Itm.mk 0 [])) q.text (q.k) true ((1 + ((Ml.lowM x1 7)))) f34 (by omega) (by first | omega | assumption) (by first | omega | assumption) (by first | assumption) (by first | assumption | omega | (simp; done)) (by first | assumption | omega) (by first | assumption | exact hxI.1 | decide | (show I64 (0 : Int); decide)) (by first | (simp; done) | exact Nat.le_trans hxI.2 (by decide) | (have := hxI.2; omega))) ?_)
                      rintro _ w8 ⟨v1, _, rfl, ⟨gr1, h1, hg2⟩, ⟨b13, hb11, rfl⟩, hm7⟩
                      have hl4 := f27.lt
                      have f35 := f27.ext hm7
                      have f36 := f28.ext hm7
                      have f37 := f29.ext hm7
                      have f38 := f30.ext hm7
                      have f39 := f31.ext hm7
                      have f40 := f32.ext hm7
                      have f41 := f33.ext hm7
                      have f42 := f34.ext hm7
                      have f43 := hk2.ext hm7
                      have hE8 := hE7.ext hm7
                      have hs8 := hm7.size
                      have hle_1 := h1.le
                      have hlt_1 := h1.lt
                      have := nextA_lenE ((Ml.gnodes words)) words q.text q.k true ((Itm.mk 0 [])) ((1 + ((Ml.lowM x1 7))))
                      have hbt := batch_law (words := words) (s := q.text) (k := q.k) (c := all.length) (first := true) (after := (Itm.mk 0 [])) (b := (1 + ((Ml.lowM x1 7)))) hg0 hmq.1 hmq.2.1 (by omega) (.inl ⟨rfl, by omega⟩)
                      have hXl := congrArg (fun p : List Itm × Bool => p.1.length) hbt
                      simp only [List.length_take, List.length_drop] at hXl
                      refine OL.q (Q1.move rfl) rfl rfl ?_
                      refine OL.q (Q1.extract rfl rfl) rfl rfl ?_
                      refine OL.q (Q1.extract rfl rfl) rfl rfl ?_
                      refine OL.q (Q1.assign rfl) rfl rfl ?_
                      refine OL.q (Q1.assign rfl) rfl rfl ?_
                      refine OL.nil ?_
                      refine r_seq ?_
                      refine r_seq ?_
                      refine r_region ?_
                      refine OL.q (Q1.move rfl) rfl rfl ?_
                      refine OL.q (Q1.lenSl Try.underlying31 (h1.sl) rfl) rfl rfl ?_
                      refine OL.q (Q1.move rfl) rfl rfl ?_
                      refine OL.qb (Q1.gt rfl rfl) rfl rfl ?_
                      intro b14 hb12
                      obtain rfl : b14 = false := hb12.trans (by exact decide_eq_false (by omega))
                      refine OL.q (Q1.move rfl) rfl rfl ?_
                      refine OL.q (Q1.move rfl) rfl rfl ?_
                      refine OL.q (Q1.lenSl Try.underlying31 (h1.sl) rfl) rfl rfl ?_
                      refine OL.q (Q1.move rfl) rfl rfl ?_
                      refine OL.qb (Q1.lt rfl rfl) rfl rfl ?_
                      intro b15 hb13
                      refine OL.q (Q1.move rfl) rfl rfl ?_
                      cases b15 with
                      | true =>
                        replace hb13 := of_decide_eq_true hb13.symm
                        refine OL.q (Q1.move rfl) rfl rfl ?_
                        cases b13 with
                        | true =>
                          replace hb11 := hb11.symm
                          refine OL.q (Q1.not rfl) rfl rfl ?_
                          refine OL.q (Q1.pick_t rfl rfl) rfl rfl ?_
                          refine OL.q (Q1.pick_f rfl rfl) rfl rfl ?_
                          refine OL.nil ?_
                          refine r_cond_f rfl ?_
                          refine r_skip ?_
                          refine r_seq ?_
                          refine r_region ?_
                          refine OL.q (Q1.move rfl) rfl rfl ?_
                          refine OL.q (Q1.move rfl) rfl rfl ?_
                          have hl5 := f35.lt
                          refine OL.act rfl rfl (AW.append f35 Try.underlying31 ti24 rfl encItm_len encItm_one rfl rfl (h1.sl) (by first | omega | (simp only [List.length_append, List.length_cons, List.length_nil]; omega) | (simp; omega)) (by unfold maxLen; first | omega | (simp only [List.length_append, List.length_cons, List.length_nil]; omega) | (simp; omega)) ?_)
                          intro v2 g1 w9 ha2 hm8 hg3 hz3
                          have hl6 := f35.lt
                          have hl7 := h1.lt
                          have f44 := f36.keepG hm8 (by omega)
                          have f45 := f37.keepG hm8 (by omega)
                          have f46 := f38.keepG hm8 (by omega)
                          have f47 := f39.keepG hm8 (by omega)
                          have f48 := f40.keepG hm8 (by omega)
                          have f49 := f41.keepG hm8 (by omega)
                          have f50 := f42.keepG hm8 (by omega)
                          have f51 := f43.keepG hm8 (by omega)
                          have f52 := h1.keepG hm8 (by omega)
                          have hE9 := Ext.thenG hE8 hm8 (by omega)
                          have hs9 := hm8.size
                          refine OL.q (Q1.assign rfl) rfl rfl ?_
                          refine OL.nil ?_
                          refine r_region ?_
                          refine OL.q (Q1.move rfl) rfl rfl ?_
                          refine OL.q (Q1.assign rfl) rfl rfl ?_
                          refine OL.nil ?_
                          refine r_inBlock ?_
                          refine r_region ?_
                          refine OL.q (Q1.move rfl) rfl rfl ?_
                          refine OL.q (Q1.addI (((i + 1 : Nat) : Int)) rfl rfl (by omega)) rfl rfl ?_
                          refine OL.q (Q1.assign rfl) rfl rfl ?_
                          refine OL.nil ?_
                          exact (ih1 _ _ _ ⟨(v2 : Value), (g1 : Nat), ((all ++ ((nextA ((Ml.gnodes words)) words q.text q.k true ((Itm.mk 0 [])) ((1 + ((Ml.lowM x1 7))))).1)) : List Itm), (true : Bool), (i + 1 : Nat), rfl, rfl, hE9, (by omega), ha2, (by omega), f44, f45, f46, f47, f48, f49, f50, (by omega), (by omega), (by first | exact hga0.step (by omega) (congrArg Prod.fst hbt) (Eq.trans (by assumption) (congrArg Prod.snd hbt)) | exact hga0.step (by omega) (congrArg Prod.fst hbt) (Eq.trans (Eq.symm (by assumption)) (congrArg Prod.snd hbt)) | (exfalso; omega)), (by first | omega | (exfalso; omega))⟩ (by omega)).sub ⟨rfl, rfl, rfl, rfl, rfl, rfl, rfl, trivial⟩
                        | false =>
                          replace hb11 := hb11.symm
                          refine OL.q (Q1.not rfl) rfl rfl ?_
                          refine OL.q (Q1.pick_t rfl rfl) rfl rfl ?_
                          refine OL.q (Q1.pick_f rfl rfl) rfl rfl ?_
                          refine OL.nil ?_
                          refine r_cond_t rfl ?_
                          refine r_seq ?_
                          refine r_region ?_
                          refine OL.q (Q1.assign rfl) rfl rfl ?_
                          refine OL.nil ?_
                          refine r_ret1 Try.func8 rfl rfl ?_
                          exact Ret.mk ⟨⟨_, (by first | rfl | exact (bt_no hbt (by assumption) (by omega)).elim | (exfalso; omega)), rfl⟩, hE8⟩
                      | false =>
                        replace hb13 := of_decide_eq_false hb13.symm
                        refine OL.sk rfl rfl ?_
                        refine OL.sk rfl rfl ?_
                        refine OL.q (Q1.pick_f rfl rfl) rfl rfl ?_
                        refine OL.q (Q1.pick_f rfl rfl) rfl rfl ?_
                        refine OL.nil ?_
                        refine r_cond_f rfl ?_
                        refine r_skip ?_
                        refine r_seq ?_
                        refine r_region ?_
                        refine OL.q (Q1.move rfl) rfl rfl ?_
                        refine OL.q (Q1.move rfl) rfl rfl ?_
                        have hl5 := f35.lt
                        refine OL.act rfl rfl (AW.append f35 Try.underlying31 ti24 rfl encItm_len encItm_one rfl rfl (h1.sl) (by first | omega | (simp only [List.length_append, List.length_cons, List.length_nil]; omega) | (simp; omega)) (by unfold maxLen; first | omega | (simp only [List.length_append, List.length_cons, List.length_nil]; omega) | (simp; omega)) ?_)
                        intro v2 g1 w9 ha2 hm8 hg3 hz3
                        have hl6 := f35.lt
                        have hl7 := h1.lt
                        have f44 := f36.keepG hm8 (by omega)
                        have f45 := f37.keepG hm8 (by omega)
                        have f46 := f38.keepG hm8 (by omega)
                        have f47 := f39.keepG hm8 (by omega)
                        have f48 := f40.keepG hm8 (by omega)
                        have f49 := f41.keepG hm8 (by omega)
                        have f50 := f42.keepG hm8 (by omega)
                        have f51 := f43.keepG hm8 (by omega)
                        have f52 := h1.keepG hm8 (by omega)
                        have hE9 := Ext.thenG hE8 hm8 (by omega)
                        have hs9 := hm8.size
                        refine OL.q (Q1.assign rfl) rfl rfl ?_
                        refine OL.nil ?_
                        refine r_region ?_
                        refine OL.q (Q1.move rfl) rfl rfl ?_
                        refine OL.q (Q1.assign rfl) rfl rfl ?_
                        refine OL.nil ?_
                        refine r_inBlock ?_
                        refine r_region ?_
                        refine OL.q (Q1.move rfl) rfl rfl ?_
                        refine OL.q (Q1.addI (((i + 1 : Nat) : Int)) rfl rfl (by omega)) rfl rfl ?_
                        refine OL.q (Q1.assign rfl) rfl rfl ?_
                        refine OL.nil ?_
                        exact (ih1 _ _ _ ⟨(v2 : Value), (g1 : Nat), ((all ++ ((nextA ((Ml.gnodes words)) words q.text q.k true ((Itm.mk 0 [])) ((1 + ((Ml.lowM x1 7))))).1)) : List Itm), (b13 : Bool), (i + 1 : Nat), rfl, rfl, hE9, (by omega), ha2, (by omega), f44, f45, f46, f47, f48, f49, f50, (by omega), (by omega), (by first | exact hga0.step (by omega) (congrArg Prod.fst hbt) (Eq.trans (by assumption) (congrArg Prod.snd hbt)) | exact hga0.step (by omega) (congrArg Prod.fst hbt) (Eq.trans (Eq.symm (by assumption)) (congrArg Prod.snd hbt)) | (exfalso; omega)), (by first | omega | (exfalso; omega))⟩ (by omega)).sub ⟨rfl, rfl, rfl, rfl, rfl, rfl, rfl, trivial⟩
                  | false =>
                    replace hb7 := of_decide_eq_false hb7.symm
                    refine r_cond_f rfl ?_
                    refine r_skip ?_
                    refine r_seq ?_
                    refine r_region ?_
                    refine OL.act rfl rfl (AW.alloc ti24 ?_)
                    intro w6 b9 hm5 hb8 hz2 hk2
                    have hl1 := ha1.lt
                    have f19 := ha1.ext hm5
                    have f20 := f12.ext hm5
                    have f21 := f13.ext hm5
                    have f22 := f14.ext hm5
                    have f23 := f15.ext hm5
                    have f24 := f16.ext hm5
                    have f25 := f17.ext hm5
                    have f26 := f18.ext hm5
                    have hE6 := hE5.ext hm5
                    have hs6 := hm5.size
                    refine OL.nil ?_
                    refine r_seq ?_
                    refine r_seq ?_
                    refine r_region ?_
                    refine OL.q (Q1.move rfl) rfl rfl ?_
                    refine OL.q (Q1.lenSl Try.underlying31 (f19.sl) rfl) rfl rfl ?_
                    refine OL.qb (Q1.gt rfl rfl) rfl rfl ?_
                    intro b10 hb9
                    refine OL.nil ?_
                    cases b10 with
                    | true =>
                      replace hb9 := of_decide_eq_true hb9.symm
                      refine r_cond_t rfl ?_
                      refine r_region ?_
                      refine OL.q (Q1.move rfl) rfl rfl ?_
                      refine OL.q (Q1.move rfl) rfl rfl ?_
                      refine OL.q (Q1.lenSl Try.underlying31 (f19.sl) rfl) rfl rfl ?_
                      refine OL.q (Q1.subI ((((all.length : Nat) : Int) - 1)) rfl rfl (by omega)) rfl rfl ?_
                      obtain ⟨x1, b11, o1, hx1, hr1, hl2, hu1, hw1⟩ := Sl.at' (P := Try.prog) f19.sl Try.underlying31 ti24 encItm_len (k := .i64) (n := (((all.length : Nat) : Int) - 1)) ((all.length - 1)) (by omega) (by first | assumption | omega)
                      refine OL.q (Q1.indexAddr rfl rfl hr1) rfl rfl ?_
                      refine OL.q (Q1.loadN ti24 rfl (fun _ e => e ▸ hw1) rfl) rfl rfl ?_
                      have hxI := hRI _ (List.mem_of_getElem? (hga0.after (by omega) hx1))
                      refine OL.act rfl rfl (AW.store ti24 rfl rfl rfl rfl rfl hk2 (Nat.le_of_ble_eq_true rfl) ?_)
                      intro w7 hm6 hz3 hk3
                      replace hk3 : Bk w7 b9 [.int .i64 x1.dist, strV x1.word] 24 := hk3
                      have hl3 := f19.lt
                      have f27 := f19.keepG hm6 (by omega)
                      have f28 := f20.keepG hm6 (by omega)
                      have f29 := f21.keepG hm6 (by omega)
                      have f30 := f22.keepG hm6 (by omega)
                      have f31 := f23.keepG hm6 (by omega)
                      have f32 := f24.keepG hm6 (by omega)
                      have f33 := f25.keepG hm6 (by omega)
                      have f34 := f26.keepG hm6 (by omega)
                      have hE7 := Ext.thenG hE6 hm6 (by omega)
                      have hs7 := hm6.size
                      refine OL.nil ?_
                      refine r_seq ?_
                      refine r_region ?_
                      refine OL.q (Q1.move rfl) rfl rfl ?_
                      refine OL.q (Q1.fieldAddr fl39_0 rfl) rfl rfl ?_
                      refine OL.q (Q1.load1 ti9 rfl (fun _ e => e ▸ (f30.cell 0 _ rfl))) rfl rfl ?_
                      refine OL.q (Q1.fieldAddr fl39_1 rfl) rfl rfl ?_
                      refine OL.q (Q1.load1 ti3 rfl (fun _ e => e ▸ (f30.cell 1 _ rfl))) rfl rfl ?_
                      refine OL.q (Q1.move rfl) rfl rfl ?_
                      refine OL.q (Q1.lenSl Try.underlying31 (f27.sl) rfl) rfl rfl ?_
                      refine OL.qb (Q1.eq rfl rfl) rfl rfl ?_
                      intro b12 hb10
                      obtain rfl : b12 = false := hb10.trans (by exact beq_eq_false_iff_ne.2 (by omega))
                      refine OL.q (Q1.loadN ti24 rfl (fun _ e => e ▸ hk3.row) rfl) rfl rfl ?_
                      refine OL.q (Q1.move rfl) rfl rfl ?_
                      refine OL.act rfl rfl (AW.callF cl15 rfl (wnext_c (w0 := w7) (after := x1) q.text (q.k) false (1) f34 (by omega) (by first | omega | assumption) (by first | omega | assumption) (by first | assumption) (by first | assumption | omega | (simp; done)) (by first | assumption | omega) (by first | assumption | exact hxI.1 | decide | (show I64 (0 : Int); decide)) (by first | (simp; done) | exact Nat.le_trans hxI.2 (by decide) | (have := hxI.2; omega))) ?_)
                      rintro _ w8 ⟨v1, _, rfl, ⟨gr1, h1, hg2⟩, ⟨b13, hb11, rfl⟩, hm7⟩
                      have hl4 := f27.lt
                      have f35 := f27.ext hm7
                      have f36 := f28.ext hm7
                      have f37 := f29.ext hm7
                      have f38 := f30.ext hm7
                      have f39 := f31.ext hm7
                      have f40 := f32.ext hm7
                      have f41 := f33.ext hm7
                      have f42 := f34.ext hm7
                      have f43 := hk3.ext hm7
                      have hE8 := hE7.ext hm7
                      have hs8 := hm7.size
                      have hle_1 := h1.le
                      have hlt_1 := h1.lt
                      have := nextA_lenE ((Ml.gnodes words)) words q.text q.k false x1 1
                      have hbt := batch_law (words := words) (s := q.text) (k := q.k) (c := all.length) (first := false) (after := x1) (b := 1) hg0 hmq.1 hmq.2.1 (by omega) (.inr ⟨rfl, by omega, hga0.after (by omega) hx1⟩)
                      have hXl := congrArg (fun p : List Itm × Bool => p.1.length) hbt
                      simp only [List.length_take, List.length_drop] at hXl
                      refine OL.q (Q1.move rfl) rfl rfl ?_
                      refine OL.q (Q1.extract rfl rfl) rfl rfl ?_
                      refine OL.q (Q1.extract rfl rfl) rfl rfl ?_
                      refine OL.q (Q1.assign rfl) rfl rfl ?_
                      refine OL.q (Q1.assign rfl) rfl rfl ?_
                      refine OL.nil ?_
                      refine r_seq ?_
                      refine r_seq ?_
                      refine r_region ?_
                      refine OL.q (Q1.move rfl) rfl rfl ?_
                      refine OL.q (Q1.lenSl Try.underlying31 (h1.sl) rfl) rfl rfl ?_
                      refine OL.q (Q1.move rfl) rfl rfl ?_
                      refine OL.qb (Q1.gt rfl rfl) rfl rfl ?_
                      intro b14 hb12
                      obtain rfl : b14 = false := hb12.trans (by exact decide_eq_false (by omega))
                      refine OL.q (Q1.move rfl) rfl rfl ?_
                      refine OL.q (Q1.move rfl) rfl rfl ?_
                      refine OL.q (Q1.lenSl Try.underlying31 (h1.sl) rfl) rfl rfl ?_
                      refine OL.q (Q1.move rfl) rfl rfl ?_
                      refine OL.qb (Q1.lt rfl rfl) rfl rfl ?_
                      intro b15 hb13
                      refine OL.q (Q1.move rfl) rfl rfl ?_
                      cases b15 with
                      | true =>
                        replace hb13 := of_decide_eq_true hb13.symm
                        refine OL.q (Q1.move rfl) rfl rfl ?_
                        cases b13 with
                        | true =>
                          replace hb11 := hb11.symm
                          refine OL.q (Q1.not rfl) rfl rfl ?_
                          refine OL.q (Q1.pick_t rfl rfl) rfl rfl ?_
                          refine OL.q (Q1.pick_f rfl rfl) rfl rfl ?_
                          refine OL.nil ?_
                          refine r_cond_f rfl ?_
                          refine r_skip ?_
                          refine r_seq ?_
                          refine r_region ?_
                          refine OL.q (Q1.move rfl) rfl rfl ?_
                          refine OL.q (Q1.move rfl) rfl rfl ?_
                          have hl5 := f35.lt
                          refine OL.act rfl rfl (AW.append f35 Try.underlying31 ti24 rfl encItm_len encItm_one rfl rfl (h1.sl) (by first | omega | (simp only [List.length_append, List.length_cons, List.length_nil]; omega) | (simp; omega)) (by unfold maxLen; first | omega | (simp only [List.length_append, List.length_cons, List.length_nil]; omega) | (simp; omega)) ?_)
                          intro v2 g1 w9 ha2 hm8 hg3 hz4
                          have hl6 := f35.lt
                          have hl7 := h1.lt
                          have f44 := f36.keepG hm8 (by omega)
                          have f45 := f37.keepG hm8 (by omega)
                          have f46 := f38.keepG hm8 (by omega)
                          have f47 := f39.keepG hm8 (by omega)
                          have f48 := f40.keepG hm8 (by omega)
                          have f49 := f41.keepG hm8 (by omega)
                          have f50 := f42.keepG hm8 (by omega)
                          have f51 := f43.keepG hm8 (by omega)
                          have f52 := h1.keepG hm8 (by omega)
                          have hE9 := Ext.thenG hE8 hm8 (by omega)
                          have hs9 := hm8.size
                          refine OL.q (Q1.assign rfl) rfl rfl ?_
                          refine OL.nil ?_
                          refine r_region ?_
                          refine OL.q (Q1.move rfl) rfl rfl ?_
                          refine OL.q (Q1.assign rfl) rfl rfl ?_
                          refine OL.nil ?_
                          refine r_inBlock ?_
                          refine r_region ?_
                          refine OL.q (Q1.move rfl) rfl rfl ?_
                          refine OL.q (Q1.addI (((i + 1 : Nat) : Int)) rfl rfl (by omega)) rfl rfl ?_
                          refine OL.q (Q1.assign rfl) rfl rfl ?_
                          refine OL.nil ?_
                          exact (ih1 _ _ _ ⟨(v2 : Value), (g1 : Nat), ((all ++ ((nextA ((Ml.gnodes words)) words q.text q.k false x1 1).1)) : List Itm), (true : Bool), (i + 1 : Nat), rfl, rfl, hE9, (by omega), ha2, (by omega), f44, f45, f46, f47, f48, f49, f50, (by omega), (by omega), (by first | exact hga0.step (by omega) (congrArg Prod.fst hbt) (Eq.trans (by assumption) (congrArg Prod.snd hbt)) | exact hga0.step (by omega) (congrArg Prod.fst hbt) (Eq.trans (Eq.symm (by assumption)) (congrArg Prod.snd hbt)) | (exfalso; omega)), (by first | omega | (exfalso; omega))⟩ (by omega)).sub ⟨rfl, rfl, rfl, rfl, rfl, rfl, rfl, trivial⟩
                        | false =>
                          replace hb11 := hb11.symm
                          refine OL.q (Q1.not rfl) rfl rfl ?_
                          refine OL.q (Q1.pick_t rfl rfl) rfl rfl ?_
                          refine OL.q (Q1.pick_f rfl rfl) rfl rfl ?_
                          refine OL.nil ?_
                          refine r_cond_t rfl ?_
                          refine r_seq ?_
                          refine r_region ?_
                          refine OL.q (Q1.assign rfl) rfl rfl ?_
                          refine OL.nil ?_
                          refine r_ret1 Try.func8 rfl rfl ?_
                          exact Ret.mk ⟨⟨_, (by first | rfl | exact (bt_no hbt (by assumption) (by omega)).elim | (exfalso; omega)), rfl⟩, hE8⟩
                      | false =>
                        replace hb13 := of_decide_eq_false hb13.symm
                        refine OL.sk rfl rfl ?_
                        refine OL.sk rfl rfl ?_
                        refine OL.q (Q1.pick_f rfl rfl) rfl rfl ?_
                        refine OL.q (Q1.pick_f rfl rfl) rfl rfl ?_
                        refine OL.nil ?_
                        refine r_cond_f rfl ?_
                        refine r_skip ?_
                        refine r_seq ?_
                        refine r_region ?_
                        refine OL.q (Q1.move rfl) rfl rfl ?_
                        refine OL.q (Q1.move rfl) rfl rfl ?_
                        have hl5 := f35.lt
                        refine OL.act rfl rfl (AW.append f35 Try.underlying31 ti24 rfl encItm_len encItm_one rfl rfl (h1.sl) (by first | omega | (simp only [List.length_append, List.length_cons, List.length_nil]; omega) | (simp; omega)) (by unfold maxLen; first | omega | (simp only [List.length_append, List.length_cons, List.length_nil]; omega) | (simp; omega)) ?_)
                        intro v2 g1 w9 ha2 hm8 hg3 hz4
                        have hl6 := f35.lt
                        have hl7 := h1.lt
                        have f44 := f36.keepG hm8 (by omega)
                        have f45 := f37.keepG hm8 (by omega)
                        have f46 := f38.keepG hm8 (by omega)
                        have f47 := f39.keepG hm8 (by omega)
                        have f48 := f40.keepG hm8 (by omega)
                        have f49 := f41.keepG hm8 (by omega)
                        have f50 := f42.keepG hm8 (by omega)
                        have f51 := f43.keepG hm8 (by omega)
                        have f52 := h1.keepG hm8 (by omega)
                        have hE9 := Ext.thenG hE8 hm8 (by omega)
                        have hs9 := hm8.size
                        refine OL.q (Q1.assign rfl) rfl rfl ?_
                        refine OL.nil ?_
                        refine r_region ?_
                        refine OL.q (Q1.move rfl) rfl rfl ?_
                        refine OL.q (Q1.assign rfl) rfl rfl ?_
                        refine OL.nil ?_
                        refine r_inBlock ?_
                        refine r_region ?_
                        refine OL.q (Q1.move rfl) rfl rfl ?_
                        refine OL.q (Q1.addI (((i + 1 : Nat) : Int)) rfl rfl (by omega)) rfl rfl ?_
                        refine OL.q (Q1.assign rfl) rfl rfl ?_
                        refine OL.nil ?_
                        exact (ih1 _ _ _ ⟨(v2 : Value), (g1 : Nat), ((all ++ ((nextA ((Ml.gnodes words)) words q.text q.k false x1 1).1)) : List Itm), (b13 : Bool), (i + 1 : Nat), rfl, rfl, hE9, (by omega), ha2, (by omega), f44, f45, f46, f47, f48, f49, f50, (by omega), (by omega), (by first | exact hga0.step (by omega) (congrArg Prod.fst hbt) (Eq.trans (by assumption) (congrArg Prod.snd hbt)) | exact hga0.step (by omega) (congrArg Prod.fst hbt) (Eq.trans (Eq.symm (by assumption)) (congrArg Prod.snd hbt)) | (exfalso; omega)), (by first | omega | (exfalso; omega))⟩ (by omega)).sub ⟨rfl, rfl, rfl, rfl, rfl, rfl, rfl, trivial⟩
                    | false =>
                      replace hb9 := of_decide_eq_false hb9.symm
                      refine r_cond_f rfl ?_
                      refine r_skip ?_
                      refine r_seq ?_
                      refine r_region ?_
                      refine OL.q (Q1.move rfl) rfl rfl ?_
                      refine OL.q (Q1.fieldAddr fl39_0 rfl) rfl rfl ?_
                      refine OL.q (Q1.load1 ti9 rfl (fun _ e => e ▸ (f22.cell 0 _ rfl))) rfl rfl ?_
                      refine OL.q (Q1.fieldAddr fl39_1 rfl) rfl rfl ?_
                      refine OL.q (Q1.load1 ti3 rfl (fun _ e => e ▸ (f22.cell 1 _ rfl))) rfl rfl ?_
                      refine OL.q (Q1.move rfl) rfl rfl ?_
                      refine OL.q (Q1.lenSl Try.underlying31 (f19.sl) rfl) rfl rfl ?_
                      refine OL.qb (Q1.eq rfl rfl) rfl rfl ?_
                      intro b11 hb10
                      obtain rfl : b11 = true := hb10.trans (by exact beq_iff_eq.2 (by omega))
                      refine OL.q (Q1.loadN ti24 rfl (fun _ e => e ▸ hk2.row) rfl) rfl rfl ?_
                      refine OL.q (Q1.move rfl) rfl rfl ?_
                      refine OL.act rfl rfl (AW.callF cl15 rfl (wnext_c (w0 := w6) (after := (Itm.mk 0 [])) q.text (q.k) true (1) f26 (by omega) (by first | omega | assumption) (by first | omega | assumption) (by first | assumption) (by first | assumption | omega | (simp; done)) (by first | assumption | omega) (by first | assumption | exact hxI.1 | decide | (show I64 (0 : Int); decide)) (by first | (simp; done) | exact Nat.le_trans hxI.2 (by decide) | (have := hxI.2; omega))) ?_)
                      rintro _ w7 ⟨v1, _, rfl, ⟨gr1, h1, hg2⟩, ⟨b12, hb11, rfl⟩, hm6⟩
                      have hl2 := f19.lt
                      have f27 := f19.ext hm6
                      have f28 := f20.ext hm6
                      have f29 := f21.ext hm6
                      have f30 := f22.ext hm6
                      have f31 := f23.ext hm6
                      have f32 := f24.ext hm6
                      have f33 := f25.ext hm6
                      have f34 := f26.ext hm6
                      have f35 := hk2.ext hm6
                      have hE7 := hE6.ext hm6
                      have hs7 := hm6.size
                      have hle_1 := h1.le
                      have hlt_1 := h1.lt
                      have := nextA_lenE ((Ml.gnodes words)) words q.text q.k true ((Itm.mk 0 [])) 1
                      have hbt := batch_law (words := words) (s := q.text) (k := q.k) (c := all.length) (first := true) (after := (Itm.mk 0 [])) (b := 1) hg0 hmq.1 hmq.2.1 (by omega) (.inl ⟨rfl, by omega⟩)
                      have hXl := congrArg (fun p : List Itm × Bool => p.1.length) hbt
                      simp only [List.length_take, List.length_drop] at hXl
                      refine OL.q (Q1.move rfl) rfl rfl ?_
                      refine OL.q (Q1.extract rfl rfl) rfl rfl ?_
                      refine OL.q (Q1.extract rfl rfl) rfl rfl ?_
                      refine OL.q (Q1.assign rfl) rfl rfl ?_
                      refine OL.q (Q1.assign rfl) rfl rfl ?_
                      refine OL.nil ?_
                      refine r_seq ?_
                      refine r_seq ?_
                      refine r_region ?_
                      refine OL.q (Q1.move rfl) rfl rfl ?_
                      refine OL.q (Q1.lenSl Try.underlying31 (h1.sl) rfl) rfl rfl ?_
                      refine OL.q (Q1.move rfl) rfl rfl ?_
                      refine OL.qb (Q1.gt rfl rfl) rfl rfl ?_
                      intro b13 hb12
                      obtain rfl : b13 = false := hb12.trans (by exact decide_eq_false (by omega))
                      refine OL.q (Q1.move rfl) rfl rfl ?_
                      refine OL.q (Q1.move rfl) rfl rfl ?_
                      refine OL.q (Q1.lenSl Try.underlying31 (h1.sl) rfl) rfl rfl ?_
                      refine OL.q (Q1.move rfl) rfl rfl ?_
                      refine OL.qb (Q1.lt rfl rfl) rfl rfl ?_
                      intro b14 hb13
                      refine OL.q (Q1.move rfl) rfl rfl ?_
                      cases b14 with
                      | true =>
                        replace hb13 := of_decide_eq_true hb13.symm
                        refine OL.q (Q1.move rfl) rfl rfl ?_
                        cases b12 with
                        | true =>
                          replace hb11 := hb11.symm
                          refine OL.q (Q1.not rfl) rfl rfl ?_
                          refine OL.q (Q1.pick_t rfl rfl) rfl rfl ?_
                          refine OL.q (Q1.pick_f rfl rfl) rfl rfl ?_
                          refine OL.nil ?_
                          refine r_cond_f rfl ?_
                          refine r_skip ?_
                          refine r_seq ?_
                          refine r_region ?_
                          refine OL.q (Q1.move rfl) rfl rfl ?_
                          refine OL.q (Q1.move rfl) rfl rfl ?_
                          have hl3 := f27.lt
                          refine OL.act rfl rfl (AW.append f27 Try.underlying31 ti24 rfl encItm_len encItm_one rfl rfl (h1.sl) (by first | omega | (simp only [List.length_append, List.length_cons, List.length_nil]; omega) | (simp; omega)) (by unfold maxLen; first | omega | (simp only [List.length_append, List.length_cons, List.length_nil]; omega) | (simp; omega)) ?_)
                          intro v2 g1 w8 ha2 hm7 hg3 hz3
                          have hl4 := f27.lt
                          have hl5 := h1.lt
                          have f36 := f28.keepG hm7 (by omega)
                          have f37 := f29.keepG hm7 (by omega)
                          have f38 := f30.keepG hm7 (by omega)
                          have f39 := f31.keepG hm7 (by omega)
                          have f40 := f32.keepG hm7 (by omega)
                          have f41 := f33.keepG hm7 (by omega)
                          have f42 := f34.keepG hm7 (by omega)
                          have f43 := f35.keepG hm7 (by omega)
                          have f44 := h1.keepG hm7 (by omega)
                          have hE8 := Ext.thenG hE7 hm7 (by omega)
                          have hs8 := hm7.size
                          refine OL.q (Q1.assign rfl) rfl rfl ?_
                          refine OL.nil ?_
                          refine r_region ?_
                          refine OL.q (Q1.move rfl) rfl rfl ?_
                          refine OL.q (Q1.assign rfl) rfl rfl ?_
                          refine OL.nil ?_
                          refine r_inBlock ?_
                          refine r_region ?_
                          refine OL.q (Q1.move rfl) rfl rfl ?_
                          refine OL.q (Q1.addI (((i + 1 : Nat) : Int)) rfl rfl (by omega)) rfl rfl ?_
                          refine OL.q (Q1.assign rfl) rfl rfl ?_
                          refine OL.nil ?_
                          exact (ih1 _ _ _ ⟨(v2 : Value), (g1 : Nat), ((all ++ ((nextA ((Ml.gnodes words)) words q.text q.k true ((Itm.mk 0 [])) 1).1)) : List Itm), (true : Bool), (i + 1 : Nat), rfl, rfl, hE8, (by omega), ha2, (by omega), f36, f37, f38, f39, f40, f41, f42, (by omega), (by omega), (by first | exact hga0.step (by omega) (congrArg Prod.fst hbt) (Eq.trans (by assumption) (congrArg Prod.snd hbt)) | exact hga0.step (by omega) (congrArg Prod.fst hbt) (Eq.trans (Eq.symm (by assumption)) (congrArg Prod.snd hbt)) | (exfalso; omega)), (by first | omega | (exfalso; omega))⟩ (by omega)).sub ⟨rfl, rfl, rfl, rfl, rfl, rfl, rfl, trivial⟩
                        | false =>
                          replace hb11 := hb11.symm
                          refine OL.q (Q1.not rfl) rfl rfl ?_
                          refine OL.q (Q1.pick_t rfl rfl) rfl rfl ?_
                          refine OL.q (Q1.pick_f rfl rfl) rfl rfl ?_
                          refine OL.nil ?_
                          refine r_cond_t rfl ?_
                          refine r_seq ?_
                          refine r_region ?_
                          refine OL.q (Q1.assign rfl) rfl rfl ?_
                          refine OL.nil ?_
                          refine r_ret1 Try.func8 rfl rfl ?_
                          exact Ret.mk ⟨⟨_, (by first | rfl | exact (bt_no hbt (by assumption) (by omega)).elim | (exfalso; omega)), rfl⟩, hE7⟩
                      | false =>
                        replace hb13 := of_decide_eq_false hb13.symm
                        refine OL.sk rfl rfl ?_
                        refine OL.sk rfl rfl ?_
                        refine OL.q (Q1.pick_f rfl rfl) rfl rfl ?_
                        refine OL.q (Q1.pick_f rfl rfl) rfl rfl ?_
                        refine OL.nil ?_
                        refine r_cond_f rfl ?_
                        refine r_skip ?_
                        refine r_seq ?_
                        refine r_region ?_
                        refine OL.q (Q1.move rfl) rfl rfl ?_
                        refine OL.q (Q1.move rfl) rfl rfl ?_
                        have hl3 := f27.lt
                        refine OL.act rfl rfl (AW.append f27 Try.underlying31 ti24 rfl encItm_len encItm_one rfl rfl (h1.sl) (by first | omega | (simp only [List.length_append, List.length_cons, List.length_nil]; omega) | (simp; omega)) (by unfold maxLen; first | omega | (simp only [List.length_append, List.length_cons, List.length_nil]; omega) | (simp; omega)) ?_)
                        intro v2 g1 w8 ha2 hm7 hg3 hz3
                        have hl4 := f27.lt
                        have hl5 := h1.lt
                        have f36 := f28.keepG hm7 (by omega)
                        have f37 := f29.keepG hm7 (by omega)
                        have f38 := f30.keepG hm7 (by omega)
                        have f39 := f31.keepG hm7 (by omega)
                        have f40 := f32.keepG hm7 (by omega)
                        have f41 := f33.keepG hm7 (by omega)
                        have f42 := f34.keepG hm7 (by omega)
                        have f43 := f35.keepG hm7 (by omega)
                        have f44 := h1.keepG hm7 (by omega)
                        have hE8 := Ext.thenG hE7 hm7 (by omega)
                        have hs8 := hm7.size
                        refine OL.q (Q1.assign rfl) rfl rfl ?_
                        refine OL.nil ?_
                        refine r_region ?_
                        refine OL.q (Q1.move rfl) rfl rfl ?_
                        refine OL.q (Q1.assign rfl) rfl rfl ?_
                        refine OL.nil ?_
                        refine r_inBlock ?_
                        refine r_region ?_
                        refine OL.q (Q1.move rfl) rfl rfl ?_
                        refine OL.q (Q1.addI (((i + 1 : Nat) : Int)) rfl rfl (by omega)) rfl rfl ?_
                        refine OL.q (Q1.assign rfl) rfl rfl ?_
                        refine OL.nil ?_
                        exact (ih1 _ _ _ ⟨(v2 : Value), (g1 : Nat), ((all ++ ((nextA ((Ml.gnodes words)) words q.text q.k true ((Itm.mk 0 [])) 1).1)) : List Itm), (b12 : Bool), (i + 1 : Nat), rfl, rfl, hE8, (by omega), ha2, (by omega), f36, f37, f38, f39, f40, f41, f42, (by omega), (by omega), (by first | exact hga0.step (by omega) (congrArg Prod.fst hbt) (Eq.trans (by assumption) (congrArg Prod.snd hbt)) | exact hga0.step (by omega) (congrArg Prod.fst hbt) (Eq.trans (Eq.symm (by assumption)) (congrArg Prod.snd hbt)) | (exfalso; omega)), (by first | omega | (exfalso; omega))⟩ (by omega)).sub ⟨rfl, rfl, rfl, rfl, rfl, rfl, rfl, trivial⟩
              | false =>
                replace hb6 := of_decide_eq_false hb6.symm
                refine OL.sk rfl rfl ?_
                refine OL.sk rfl rfl ?_
                refine OL.q (Q1.pick_f rfl rfl) rfl rfl ?_
                refine OL.nil ?_
                refine r_cond_f rfl ?_
                refine r_exit rfl ?_
                refine r_seq ?_
                refine r_region ?_
                refine OL.q (Q1.move rfl) rfl rfl ?_
                obtain ⟨hge, hga⟩ := hga0.fin (m := words.length) hRl (by first | (left; rfl) | (right; omega))
                obtain rfl : fin = true := (by exact hge)
                refine OL.q (Q1.move rfl) rfl rfl ?_
                refine OL.q (Q1.move rfl) rfl rfl ?_
                refine OL.q (Q1.move rfl) rfl rfl ?_
                refine OL.q (Q1.fieldAddr fl39_0 rfl) rfl rfl ?_
                refine OL.q (Q1.load1 ti9 rfl (fun _ e => e ▸ (f14.cell 0 _ rfl))) rfl rfl ?_
                refine OL.q (Q1.fieldAddr fl39_1 rfl) rfl rfl ?_
                refine OL.q (Q1.load1 ti3 rfl (fun _ e => e ▸ (f14.cell 1 _ rfl))) rfl rfl ?_
                refine OL.act rfl rfl (AW.callF cl30 rfl (rall_c (w0 := w5) (words := words) q.text (q.k) ((f12).iv (Nat.zero_le _) (by omega)) (by first | omega | assumption) (by assumption) (by omega) (by exact fun w h => Nat.le_trans (hws w h) (by decide)) (by have := (greatS_no (by assumption : greatS words q.text = false)).2; omega)) ?_)
                rintro v1 w6 ⟨⟨gr1, h1, hg2⟩, hm5⟩
                have hl1 := ha1.lt
                have f19 := ha1.ext hm5
                have f20 := f12.ext hm5
                have f21 := f13.ext hm5
                have f22 := f14.ext hm5
                have f23 := f15.ext hm5
                have f24 := f16.ext hm5
                have f25 := f17.ext hm5
                have f26 := f18.ext hm5
                have hE6 := hE5.ext hm5
                have hs6 := hm5.size
                have hle_1 := h1.le
                have hlt_1 := h1.lt
                refine OL.act rfl rfl (AW.callF cl17 rfl (sameIt_c (w0 := w6) (a := all) (b := (refAll words q.text q.k))  ((f19.sl).iv (Nat.zero_le _) (by omega)) ((h1.sl).iv (Nat.zero_le _) (by omega))) ?_)
                rintro _ w7 ⟨⟨b8, hb7, rfl⟩, hm6⟩
                have hl2 := f19.lt
                have hl3 := h1.lt
                have f27 := f19.ext hm6
                have f28 := f20.ext hm6
                have f29 := f21.ext hm6
                have f30 := f22.ext hm6
                have f31 := f23.ext hm6
                have f32 := f24.ext hm6
                have f33 := f25.ext hm6
                have f34 := f26.ext hm6
                have f35 := h1.ext hm6
                have hE7 := hE6.ext hm6
                have hs7 := hm6.size
                obtain rfl : b8 = true := hb7.trans (by exact decide_eq_true hga)
                refine OL.q (Q1.pick_t rfl rfl) rfl rfl ?_
                refine OL.q (Q1.move rfl) rfl rfl ?_
                refine OL.act rfl rfl (AW.callF cl13 rfl (awake11_c (w0 := w7)   ) ?_)
                rintro _ w8 ⟨⟨_, rfl, rfl⟩, hm7⟩
                have hl4 := f27.lt
                have hl5 := f35.lt
                have f36 := f27.ext hm7
                have f37 := f28.ext hm7
                have f38 := f29.ext hm7
                have f39 := f30.ext hm7
                have f40 := f31.ext hm7
                have f41 := f32.ext hm7
                have f42 := f33.ext hm7
                have f43 := f34.ext hm7
                have f44 := f35.ext hm7
                have hE8 := hE7.ext hm7
                have hs8 := hm7.size
                refine OL.q (Q1.pick_t rfl rfl) rfl rfl ?_
                refine OL.q (Q1.assign rfl) rfl rfl ?_
                refine OL.nil ?_
                refine r_ret1 Try.func8 rfl rfl ?_
                exact Ret.mk ⟨⟨_, (by first | rfl | exact (bt_no hbt (by assumption) (by omega)).elim | (exfalso; omega)), rfl⟩, hE8⟩
      | false =>
        replace hb4 := hb4.symm
        refine OL.q (Q1.not rfl) rfl rfl ?_
        refine OL.q (Q1.pick_f rfl rfl) rfl rfl ?_
        refine OL.nil ?_
        refine r_cond_t rfl ?_
        refine r_seq ?_
        refine r_region ?_
        refine OL.act rfl rfl (AW.callF cl13 rfl (awake11_c (w0 := w3)   ) ?_)
        rintro _ w4 ⟨⟨_, rfl, rfl⟩, hm4⟩
        have f9 := f6.ext hm4
        have f10 := f7.ext hm4
        have f11 := f8.ext hm4
        have hE4 := hE3.ext hm4
        have hs4 := hm4.size
        refine OL.q (Q1.assign rfl) rfl rfl ?_
        refine OL.nil ?_
        refine r_ret1 Try.func8 rfl rfl ?_
        exact Ret.mk ⟨⟨_, (by first | rfl | exact (bt_no hbt (by assumption) (by omega)).elim | (exfalso; omega)), rfl⟩, hE4⟩
end Go.Proofs
