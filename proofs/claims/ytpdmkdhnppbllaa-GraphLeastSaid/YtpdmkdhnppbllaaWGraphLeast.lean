/-
  The walk through the law GraphLeast.
-/
import Derived.Test.YtpdmkdhnppbllaaWAwake
import Derived.Test.YtpdmkdhnppbllaaWFrom
set_option linter.unusedVariables false
set_option linter.unusedSimpArgs false
namespace Go.Proofs
open Go.Ik Go.Ml
set_option maxRecDepth 20000 in
set_option maxHeartbeats 8000000 in
theorem GraphLeast_c {w0 : World}  {v_words : Value} {words : List Str} (h_words : Sl encS w0 (Iv 0 w0.heap.size) v_words words) (hok : Ml.LOk words) :
    Calls Try.prog 5 #[v_words] w0 (Ret fun rv w1 => (∃ rb : Bool, rb = true ∧ rv = .bool rb) ∧ Ext w0 w1) := by
  have hle_words := h_words.le
  have hS0 := St.start0 w0
  refine calls_enter Try.func5 rfl Try.ntmps5 rfl ?_
  refine r_seq ?_
  refine r_region ?_
  refine OL.q (Q1.assign rfl) rfl rfl ?_
  refine OL.nil ?_
  refine r_seq ?_
  refine r_seq ?_
  refine r_region ?_
  refine OL.q (Q1.move rfl) rfl rfl ?_
  refine OL.act rfl rfl (AW.callF cl11 rfl (greatT_c (w0 := w0) (l := words)  h_words) ?_)
  rintro _ w1 ⟨⟨b1, hb1, rfl⟩, hm1⟩
  have hS1 := hS0.ext hm1
  refine OL.q (Q1.move rfl) rfl rfl ?_
  cases b1 with
  | true =>
    replace hb1 := hb1.symm
    refine OL.sk rfl rfl ?_
    refine OL.sk rfl rfl ?_
    refine OL.sk rfl rfl ?_
    refine OL.q (Q1.pick_t rfl rfl) rfl rfl ?_
    refine OL.nil ?_
    refine r_cond_t rfl ?_
    refine r_seq ?_
    refine r_region ?_
    refine OL.act rfl rfl (AW.callF cl12 rfl (awake8_c (w0 := w1)   ) ?_)
    rintro _ w2 ⟨⟨_, rfl, rfl⟩, hm2⟩
    have hS2 := hS1.ext hm2
    refine OL.q (Q1.assign rfl) rfl rfl ?_
    refine OL.nil ?_
    refine r_ret1 Try.func5 rfl rfl ?_
    exact Ret.mk ⟨⟨_, (by rfl), rfl⟩, hS2.mod⟩
  | false =>
    replace hb1 := hb1.symm
    refine OL.q (Q1.move rfl) rfl rfl ?_
    have f1 := hS1.out h_words (fun _ _ h => h)
    refine OL.q (Q1.lenSl Try.underlying22 (f1) rfl) rfl rfl ?_
    refine OL.qb (Q1.gt rfl rfl) rfl rfl ?_
    intro b2 hb2
    refine OL.q (Q1.pick_f rfl rfl) rfl rfl ?_
    refine OL.nil ?_
    cases b2 with
    | true =>
      replace hb2 := of_decide_eq_true hb2.symm
      refine r_cond_t rfl ?_
      refine r_seq ?_
      refine r_region ?_
      refine OL.act rfl rfl (AW.callF cl12 rfl (awake8_c (w0 := w1)   ) ?_)
      rintro _ w2 ⟨⟨_, rfl, rfl⟩, hm2⟩
      have hS2 := hS1.ext hm2
      refine OL.q (Q1.assign rfl) rfl rfl ?_
      refine OL.nil ?_
      refine r_ret1 Try.func5 rfl rfl ?_
      exact Ret.mk ⟨⟨_, (by rfl), rfl⟩, hS2.mod⟩
    | false =>
      replace hb2 := of_decide_eq_false hb2.symm
      refine r_cond_f rfl ?_
      refine r_skip ?_
      refine r_seq ?_
      refine r_region ?_
      refine OL.q (Q1.move rfl) rfl rfl ?_
      have hl8 := greatT_len (l := words) (by assumption)
      refine OL.act rfl rfl (AW.callF cl14 rfl (build_c (w0 := w1) (words := words) (f1.iv (Nat.zero_le _) hS1.mod.size) hok (by omega)) ?_)
      rintro _ w2 ⟨vg1, _, rfl, ⟨lo1, hi1, hgr1, hlo1, hhi1⟩, rfl, hm2⟩
      have hS2 := hS1.ext hm2
      have := goodL_range words
      have hS3 : St (fun _ => False) (fun _ => False) w0 w2 [grR vg1 (gnodes words)] := hS1.newGr hm2 hgr1 hlo1 hhi1
      refine OL.q (Q1.move rfl) rfl rfl ?_
      refine OL.q (Q1.extract rfl rfl) rfl rfl ?_
      refine OL.q (Q1.extract rfl rfl) rfl rfl ?_
      refine OL.q (Q1.assign rfl) rfl rfl ?_
      refine OL.q (Q1.assign rfl) rfl rfl ?_
      refine OL.nil ?_
      refine r_seq ?_
      refine r_seq ?_
      refine r_region ?_
      refine OL.q (Q1.move rfl) rfl rfl ?_
      refine OL.qb (Q1.ne rfl rfl) rfl rfl ?_
      intro b3 hb3
      refine OL.q (Q1.move rfl) rfl rfl ?_
      cases b3 with
      | true =>
        replace hb3 := bne_iff_ne.1 hb3.symm
        refine OL.sk rfl rfl ?_
        refine OL.sk rfl rfl ?_
        refine OL.q (Q1.pick_t rfl rfl) rfl rfl ?_
        refine OL.nil ?_
        refine r_cond_t rfl ?_
        refine r_seq ?_
        refine r_region ?_
        refine OL.q (Q1.move rfl) rfl rfl ?_
        obtain ⟨lo2, hi2, hgr2, hhi2⟩ := hS3.grAt (i := 0) rfl
        rcases hgr2 with ⟨hv1, hN1⟩ | ⟨b4, _, _, hv1, hN1, _⟩
        · subst hv1
          refine OL.q (Q1.eqNil Try.underlying26 rfl rfl) rfl rfl ?_
          refine OL.q (Q1.move rfl) rfl rfl ?_
          refine OL.act rfl rfl (AW.callF cl12 rfl (awake8_c (w0 := w2)   ) ?_)
          rintro _ w3 ⟨⟨_, rfl, rfl⟩, hm3⟩
          have hS4 := hS3.ext hm3
          refine OL.q (Q1.pick_t rfl rfl) rfl rfl ?_
          refine OL.q (Q1.assign rfl) rfl rfl ?_
          refine OL.nil ?_
          refine r_ret1 Try.func5 rfl rfl ?_
          exact Ret.mk ⟨⟨_, (by rfl), rfl⟩, hS4.mod⟩
        · exact absurd (gnodes_no (by assumption)) hN1
      | false =>
        replace hb3 := bne_eq_false_iff_eq.1 hb3.symm
        refine OL.q (Q1.move rfl) rfl rfl ?_
        obtain ⟨lo2, hi2, hgr2, hhi2⟩ := hS3.grAt (i := 0) rfl
        rcases hgr2 with ⟨hv1, hN1⟩ | ⟨b4, _, _, hv1, hN1, _⟩
        · exact absurd hN1 (gnodes_ne (by assumption))
        · subst hv1
          refine OL.q (Q1.eqNil Try.underlying26 rfl rfl) rfl rfl ?_
          refine OL.q (Q1.pick_f rfl rfl) rfl rfl ?_
          refine OL.nil ?_
          refine r_cond_f rfl ?_
          refine r_skip ?_
          refine r_seq ?_
          refine r_region ?_
          refine OL.q (Q1.move rfl) rfl rfl ?_
          have hg0 : goodL words = 0 := by assumption
          have hgok := gok_of hg0
          obtain ⟨hI, hgl, hel⟩ := hgok.edges
          have hgq := gnodes_yes hg0
          rw [hgq] at hI hgl hel
          have hgls := gnOf_len (graphB words)
          have hbl := graphB_len hg0
          have hnd := graphB_names hg0
          have hgq2 : (gnodes words).length = (graphB words).length := by rw [hgq]; exact hgls
          obtain ⟨lo3, hi3, hgr3, hhi3⟩ := hS3.grAt (i := 0) rfl
          refine OL.act rfl rfl (AW.callF cl18 rfl (nodes_c (w0 := w2) hgr3 hhi3) ?_)
          rintro _ w3 ⟨rfl, hm3⟩
          have hS4 := hS3.ext hm3
          refine OL.q (Q1.assign rfl) rfl rfl ?_
          refine OL.nil ?_
          refine r_seq ?_
          refine r_region ?_
          refine OL.q (Q1.assign rfl) rfl rfl ?_
          refine OL.nil ?_
          refine r_seq ?_
          refine r_seq ?_
          refine r_region ?_
          have hS5 : St (fun _ => False) (fun _ => False) w0 w3 [grR (ptr b4 0) (gnodes words), hlR encS [] []] := hS4.new (Mod.refl _ _) (F := fun _ => False) (All2.nil) (fun _ h => h.elim)
          refine OL.q (Q1.assign rfl) rfl rfl ?_
          refine OL.nil ?_
          refine r_block ?_
          have hS7 : St (fun _ => False) (fun _ => False) w0 w3 [grR (ptr b4 0) (gnodes words), hlR encS [] [], accR encH 22 1 (.slice none 0 0) []] := hS5.newAcc (Mod.refl _ _) Acc.nil (.inl rfl)
          refine r_loop (I := fun m E W => ∃ (v_hsl : Value) (hsl : List SH) (i : Nat), E = [(0, v_words), (3, (ptr b4 0)), (5, .int .i64 ((((gnodes words).length : Nat) : Int))), (6, v_hsl), (7, .int .i64 (((i : Nat) : Int)))] ∧ m = (graphB words).length - i ∧ St (fun _ => False) (fun _ => False) w0 W [grR (ptr b4 0) (gnodes words), hlR encS hsl ((names (graphB words)).take i), accR encH 22 1 v_hsl hsl] ∧ (i ≤ (graphB words).length) ∧ (hsl.length = i)) ?_ ?_
          · refine ⟨_, _, ⟨(.slice none 0 0 : Value), ([] : List SH), (0 : Nat), rfl, rfl, hS7, (by omega), (by rfl)⟩, ⟨rfl, rfl, rfl, rfl, rfl, trivial⟩⟩
          · rintro _ _ w4 ⟨v_hsl, hsl, i, rfl, rfl, hS6, hin, hhs⟩ ih1
            refine r_seq ?_
            refine r_seq ?_
            refine r_region ?_
            refine OL.q (Q1.move rfl) rfl rfl ?_
            refine OL.q (Q1.move rfl) rfl rfl ?_
            refine OL.qb (Q1.lt rfl rfl) rfl rfl ?_
            intro b5 hb4
            refine OL.nil ?_
            cases b5 with
            | true =>
              replace hb4 := of_decide_eq_true hb4.symm
              refine r_cond_t rfl ?_
              refine r_skip ?_
              refine r_seq ?_
              refine r_block ?_
              refine r_seq ?_
              refine r_region ?_
              refine OL.q (Q1.move rfl) rfl rfl ?_
              refine OL.q (Q1.move rfl) rfl rfl ?_
              obtain ⟨lo4, hi4, hgr4, hhi4⟩ := hS6.grAt (i := 0) rfl
              rw [hgq] at hgr4
              obtain ⟨x0, hx0⟩ : ∃ x, (graphB words)[i]? = some x := ⟨_, List.getElem?_eq_getElem (by omega)⟩
              have hx0m := List.mem_of_getElem? hx0
              refine OL.act rfl rfl (AW.callF cl27 rfl (from8_c 13 ((i : Nat) : Int) 13 x0 hgr4 hhi4 hgok.node (fun y hy => by have := graphB_short hg0 y hy; omega) hgl hel (by omega) rfl (by omega) (gnOf_at hx0) (hgok.node _ hx0m).1 (hgok.node _ hx0m).2.1 (fun t ht => by have := (hgok.node _ hx0m).2.2 t ht; omega) (by have := graphB_short hg0 _ hx0m; omega)) ?_)
              rintro v1 w5 ⟨⟨gr1, ha1, hg1⟩, hm4⟩
              have hS8 := hS6.ext hm4
              have hS9 : St (fun _ => False) (fun _ => False) w0 w5 [grR (ptr b4 0) (gnodes words), hlR encS hsl ((names (graphB words)).take i), accR encH 22 1 v_hsl hsl, accR encS 9 1 v1 x0.1] := hS6.newAcc hm4 ha1 hg1
              clear hg1
              have hx0l := graphB_short hg0 _ hx0m
              refine OL.q (Q1.assign rfl) rfl rfl ?_
              refine OL.nil ?_
              refine r_seq ?_
              refine r_seq ?_
              refine r_region ?_
              refine OL.q (Q1.assign rfl) rfl rfl ?_
              refine OL.nil ?_
              refine r_block ?_
              refine r_loop (I := fun m E W => ∃ (k : Nat), E = [(0, v_words), (3, (ptr b4 0)), (5, .int .i64 ((((gnodes words).length : Nat) : Int))), (6, v_hsl), (7, .int .i64 (((i : Nat) : Int))), (8, v1), (9, .int .i64 (((k : Nat) : Int)))] ∧ m = hsl.length - k ∧ St (fun _ => False) (fun _ => False) w0 W [grR (ptr b4 0) (gnodes words), hlR encS hsl ((names (graphB words)).take i), accR encH 22 1 v_hsl hsl, accR encS 9 1 v1 x0.1]) ?_ ?_
              · refine ⟨_, _, ⟨(0 : Nat), rfl, rfl, hS9⟩, ⟨rfl, rfl, rfl, rfl, rfl, rfl, rfl, trivial⟩⟩
              · rintro _ _ w6 ⟨k, rfl, rfl, hS10⟩ ih2
                refine r_seq ?_
                refine r_seq ?_
                refine r_region ?_
                refine OL.q (Q1.move rfl) rfl rfl ?_
                refine OL.q (Q1.move rfl) rfl rfl ?_
                obtain ⟨g1, f2, hl1, k1⟩ := hS10.accK (i := 2) rfl
                refine OL.q (Q1.lenSl Try.underlying50 (f2.sl) rfl) rfl rfl ?_
                refine OL.qb (Q1.lt rfl rfl) rfl rfl ?_
                intro b6 hb5
                refine OL.nil ?_
                cases b6 with
                | true =>
                  replace hb5 := of_decide_eq_true hb5.symm
                  refine r_cond_t rfl ?_
                  refine r_skip ?_
                  refine r_seq ?_
                  refine r_block ?_
                  refine r_seq ?_
                  refine r_region ?_
                  refine OL.q (Q1.move rfl) rfl rfl ?_
                  refine OL.q (Q1.move rfl) rfl rfl ?_
                  obtain ⟨x1, b7, o1, hx1, hr1, hl2, hw1⟩ := Sl.atF (P := Try.prog) f2.sl Try.underlying50 ti22 encH_len (k := .i64) (n := ((k : Nat) : Int)) (k) (by omega) (by first | assumption | omega)
                  refine OL.q (Q1.indexAddr rfl rfl hr1) rfl rfl ?_
                  refine OL.q (Q1.load1 ti22 rfl (fun _ e => e ▸ hw1)) rfl rfl ?_
                  obtain ⟨ly1, hly1, hn1⟩ := hS10.hlAt (i := 1) rfl hx1
                  have := hn1.le
                  refine OL.q (Q1.move rfl) rfl rfl ?_
                  obtain ⟨g2, f4, hl3, k2⟩ := hS10.accK (i := 3) rfl
                  refine OL.act rfl rfl (AW.callF cl28 rfl (sameT_c (w0 := w6) (a := ly1) (b := x0.1)  hn1 (f4.sl.iv (Nat.zero_le _) f4.lt)) ?_)
                  rintro _ w7 ⟨⟨b8, hb6, rfl⟩, hm5⟩
                  have hS11 := hS10.ext hm5
                  obtain rfl : b8 = false := hb6.trans (by exact decide_eq_false (least_ne hnd hx0 hly1 (by omega)))
                  refine OL.nil ?_
                  refine r_cond_f rfl ?_
                  refine r_skip ?_
                  refine r_inBlock ?_
                  refine r_region ?_
                  refine OL.q (Q1.move rfl) rfl rfl ?_
                  refine OL.q (Q1.addI (((k + 1 : Nat) : Int)) rfl rfl (by omega)) rfl rfl ?_
                  refine OL.q (Q1.assign rfl) rfl rfl ?_
                  refine OL.nil ?_
                  exact (ih2 _ _ _ ⟨(k + 1 : Nat), rfl, rfl, hS11⟩ (by omega)).sub ⟨rfl, rfl, rfl, rfl, rfl, rfl, rfl, trivial⟩
                | false =>
                  replace hb5 := of_decide_eq_false hb5.symm
                  refine r_cond_f rfl ?_
                  refine r_exit rfl ?_
                  refine r_seq ?_
                  refine r_seq ?_
                  refine r_region ?_
                  refine OL.q (Q1.move rfl) rfl rfl ?_
                  obtain ⟨g2, f3, hl2, k2⟩ := hS10.accK (i := 3) rfl
                  refine OL.q (Q1.lenSl Try.underlying22 (f3.sl) rfl) rfl rfl ?_
                  refine OL.qb (Q1.eq rfl rfl) rfl rfl ?_
                  intro b7 hb6
                  refine OL.q (Q1.move rfl) rfl rfl ?_
                  cases b7 with
                  | true =>
                    replace hb6 := eq_of_beq hb6.symm
                    refine OL.q (Q1.move rfl) rfl rfl ?_
                    have f4 := hS10.out h_words (fun _ _ h => h)
                    refine OL.q (Q1.lenSl Try.underlying22 (f4) rfl) rfl rfl ?_
                    refine OL.qb (Q1.gt rfl rfl) rfl rfl ?_
                    intro b8 hb7
                    obtain rfl : b8 = false := hb7.trans (by exact decide_eq_false (fun hw => absurd (by assumption) (least_len hg0 hx0m hw)))
                    refine OL.q (Q1.pick_t rfl rfl) rfl rfl ?_
                    refine OL.nil ?_
                    refine r_cond_f rfl ?_
                    refine r_skip ?_
                    refine r_region ?_
                    refine OL.q (Q1.move rfl) rfl rfl ?_
                    refine OL.q (Q1.move rfl) rfl rfl ?_
                    obtain ⟨ad1, cp1, hv2⟩ := f3.shape
                    subst hv2
                    refine OL.act rfl rfl (AW.buildSlice [(.slice ad1 x0.1.length cp1)] Try.underlying50 ti22 rfl rfl rfl (by decide) ?_)
                    intro w7 b9 hm5 hb8 hz1 hk1
                    have hS11 := hS10.ext hm5
                    have hl3 := Sl.of_blk (enc := encH) hk1 ([(SH.mk ad1 x0.1.length cp1)] : List SH) 1 rfl rfl (by unfold maxLen; omega)
                    have hS12 : St (fun _ => False) (fun _ => False) w0 w7 [grR (ptr b4 0) (gnodes words), hlR encS hsl ((names (graphB words)).take i), accR encH 22 1 v_hsl hsl, accR encS 9 1 ((.slice ad1 x0.1.length cp1)) x0.1, slR encH [((.slice (some ⟨b9, 0, none⟩) 1 1), [(SH.mk ad1 x0.1.length cp1)])]] := hS10.newSlB hm5 hb8 hz1 hl3
                    obtain ⟨g4, f5, hl4, k3⟩ := hS12.accK (i := 2) rfl
                    have f6 := hS12.sl (i := 4) (k := 0) rfl rfl
                    refine OL.act rfl rfl (AW.append f5 Try.underlying50 ti22 rfl encH_len encH_one rfl rfl (f6) (by first | omega | (simp only [List.length_append, List.length_cons, List.length_nil]; omega) | (simp; omega)) (by unfold maxLen; first | omega | (simp only [List.length_append, List.length_cons, List.length_nil]; omega) | (simp; omega)) ?_)
                    intro v2 g3 w8 ha2 hm6 hg2 hz2
                    have hS13 : St (fun _ => False) (fun _ => False) w0 w8 [grR (ptr b4 0) (gnodes words), hlR encS hsl ((names (graphB words)).take i), accR encH 22 1 v2 ((hsl ++ [(SH.mk ad1 x0.1.length cp1)])), accR encS 9 1 ((.slice ad1 x0.1.length cp1)) x0.1, slR encH [((.slice (some ⟨b9, 0, none⟩) 1 1), [(SH.mk ad1 x0.1.length cp1)])]] := k3 _ _ _ _ hm6 ha2 hg2
                    clear hg2
                    refine OL.q (Q1.assign rfl) rfl rfl ?_
                    have hhl := hS13.hlLen (i := 1) rfl
                    have hS14 : St (fun _ => False) (fun _ => False) w0 w8 [grR (ptr b4 0) (gnodes words), accR encH 22 1 v2 ((hsl ++ [(SH.mk ad1 x0.1.length cp1)])), slR encH [((.slice (some ⟨b9, 0, none⟩) 1 1), [(SH.mk ad1 x0.1.length cp1)])], hlR encS hsl ((names (graphB words)).take i), accR encS 9 1 ((.slice ad1 x0.1.length cp1)) x0.1] := hS13.sel [0, 2, 4, 1, 3] (by rfl) (by decide)
                    have hS15 : St (fun _ => False) (fun _ => False) w0 w8 [grR (ptr b4 0) (gnodes words), accR encH 22 1 v2 ((hsl ++ [(SH.mk ad1 x0.1.length cp1)])), slR encH [((.slice (some ⟨b9, 0, none⟩) 1 1), [(SH.mk ad1 x0.1.length cp1)])], boxR [hlR encS hsl ((names (graphB words)).take i), accR encS 9 1 ((.slice ad1 x0.1.length cp1)) x0.1]] := St.close (L1 := [grR (ptr b4 0) (gnodes words), accR encH 22 1 v2 ((hsl ++ [(SH.mk ad1 x0.1.length cp1)])), slR encH [((.slice (some ⟨b9, 0, none⟩) 1 1), [(SH.mk ad1 x0.1.length cp1)])]]) hS14
                    have hS16 : St (fun _ => False) (fun _ => False) w0 w8 [grR (ptr b4 0) (gnodes words), accR encH 22 1 v2 ((hsl ++ [(SH.mk ad1 x0.1.length cp1)])), slR encH [((.slice (some ⟨b9, 0, none⟩) 1 1), [(SH.mk ad1 x0.1.length cp1)])], hlR encS (hsl ++ [(SH.mk ad1 x0.1.length cp1)]) ((names (graphB words)).take i ++ [x0.1])] := hS15.imp (i := 3) rfl (fun F_ h_ => hl_push rfl h_)
                    have hS17 : St (fun _ => False) (fun _ => False) w0 w8 [grR (ptr b4 0) (gnodes words), accR encH 22 1 v2 ((hsl ++ [(SH.mk ad1 x0.1.length cp1)])), slR encH [((.slice (some ⟨b9, 0, none⟩) 1 1), [(SH.mk ad1 x0.1.length cp1)])], hlR encS (hsl ++ [(SH.mk ad1 x0.1.length cp1)]) ((names (graphB words)).take (i + 1))] := hS16.imp (i := 3) rfl (fun F_ h_ => by rw [names_take hx0]; exact h_)
                    refine OL.nil ?_
                    refine r_inBlock ?_
                    refine r_region ?_
                    refine OL.q (Q1.move rfl) rfl rfl ?_
                    refine OL.q (Q1.addI (((i + 1 : Nat) : Int)) rfl rfl (by omega)) rfl rfl ?_
                    refine OL.q (Q1.assign rfl) rfl rfl ?_
                    refine OL.nil ?_
                    have hS18 : St (fun _ => False) (fun _ => False) w0 w8 [grR (ptr b4 0) (gnodes words), hlR encS (hsl ++ [(SH.mk ad1 x0.1.length cp1)]) ((names (graphB words)).take (i + 1)), accR encH 22 1 v2 ((hsl ++ [(SH.mk ad1 x0.1.length cp1)]))] := hS17.sel [0, 3, 1] (by rfl) (by decide)
                    exact (ih1 _ _ _ ⟨(v2 : Value), ((hsl ++ [(SH.mk ad1 x0.1.length cp1)]) : List SH), (i + 1 : Nat), rfl, rfl, hS18, (by first | omega | (exfalso; omega)), (by first | simp only [List.length_append, List.length_cons, List.length_nil]; omega | (exfalso; omega))⟩ (by omega)).sub ⟨rfl, rfl, rfl, rfl, rfl, trivial⟩
                  | false =>
                    replace hb6 := ne_of_beq_false hb6.symm
                    refine OL.sk rfl rfl ?_
                    refine OL.sk rfl rfl ?_
                    refine OL.sk rfl rfl ?_
                    refine OL.q (Q1.pick_f rfl rfl) rfl rfl ?_
                    refine OL.nil ?_
                    refine r_cond_f rfl ?_
                    refine r_skip ?_
                    refine r_region ?_
                    refine OL.q (Q1.move rfl) rfl rfl ?_
                    refine OL.q (Q1.move rfl) rfl rfl ?_
                    obtain ⟨ad1, cp1, hv2⟩ := f3.shape
                    subst hv2
                    refine OL.act rfl rfl (AW.buildSlice [(.slice ad1 x0.1.length cp1)] Try.underlying50 ti22 rfl rfl rfl (by decide) ?_)
                    intro w7 b8 hm5 hb7 hz1 hk1
                    have hS11 := hS10.ext hm5
                    have hl3 := Sl.of_blk (enc := encH) hk1 ([(SH.mk ad1 x0.1.length cp1)] : List SH) 1 rfl rfl (by unfold maxLen; omega)
                    have hS12 : St (fun _ => False) (fun _ => False) w0 w7 [grR (ptr b4 0) (gnodes words), hlR encS hsl ((names (graphB words)).take i), accR encH 22 1 v_hsl hsl, accR encS 9 1 ((.slice ad1 x0.1.length cp1)) x0.1, slR encH [((.slice (some ⟨b8, 0, none⟩) 1 1), [(SH.mk ad1 x0.1.length cp1)])]] := hS10.newSlB hm5 hb7 hz1 hl3
                    obtain ⟨g4, f4, hl4, k3⟩ := hS12.accK (i := 2) rfl
                    have f5 := hS12.sl (i := 4) (k := 0) rfl rfl
                    refine OL.act rfl rfl (AW.append f4 Try.underlying50 ti22 rfl encH_len encH_one rfl rfl (f5) (by first | omega | (simp only [List.length_append, List.length_cons, List.length_nil]; omega) | (simp; omega)) (by unfold maxLen; first | omega | (simp only [List.length_append, List.length_cons, List.length_nil]; omega) | (simp; omega)) ?_)
                    intro v2 g3 w8 ha2 hm6 hg2 hz2
                    have hS13 : St (fun _ => False) (fun _ => False) w0 w8 [grR (ptr b4 0) (gnodes words), hlR encS hsl ((names (graphB words)).take i), accR encH 22 1 v2 ((hsl ++ [(SH.mk ad1 x0.1.length cp1)])), accR encS 9 1 ((.slice ad1 x0.1.length cp1)) x0.1, slR encH [((.slice (some ⟨b8, 0, none⟩) 1 1), [(SH.mk ad1 x0.1.length cp1)])]] := k3 _ _ _ _ hm6 ha2 hg2
                    clear hg2
                    refine OL.q (Q1.assign rfl) rfl rfl ?_
                    have hhl := hS13.hlLen (i := 1) rfl
                    have hS14 : St (fun _ => False) (fun _ => False) w0 w8 [grR (ptr b4 0) (gnodes words), accR encH 22 1 v2 ((hsl ++ [(SH.mk ad1 x0.1.length cp1)])), slR encH [((.slice (some ⟨b8, 0, none⟩) 1 1), [(SH.mk ad1 x0.1.length cp1)])], hlR encS hsl ((names (graphB words)).take i), accR encS 9 1 ((.slice ad1 x0.1.length cp1)) x0.1] := hS13.sel [0, 2, 4, 1, 3] (by rfl) (by decide)
                    have hS15 : St (fun _ => False) (fun _ => False) w0 w8 [grR (ptr b4 0) (gnodes words), accR encH 22 1 v2 ((hsl ++ [(SH.mk ad1 x0.1.length cp1)])), slR encH [((.slice (some ⟨b8, 0, none⟩) 1 1), [(SH.mk ad1 x0.1.length cp1)])], boxR [hlR encS hsl ((names (graphB words)).take i), accR encS 9 1 ((.slice ad1 x0.1.length cp1)) x0.1]] := St.close (L1 := [grR (ptr b4 0) (gnodes words), accR encH 22 1 v2 ((hsl ++ [(SH.mk ad1 x0.1.length cp1)])), slR encH [((.slice (some ⟨b8, 0, none⟩) 1 1), [(SH.mk ad1 x0.1.length cp1)])]]) hS14
                    have hS16 : St (fun _ => False) (fun _ => False) w0 w8 [grR (ptr b4 0) (gnodes words), accR encH 22 1 v2 ((hsl ++ [(SH.mk ad1 x0.1.length cp1)])), slR encH [((.slice (some ⟨b8, 0, none⟩) 1 1), [(SH.mk ad1 x0.1.length cp1)])], hlR encS (hsl ++ [(SH.mk ad1 x0.1.length cp1)]) ((names (graphB words)).take i ++ [x0.1])] := hS15.imp (i := 3) rfl (fun F_ h_ => hl_push rfl h_)
                    have hS17 : St (fun _ => False) (fun _ => False) w0 w8 [grR (ptr b4 0) (gnodes words), accR encH 22 1 v2 ((hsl ++ [(SH.mk ad1 x0.1.length cp1)])), slR encH [((.slice (some ⟨b8, 0, none⟩) 1 1), [(SH.mk ad1 x0.1.length cp1)])], hlR encS (hsl ++ [(SH.mk ad1 x0.1.length cp1)]) ((names (graphB words)).take (i + 1))] := hS16.imp (i := 3) rfl (fun F_ h_ => by rw [names_take hx0]; exact h_)
                    refine OL.nil ?_
                    refine r_inBlock ?_
                    refine r_region ?_
                    refine OL.q (Q1.move rfl) rfl rfl ?_
                    refine OL.q (Q1.addI (((i + 1 : Nat) : Int)) rfl rfl (by omega)) rfl rfl ?_
                    refine OL.q (Q1.assign rfl) rfl rfl ?_
                    refine OL.nil ?_
                    have hS18 : St (fun _ => False) (fun _ => False) w0 w8 [grR (ptr b4 0) (gnodes words), hlR encS (hsl ++ [(SH.mk ad1 x0.1.length cp1)]) ((names (graphB words)).take (i + 1)), accR encH 22 1 v2 ((hsl ++ [(SH.mk ad1 x0.1.length cp1)]))] := hS17.sel [0, 3, 1] (by rfl) (by decide)
                    exact (ih1 _ _ _ ⟨(v2 : Value), ((hsl ++ [(SH.mk ad1 x0.1.length cp1)]) : List SH), (i + 1 : Nat), rfl, rfl, hS18, (by first | omega | (exfalso; omega)), (by first | simp only [List.length_append, List.length_cons, List.length_nil]; omega | (exfalso; omega))⟩ (by omega)).sub ⟨rfl, rfl, rfl, rfl, rfl, trivial⟩
            | false =>
              replace hb4 := of_decide_eq_false hb4.symm
              refine r_cond_f rfl ?_
              refine r_exit rfl ?_
              refine r_seq ?_
              refine r_region ?_
              refine OL.q (Q1.move rfl) rfl rfl ?_
              refine OL.qb (Q1.ge rfl rfl) rfl rfl ?_
              intro b6 hb5
              obtain rfl : b6 = true := hb5.trans (by exact decide_eq_true (by omega))
              refine OL.q (Q1.move rfl) rfl rfl ?_
              refine OL.q (Q1.move rfl) rfl rfl ?_
              obtain ⟨g1, f2, hl1, k1⟩ := hS6.accK (i := 2) rfl
              obtain ⟨x1, b7, o1, hx1, hr1, hl2, hw1⟩ := Sl.atF (P := Try.prog) f2.sl Try.underlying50 ti22 encH_len (k := .i64) (n := 0) (0) (by omega) (by first | assumption | omega)
              refine OL.q (Q1.indexAddr rfl rfl hr1) rfl rfl ?_
              refine OL.q (Q1.load1 ti22 rfl (fun _ e => e ▸ hw1)) rfl rfl ?_
              obtain ⟨ly1, hly1, hn1⟩ := hS6.hlAt (i := 1) rfl hx1
              have := hn1.le
              refine OL.q (Q1.move rfl) rfl rfl ?_
              have f4 := hS6.out h_words (fun _ _ h => h)
              refine OL.act rfl rfl (AW.callF cl28 rfl (sameT_c (w0 := w4) (a := ly1) (b := words)  hn1 (f4.iv (Nat.zero_le _) hS6.mod.size)) ?_)
              rintro _ w5 ⟨⟨b8, hb6, rfl⟩, hm4⟩
              have hS8 := hS6.ext hm4
              obtain rfl : b8 = true := hb6.trans (by exact decide_eq_true (least_root hg0 hly1 (by omega)))
              refine OL.q (Q1.pick_t rfl rfl) rfl rfl ?_
              refine OL.q (Q1.move rfl) rfl rfl ?_
              refine OL.act rfl rfl (AW.callF cl12 rfl (awake8_c (w0 := w5)   ) ?_)
              rintro _ w6 ⟨⟨_, rfl, rfl⟩, hm5⟩
              have hS9 := hS8.ext hm5
              refine OL.q (Q1.pick_t rfl rfl) rfl rfl ?_
              refine OL.q (Q1.assign rfl) rfl rfl ?_
              refine OL.nil ?_
              refine r_ret1 Try.func5 rfl rfl ?_
              exact Ret.mk ⟨⟨_, (by rfl), rfl⟩, hS9.mod⟩
end Go.Proofs
