/-
  The walk through the builder of graphs.
-/
import Derived.Test.YtjhbobjjkbppkaaWGraph
import Derived.Test.YtjhbobjjkbppkaaWJoin
set_option linter.unusedVariables false
set_option linter.unusedSimpArgs false
namespace Go.Proofs
open Go.Ik Go.Ml
set_option maxRecDepth 20000 in
set_option maxHeartbeats 8000000 in
theorem node_c : ∀ (f : Nat) {w0 : World} {F G : Nat → Prop} {bB : Nat} {v_r : Value} {rests : List Str} {nds : List RNode} {s : GS} (hB : (bldR 69 66 72 bB s nds).p F w0) (hF : ∀ b, F b → b < w0.heap.size) (hr : Sl encS w0 G v_r rests) (hG : ∀ b, G b → ¬ F b) (hGl : ∀ b, G b → b < w0.heap.size) (hlen : nds.length = s.length) (hd : Deep f rests) (hg : GoodR rests) (hne : rests ≠ []) (hnd : (names s).Nodup) (hnok : NamesOk s) (hsz : s.length + 1 + sumLen rests ≤ 1000000) (hrl : rests.length ≤ 1000),
    Calls Try.prog 34 #[ptr bB 0, v_r] w0 (Ret fun rv w1 => rv = .int .i64 ((addM (f + 1) s rests).2 : Int) ∧ Mod F w0 w1 ∧ ∃ t xs, (addM (f + 1) s rests).1 = s ++ xs ∧ ∃ F2, (boxR [bldR 69 66 72 bB (s ++ xs) (nds ++ t), nrR t xs]).p F2 w1 ∧ ∀ b, F2 b → b < w1.heap.size ∧ (F b ∨ w0.heap.size ≤ b)) := by
  intro f
  induction f using Nat.strongRecOn with
  | _ f ih0 =>
  intro w0 F G bB v_r rests nds s hB hF hr hG hGl hlen hd hg hne hnd hnok hsz hrl
  have hS00 := St.start1 hB (fun b hb => ⟨hF b hb, id⟩) (fun _ h => h.elim)
  have hpos := List.length_pos_iff.2 hne
  have hle1 := hr.le
  have hdr := dropE_good hg
  have hsd := sumLen_dropE rests
  have hdl := dropE_len rests
  obtain ⟨⟨bG1, bM1, vN1⟩, hS1⟩ := hS00.exo (i := 0) rfl
  change St (fun _ => False) F w0 w0 [boxR [bkR bB [ptr bG1 0, .map (some bM1)] 69, bkR bG1 [vN1] 66, mapR strV intV bM1 (mapK s), accR encN 72 2 vN1 nds]] at hS1
  have hS2 : St (fun _ => False) F w0 w0 [bkR bB [ptr bG1 0, .map (some bM1)] 69, bkR bG1 [vN1] 66, mapR strV intV bM1 ((mapK s)), accR encN 72 2 vN1 nds] := St.open (L1 := []) hS1
  refine calls_enter Try.func34 rfl Try.ntmps34 rfl ?_
  refine r_seq ?_
  refine r_region ?_
  refine OL.q (Q1.assign rfl) rfl rfl ?_
  refine OL.nil ?_
  refine r_seq ?_
  refine r_region ?_
  refine OL.q (Q1.move rfl) rfl rfl ?_
  refine OL.act rfl rfl (AW.callF cl50 rfl (join_own Try.joinL joinX (w0 := w0) hr hne hGl (by omega)) ?_)
  rintro _ w1 ⟨rfl, hm1⟩
  have hS3 := hS2.ext hm1
  refine OL.q (Q1.assign rfl) rfl rfl ?_
  refine OL.nil ?_
  refine r_seq ?_
  refine r_seq ?_
  refine r_region ?_
  refine OL.q (Q1.move rfl) rfl rfl ?_
  refine OL.q (Q1.nilCheckP rfl) rfl rfl ?_
  refine OL.q (Q1.fieldAddr fl69_1 rfl) rfl rfl ?_
  have f1 := hS3.bk (i := 0) rfl
  refine OL.q (Q1.load1 ti67 rfl (fun _ e => e ▸ (f1.cell 1 _ rfl))) rfl rfl ?_
  refine OL.q (Q1.move rfl) rfl rfl ?_
  have f2 := hS3.map (i := 2) rfl
  cases hfi : s.findIdx? (fun x => x.1 == rests) with
  | none =>
    have hasc : asc (mapK s) (joinS rests) = none := by rw [asc_mapK hg.noff hne s hnok, hfi]; rfl
    refine OL.q (Q1.lookupMiss (key := strV) (val := intV) (keyOk_str Try.underlying9) Try.underlying67 Try.zeroValue3 rfl rfl (fun _ e => e ▸ f2) hasc) rfl rfl ?_
    refine OL.q (Q1.move rfl) rfl rfl ?_
    refine OL.q (Q1.extract rfl rfl) rfl rfl ?_
    refine OL.q (Q1.extract rfl rfl) rfl rfl ?_
    refine OL.q (Q1.assign rfl) rfl rfl ?_
    refine OL.q (Q1.assign rfl) rfl rfl ?_
    refine OL.nil ?_
    refine r_seq ?_
    refine r_region ?_
    refine OL.q (Q1.move rfl) rfl rfl ?_
    refine OL.nil ?_
    refine r_cond_f rfl ?_
    refine r_skip ?_
    refine r_seq ?_
    refine r_region ?_
    refine OL.q (Q1.move rfl) rfl rfl ?_
    refine OL.q (Q1.nilCheckP rfl) rfl rfl ?_
    refine OL.q (Q1.fieldAddr fl69_0 rfl) rfl rfl ?_
    refine OL.q (Q1.load1 ti27 rfl (fun _ e => e ▸ (f1.cell 0 _ rfl))) rfl rfl ?_
    refine OL.q (Q1.nilCheckP rfl) rfl rfl ?_
    refine OL.q (Q1.fieldAddr fl66_0 rfl) rfl rfl ?_
    have f3 := hS3.bk (i := 1) rfl
    refine OL.q (Q1.load1 ti64 rfl (fun _ e => e ▸ (f3.cell 0 _ rfl))) rfl rfl ?_
    obtain ⟨g1, f4, hl1, k1⟩ := hS3.accK (i := 3) rfl
    refine OL.q (Q1.lenSl Try.underlying64 (f4.sl) rfl) rfl rfl ?_
    refine OL.q (Q1.assign rfl) rfl rfl ?_
    refine OL.nil ?_
    refine r_seq ?_
    refine r_region ?_
    refine OL.q (Q1.move rfl) rfl rfl ?_
    refine OL.q (Q1.nilCheckP rfl) rfl rfl ?_
    refine OL.q (Q1.fieldAddr fl69_1 rfl) rfl rfl ?_
    refine OL.q (Q1.load1 ti67 rfl (fun _ e => e ▸ (f1.cell 1 _ rfl))) rfl rfl ?_
    refine OL.q (Q1.move rfl) rfl rfl ?_
    refine OL.q (Q1.move rfl) rfl rfl ?_
    refine OL.act rfl rfl (AW.mapNew (key := strV) (val := intV) (u := ((nds.length : Nat) : Int)) (keyOk_str Try.underlying9) Try.underlying67 rfl rfl rfl f2 hasc ?_)
    intro w2 hm2 hz1 hk1
    replace hk1 : MapO strV intV w2 bM1 (mapK (s ++ [(rests, [])])) := mapO_cast hk1 (by rw [mapK_snoc, hlen])
    have hS4 : St (fun _ => False) F w0 w2 [bkR bB [ptr bG1 0, .map (some bM1)] 69, bkR bG1 [vN1] 66, mapR strV intV bM1 ((mapK (s ++ [(rests, [])]))), accR encN 72 2 vN1 nds] := hS3.mapK (i := 2) rfl hm2 hk1
    refine OL.nil ?_
    refine r_seq ?_
    obtain ⟨g2, f5, hl2, k2⟩ := hS4.accK (i := 3) rfl
    refine r_draw1 (fun i => Nat.beq i 12 || Nat.beq i 13 || Nat.beq i 16) 16 (fun w' => Mod (Mg g2) w2 w') mixed (by kernel_rfl) ?_
    intro w3 hm3
    have hS5 := hS4.ext hm3
    have hCw3 : Mod (Mg g2) w2 w3 := Mod.ofExt hm3
    refine ⟨hCw3, ?_⟩
    rw [show List.range' 0 (Array.size _) = [0, 1, 2, 3, 4, 5, 6, 7, 8, 9, 10, 11, 12, 13, 14, 15, 16] from rfl]
    refine OD.q rfl rfl (Q1.move rfl) rfl rfl ?_
    refine OD.q rfl rfl (Q1.nilCheckP rfl) rfl rfl ?_
    refine OD.q rfl rfl (Q1.fieldAddr fl69_0 rfl) rfl rfl ?_
    have f6 := hS4.bk (i := 0) rfl
    refine OD.q rfl rfl (Q1.load1 ti27 rfl (fun _ hc => (f6.cell 0 _ rfl).keepG hc (hS4.ne (i := 3) (j := 0) rfl rfl (by decide) f5))) rfl rfl ?_
    refine OD.q rfl rfl (Q1.move rfl) rfl rfl ?_
    refine OD.q rfl rfl (Q1.nilCheckP rfl) rfl rfl ?_
    refine OD.q rfl rfl (Q1.fieldAddr fl69_0 rfl) rfl rfl ?_
    refine OD.q rfl rfl (Q1.load1 ti27 rfl (fun _ hc => (f6.cell 0 _ rfl).keepG hc (hS4.ne (i := 3) (j := 0) rfl rfl (by decide) f5))) rfl rfl ?_
    refine OD.q rfl rfl (Q1.nilCheckP rfl) rfl rfl ?_
    refine OD.q rfl rfl (Q1.fieldAddr fl66_0 rfl) rfl rfl ?_
    have f7 := hS4.bk (i := 1) rfl
    refine OD.q rfl rfl (Q1.load1 ti64 rfl (fun _ hc => (f7.cell 0 _ rfl).keepG hc (hS4.ne (i := 3) (j := 1) rfl rfl (by decide) f5))) rfl rfl ?_
    refine OD.q rfl rfl (Q1.build (vs := #[]) (v := .agg #[.bool false, .slice none 0 0]) rfl (fun _ => by kernel_rfl)) rfl rfl ?_
    refine OD.act rfl rfl rfl rfl (AW.buildSlice [(.agg #[.bool false, .slice none 0 0] : Value)] Try.underlying64 ti72 rfl rfl rfl (by decide) ?_)
    intro w4 b1 hm4 hb1 hz2 hk2
    have hS6 := hS5.ext hm4
    have hl3 := Sl.of_blk (enc := encN) hk2 ([(RNode.mk false (SH.mk none 0 0))] : List RNode) 1 rfl rfl (by unfold maxLen; omega)
    have hS7 : St (fun _ => False) F w0 w4 [bkR bB [ptr bG1 0, .map (some bM1)] 69, bkR bG1 [vN1] 66, mapR strV intV bM1 ((mapK (s ++ [(rests, [])]))), accR encN 72 2 vN1 nds, slR encN [((.slice (some ⟨b1, 0, none⟩) 1 1), [(RNode.mk false (SH.mk none 0 0))])]] := hS5.newSlB hm4 hb1 hz2 hl3
    have hCw4 := hCw3.ext hm4
    refine ⟨.inr hCw4, ?_⟩
    obtain ⟨g4, f8, hl4, k3⟩ := hS7.accK (i := 3) rfl
    have he1 := Acc.uniq f5 f8
    subst he1
    have f9 := hS7.sl (i := 4) (k := 0) rfl rfl
    refine OD.act rfl rfl rfl rfl (AW.append f8 Try.underlying64 ti72 rfl encN_len encN_one rfl rfl (f9) (by first | omega | (simp only [List.length_append, List.length_cons, List.length_nil]; omega) | (simp; omega)) (by unfold maxLen; first | omega | (simp only [List.length_append, List.length_cons, List.length_nil]; omega) | (simp; omega)) ?_)
    intro v1 g3 w5 ha1 hm5 hg1 hz3
    have hS8 : St (fun _ => False) F w0 w5 [bkR bB [ptr bG1 0, .map (some bM1)] 69, bkR bG1 [vN1] 66, mapR strV intV bM1 ((mapK (s ++ [(rests, [])]))), accR encN 72 2 v1 ((nds ++ [(RNode.mk false (SH.mk none 0 0))])), slR encN [((.slice (some ⟨b1, 0, none⟩) 1 1), [(RNode.mk false (SH.mk none 0 0))])]] := k3 _ _ _ _ hm5 ha1 hg1
    have hCw5 := hCw4.trans hm5
    refine ⟨.inr hCw5, ?_⟩
    clear hg1
    refine OD.q rfl rfl (Q1.nilCheckP rfl) rfl rfl ?_
    refine OD.q rfl rfl (Q1.fieldAddr fl66_0 rfl) rfl rfl ?_
    obtain ⟨g5, f10, hl5, k4⟩ := hS8.accK (i := 3) rfl
    obtain ⟨ad1, cp1, hv1⟩ := f10.shape
    subst hv1
    have f11 := hS8.bk (i := 1) rfl
    refine OD.act rfl rfl rfl rfl (AW.store ti64 rfl rfl rfl rfl rfl f11 (Nat.le_of_ble_eq_true rfl) ?_)
    intro w6 hm6 hz4 hk3
    have hS9 : St (fun _ => False) F w0 w6 [bkR bB [ptr bG1 0, .map (some bM1)] 69, bkR bG1 [(.slice ad1 ((nds ++ [(RNode.mk false (SH.mk none 0 0))])).length cp1)] 66, mapR strV intV bM1 ((mapK (s ++ [(rests, [])]))), accR encN 72 2 ((.slice ad1 ((nds ++ [(RNode.mk false (SH.mk none 0 0))])).length cp1)) ((nds ++ [(RNode.mk false (SH.mk none 0 0))])), slR encN [((.slice (some ⟨b1, 0, none⟩) 1 1), [(RNode.mk false (SH.mk none 0 0))])]] := hS8.bkK (i := 1) rfl hm6 hk3
    refine ⟨.inl rfl, ?_⟩
    refine OD.nil ?_
    refine r_seq ?_
    refine r_region ?_
    refine OL.q (Q1.move rfl) rfl rfl ?_
    have f12 := hS9.out hr hG
    refine OL.q (Q1.lenSl Try.underlying22 (f12) rfl) rfl rfl ?_
    refine OL.qb (Q1.gt rfl rfl) rfl rfl ?_
    intro b2 hb2
    obtain rfl : b2 = true := hb2.trans (by exact decide_eq_true (by have := List.length_pos_iff.2 hne; omega))
    refine OL.q (Q1.move rfl) rfl rfl ?_
    refine OL.q (Q1.move rfl) rfl rfl ?_
    obtain ⟨x1, b3, o1, hx1, hr1, hl6, hw1⟩ := Sl.atF (P := Try.prog) f12 Try.underlying22 ti9 encS_len (k := .i64) (n := 0) (0) (by omega) (by first | assumption | omega)
    refine OL.q (Q1.indexAddr rfl rfl hr1) rfl rfl ?_
    refine OL.q (Q1.load1 ti9 rfl (fun _ e => e ▸ hw1)) rfl rfl ?_
    refine OL.qb (Q1.eqS rfl rfl) rfl rfl ?_
    intro b4 hb3
    refine OL.q (Q1.pick_t rfl rfl) rfl rfl ?_
    refine OL.q (Q1.assign rfl) rfl rfl ?_
    refine OL.nil ?_
    refine r_seq ?_
    refine r_seq ?_
    refine r_region ?_
    refine OL.q (Q1.move rfl) rfl rfl ?_
    refine OL.nil ?_
    cases b4 with
    | true =>
      replace hb3 := eq_of_beq hb3.symm
      refine r_cond_t rfl ?_
      refine r_region ?_
      refine OL.q (Q1.move rfl) rfl rfl ?_
      obtain ⟨v2, hr2, hl7⟩ := Sl.part (P := Try.prog) hr Try.underlying22 ti9 encS_len (1) (rests.length) (.inr ⟨.i64, 1, rfl, by omega⟩) (.inl ⟨rfl, rfl⟩) (by omega) (by first | assumption | omega)
      replace hl7 : Sl encS w0 G v2 (rests.drop 1) := by simpa using hl7
      refine OL.q (Q1.sliceV rfl rfl rfl rfl hr2) rfl rfl ?_
      refine OL.q (Q1.assign rfl) rfl rfl ?_
      refine OL.nil ?_
      refine r_seq ?_
      refine r_region ?_
      refine OL.q (Q1.assign rfl) rfl rfl ?_
      have hdre := dropE_nil hx1 (by assumption)
      have hS10 : St (fun _ => False) F w0 w6 [slR encN [((.slice (some ⟨b1, 0, none⟩) 1 1), [(RNode.mk false (SH.mk none 0 0))])], bkR bB [ptr bG1 0, .map (some bM1)] 69, bkR bG1 [(.slice ad1 ((nds ++ [(RNode.mk false (SH.mk none 0 0))])).length cp1)] 66, mapR strV intV bM1 ((mapK (s ++ [(rests, [])]))), accR encN 72 2 ((.slice ad1 ((nds ++ [(RNode.mk false (SH.mk none 0 0))])).length cp1)) ((nds ++ [(RNode.mk false (SH.mk none 0 0))]))] := hS9.sel [4, 0, 1, 2, 3] (by rfl) (by decide)
      have hS11 : St (fun _ => False) F w0 w6 [slR encN [((.slice (some ⟨b1, 0, none⟩) 1 1), [(RNode.mk false (SH.mk none 0 0))])], boxR [bkR bB [ptr bG1 0, .map (some bM1)] 69, bkR bG1 [(.slice ad1 ((nds ++ [(RNode.mk false (SH.mk none 0 0))])).length cp1)] 66, mapR strV intV bM1 ((mapK (s ++ [(rests, [])]))), accR encN 72 2 ((.slice ad1 ((nds ++ [(RNode.mk false (SH.mk none 0 0))])).length cp1)) ((nds ++ [(RNode.mk false (SH.mk none 0 0))]))]] := St.close (L1 := [slR encN [((.slice (some ⟨b1, 0, none⟩) 1 1), [(RNode.mk false (SH.mk none 0 0))])]]) hS10
      have hS12 : St (fun _ => False) F w0 w6 [slR encN [((.slice (some ⟨b1, 0, none⟩) 1 1), [(RNode.mk false (SH.mk none 0 0))])], bldR 69 66 72 bB (s ++ (rests, []) :: []) (nds ++ RNode.mk false (SH.mk none 0 0) :: [])] := hS11.exi (bG1, bM1, (.slice ad1 ((nds ++ [(RNode.mk false (SH.mk none 0 0))])).length cp1)) (i := 1) rfl
      have hS13 : St (fun _ => False) F w0 w6 [slR encN [((.slice (some ⟨b1, 0, none⟩) 1 1), [(RNode.mk false (SH.mk none 0 0))])], bldR 69 66 72 bB (s ++ (rests, []) :: []) (nds ++ RNode.mk false (SH.mk none 0 0) :: []), nrR [] []] := hS12.new (Mod.refl _ _) (F := fun _ => False) (All2.nil : NR _ _ [] []) (fun _ h => h.elim)
      refine OL.nil ?_
      refine r_seq ?_
      refine r_block ?_
      have hS15 : St (fun _ => False) F w0 w6 [slR encN [((.slice (some ⟨b1, 0, none⟩) 1 1), [(RNode.mk false (SH.mk none 0 0))])], bldR 69 66 72 bB (s ++ (rests, []) :: []) (nds ++ RNode.mk false (SH.mk none 0 0) :: []), nrR [] [], accR encE 91 2 (.slice none 0 0) []] := hS13.newAcc (Mod.refl _ _) Acc.nil (.inl rfl)
      have hS16 : St (fun _ => False) F w0 w6 [bldR 69 66 72 bB (s ++ (rests, []) :: []) (nds ++ RNode.mk false (SH.mk none 0 0) :: []), nrR [] [], accR encE 91 2 (.slice none 0 0) []] := hS15.sel [1, 2, 3] (by rfl) (by decide)
      refine r_loop (I := fun m E W => ∃ (v_r1 : Value) (r1 : List Str) (v_ES : Value) (ES : List Ed) (xs : GS) (tc : List RNode), E = [(0, ptr bB 0), (1, v_r1), (8, .int .i64 (((nds.length : Nat) : Int))), (9, .bool true), (10, v_ES)] ∧ m = r1.length ∧ St (fun _ => False) F w0 W [bldR 69 66 72 bB (s ++ (rests, []) :: xs) (nds ++ RNode.mk false (SH.mk none 0 0) :: tc), nrR tc xs, accR encE 91 2 v_ES ES] ∧ Sl encS w0 G v_r1 r1 ∧ (EInv f (s ++ [(rests, [])]) (groups (dropE rests)) (s ++ (rests, []) :: xs) ES r1) ∧ (GoodR r1 ∧ (∀ t ∈ r1, t ≠ []) ∧ Deep f r1) ∧ (NamesOk (s ++ (rests, []) :: xs) ∧ (names (s ++ (rests, []) :: xs)).Nodup) ∧ (s.length + 1 + xs.length + sumLen r1 ≤ 1000000) ∧ (ES.length + r1.length ≤ 1000) ∧ (tc.length = xs.length)) ?_ ?_
      · refine ⟨_, _, ⟨(v2 : Value), ((rests.drop 1) : List Str), (.slice none 0 0 : Value), ([] : List Ed), ([] : GS), ([] : List RNode), rfl, rfl, hS16, hl7, (by first | (rw [hdre.1]; exact EInv.start f _ _)), (by rw [← hdre.1]; exact ⟨hdr.1, hdr.2, fun t ht => hd t (dropE_mem ht)⟩), (by exact names_put hfi hnd hnok hne hg.noff), (by rw [← hdre.1]; simp only [List.length_nil]; omega), (by rw [← hdre.1]; simp only [List.length_nil]; omega), (by rfl)⟩, ⟨rfl, rfl, rfl, rfl, rfl, trivial⟩⟩
      · rintro _ _ w7 ⟨v_r1, r1, v_ES, ES, xs, tc, rfl, rfl, hS14, ha2, hEI, hr1, hnd1, hs1, hel, htc⟩ ih1
        refine r_seq ?_
        refine r_seq ?_
        refine r_region ?_
        refine OL.q (Q1.move rfl) rfl rfl ?_
        have f13 := hS14.out ha2 hG
        refine OL.q (Q1.lenSl Try.underlying22 (f13) rfl) rfl rfl ?_
        refine OL.qb (Q1.gt rfl rfl) rfl rfl ?_
        intro b5 hb4
        refine OL.nil ?_
        cases b5 with
        | true =>
          replace hb4 := of_decide_eq_true hb4.symm
          refine r_cond_t rfl ?_
          refine r_skip ?_
          refine r_block ?_
          refine r_seq ?_
          refine r_region ?_
          refine OL.q (Q1.move rfl) rfl rfl ?_
          obtain ⟨x2, b6, o2, hx2, hr3, hl8, hw2⟩ := Sl.atF (P := Try.prog) f13 Try.underlying22 ti9 encS_len (k := .i64) (n := 0) (0) (by omega) (by first | assumption | omega)
          refine OL.q (Q1.indexAddr rfl rfl hr3) rfl rfl ?_
          refine OL.q (Q1.load1 ti9 rfl (fun _ e => e ▸ hw2)) rfl rfl ?_
          have hxm := List.mem_of_getElem? hx2
          have hxg := hr1.1.fine x2 hxm
          have hxn : x2 ≠ [] := hr1.2.1 x2 hxm
          obtain ⟨f2, rfl⟩ := deep_succ hr1.2.2 hxm hxn
          have hwl := pfx_len hxn
          have hwd := wdN_le x2 hxn
          have hxl := sum_mem hxm
          have hdn := hdN_le x2
          refine OL.act rfl rfl (AW.callF cl51 rfl (first_c (w0 := w7)  x2 (by first | assumption | omega | (simp; done)) (by assumption)) ?_)
          rintro _ w8 ⟨_, _, rfl, rfl, rfl, hm7⟩
          have hS17 := hS14.ext hm7
          have := Ml.wdN_le x2
          have := Ml.hdN_le x2
          refine OL.q (Q1.move rfl) rfl rfl ?_
          refine OL.q (Q1.extract rfl rfl) rfl rfl ?_
          refine OL.q (Q1.extract rfl rfl) rfl rfl ?_
          refine OL.q (Q1.assign rfl) rfl rfl ?_
          refine OL.q (Q1.assign rfl) rfl rfl ?_
          refine OL.nil ?_
          refine r_seq ?_
          refine r_region ?_
          refine OL.q (Q1.assign rfl) rfl rfl ?_
          refine OL.nil ?_
          refine r_seq ?_
          refine r_region ?_
          refine OL.q (Q1.assign rfl) rfl rfl ?_
          refine OL.nil ?_
          refine r_seq ?_
          refine r_block ?_
          have hS19 : St (fun _ => False) F w0 w8 [bldR 69 66 72 bB (s ++ (rests, []) :: xs) (nds ++ RNode.mk false (SH.mk none 0 0) :: tc), nrR tc xs, accR encE 91 2 v_ES ES, accR encS 9 1 (.slice none 0 0) []] := hS17.newAcc (Mod.refl _ _) Acc.nil (.inl rfl)
          refine r_loop (I := fun m E W => ∃ (k : Nat) (v_b2 : Value) (b2 : List Str), E = [(0, ptr bB 0), (1, v_r1), (8, .int .i64 (((nds.length : Nat) : Int))), (9, .bool true), (10, v_ES), (11, .int .i32 (((Ml.hdN x2 : Int)))), (12, .int .i64 ((((Ml.wdN x2 : Nat) : Int)))), (13, .int .i64 (((k : Nat) : Int))), (14, v_b2)] ∧ m = r1.length - k ∧ St (fun _ => False) F w0 W [bldR 69 66 72 bB (s ++ (rests, []) :: xs) (nds ++ RNode.mk false (SH.mk none 0 0) :: tc), nrR tc xs, accR encE 91 2 v_ES ES, accR encS 9 1 v_b2 b2] ∧ (SpanInv (pfx x2) r1 k b2) ∧ (b2.length ≤ k) ∧ (k ≤ r1.length)) ?_ ?_
          · refine ⟨_, _, ⟨(0 : Nat), (.slice none 0 0 : Value), ([] : List Str), rfl, rfl, hS19, (by exact SpanInv.start _ _), (by exact Nat.zero_le _), (by omega)⟩, ⟨rfl, rfl, rfl, rfl, rfl, rfl, rfl, rfl, rfl, trivial⟩⟩
          · rintro _ _ w9 ⟨k, v_b2, b2, rfl, rfl, hS18, hsp, hbl, hkl⟩ ih2
            refine r_seq ?_
            refine r_seq ?_
            refine r_draw1 (fun i => Nat.beq i 14) 16 (fun w' => Mod (Mg 0) w9 w') mixed (by kernel_rfl) ?_
            intro w10 hm8
            have hS20 := hS18.ext hm8
            have hCw10 : Mod (Mg 0) w9 w10 := Mod.ofExt hm8
            refine ⟨hCw10, ?_⟩
            rw [show List.range' 0 (Array.size _) = [0, 1, 2, 3, 4, 5, 6, 7, 8, 9, 10, 11, 12, 13, 14, 15] from rfl]
            refine OD.q rfl rfl (Q1.move rfl) rfl rfl ?_
            refine OD.q rfl rfl (Q1.move rfl) rfl rfl ?_
            have f14 := hS18.out ha2 hG
            refine OD.q rfl rfl (Q1.lenSl Try.underlying22 (f14) rfl) rfl rfl ?_
            refine OD.qb rfl rfl (Q1.lt rfl rfl) rfl rfl ?_
            intro b7 hb5
            refine OD.q rfl rfl (Q1.move rfl) rfl rfl ?_
            cases b7 with
            | true =>
              replace hb5 := of_decide_eq_true hb5.symm
              refine OD.q rfl rfl (Q1.move rfl) rfl rfl ?_
              refine OD.q rfl rfl (Q1.move rfl) rfl rfl ?_
              obtain ⟨x3, b8, o3, hx3, hr4, hl9, hw3⟩ := Sl.atF (P := Try.prog) f14 Try.underlying22 ti9 encS_len (k := .i64) (n := ((k : Nat) : Int)) (k) (by omega) (by first | assumption | omega)
              refine OD.q rfl rfl (Q1.indexAddr rfl rfl hr4) rfl rfl ?_
              refine OD.q rfl rfl (Q1.load1 ti9 rfl (fun _ hc => hw3.keepG hc (Nat.succ_ne_zero _))) rfl rfl ?_
              have hx3l := sum_mem (List.mem_of_getElem? hx3)
              refine OD.q rfl rfl (Q1.move rfl) rfl rfl ?_
              obtain ⟨x4, b9, o4, hx4, hr5, hl10, hw4⟩ := Sl.atF (P := Try.prog) f14 Try.underlying22 ti9 encS_len (k := .i64) (n := 0) (0) (by omega) (by first | assumption | omega)
              obtain rfl : x2 = x4 := Option.some.inj (hx2.symm.trans hx4)
              refine OD.q rfl rfl (Q1.indexAddr rfl rfl hr5) rfl rfl ?_
              refine OD.q rfl rfl (Q1.load1 ti9 rfl (fun _ hc => hw4.keepG hc (Nat.succ_ne_zero _))) rfl rfl ?_
              refine OD.q rfl rfl (Q1.move rfl) rfl rfl ?_
              refine OD.q rfl rfl (Q1.sliceS_hi (Ml.wdN x2) Try.underlying9 rfl rfl (by omega) (by first | assumption | omega)) rfl rfl ?_
              refine OD.act rfl rfl rfl rfl (AW.callF cl52 rfl (shp_c (w0 := w10)  x3 ((x2.take (Ml.wdN x2))) ) ?_)
              rintro _ w11 ⟨⟨b10, hb6, rfl⟩, hm9⟩
              have hS21 := hS20.ext hm9
              have hCw11 := hCw10.ext hm9
              refine ⟨.inr hCw11, ?_⟩
              refine OD.q rfl rfl (Q1.pick_t rfl rfl) rfl rfl ?_
              refine OD.nil ?_
              cases b10 with
              | true =>
                replace hb6 := hb6.symm
                refine r_cond_t rfl ?_
                refine r_skip ?_
                refine r_block ?_
                refine r_seq ?_
                refine r_region ?_
                refine OL.q (Q1.move rfl) rfl rfl ?_
                refine OL.q (Q1.move rfl) rfl rfl ?_
                refine OL.q (Q1.move rfl) rfl rfl ?_
                have f15 := hS21.out ha2 hG
                obtain ⟨x5, b11, o5, hx5, hr6, hl11, hw5⟩ := Sl.atF (P := Try.prog) f15 Try.underlying22 ti9 encS_len (k := .i64) (n := ((k : Nat) : Int)) (k) (by omega) (by first | assumption | omega)
                obtain rfl : x3 = x5 := Option.some.inj (hx3.symm.trans hx5)
                refine OL.q (Q1.indexAddr rfl rfl hr6) rfl rfl ?_
                refine OL.q (Q1.load1 ti9 rfl (fun _ e => e ▸ hw5)) rfl rfl ?_
                have hpl : wdN x2 ≤ x3.length := hp_le (p := x2.take (wdN x2)) (by assumption) hwl
                refine OL.q (Q1.move rfl) rfl rfl ?_
                refine OL.q (Q1.sliceS_lo (Ml.wdN x2) Try.underlying9 rfl rfl (by omega) (by first | assumption | omega)) rfl rfl ?_
                refine OL.act rfl rfl (AW.buildSlice [strV ((x3.drop (Ml.wdN x2)))] Try.underlying22 ti9 rfl rfl rfl (by decide) ?_)
                intro w12 b12 hm10 hb7 hz5 hk4
                have hS22 := hS21.ext hm10
                have hl12 := Sl.of_blk (enc := encS) hk4 ([(x3.drop (Ml.wdN x2))] : List Str) 1 rfl rfl (by unfold maxLen; omega)
                have hS23 : St (fun _ => False) F w0 w12 [bldR 69 66 72 bB (s ++ (rests, []) :: xs) (nds ++ RNode.mk false (SH.mk none 0 0) :: tc), nrR tc xs, accR encE 91 2 v_ES ES, accR encS 9 1 v_b2 b2, slR encS [((.slice (some ⟨b12, 0, none⟩) 1 1), [(x3.drop (Ml.wdN x2))])]] := hS21.newSlB hm10 hb7 hz5 hl12
                obtain ⟨g7, f16, hl13, k5⟩ := hS23.accK (i := 3) rfl
                have f17 := hS23.sl (i := 4) (k := 0) rfl rfl
                refine OL.act rfl rfl (AW.append f16 Try.underlying22 ti9 rfl encS_len encS_one rfl rfl (f17) (by first | omega | (simp only [List.length_append, List.length_cons, List.length_nil]; omega) | (simp; omega)) (by unfold maxLen; first | omega | (simp only [List.length_append, List.length_cons, List.length_nil]; omega) | (simp; omega)) ?_)
                intro v3 g6 w13 ha3 hm11 hg2 hz6
                have hS24 : St (fun _ => False) F w0 w13 [bldR 69 66 72 bB (s ++ (rests, []) :: xs) (nds ++ RNode.mk false (SH.mk none 0 0) :: tc), nrR tc xs, accR encE 91 2 v_ES ES, accR encS 9 1 v3 ((b2 ++ [(x3.drop (Ml.wdN x2))])), slR encS [((.slice (some ⟨b12, 0, none⟩) 1 1), [(x3.drop (Ml.wdN x2))])]] := k5 _ _ _ _ hm11 ha3 hg2
                clear hg2
                refine OL.q (Q1.assign rfl) rfl rfl ?_
                refine OL.nil ?_
                refine r_region ?_
                refine OL.q (Q1.move rfl) rfl rfl ?_
                refine OL.q (Q1.addI (((k + 1 : Nat) : Int)) rfl rfl (by omega)) rfl rfl ?_
                refine OL.q (Q1.assign rfl) rfl rfl ?_
                refine OL.nil ?_
                refine r_inBlock ?_
                have hS25 : St (fun _ => False) F w0 w13 [bldR 69 66 72 bB (s ++ (rests, []) :: xs) (nds ++ RNode.mk false (SH.mk none 0 0) :: tc), nrR tc xs, accR encE 91 2 v_ES ES, accR encS 9 1 v3 ((b2 ++ [(x3.drop (Ml.wdN x2))]))] := hS24.sel [0, 1, 2, 3] (by rfl) (by decide)
                exact (ih2 _ _ _ ⟨(k + 1 : Nat), (v3 : Value), ((b2 ++ [(x3.drop (Ml.wdN x2))]) : List Str), rfl, rfl, hS25, (by first | exact hsp.nxt hwl hx3 (by assumption) | (exfalso; omega)), (by first | simp only [List.length_append, List.length_cons, List.length_nil]; omega | (exfalso; omega)), (by first | omega | (exfalso; omega))⟩ (by omega)).sub ⟨rfl, rfl, rfl, rfl, rfl, rfl, rfl, rfl, rfl, trivial⟩
              | false =>
                replace hb6 := hb6.symm
                refine r_cond_f rfl ?_
                refine r_exit rfl ?_
                refine r_seq ?_
                refine r_region ?_
                refine OL.q (Q1.move rfl) rfl rfl ?_
                refine OL.q (Q1.move rfl) rfl rfl ?_
                obtain ⟨v3, hr6, hl11⟩ := Sl.part (P := Try.prog) ha2 Try.underlying22 ti9 encS_len (k) (r1.length) (.inr ⟨.i64, ((k : Nat) : Int), rfl, by omega⟩) (.inl ⟨rfl, rfl⟩) (by omega) (by first | assumption | omega)
                replace hl11 : Sl encS w0 G v3 (r1.drop k) := by simpa using hl11
                refine OL.q (Q1.sliceV rfl rfl rfl rfl hr6) rfl rfl ?_
                refine OL.q (Q1.assign rfl) rfl rfl ?_
                refine OL.nil ?_
                refine r_region ?_
                refine OL.q (Q1.move rfl) rfl rfl ?_
                refine OL.q (Q1.move rfl) rfl rfl ?_
                refine OL.q (Q1.move rfl) rfl rfl ?_
                refine OL.q (Q1.move rfl) rfl rfl ?_
                obtain ⟨hst, hst2⟩ := hsp.fin (by first | exact .inr ⟨_, by assumption, by assumption⟩ | exact .inl (by omega))
                have hsf := strip_facts hx2 hr1
                subst hst
                have hEInx := hEI.next2 hx2
                have hS22 : St (fun _ => False) F w0 w11 [bldR 69 66 72 bB (s ++ (rests, []) :: xs) (nds ++ RNode.mk false (SH.mk none 0 0) :: tc), nrR tc xs, accR encE 91 2 v_ES ES, slR encS [(v_b2, (stripP (pfx x2) r1))]] := hS21.freeze (i := 3) rfl
                have hnm := addM_names hsf.2.2.1 hsf.1 hsf.2.1 hnd1.2 hnd1.1
                obtain ⟨Fb, Gb, hAb, hBl, hGF, hFb, hGb, hkb⟩ := hS22.act2 (i := 0) (j := 3) rfl rfl (by decide)
                refine OL.act rfl rfl (AW.callF cl34 rfl (ih0 f2 (by omega) hAb (fun b hb => (hFb b hb).2) (slR_no hBl) hGF hGb (by simp only [List.length_append, List.length_cons]; omega) hsf.2.2.1 hsf.1 hsf.2.1 hnd1.2 hnd1.1 (by simp only [List.length_append, List.length_cons]; omega) (by omega)) ?_)
                rintro _ w12 ⟨rfl, hm10, t2, xs2, hqe, F2b, hB2, hF2b⟩
                have hS23 : St (fun _ => False) F w0 w12 [boxR [bldR 69 66 72 bB ((s ++ (rests, []) :: xs) ++ xs2) ((nds ++ RNode.mk false (SH.mk none 0 0) :: tc) ++ t2), nrR t2 xs2], nrR tc xs, accR encE 91 2 v_ES ES, slR encS [(v_b2, (stripP (pfx x2) r1))]] := hkb _ _ _ hm10 hB2 hF2b
                have ht2 := nr_len hB2
                clear hAb hBl hGF hFb hGb hkb hB2 hF2b
                have hS24 : St (fun _ => False) F w0 w12 [nrR tc xs, accR encE 91 2 v_ES ES, slR encS [(v_b2, (stripP (pfx x2) r1))], boxR [bldR 69 66 72 bB ((s ++ (rests, []) :: xs) ++ xs2) ((nds ++ RNode.mk false (SH.mk none 0 0) :: tc) ++ t2), nrR t2 xs2]] := hS23.sel [1, 2, 3, 0] (by rfl) (by decide)
                have hS25 : St (fun _ => False) F w0 w12 [nrR tc xs, accR encE 91 2 v_ES ES, slR encS [(v_b2, (stripP (pfx x2) r1))], boxR [bldR 69 66 72 bB ((s ++ (rests, []) :: xs) ++ xs2) ((nds ++ RNode.mk false (SH.mk none 0 0) :: tc) ++ t2), nrR t2 xs2]] := hS24
                have hS26 : St (fun _ => False) F w0 w12 [nrR tc xs, accR encE 91 2 v_ES ES, slR encS [(v_b2, (stripP (pfx x2) r1))], bldR 69 66 72 bB ((s ++ (rests, []) :: xs) ++ xs2) ((nds ++ RNode.mk false (SH.mk none 0 0) :: tc) ++ t2), nrR t2 xs2] := St.open (L1 := [nrR tc xs, accR encE 91 2 v_ES ES, slR encS [(v_b2, (stripP (pfx x2) r1))]]) hS25
                have hS27 : St (fun _ => False) F w0 w12 [accR encE 91 2 v_ES ES, slR encS [(v_b2, (stripP (pfx x2) r1))], bldR 69 66 72 bB ((s ++ (rests, []) :: xs) ++ xs2) ((nds ++ RNode.mk false (SH.mk none 0 0) :: tc) ++ t2), nrR tc xs, nrR t2 xs2] := hS26.sel [1, 2, 3, 0, 4] (by rfl) (by decide)
                have hS28 : St (fun _ => False) F w0 w12 [accR encE 91 2 v_ES ES, slR encS [(v_b2, (stripP (pfx x2) r1))], bldR 69 66 72 bB ((s ++ (rests, []) :: xs) ++ xs2) ((nds ++ RNode.mk false (SH.mk none 0 0) :: tc) ++ t2), boxR [nrR tc xs, nrR t2 xs2]] := St.close (L1 := [accR encE 91 2 v_ES ES, slR encS [(v_b2, (stripP (pfx x2) r1))], bldR 69 66 72 bB ((s ++ (rests, []) :: xs) ++ xs2) ((nds ++ RNode.mk false (SH.mk none 0 0) :: tc) ++ t2)]) hS27
                have hS29 : St (fun _ => False) F w0 w12 [accR encE 91 2 v_ES ES, slR encS [(v_b2, (stripP (pfx x2) r1))], bldR 69 66 72 bB ((s ++ (rests, []) :: xs) ++ xs2) ((nds ++ RNode.mk false (SH.mk none 0 0) :: tc) ++ t2), nrR (tc ++ t2) (xs ++ xs2)] := hS28.imp (i := 3) rfl (fun F_ h_ => nr_app h_)
                have hS30 : St (fun _ => False) F w0 w12 [accR encE 91 2 v_ES ES, slR encS [(v_b2, (stripP (pfx x2) r1))], bldR 69 66 72 bB (s ++ (rests, []) :: (xs ++ xs2)) (nds ++ RNode.mk false (SH.mk none 0 0) :: (tc ++ t2)), nrR (tc ++ t2) (xs ++ xs2)] := hS29.imp (i := 2) rfl (fun F_ h_ => by simpa only [List.append_assoc, List.cons_append] using h_)
                have hal := addM_len (f2 + 1) (s ++ (rests, []) :: xs) (stripP (pfx x2) r1) hsf.1
                rw [hqe] at hal
                simp only [List.length_append, List.length_cons] at hal
                have hidx : (addM (f2 + 1) (s ++ (rests, []) :: xs) (stripP (pfx x2) r1)).2 < ((s ++ (rests, []) :: xs) ++ xs2).length := by rw [← hqe]; exact addM_lt hsf.2.2.1 hsf.1 hsf.2.1 hnd1.2
                simp only [List.length_append, List.length_cons] at hidx
                refine OL.q (Q1.build (vs := #[(0, (.int .i32 (((Ml.hdN x2 : Int))) : Value)), (1, (.int .i64 ((((addM (f2 + 1) (s ++ (rests, []) :: xs) (stripP (pfx x2) r1)).2 : Nat) : Int)) : Value))]) (v := .agg #[.int .i32 (((Ml.hdN x2 : Int))), .int .i64 ((((addM (f2 + 1) (s ++ (rests, []) :: xs) (stripP (pfx x2) r1)).2 : Nat) : Int))]) rfl (fun _ => by kernel_rfl)) rfl rfl ?_
                refine OL.act rfl rfl (AW.buildSlice [(.agg #[.int .i32 (((Ml.hdN x2 : Int))), .int .i64 ((((addM (f2 + 1) (s ++ (rests, []) :: xs) (stripP (pfx x2) r1)).2 : Nat) : Int))] : Value)] Try.underlying70 ti91 rfl rfl rfl (by decide) ?_)
                intro w13 b11 hm11 hb7 hz5 hk4
                have hS31 := hS30.ext hm11
                have hl12 := Sl.of_blk (enc := encE) hk4 ([(Ed.mk (((Ml.hdN x2 : Int))) ((((addM (f2 + 1) (s ++ (rests, []) :: xs) (stripP (pfx x2) r1)).2 : Nat) : Int)))] : List Ed) 1 rfl rfl (by unfold maxLen; omega)
                have hS32 : St (fun _ => False) F w0 w13 [accR encE 91 2 v_ES ES, slR encS [(v_b2, (stripP (pfx x2) r1))], bldR 69 66 72 bB (s ++ (rests, []) :: (xs ++ xs2)) (nds ++ RNode.mk false (SH.mk none 0 0) :: (tc ++ t2)), nrR (tc ++ t2) (xs ++ xs2), slR encE [((.slice (some ⟨b11, 0, none⟩) 1 1), [(Ed.mk (((Ml.hdN x2 : Int))) ((((addM (f2 + 1) (s ++ (rests, []) :: xs) (stripP (pfx x2) r1)).2 : Nat) : Int)))])]] := hS30.newSlB hm11 hb7 hz5 hl12
                obtain ⟨g7, f15, hl13, k5⟩ := hS32.accK (i := 0) rfl
                have f16 := hS32.sl (i := 4) (k := 0) rfl rfl
                refine OL.act rfl rfl (AW.append f15 Try.underlying70 ti91 rfl encE_len encE_one rfl rfl (f16) (by first | omega | (simp only [List.length_append, List.length_cons, List.length_nil]; omega) | (simp; omega)) (by unfold maxLen; first | omega | (simp only [List.length_append, List.length_cons, List.length_nil]; omega) | (simp; omega)) ?_)
                intro v4 g6 w14 ha3 hm12 hg2 hz6
                have hS33 : St (fun _ => False) F w0 w14 [accR encE 91 2 v4 ((ES ++ [(Ed.mk (((Ml.hdN x2 : Int))) ((((addM (f2 + 1) (s ++ (rests, []) :: xs) (stripP (pfx x2) r1)).2 : Nat) : Int)))])), slR encS [(v_b2, (stripP (pfx x2) r1))], bldR 69 66 72 bB (s ++ (rests, []) :: (xs ++ xs2)) (nds ++ RNode.mk false (SH.mk none 0 0) :: (tc ++ t2)), nrR (tc ++ t2) (xs ++ xs2), slR encE [((.slice (some ⟨b11, 0, none⟩) 1 1), [(Ed.mk (((Ml.hdN x2 : Int))) ((((addM (f2 + 1) (s ++ (rests, []) :: xs) (stripP (pfx x2) r1)).2 : Nat) : Int)))])]] := k5 _ _ _ _ hm12 ha3 hg2
                clear hg2
                refine OL.q (Q1.assign rfl) rfl rfl ?_
                refine OL.nil ?_
                refine r_inBlock ?_
                have hS34 : St (fun _ => False) F w0 w14 [bldR 69 66 72 bB (s ++ (rests, []) :: (xs ++ xs2)) (nds ++ RNode.mk false (SH.mk none 0 0) :: (tc ++ t2)), nrR (tc ++ t2) (xs ++ xs2), accR encE 91 2 v4 ((ES ++ [(Ed.mk (((Ml.hdN x2 : Int))) ((((addM (f2 + 1) (s ++ (rests, []) :: xs) (stripP (pfx x2) r1)).2 : Nat) : Int)))]))] := hS33.sel [2, 3, 0] (by rfl) (by decide)
                exact (ih1 _ _ _ ⟨(v3 : Value), ((r1.drop k) : List Str), (v4 : Value), ((ES ++ [(Ed.mk (((Ml.hdN x2 : Int))) ((((addM (f2 + 1) (s ++ (rests, []) :: xs) (stripP (pfx x2) r1)).2 : Nat) : Int)))]) : List Ed), ((xs ++ xs2) : GS), ((tc ++ t2) : List RNode), rfl, rfl, hS34, hl11, (by first | exact EInv.cast hEInx (by rw [hqe]; simp) hst2.symm | (exfalso; omega)), (by first | exact ⟨by rw [hst2]; exact hr1.1.more _, fun t ht => hr1.2.1 t (List.mem_of_mem_drop ht), fun t ht => hr1.2.2 t (List.mem_of_mem_drop ht)⟩ | (exfalso; omega)), (by first | rw [show s ++ (rests, []) :: (xs ++ xs2) = (s ++ (rests, []) :: xs) ++ xs2 by simp, ← hqe]; exact hnm | (exfalso; omega)), (by first | rw [hst2]; simp only [List.length_append]; omega | (exfalso; omega)), (by first | rw [hst2]; simp only [List.length_append, List.length_cons, List.length_nil]; omega | (exfalso; omega)), (by first | simp only [List.length_append]; omega | (exfalso; omega))⟩ (by rw [hst2]; omega)).sub ⟨rfl, rfl, rfl, rfl, rfl, trivial⟩
            | false =>
              replace hb5 := of_decide_eq_false hb5.symm
              refine OD.sk rfl rfl rfl ?_
              refine OD.sk rfl rfl rfl ?_
              refine OD.sk rfl rfl rfl ?_
              refine OD.sk rfl rfl rfl ?_
              refine OD.sk rfl rfl rfl ?_
              refine OD.sk rfl rfl rfl ?_
              refine OD.sk rfl rfl rfl ?_
              refine OD.sk rfl rfl rfl ?_
              refine OD.sk rfl rfl rfl ?_
              refine OD.sk rfl rfl rfl ?_
              refine OD.q rfl rfl (Q1.pick_f rfl rfl) rfl rfl ?_
              refine OD.nil ?_
              refine r_cond_f rfl ?_
              refine r_exit rfl ?_
              refine r_seq ?_
              refine r_region ?_
              refine OL.q (Q1.move rfl) rfl rfl ?_
              refine OL.q (Q1.move rfl) rfl rfl ?_
              obtain ⟨v3, hr4, hl9⟩ := Sl.part (P := Try.prog) ha2 Try.underlying22 ti9 encS_len (k) (r1.length) (.inr ⟨.i64, ((k : Nat) : Int), rfl, by omega⟩) (.inl ⟨rfl, rfl⟩) (by omega) (by first | assumption | omega)
              replace hl9 : Sl encS w0 G v3 (r1.drop k) := by simpa using hl9
              refine OL.q (Q1.sliceV rfl rfl rfl rfl hr4) rfl rfl ?_
              refine OL.q (Q1.assign rfl) rfl rfl ?_
              refine OL.nil ?_
              refine r_region ?_
              refine OL.q (Q1.move rfl) rfl rfl ?_
              refine OL.q (Q1.move rfl) rfl rfl ?_
              refine OL.q (Q1.move rfl) rfl rfl ?_
              refine OL.q (Q1.move rfl) rfl rfl ?_
              obtain ⟨hst, hst2⟩ := hsp.fin (by first | exact .inr ⟨_, by assumption, by assumption⟩ | exact .inl (by omega))
              have hsf := strip_facts hx2 hr1
              subst hst
              have hEInx := hEI.next2 hx2
              have hS21 : St (fun _ => False) F w0 w10 [bldR 69 66 72 bB (s ++ (rests, []) :: xs) (nds ++ RNode.mk false (SH.mk none 0 0) :: tc), nrR tc xs, accR encE 91 2 v_ES ES, slR encS [(v_b2, (stripP (pfx x2) r1))]] := hS20.freeze (i := 3) rfl
              have hnm := addM_names hsf.2.2.1 hsf.1 hsf.2.1 hnd1.2 hnd1.1
              obtain ⟨Fb, Gb, hAb, hBl, hGF, hFb, hGb, hkb⟩ := hS21.act2 (i := 0) (j := 3) rfl rfl (by decide)
              refine OL.act rfl rfl (AW.callF cl34 rfl (ih0 f2 (by omega) hAb (fun b hb => (hFb b hb).2) (slR_no hBl) hGF hGb (by simp only [List.length_append, List.length_cons]; omega) hsf.2.2.1 hsf.1 hsf.2.1 hnd1.2 hnd1.1 (by simp only [List.length_append, List.length_cons]; omega) (by omega)) ?_)
              rintro _ w11 ⟨rfl, hm9, t2, xs2, hqe, F2b, hB2, hF2b⟩
              have hS22 : St (fun _ => False) F w0 w11 [boxR [bldR 69 66 72 bB ((s ++ (rests, []) :: xs) ++ xs2) ((nds ++ RNode.mk false (SH.mk none 0 0) :: tc) ++ t2), nrR t2 xs2], nrR tc xs, accR encE 91 2 v_ES ES, slR encS [(v_b2, (stripP (pfx x2) r1))]] := hkb _ _ _ hm9 hB2 hF2b
              have ht2 := nr_len hB2
              clear hAb hBl hGF hFb hGb hkb hB2 hF2b
              have hS23 : St (fun _ => False) F w0 w11 [nrR tc xs, accR encE 91 2 v_ES ES, slR encS [(v_b2, (stripP (pfx x2) r1))], boxR [bldR 69 66 72 bB ((s ++ (rests, []) :: xs) ++ xs2) ((nds ++ RNode.mk false (SH.mk none 0 0) :: tc) ++ t2), nrR t2 xs2]] := hS22.sel [1, 2, 3, 0] (by rfl) (by decide)
              have hS24 : St (fun _ => False) F w0 w11 [nrR tc xs, accR encE 91 2 v_ES ES, slR encS [(v_b2, (stripP (pfx x2) r1))], boxR [bldR 69 66 72 bB ((s ++ (rests, []) :: xs) ++ xs2) ((nds ++ RNode.mk false (SH.mk none 0 0) :: tc) ++ t2), nrR t2 xs2]] := hS23
              have hS25 : St (fun _ => False) F w0 w11 [nrR tc xs, accR encE 91 2 v_ES ES, slR encS [(v_b2, (stripP (pfx x2) r1))], bldR 69 66 72 bB ((s ++ (rests, []) :: xs) ++ xs2) ((nds ++ RNode.mk false (SH.mk none 0 0) :: tc) ++ t2), nrR t2 xs2] := St.open (L1 := [nrR tc xs, accR encE 91 2 v_ES ES, slR encS [(v_b2, (stripP (pfx x2) r1))]]) hS24
              have hS26 : St (fun _ => False) F w0 w11 [accR encE 91 2 v_ES ES, slR encS [(v_b2, (stripP (pfx x2) r1))], bldR 69 66 72 bB ((s ++ (rests, []) :: xs) ++ xs2) ((nds ++ RNode.mk false (SH.mk none 0 0) :: tc) ++ t2), nrR tc xs, nrR t2 xs2] := hS25.sel [1, 2, 3, 0, 4] (by rfl) (by decide)
              have hS27 : St (fun _ => False) F w0 w11 [accR encE 91 2 v_ES ES, slR encS [(v_b2, (stripP (pfx x2) r1))], bldR 69 66 72 bB ((s ++ (rests, []) :: xs) ++ xs2) ((nds ++ RNode.mk false (SH.mk none 0 0) :: tc) ++ t2), boxR [nrR tc xs, nrR t2 xs2]] := St.close (L1 := [accR encE 91 2 v_ES ES, slR encS [(v_b2, (stripP (pfx x2) r1))], bldR 69 66 72 bB ((s ++ (rests, []) :: xs) ++ xs2) ((nds ++ RNode.mk false (SH.mk none 0 0) :: tc) ++ t2)]) hS26
              have hS28 : St (fun _ => False) F w0 w11 [accR encE 91 2 v_ES ES, slR encS [(v_b2, (stripP (pfx x2) r1))], bldR 69 66 72 bB ((s ++ (rests, []) :: xs) ++ xs2) ((nds ++ RNode.mk false (SH.mk none 0 0) :: tc) ++ t2), nrR (tc ++ t2) (xs ++ xs2)] := hS27.imp (i := 3) rfl (fun F_ h_ => nr_app h_)
              have hS29 : St (fun _ => False) F w0 w11 [accR encE 91 2 v_ES ES, slR encS [(v_b2, (stripP (pfx x2) r1))], bldR 69 66 72 bB (s ++ (rests, []) :: (xs ++ xs2)) (nds ++ RNode.mk false (SH.mk none 0 0) :: (tc ++ t2)), nrR (tc ++ t2) (xs ++ xs2)] := hS28.imp (i := 2) rfl (fun F_ h_ => by simpa only [List.append_assoc, List.cons_append] using h_)
              have hal := addM_len (f2 + 1) (s ++ (rests, []) :: xs) (stripP (pfx x2) r1) hsf.1
              rw [hqe] at hal
              simp only [List.length_append, List.length_cons] at hal
              have hidx : (addM (f2 + 1) (s ++ (rests, []) :: xs) (stripP (pfx x2) r1)).2 < ((s ++ (rests, []) :: xs) ++ xs2).length := by rw [← hqe]; exact addM_lt hsf.2.2.1 hsf.1 hsf.2.1 hnd1.2
              simp only [List.length_append, List.length_cons] at hidx
              refine OL.q (Q1.build (vs := #[(0, (.int .i32 (((Ml.hdN x2 : Int))) : Value)), (1, (.int .i64 ((((addM (f2 + 1) (s ++ (rests, []) :: xs) (stripP (pfx x2) r1)).2 : Nat) : Int)) : Value))]) (v := .agg #[.int .i32 (((Ml.hdN x2 : Int))), .int .i64 ((((addM (f2 + 1) (s ++ (rests, []) :: xs) (stripP (pfx x2) r1)).2 : Nat) : Int))]) rfl (fun _ => by kernel_rfl)) rfl rfl ?_
              refine OL.act rfl rfl (AW.buildSlice [(.agg #[.int .i32 (((Ml.hdN x2 : Int))), .int .i64 ((((addM (f2 + 1) (s ++ (rests, []) :: xs) (stripP (pfx x2) r1)).2 : Nat) : Int))] : Value)] Try.underlying70 ti91 rfl rfl rfl (by decide) ?_)
              intro w12 b8 hm10 hb6 hz5 hk4
              have hS30 := hS29.ext hm10
              have hl10 := Sl.of_blk (enc := encE) hk4 ([(Ed.mk (((Ml.hdN x2 : Int))) ((((addM (f2 + 1) (s ++ (rests, []) :: xs) (stripP (pfx x2) r1)).2 : Nat) : Int)))] : List Ed) 1 rfl rfl (by unfold maxLen; omega)
              have hS31 : St (fun _ => False) F w0 w12 [accR encE 91 2 v_ES ES, slR encS [(v_b2, (stripP (pfx x2) r1))], bldR 69 66 72 bB (s ++ (rests, []) :: (xs ++ xs2)) (nds ++ RNode.mk false (SH.mk none 0 0) :: (tc ++ t2)), nrR (tc ++ t2) (xs ++ xs2), slR encE [((.slice (some ⟨b8, 0, none⟩) 1 1), [(Ed.mk (((Ml.hdN x2 : Int))) ((((addM (f2 + 1) (s ++ (rests, []) :: xs) (stripP (pfx x2) r1)).2 : Nat) : Int)))])]] := hS29.newSlB hm10 hb6 hz5 hl10
              obtain ⟨g7, f15, hl11, k5⟩ := hS31.accK (i := 0) rfl
              have f16 := hS31.sl (i := 4) (k := 0) rfl rfl
              refine OL.act rfl rfl (AW.append f15 Try.underlying70 ti91 rfl encE_len encE_one rfl rfl (f16) (by first | omega | (simp only [List.length_append, List.length_cons, List.length_nil]; omega) | (simp; omega)) (by unfold maxLen; first | omega | (simp only [List.length_append, List.length_cons, List.length_nil]; omega) | (simp; omega)) ?_)
              intro v4 g6 w13 ha3 hm11 hg2 hz6
              have hS32 : St (fun _ => False) F w0 w13 [accR encE 91 2 v4 ((ES ++ [(Ed.mk (((Ml.hdN x2 : Int))) ((((addM (f2 + 1) (s ++ (rests, []) :: xs) (stripP (pfx x2) r1)).2 : Nat) : Int)))])), slR encS [(v_b2, (stripP (pfx x2) r1))], bldR 69 66 72 bB (s ++ (rests, []) :: (xs ++ xs2)) (nds ++ RNode.mk false (SH.mk none 0 0) :: (tc ++ t2)), nrR (tc ++ t2) (xs ++ xs2), slR encE [((.slice (some ⟨b8, 0, none⟩) 1 1), [(Ed.mk (((Ml.hdN x2 : Int))) ((((addM (f2 + 1) (s ++ (rests, []) :: xs) (stripP (pfx x2) r1)).2 : Nat) : Int)))])]] := k5 _ _ _ _ hm11 ha3 hg2
              clear hg2
              refine OL.q (Q1.assign rfl) rfl rfl ?_
              refine OL.nil ?_
              refine r_inBlock ?_
              have hS33 : St (fun _ => False) F w0 w13 [bldR 69 66 72 bB (s ++ (rests, []) :: (xs ++ xs2)) (nds ++ RNode.mk false (SH.mk none 0 0) :: (tc ++ t2)), nrR (tc ++ t2) (xs ++ xs2), accR encE 91 2 v4 ((ES ++ [(Ed.mk (((Ml.hdN x2 : Int))) ((((addM (f2 + 1) (s ++ (rests, []) :: xs) (stripP (pfx x2) r1)).2 : Nat) : Int)))]))] := hS32.sel [2, 3, 0] (by rfl) (by decide)
              exact (ih1 _ _ _ ⟨(v3 : Value), ((r1.drop k) : List Str), (v4 : Value), ((ES ++ [(Ed.mk (((Ml.hdN x2 : Int))) ((((addM (f2 + 1) (s ++ (rests, []) :: xs) (stripP (pfx x2) r1)).2 : Nat) : Int)))]) : List Ed), ((xs ++ xs2) : GS), ((tc ++ t2) : List RNode), rfl, rfl, hS33, hl9, (by first | exact EInv.cast hEInx (by rw [hqe]; simp) hst2.symm | (exfalso; omega)), (by first | exact ⟨by rw [hst2]; exact hr1.1.more _, fun t ht => hr1.2.1 t (List.mem_of_mem_drop ht), fun t ht => hr1.2.2 t (List.mem_of_mem_drop ht)⟩ | (exfalso; omega)), (by first | rw [show s ++ (rests, []) :: (xs ++ xs2) = (s ++ (rests, []) :: xs) ++ xs2 by simp, ← hqe]; exact hnm | (exfalso; omega)), (by first | rw [hst2]; simp only [List.length_append]; omega | (exfalso; omega)), (by first | rw [hst2]; simp only [List.length_append, List.length_cons, List.length_nil]; omega | (exfalso; omega)), (by first | simp only [List.length_append]; omega | (exfalso; omega))⟩ (by rw [hst2]; omega)).sub ⟨rfl, rfl, rfl, rfl, rfl, trivial⟩
        | false =>
          replace hb4 := of_decide_eq_false hb4.symm
          refine r_cond_f rfl ?_
          refine r_exit rfl ?_
          refine r_seq ?_
          refine r_region ?_
          obtain ⟨⟨bG2, bM2, vN2⟩, hS17⟩ := hS14.exo (i := 0) rfl
          change St (fun _ => False) F w0 w7 [boxR [bkR bB [ptr bG2 0, .map (some bM2)] 69, bkR bG2 [vN2] 66, mapR strV intV bM2 (mapK ((s ++ (rests, []) :: xs))), accR encN 72 2 vN2 ((nds ++ RNode.mk false (SH.mk none 0 0) :: tc))], nrR tc xs, accR encE 91 2 v_ES ES] at hS17
          have hS18 : St (fun _ => False) F w0 w7 [nrR tc xs, accR encE 91 2 v_ES ES, boxR [bkR bB [ptr bG2 0, .map (some bM2)] 69, bkR bG2 [vN2] 66, mapR strV intV bM2 (mapK ((s ++ (rests, []) :: xs))), accR encN 72 2 vN2 ((nds ++ RNode.mk false (SH.mk none 0 0) :: tc))]] := hS17.sel [1, 2, 0] (by rfl) (by decide)
          have hS19 : St (fun _ => False) F w0 w7 [nrR tc xs, accR encE 91 2 v_ES ES, boxR [bkR bB [ptr bG2 0, .map (some bM2)] 69, bkR bG2 [vN2] 66, mapR strV intV bM2 (mapK ((s ++ (rests, []) :: xs))), accR encN 72 2 vN2 ((nds ++ RNode.mk false (SH.mk none 0 0) :: tc))]] := hS18
          have hS20 : St (fun _ => False) F w0 w7 [nrR tc xs, accR encE 91 2 v_ES ES, bkR bB [ptr bG2 0, .map (some bM2)] 69, bkR bG2 [vN2] 66, mapR strV intV bM2 ((mapK ((s ++ (rests, []) :: xs)))), accR encN 72 2 vN2 ((nds ++ RNode.mk false (SH.mk none 0 0) :: tc))] := St.open (L1 := [nrR tc xs, accR encE 91 2 v_ES ES]) hS19
          refine OL.q (Q1.move rfl) rfl rfl ?_
          refine OL.q (Q1.nilCheckP rfl) rfl rfl ?_
          refine OL.q (Q1.fieldAddr fl69_0 rfl) rfl rfl ?_
          have f14 := hS20.bk (i := 2) rfl
          refine OL.q (Q1.load1 ti27 rfl (fun _ e => e ▸ (f14.cell 0 _ rfl))) rfl rfl ?_
          refine OL.q (Q1.nilCheckP rfl) rfl rfl ?_
          refine OL.q (Q1.fieldAddr fl66_0 rfl) rfl rfl ?_
          have f15 := hS20.bk (i := 3) rfl
          refine OL.q (Q1.load1 ti64 rfl (fun _ e => e ▸ (f15.cell 0 _ rfl))) rfl rfl ?_
          refine OL.q (Q1.move rfl) rfl rfl ?_
          refine OL.q (Q1.move rfl) rfl rfl ?_
          refine OL.q (Q1.move rfl) rfl rfl ?_
          obtain ⟨g6, f16, hl8, k5⟩ := hS20.accK (i := 1) rfl
          obtain ⟨ad2, cp2, hv2⟩ := f16.shape
          subst hv2
          refine OL.q (Q1.build (vs := #[(0, (.bool true : Value)), (1, (.slice ad2 ES.length cp2))]) (v := .agg #[.bool true, (.slice ad2 ES.length cp2)]) rfl (fun _ => by kernel_rfl)) rfl rfl ?_
          obtain ⟨g7, f17, hl9, k6⟩ := hS20.accK (i := 5) rfl
          obtain ⟨hr3, x2, hx2⟩ := Acc.at (P := Try.prog) f17 Try.underlying64 ti72 (k := .i64) (n := ((nds.length : Nat) : Int)) (nds.length) (by omega) (by first | assumption | omega | (simp; done))
          refine OL.q (Q1.indexAddr rfl rfl hr3) rfl rfl ?_
          refine OL.act rfl rfl (AW.storeA f17 encN_len (i := nds.length) (o := 0) hx2 ((RNode.mk true (SH.mk ad2 ES.length cp2))) ti72 rfl (by first | omega | rfl) rfl rfl rfl rfl (by decide) (by first | rfl | simp [encN]) ?_)
          intro w8 hm7 hz5 ha3
          have hl10 : (((nds ++ RNode.mk false (SH.mk none 0 0) :: tc)).set nds.length ((RNode.mk true (SH.mk ad2 ES.length cp2)))).length = ((nds ++ RNode.mk false (SH.mk none 0 0) :: tc)).length := List.length_set
          have hS21 : St (fun _ => False) F w0 w8 [nrR tc xs, accR encE 91 2 ((.slice ad2 ES.length cp2)) ES, bkR bB [ptr bG2 0, .map (some bM2)] 69, bkR bG2 [vN2] 66, mapR strV intV bM2 ((mapK ((s ++ (rests, []) :: xs)))), accR encN 72 2 vN2 ((((nds ++ RNode.mk false (SH.mk none 0 0) :: tc)).set nds.length ((RNode.mk true (SH.mk ad2 ES.length cp2)))))] := k6 _ _ _ _ hm7 ha3 (.inl rfl)
          refine OL.nil ?_
          refine r_seq ?_
          refine r_region ?_
          refine OL.q (Q1.move rfl) rfl rfl ?_
          refine OL.q (Q1.assign rfl) rfl rfl ?_
          refine OL.nil ?_
          refine r_ret1 Try.func34 rfl rfl ?_
          have hr0 : r1 = [] := List.eq_nil_of_length_eq_zero (by omega)
          subst hr0
          have hAD := addM_miss hfi hEI.fin
          have hS22 : St (fun _ => False) F w0 w8 [nrR tc xs, accR encE 91 2 ((.slice ad2 ES.length cp2)) ES, bkR bB [ptr bG2 0, .map (some bM2)] 69, bkR bG2 [vN2] 66, mapR strV intV bM2 ((mapK ((s ++ (rests, []) :: xs)))), accR encN 72 2 vN2 ((nds ++ (RNode.mk true (SH.mk ad2 ES.length cp2)) :: tc))] := hS21.imp (i := 5) rfl (fun F_ h_ => by rw [show (((nds ++ RNode.mk false (SH.mk none 0 0) :: tc)).set nds.length ((RNode.mk true (SH.mk ad2 ES.length cp2)))) = (nds ++ (RNode.mk true (SH.mk ad2 ES.length cp2)) :: tc) from by simp [List.set_append_right, hlen]] at h_; exact h_)
          have hS23 : St (fun _ => False) F w0 w8 [nrR tc xs, accR encE 91 2 ((.slice ad2 ES.length cp2)) ES, bkR bB [ptr bG2 0, .map (some bM2)] 69, bkR bG2 [vN2] 66, mapR strV intV bM2 ((mapK (s ++ (rests, ES) :: xs))), accR encN 72 2 vN2 ((nds ++ (RNode.mk true (SH.mk ad2 ES.length cp2)) :: tc))] := hS22.imp (i := 4) rfl (fun F_ h_ => by rw [show mapK (s ++ (rests, []) :: xs) = mapK (s ++ (rests, ES) :: xs) from mapK_es _ _ _ _ _] at h_; exact h_)
          have hS24 : St (fun _ => False) F w0 w8 [nrR tc xs, accR encE 91 2 ((.slice ad2 ES.length cp2)) ES, boxR [bkR bB [ptr bG2 0, .map (some bM2)] 69, bkR bG2 [vN2] 66, mapR strV intV bM2 ((mapK (s ++ (rests, ES) :: xs))), accR encN 72 2 vN2 ((nds ++ (RNode.mk true (SH.mk ad2 ES.length cp2)) :: tc))]] := St.close (L1 := [nrR tc xs, accR encE 91 2 ((.slice ad2 ES.length cp2)) ES]) hS23
          have hS25 : St (fun _ => False) F w0 w8 [nrR tc xs, accR encE 91 2 ((.slice ad2 ES.length cp2)) ES, bldR 69 66 72 bB (s ++ (rests, ES) :: xs) (nds ++ (RNode.mk true (SH.mk ad2 ES.length cp2)) :: tc)] := hS24.exi (bG2, bM2, vN2) (i := 2) rfl
          have hS26 : St (fun _ => False) F w0 w8 [bldR 69 66 72 bB (s ++ (rests, ES) :: xs) (nds ++ (RNode.mk true (SH.mk ad2 ES.length cp2)) :: tc), accR encE 91 2 ((.slice ad2 ES.length cp2)) ES, nrR tc xs] := hS25.sel [2, 1, 0] (by rfl) (by decide)
          have hS27 : St (fun _ => False) F w0 w8 [bldR 69 66 72 bB (s ++ (rests, ES) :: xs) (nds ++ (RNode.mk true (SH.mk ad2 ES.length cp2)) :: tc), boxR [accR encE 91 2 ((.slice ad2 ES.length cp2)) ES, nrR tc xs]] := St.close (L1 := [bldR 69 66 72 bB (s ++ (rests, ES) :: xs) (nds ++ (RNode.mk true (SH.mk ad2 ES.length cp2)) :: tc)]) hS26
          have hS28 : St (fun _ => False) F w0 w8 [bldR 69 66 72 bB (s ++ (rests, ES) :: xs) (nds ++ (RNode.mk true (SH.mk ad2 ES.length cp2)) :: tc), nrR ((RNode.mk true (SH.mk ad2 ES.length cp2)) :: tc) ((rests, ES) :: xs)] := hS27.imp (i := 1) rfl (fun F_ h_ => nr_cons rfl hdre.2.symm h_)
          have hS29 : St (fun _ => False) F w0 w8 [boxR [bldR 69 66 72 bB (s ++ (rests, ES) :: xs) (nds ++ (RNode.mk true (SH.mk ad2 ES.length cp2)) :: tc), nrR ((RNode.mk true (SH.mk ad2 ES.length cp2)) :: tc) ((rests, ES) :: xs)]] := St.close (L1 := []) hS28
          obtain ⟨hmF, F2, hA2, hF2⟩ := hS29.fin
          exact Ret.mk ⟨by rw [hAD]; simp [hlen], hmF, (RNode.mk true (SH.mk ad2 ES.length cp2)) :: tc, (rests, ES) :: xs, by rw [hAD], F2, hA2, hF2⟩
    | false =>
      replace hb3 := ne_of_beq_false hb3.symm
      refine r_cond_f rfl ?_
      refine r_skip ?_
      refine r_seq ?_
      refine r_region ?_
      refine OL.q (Q1.assign rfl) rfl rfl ?_
      have hdre := dropE_cons hx1 (by assumption)
      have hS10 : St (fun _ => False) F w0 w6 [slR encN [((.slice (some ⟨b1, 0, none⟩) 1 1), [(RNode.mk false (SH.mk none 0 0))])], bkR bB [ptr bG1 0, .map (some bM1)] 69, bkR bG1 [(.slice ad1 ((nds ++ [(RNode.mk false (SH.mk none 0 0))])).length cp1)] 66, mapR strV intV bM1 ((mapK (s ++ [(rests, [])]))), accR encN 72 2 ((.slice ad1 ((nds ++ [(RNode.mk false (SH.mk none 0 0))])).length cp1)) ((nds ++ [(RNode.mk false (SH.mk none 0 0))]))] := hS9.sel [4, 0, 1, 2, 3] (by rfl) (by decide)
      have hS11 : St (fun _ => False) F w0 w6 [slR encN [((.slice (some ⟨b1, 0, none⟩) 1 1), [(RNode.mk false (SH.mk none 0 0))])], boxR [bkR bB [ptr bG1 0, .map (some bM1)] 69, bkR bG1 [(.slice ad1 ((nds ++ [(RNode.mk false (SH.mk none 0 0))])).length cp1)] 66, mapR strV intV bM1 ((mapK (s ++ [(rests, [])]))), accR encN 72 2 ((.slice ad1 ((nds ++ [(RNode.mk false (SH.mk none 0 0))])).length cp1)) ((nds ++ [(RNode.mk false (SH.mk none 0 0))]))]] := St.close (L1 := [slR encN [((.slice (some ⟨b1, 0, none⟩) 1 1), [(RNode.mk false (SH.mk none 0 0))])]]) hS10
      have hS12 : St (fun _ => False) F w0 w6 [slR encN [((.slice (some ⟨b1, 0, none⟩) 1 1), [(RNode.mk false (SH.mk none 0 0))])], bldR 69 66 72 bB (s ++ (rests, []) :: []) (nds ++ RNode.mk false (SH.mk none 0 0) :: [])] := hS11.exi (bG1, bM1, (.slice ad1 ((nds ++ [(RNode.mk false (SH.mk none 0 0))])).length cp1)) (i := 1) rfl
      have hS13 : St (fun _ => False) F w0 w6 [slR encN [((.slice (some ⟨b1, 0, none⟩) 1 1), [(RNode.mk false (SH.mk none 0 0))])], bldR 69 66 72 bB (s ++ (rests, []) :: []) (nds ++ RNode.mk false (SH.mk none 0 0) :: []), nrR [] []] := hS12.new (Mod.refl _ _) (F := fun _ => False) (All2.nil : NR _ _ [] []) (fun _ h => h.elim)
      refine OL.nil ?_
      refine r_seq ?_
      refine r_block ?_
      have hS15 : St (fun _ => False) F w0 w6 [slR encN [((.slice (some ⟨b1, 0, none⟩) 1 1), [(RNode.mk false (SH.mk none 0 0))])], bldR 69 66 72 bB (s ++ (rests, []) :: []) (nds ++ RNode.mk false (SH.mk none 0 0) :: []), nrR [] [], accR encE 91 2 (.slice none 0 0) []] := hS13.newAcc (Mod.refl _ _) Acc.nil (.inl rfl)
      have hS16 : St (fun _ => False) F w0 w6 [bldR 69 66 72 bB (s ++ (rests, []) :: []) (nds ++ RNode.mk false (SH.mk none 0 0) :: []), nrR [] [], accR encE 91 2 (.slice none 0 0) []] := hS15.sel [1, 2, 3] (by rfl) (by decide)
      refine r_loop (I := fun m E W => ∃ (v_r1 : Value) (r1 : List Str) (v_ES : Value) (ES : List Ed) (xs : GS) (tc : List RNode), E = [(0, ptr bB 0), (1, v_r1), (8, .int .i64 (((nds.length : Nat) : Int))), (9, .bool false), (10, v_ES)] ∧ m = r1.length ∧ St (fun _ => False) F w0 W [bldR 69 66 72 bB (s ++ (rests, []) :: xs) (nds ++ RNode.mk false (SH.mk none 0 0) :: tc), nrR tc xs, accR encE 91 2 v_ES ES] ∧ Sl encS w0 G v_r1 r1 ∧ (EInv f (s ++ [(rests, [])]) (groups (dropE rests)) (s ++ (rests, []) :: xs) ES r1) ∧ (GoodR r1 ∧ (∀ t ∈ r1, t ≠ []) ∧ Deep f r1) ∧ (NamesOk (s ++ (rests, []) :: xs) ∧ (names (s ++ (rests, []) :: xs)).Nodup) ∧ (s.length + 1 + xs.length + sumLen r1 ≤ 1000000) ∧ (ES.length + r1.length ≤ 1000) ∧ (tc.length = xs.length)) ?_ ?_
      · refine ⟨_, _, ⟨(v_r : Value), (rests : List Str), (.slice none 0 0 : Value), ([] : List Ed), ([] : GS), ([] : List RNode), rfl, rfl, hS16, hr, (by first | (rw [hdre.1]; exact EInv.start f _ _)), (by rw [← hdre.1]; exact ⟨hdr.1, hdr.2, fun t ht => hd t (dropE_mem ht)⟩), (by exact names_put hfi hnd hnok hne hg.noff), (by rw [← hdre.1]; simp only [List.length_nil]; omega), (by rw [← hdre.1]; simp only [List.length_nil]; omega), (by rfl)⟩, ⟨rfl, rfl, rfl, rfl, rfl, trivial⟩⟩
      · rintro _ _ w7 ⟨v_r1, r1, v_ES, ES, xs, tc, rfl, rfl, hS14, ha2, hEI, hr1, hnd1, hs1, hel, htc⟩ ih1
        refine r_seq ?_
        refine r_seq ?_
        refine r_region ?_
        refine OL.q (Q1.move rfl) rfl rfl ?_
        have f13 := hS14.out ha2 hG
        refine OL.q (Q1.lenSl Try.underlying22 (f13) rfl) rfl rfl ?_
        refine OL.qb (Q1.gt rfl rfl) rfl rfl ?_
        intro b5 hb4
        refine OL.nil ?_
        cases b5 with
        | true =>
          replace hb4 := of_decide_eq_true hb4.symm
          refine r_cond_t rfl ?_
          refine r_skip ?_
          refine r_block ?_
          refine r_seq ?_
          refine r_region ?_
          refine OL.q (Q1.move rfl) rfl rfl ?_
          obtain ⟨x2, b6, o2, hx2, hr2, hl7, hw2⟩ := Sl.atF (P := Try.prog) f13 Try.underlying22 ti9 encS_len (k := .i64) (n := 0) (0) (by omega) (by first | assumption | omega)
          refine OL.q (Q1.indexAddr rfl rfl hr2) rfl rfl ?_
          refine OL.q (Q1.load1 ti9 rfl (fun _ e => e ▸ hw2)) rfl rfl ?_
          have hxm := List.mem_of_getElem? hx2
          have hxg := hr1.1.fine x2 hxm
          have hxn : x2 ≠ [] := hr1.2.1 x2 hxm
          obtain ⟨f2, rfl⟩ := deep_succ hr1.2.2 hxm hxn
          have hwl := pfx_len hxn
          have hwd := wdN_le x2 hxn
          have hxl := sum_mem hxm
          have hdn := hdN_le x2
          refine OL.act rfl rfl (AW.callF cl51 rfl (first_c (w0 := w7)  x2 (by first | assumption | omega | (simp; done)) (by assumption)) ?_)
          rintro _ w8 ⟨_, _, rfl, rfl, rfl, hm7⟩
          have hS17 := hS14.ext hm7
          have := Ml.wdN_le x2
          have := Ml.hdN_le x2
          refine OL.q (Q1.move rfl) rfl rfl ?_
          refine OL.q (Q1.extract rfl rfl) rfl rfl ?_
          refine OL.q (Q1.extract rfl rfl) rfl rfl ?_
          refine OL.q (Q1.assign rfl) rfl rfl ?_
          refine OL.q (Q1.assign rfl) rfl rfl ?_
          refine OL.nil ?_
          refine r_seq ?_
          refine r_region ?_
          refine OL.q (Q1.assign rfl) rfl rfl ?_
          refine OL.nil ?_
          refine r_seq ?_
          refine r_region ?_
          refine OL.q (Q1.assign rfl) rfl rfl ?_
          refine OL.nil ?_
          refine r_seq ?_
          refine r_block ?_
          have hS19 : St (fun _ => False) F w0 w8 [bldR 69 66 72 bB (s ++ (rests, []) :: xs) (nds ++ RNode.mk false (SH.mk none 0 0) :: tc), nrR tc xs, accR encE 91 2 v_ES ES, accR encS 9 1 (.slice none 0 0) []] := hS17.newAcc (Mod.refl _ _) Acc.nil (.inl rfl)
          refine r_loop (I := fun m E W => ∃ (k : Nat) (v_b2 : Value) (b2 : List Str), E = [(0, ptr bB 0), (1, v_r1), (8, .int .i64 (((nds.length : Nat) : Int))), (9, .bool false), (10, v_ES), (11, .int .i32 (((Ml.hdN x2 : Int)))), (12, .int .i64 ((((Ml.wdN x2 : Nat) : Int)))), (13, .int .i64 (((k : Nat) : Int))), (14, v_b2)] ∧ m = r1.length - k ∧ St (fun _ => False) F w0 W [bldR 69 66 72 bB (s ++ (rests, []) :: xs) (nds ++ RNode.mk false (SH.mk none 0 0) :: tc), nrR tc xs, accR encE 91 2 v_ES ES, accR encS 9 1 v_b2 b2] ∧ (SpanInv (pfx x2) r1 k b2) ∧ (b2.length ≤ k) ∧ (k ≤ r1.length)) ?_ ?_
          · refine ⟨_, _, ⟨(0 : Nat), (.slice none 0 0 : Value), ([] : List Str), rfl, rfl, hS19, (by exact SpanInv.start _ _), (by exact Nat.zero_le _), (by omega)⟩, ⟨rfl, rfl, rfl, rfl, rfl, rfl, rfl, rfl, rfl, trivial⟩⟩
          · rintro _ _ w9 ⟨k, v_b2, b2, rfl, rfl, hS18, hsp, hbl, hkl⟩ ih2
            refine r_seq ?_
            refine r_seq ?_
            refine r_draw1 (fun i => Nat.beq i 14) 16 (fun w' => Mod (Mg 0) w9 w') mixed (by kernel_rfl) ?_
            intro w10 hm8
            have hS20 := hS18.ext hm8
            have hCw10 : Mod (Mg 0) w9 w10 := Mod.ofExt hm8
            refine ⟨hCw10, ?_⟩
            rw [show List.range' 0 (Array.size _) = [0, 1, 2, 3, 4, 5, 6, 7, 8, 9, 10, 11, 12, 13, 14, 15] from rfl]
            refine OD.q rfl rfl (Q1.move rfl) rfl rfl ?_
            refine OD.q rfl rfl (Q1.move rfl) rfl rfl ?_
            have f14 := hS18.out ha2 hG
            refine OD.q rfl rfl (Q1.lenSl Try.underlying22 (f14) rfl) rfl rfl ?_
            refine OD.qb rfl rfl (Q1.lt rfl rfl) rfl rfl ?_
            intro b7 hb5
            refine OD.q rfl rfl (Q1.move rfl) rfl rfl ?_
            cases b7 with
            | true =>
              replace hb5 := of_decide_eq_true hb5.symm
              refine OD.q rfl rfl (Q1.move rfl) rfl rfl ?_
              refine OD.q rfl rfl (Q1.move rfl) rfl rfl ?_
              obtain ⟨x3, b8, o3, hx3, hr3, hl8, hw3⟩ := Sl.atF (P := Try.prog) f14 Try.underlying22 ti9 encS_len (k := .i64) (n := ((k : Nat) : Int)) (k) (by omega) (by first | assumption | omega)
              refine OD.q rfl rfl (Q1.indexAddr rfl rfl hr3) rfl rfl ?_
              refine OD.q rfl rfl (Q1.load1 ti9 rfl (fun _ hc => hw3.keepG hc (Nat.succ_ne_zero _))) rfl rfl ?_
              have hx3l := sum_mem (List.mem_of_getElem? hx3)
              refine OD.q rfl rfl (Q1.move rfl) rfl rfl ?_
              obtain ⟨x4, b9, o4, hx4, hr4, hl9, hw4⟩ := Sl.atF (P := Try.prog) f14 Try.underlying22 ti9 encS_len (k := .i64) (n := 0) (0) (by omega) (by first | assumption | omega)
              obtain rfl : x2 = x4 := Option.some.inj (hx2.symm.trans hx4)
              refine OD.q rfl rfl (Q1.indexAddr rfl rfl hr4) rfl rfl ?_
              refine OD.q rfl rfl (Q1.load1 ti9 rfl (fun _ hc => hw4.keepG hc (Nat.succ_ne_zero _))) rfl rfl ?_
              refine OD.q rfl rfl (Q1.move rfl) rfl rfl ?_
              refine OD.q rfl rfl (Q1.sliceS_hi (Ml.wdN x2) Try.underlying9 rfl rfl (by omega) (by first | assumption | omega)) rfl rfl ?_
              refine OD.act rfl rfl rfl rfl (AW.callF cl52 rfl (shp_c (w0 := w10)  x3 ((x2.take (Ml.wdN x2))) ) ?_)
              rintro _ w11 ⟨⟨b10, hb6, rfl⟩, hm9⟩
              have hS21 := hS20.ext hm9
              have hCw11 := hCw10.ext hm9
              refine ⟨.inr hCw11, ?_⟩
              refine OD.q rfl rfl (Q1.pick_t rfl rfl) rfl rfl ?_
              refine OD.nil ?_
              cases b10 with
              | true =>
                replace hb6 := hb6.symm
                refine r_cond_t rfl ?_
                refine r_skip ?_
                refine r_block ?_
                refine r_seq ?_
                refine r_region ?_
                refine OL.q (Q1.move rfl) rfl rfl ?_
                refine OL.q (Q1.move rfl) rfl rfl ?_
                refine OL.q (Q1.move rfl) rfl rfl ?_
                have f15 := hS21.out ha2 hG
                obtain ⟨x5, b11, o5, hx5, hr5, hl10, hw5⟩ := Sl.atF (P := Try.prog) f15 Try.underlying22 ti9 encS_len (k := .i64) (n := ((k : Nat) : Int)) (k) (by omega) (by first | assumption | omega)
                obtain rfl : x3 = x5 := Option.some.inj (hx3.symm.trans hx5)
                refine OL.q (Q1.indexAddr rfl rfl hr5) rfl rfl ?_
                refine OL.q (Q1.load1 ti9 rfl (fun _ e => e ▸ hw5)) rfl rfl ?_
                have hpl : wdN x2 ≤ x3.length := hp_le (p := x2.take (wdN x2)) (by assumption) hwl
                refine OL.q (Q1.move rfl) rfl rfl ?_
                refine OL.q (Q1.sliceS_lo (Ml.wdN x2) Try.underlying9 rfl rfl (by omega) (by first | assumption | omega)) rfl rfl ?_
                refine OL.act rfl rfl (AW.buildSlice [strV ((x3.drop (Ml.wdN x2)))] Try.underlying22 ti9 rfl rfl rfl (by decide) ?_)
                intro w12 b12 hm10 hb7 hz5 hk4
                have hS22 := hS21.ext hm10
                have hl11 := Sl.of_blk (enc := encS) hk4 ([(x3.drop (Ml.wdN x2))] : List Str) 1 rfl rfl (by unfold maxLen; omega)
                have hS23 : St (fun _ => False) F w0 w12 [bldR 69 66 72 bB (s ++ (rests, []) :: xs) (nds ++ RNode.mk false (SH.mk none 0 0) :: tc), nrR tc xs, accR encE 91 2 v_ES ES, accR encS 9 1 v_b2 b2, slR encS [((.slice (some ⟨b12, 0, none⟩) 1 1), [(x3.drop (Ml.wdN x2))])]] := hS21.newSlB hm10 hb7 hz5 hl11
                obtain ⟨g7, f16, hl12, k5⟩ := hS23.accK (i := 3) rfl
                have f17 := hS23.sl (i := 4) (k := 0) rfl rfl
                refine OL.act rfl rfl (AW.append f16 Try.underlying22 ti9 rfl encS_len encS_one rfl rfl (f17) (by first | omega | (simp only [List.length_append, List.length_cons, List.length_nil]; omega) | (simp; omega)) (by unfold maxLen; first | omega | (simp only [List.length_append, List.length_cons, List.length_nil]; omega) | (simp; omega)) ?_)
                intro v2 g6 w13 ha3 hm11 hg2 hz6
                have hS24 : St (fun _ => False) F w0 w13 [bldR 69 66 72 bB (s ++ (rests, []) :: xs) (nds ++ RNode.mk false (SH.mk none 0 0) :: tc), nrR tc xs, accR encE 91 2 v_ES ES, accR encS 9 1 v2 ((b2 ++ [(x3.drop (Ml.wdN x2))])), slR encS [((.slice (some ⟨b12, 0, none⟩) 1 1), [(x3.drop (Ml.wdN x2))])]] := k5 _ _ _ _ hm11 ha3 hg2
                clear hg2
                refine OL.q (Q1.assign rfl) rfl rfl ?_
                refine OL.nil ?_
                refine r_region ?_
                refine OL.q (Q1.move rfl) rfl rfl ?_
                refine OL.q (Q1.addI (((k + 1 : Nat) : Int)) rfl rfl (by omega)) rfl rfl ?_
                refine OL.q (Q1.assign rfl) rfl rfl ?_
                refine OL.nil ?_
                refine r_inBlock ?_
                have hS25 : St (fun _ => False) F w0 w13 [bldR 69 66 72 bB (s ++ (rests, []) :: xs) (nds ++ RNode.mk false (SH.mk none 0 0) :: tc), nrR tc xs, accR encE 91 2 v_ES ES, accR encS 9 1 v2 ((b2 ++ [(x3.drop (Ml.wdN x2))]))] := hS24.sel [0, 1, 2, 3] (by rfl) (by decide)
                exact (ih2 _ _ _ ⟨(k + 1 : Nat), (v2 : Value), ((b2 ++ [(x3.drop (Ml.wdN x2))]) : List Str), rfl, rfl, hS25, (by first | exact hsp.nxt hwl hx3 (by assumption) | (exfalso; omega)), (by first | simp only [List.length_append, List.length_cons, List.length_nil]; omega | (exfalso; omega)), (by first | omega | (exfalso; omega))⟩ (by omega)).sub ⟨rfl, rfl, rfl, rfl, rfl, rfl, rfl, rfl, rfl, trivial⟩
              | false =>
                replace hb6 := hb6.symm
                refine r_cond_f rfl ?_
                refine r_exit rfl ?_
                refine r_seq ?_
                refine r_region ?_
                refine OL.q (Q1.move rfl) rfl rfl ?_
                refine OL.q (Q1.move rfl) rfl rfl ?_
                obtain ⟨v2, hr5, hl10⟩ := Sl.part (P := Try.prog) ha2 Try.underlying22 ti9 encS_len (k) (r1.length) (.inr ⟨.i64, ((k : Nat) : Int), rfl, by omega⟩) (.inl ⟨rfl, rfl⟩) (by omega) (by first | assumption | omega)
                replace hl10 : Sl encS w0 G v2 (r1.drop k) := by simpa using hl10
                refine OL.q (Q1.sliceV rfl rfl rfl rfl hr5) rfl rfl ?_
                refine OL.q (Q1.assign rfl) rfl rfl ?_
                refine OL.nil ?_
                refine r_region ?_
                refine OL.q (Q1.move rfl) rfl rfl ?_
                refine OL.q (Q1.move rfl) rfl rfl ?_
                refine OL.q (Q1.move rfl) rfl rfl ?_
                refine OL.q (Q1.move rfl) rfl rfl ?_
                obtain ⟨hst, hst2⟩ := hsp.fin (by first | exact .inr ⟨_, by assumption, by assumption⟩ | exact .inl (by omega))
                have hsf := strip_facts hx2 hr1
                subst hst
                have hEInx := hEI.next2 hx2
                have hS22 : St (fun _ => False) F w0 w11 [bldR 69 66 72 bB (s ++ (rests, []) :: xs) (nds ++ RNode.mk false (SH.mk none 0 0) :: tc), nrR tc xs, accR encE 91 2 v_ES ES, slR encS [(v_b2, (stripP (pfx x2) r1))]] := hS21.freeze (i := 3) rfl
                have hnm := addM_names hsf.2.2.1 hsf.1 hsf.2.1 hnd1.2 hnd1.1
                obtain ⟨Fb, Gb, hAb, hBl, hGF, hFb, hGb, hkb⟩ := hS22.act2 (i := 0) (j := 3) rfl rfl (by decide)
                refine OL.act rfl rfl (AW.callF cl34 rfl (ih0 f2 (by omega) hAb (fun b hb => (hFb b hb).2) (slR_no hBl) hGF hGb (by simp only [List.length_append, List.length_cons]; omega) hsf.2.2.1 hsf.1 hsf.2.1 hnd1.2 hnd1.1 (by simp only [List.length_append, List.length_cons]; omega) (by omega)) ?_)
                rintro _ w12 ⟨rfl, hm10, t2, xs2, hqe, F2b, hB2, hF2b⟩
                have hS23 : St (fun _ => False) F w0 w12 [boxR [bldR 69 66 72 bB ((s ++ (rests, []) :: xs) ++ xs2) ((nds ++ RNode.mk false (SH.mk none 0 0) :: tc) ++ t2), nrR t2 xs2], nrR tc xs, accR encE 91 2 v_ES ES, slR encS [(v_b2, (stripP (pfx x2) r1))]] := hkb _ _ _ hm10 hB2 hF2b
                have ht2 := nr_len hB2
                clear hAb hBl hGF hFb hGb hkb hB2 hF2b
                have hS24 : St (fun _ => False) F w0 w12 [nrR tc xs, accR encE 91 2 v_ES ES, slR encS [(v_b2, (stripP (pfx x2) r1))], boxR [bldR 69 66 72 bB ((s ++ (rests, []) :: xs) ++ xs2) ((nds ++ RNode.mk false (SH.mk none 0 0) :: tc) ++ t2), nrR t2 xs2]] := hS23.sel [1, 2, 3, 0] (by rfl) (by decide)
                have hS25 : St (fun _ => False) F w0 w12 [nrR tc xs, accR encE 91 2 v_ES ES, slR encS [(v_b2, (stripP (pfx x2) r1))], boxR [bldR 69 66 72 bB ((s ++ (rests, []) :: xs) ++ xs2) ((nds ++ RNode.mk false (SH.mk none 0 0) :: tc) ++ t2), nrR t2 xs2]] := hS24
                have hS26 : St (fun _ => False) F w0 w12 [nrR tc xs, accR encE 91 2 v_ES ES, slR encS [(v_b2, (stripP (pfx x2) r1))], bldR 69 66 72 bB ((s ++ (rests, []) :: xs) ++ xs2) ((nds ++ RNode.mk false (SH.mk none 0 0) :: tc) ++ t2), nrR t2 xs2] := St.open (L1 := [nrR tc xs, accR encE 91 2 v_ES ES, slR encS [(v_b2, (stripP (pfx x2) r1))]]) hS25
                have hS27 : St (fun _ => False) F w0 w12 [accR encE 91 2 v_ES ES, slR encS [(v_b2, (stripP (pfx x2) r1))], bldR 69 66 72 bB ((s ++ (rests, []) :: xs) ++ xs2) ((nds ++ RNode.mk false (SH.mk none 0 0) :: tc) ++ t2), nrR tc xs, nrR t2 xs2] := hS26.sel [1, 2, 3, 0, 4] (by rfl) (by decide)
                have hS28 : St (fun _ => False) F w0 w12 [accR encE 91 2 v_ES ES, slR encS [(v_b2, (stripP (pfx x2) r1))], bldR 69 66 72 bB ((s ++ (rests, []) :: xs) ++ xs2) ((nds ++ RNode.mk false (SH.mk none 0 0) :: tc) ++ t2), boxR [nrR tc xs, nrR t2 xs2]] := St.close (L1 := [accR encE 91 2 v_ES ES, slR encS [(v_b2, (stripP (pfx x2) r1))], bldR 69 66 72 bB ((s ++ (rests, []) :: xs) ++ xs2) ((nds ++ RNode.mk false (SH.mk none 0 0) :: tc) ++ t2)]) hS27
                have hS29 : St (fun _ => False) F w0 w12 [accR encE 91 2 v_ES ES, slR encS [(v_b2, (stripP (pfx x2) r1))], bldR 69 66 72 bB ((s ++ (rests, []) :: xs) ++ xs2) ((nds ++ RNode.mk false (SH.mk none 0 0) :: tc) ++ t2), nrR (tc ++ t2) (xs ++ xs2)] := hS28.imp (i := 3) rfl (fun F_ h_ => nr_app h_)
                have hS30 : St (fun _ => False) F w0 w12 [accR encE 91 2 v_ES ES, slR encS [(v_b2, (stripP (pfx x2) r1))], bldR 69 66 72 bB (s ++ (rests, []) :: (xs ++ xs2)) (nds ++ RNode.mk false (SH.mk none 0 0) :: (tc ++ t2)), nrR (tc ++ t2) (xs ++ xs2)] := hS29.imp (i := 2) rfl (fun F_ h_ => by simpa only [List.append_assoc, List.cons_append] using h_)
                have hal := addM_len (f2 + 1) (s ++ (rests, []) :: xs) (stripP (pfx x2) r1) hsf.1
                rw [hqe] at hal
                simp only [List.length_append, List.length_cons] at hal
                have hidx : (addM (f2 + 1) (s ++ (rests, []) :: xs) (stripP (pfx x2) r1)).2 < ((s ++ (rests, []) :: xs) ++ xs2).length := by rw [← hqe]; exact addM_lt hsf.2.2.1 hsf.1 hsf.2.1 hnd1.2
                simp only [List.length_append, List.length_cons] at hidx
                refine OL.q (Q1.build (vs := #[(0, (.int .i32 (((Ml.hdN x2 : Int))) : Value)), (1, (.int .i64 ((((addM (f2 + 1) (s ++ (rests, []) :: xs) (stripP (pfx x2) r1)).2 : Nat) : Int)) : Value))]) (v := .agg #[.int .i32 (((Ml.hdN x2 : Int))), .int .i64 ((((addM (f2 + 1) (s ++ (rests, []) :: xs) (stripP (pfx x2) r1)).2 : Nat) : Int))]) rfl (fun _ => by kernel_rfl)) rfl rfl ?_
                refine OL.act rfl rfl (AW.buildSlice [(.agg #[.int .i32 (((Ml.hdN x2 : Int))), .int .i64 ((((addM (f2 + 1) (s ++ (rests, []) :: xs) (stripP (pfx x2) r1)).2 : Nat) : Int))] : Value)] Try.underlying70 ti91 rfl rfl rfl (by decide) ?_)
                intro w13 b11 hm11 hb7 hz5 hk4
                have hS31 := hS30.ext hm11
                have hl11 := Sl.of_blk (enc := encE) hk4 ([(Ed.mk (((Ml.hdN x2 : Int))) ((((addM (f2 + 1) (s ++ (rests, []) :: xs) (stripP (pfx x2) r1)).2 : Nat) : Int)))] : List Ed) 1 rfl rfl (by unfold maxLen; omega)
                have hS32 : St (fun _ => False) F w0 w13 [accR encE 91 2 v_ES ES, slR encS [(v_b2, (stripP (pfx x2) r1))], bldR 69 66 72 bB (s ++ (rests, []) :: (xs ++ xs2)) (nds ++ RNode.mk false (SH.mk none 0 0) :: (tc ++ t2)), nrR (tc ++ t2) (xs ++ xs2), slR encE [((.slice (some ⟨b11, 0, none⟩) 1 1), [(Ed.mk (((Ml.hdN x2 : Int))) ((((addM (f2 + 1) (s ++ (rests, []) :: xs) (stripP (pfx x2) r1)).2 : Nat) : Int)))])]] := hS30.newSlB hm11 hb7 hz5 hl11
                obtain ⟨g7, f15, hl12, k5⟩ := hS32.accK (i := 0) rfl
                have f16 := hS32.sl (i := 4) (k := 0) rfl rfl
                refine OL.act rfl rfl (AW.append f15 Try.underlying70 ti91 rfl encE_len encE_one rfl rfl (f16) (by first | omega | (simp only [List.length_append, List.length_cons, List.length_nil]; omega) | (simp; omega)) (by unfold maxLen; first | omega | (simp only [List.length_append, List.length_cons, List.length_nil]; omega) | (simp; omega)) ?_)
                intro v3 g6 w14 ha3 hm12 hg2 hz6
                have hS33 : St (fun _ => False) F w0 w14 [accR encE 91 2 v3 ((ES ++ [(Ed.mk (((Ml.hdN x2 : Int))) ((((addM (f2 + 1) (s ++ (rests, []) :: xs) (stripP (pfx x2) r1)).2 : Nat) : Int)))])), slR encS [(v_b2, (stripP (pfx x2) r1))], bldR 69 66 72 bB (s ++ (rests, []) :: (xs ++ xs2)) (nds ++ RNode.mk false (SH.mk none 0 0) :: (tc ++ t2)), nrR (tc ++ t2) (xs ++ xs2), slR encE [((.slice (some ⟨b11, 0, none⟩) 1 1), [(Ed.mk (((Ml.hdN x2 : Int))) ((((addM (f2 + 1) (s ++ (rests, []) :: xs) (stripP (pfx x2) r1)).2 : Nat) : Int)))])]] := k5 _ _ _ _ hm12 ha3 hg2
                clear hg2
                refine OL.q (Q1.assign rfl) rfl rfl ?_
                refine OL.nil ?_
                refine r_inBlock ?_
                have hS34 : St (fun _ => False) F w0 w14 [bldR 69 66 72 bB (s ++ (rests, []) :: (xs ++ xs2)) (nds ++ RNode.mk false (SH.mk none 0 0) :: (tc ++ t2)), nrR (tc ++ t2) (xs ++ xs2), accR encE 91 2 v3 ((ES ++ [(Ed.mk (((Ml.hdN x2 : Int))) ((((addM (f2 + 1) (s ++ (rests, []) :: xs) (stripP (pfx x2) r1)).2 : Nat) : Int)))]))] := hS33.sel [2, 3, 0] (by rfl) (by decide)
                exact (ih1 _ _ _ ⟨(v2 : Value), ((r1.drop k) : List Str), (v3 : Value), ((ES ++ [(Ed.mk (((Ml.hdN x2 : Int))) ((((addM (f2 + 1) (s ++ (rests, []) :: xs) (stripP (pfx x2) r1)).2 : Nat) : Int)))]) : List Ed), ((xs ++ xs2) : GS), ((tc ++ t2) : List RNode), rfl, rfl, hS34, hl10, (by first | exact EInv.cast hEInx (by rw [hqe]; simp) hst2.symm | (exfalso; omega)), (by first | exact ⟨by rw [hst2]; exact hr1.1.more _, fun t ht => hr1.2.1 t (List.mem_of_mem_drop ht), fun t ht => hr1.2.2 t (List.mem_of_mem_drop ht)⟩ | (exfalso; omega)), (by first | rw [show s ++ (rests, []) :: (xs ++ xs2) = (s ++ (rests, []) :: xs) ++ xs2 by simp, ← hqe]; exact hnm | (exfalso; omega)), (by first | rw [hst2]; simp only [List.length_append]; omega | (exfalso; omega)), (by first | rw [hst2]; simp only [List.length_append, List.length_cons, List.length_nil]; omega | (exfalso; omega)), (by first | simp only [List.length_append]; omega | (exfalso; omega))⟩ (by rw [hst2]; omega)).sub ⟨rfl, rfl, rfl, rfl, rfl, trivial⟩
            | false =>
              replace hb5 := of_decide_eq_false hb5.symm
              refine OD.sk rfl rfl rfl ?_
              refine OD.sk rfl rfl rfl ?_
              refine OD.sk rfl rfl rfl ?_
              refine OD.sk rfl rfl rfl ?_
              refine OD.sk rfl rfl rfl ?_
              refine OD.sk rfl rfl rfl ?_
              refine OD.sk rfl rfl rfl ?_
              refine OD.sk rfl rfl rfl ?_
              refine OD.sk rfl rfl rfl ?_
              refine OD.sk rfl rfl rfl ?_
              refine OD.q rfl rfl (Q1.pick_f rfl rfl) rfl rfl ?_
              refine OD.nil ?_
              refine r_cond_f rfl ?_
              refine r_exit rfl ?_
              refine r_seq ?_
              refine r_region ?_
              refine OL.q (Q1.move rfl) rfl rfl ?_
              refine OL.q (Q1.move rfl) rfl rfl ?_
              obtain ⟨v2, hr3, hl8⟩ := Sl.part (P := Try.prog) ha2 Try.underlying22 ti9 encS_len (k) (r1.length) (.inr ⟨.i64, ((k : Nat) : Int), rfl, by omega⟩) (.inl ⟨rfl, rfl⟩) (by omega) (by first | assumption | omega)
              replace hl8 : Sl encS w0 G v2 (r1.drop k) := by simpa using hl8
              refine OL.q (Q1.sliceV rfl rfl rfl rfl hr3) rfl rfl ?_
              refine OL.q (Q1.assign rfl) rfl rfl ?_
              refine OL.nil ?_
              refine r_region ?_
              refine OL.q (Q1.move rfl) rfl rfl ?_
              refine OL.q (Q1.move rfl) rfl rfl ?_
              refine OL.q (Q1.move rfl) rfl rfl ?_
              refine OL.q (Q1.move rfl) rfl rfl ?_
              obtain ⟨hst, hst2⟩ := hsp.fin (by first | exact .inr ⟨_, by assumption, by assumption⟩ | exact .inl (by omega))
              have hsf := strip_facts hx2 hr1
              subst hst
              have hEInx := hEI.next2 hx2
              have hS21 : St (fun _ => False) F w0 w10 [bldR 69 66 72 bB (s ++ (rests, []) :: xs) (nds ++ RNode.mk false (SH.mk none 0 0) :: tc), nrR tc xs, accR encE 91 2 v_ES ES, slR encS [(v_b2, (stripP (pfx x2) r1))]] := hS20.freeze (i := 3) rfl
              have hnm := addM_names hsf.2.2.1 hsf.1 hsf.2.1 hnd1.2 hnd1.1
              obtain ⟨Fb, Gb, hAb, hBl, hGF, hFb, hGb, hkb⟩ := hS21.act2 (i := 0) (j := 3) rfl rfl (by decide)
              refine OL.act rfl rfl (AW.callF cl34 rfl (ih0 f2 (by omega) hAb (fun b hb => (hFb b hb).2) (slR_no hBl) hGF hGb (by simp only [List.length_append, List.length_cons]; omega) hsf.2.2.1 hsf.1 hsf.2.1 hnd1.2 hnd1.1 (by simp only [List.length_append, List.length_cons]; omega) (by omega)) ?_)
              rintro _ w11 ⟨rfl, hm9, t2, xs2, hqe, F2b, hB2, hF2b⟩
              have hS22 : St (fun _ => False) F w0 w11 [boxR [bldR 69 66 72 bB ((s ++ (rests, []) :: xs) ++ xs2) ((nds ++ RNode.mk false (SH.mk none 0 0) :: tc) ++ t2), nrR t2 xs2], nrR tc xs, accR encE 91 2 v_ES ES, slR encS [(v_b2, (stripP (pfx x2) r1))]] := hkb _ _ _ hm9 hB2 hF2b
              have ht2 := nr_len hB2
              clear hAb hBl hGF hFb hGb hkb hB2 hF2b
              have hS23 : St (fun _ => False) F w0 w11 [nrR tc xs, accR encE 91 2 v_ES ES, slR encS [(v_b2, (stripP (pfx x2) r1))], boxR [bldR 69 66 72 bB ((s ++ (rests, []) :: xs) ++ xs2) ((nds ++ RNode.mk false (SH.mk none 0 0) :: tc) ++ t2), nrR t2 xs2]] := hS22.sel [1, 2, 3, 0] (by rfl) (by decide)
              have hS24 : St (fun _ => False) F w0 w11 [nrR tc xs, accR encE 91 2 v_ES ES, slR encS [(v_b2, (stripP (pfx x2) r1))], boxR [bldR 69 66 72 bB ((s ++ (rests, []) :: xs) ++ xs2) ((nds ++ RNode.mk false (SH.mk none 0 0) :: tc) ++ t2), nrR t2 xs2]] := hS23
              have hS25 : St (fun _ => False) F w0 w11 [nrR tc xs, accR encE 91 2 v_ES ES, slR encS [(v_b2, (stripP (pfx x2) r1))], bldR 69 66 72 bB ((s ++ (rests, []) :: xs) ++ xs2) ((nds ++ RNode.mk false (SH.mk none 0 0) :: tc) ++ t2), nrR t2 xs2] := St.open (L1 := [nrR tc xs, accR encE 91 2 v_ES ES, slR encS [(v_b2, (stripP (pfx x2) r1))]]) hS24
              have hS26 : St (fun _ => False) F w0 w11 [accR encE 91 2 v_ES ES, slR encS [(v_b2, (stripP (pfx x2) r1))], bldR 69 66 72 bB ((s ++ (rests, []) :: xs) ++ xs2) ((nds ++ RNode.mk false (SH.mk none 0 0) :: tc) ++ t2), nrR tc xs, nrR t2 xs2] := hS25.sel [1, 2, 3, 0, 4] (by rfl) (by decide)
              have hS27 : St (fun _ => False) F w0 w11 [accR encE 91 2 v_ES ES, slR encS [(v_b2, (stripP (pfx x2) r1))], bldR 69 66 72 bB ((s ++ (rests, []) :: xs) ++ xs2) ((nds ++ RNode.mk false (SH.mk none 0 0) :: tc) ++ t2), boxR [nrR tc xs, nrR t2 xs2]] := St.close (L1 := [accR encE 91 2 v_ES ES, slR encS [(v_b2, (stripP (pfx x2) r1))], bldR 69 66 72 bB ((s ++ (rests, []) :: xs) ++ xs2) ((nds ++ RNode.mk false (SH.mk none 0 0) :: tc) ++ t2)]) hS26
              have hS28 : St (fun _ => False) F w0 w11 [accR encE 91 2 v_ES ES, slR encS [(v_b2, (stripP (pfx x2) r1))], bldR 69 66 72 bB ((s ++ (rests, []) :: xs) ++ xs2) ((nds ++ RNode.mk false (SH.mk none 0 0) :: tc) ++ t2), nrR (tc ++ t2) (xs ++ xs2)] := hS27.imp (i := 3) rfl (fun F_ h_ => nr_app h_)
              have hS29 : St (fun _ => False) F w0 w11 [accR encE 91 2 v_ES ES, slR encS [(v_b2, (stripP (pfx x2) r1))], bldR 69 66 72 bB (s ++ (rests, []) :: (xs ++ xs2)) (nds ++ RNode.mk false (SH.mk none 0 0) :: (tc ++ t2)), nrR (tc ++ t2) (xs ++ xs2)] := hS28.imp (i := 2) rfl (fun F_ h_ => by simpa only [List.append_assoc, List.cons_append] using h_)
              have hal := addM_len (f2 + 1) (s ++ (rests, []) :: xs) (stripP (pfx x2) r1) hsf.1
              rw [hqe] at hal
              simp only [List.length_append, List.length_cons] at hal
              have hidx : (addM (f2 + 1) (s ++ (rests, []) :: xs) (stripP (pfx x2) r1)).2 < ((s ++ (rests, []) :: xs) ++ xs2).length := by rw [← hqe]; exact addM_lt hsf.2.2.1 hsf.1 hsf.2.1 hnd1.2
              simp only [List.length_append, List.length_cons] at hidx
              refine OL.q (Q1.build (vs := #[(0, (.int .i32 (((Ml.hdN x2 : Int))) : Value)), (1, (.int .i64 ((((addM (f2 + 1) (s ++ (rests, []) :: xs) (stripP (pfx x2) r1)).2 : Nat) : Int)) : Value))]) (v := .agg #[.int .i32 (((Ml.hdN x2 : Int))), .int .i64 ((((addM (f2 + 1) (s ++ (rests, []) :: xs) (stripP (pfx x2) r1)).2 : Nat) : Int))]) rfl (fun _ => by kernel_rfl)) rfl rfl ?_
              refine OL.act rfl rfl (AW.buildSlice [(.agg #[.int .i32 (((Ml.hdN x2 : Int))), .int .i64 ((((addM (f2 + 1) (s ++ (rests, []) :: xs) (stripP (pfx x2) r1)).2 : Nat) : Int))] : Value)] Try.underlying70 ti91 rfl rfl rfl (by decide) ?_)
              intro w12 b8 hm10 hb6 hz5 hk4
              have hS30 := hS29.ext hm10
              have hl9 := Sl.of_blk (enc := encE) hk4 ([(Ed.mk (((Ml.hdN x2 : Int))) ((((addM (f2 + 1) (s ++ (rests, []) :: xs) (stripP (pfx x2) r1)).2 : Nat) : Int)))] : List Ed) 1 rfl rfl (by unfold maxLen; omega)
              have hS31 : St (fun _ => False) F w0 w12 [accR encE 91 2 v_ES ES, slR encS [(v_b2, (stripP (pfx x2) r1))], bldR 69 66 72 bB (s ++ (rests, []) :: (xs ++ xs2)) (nds ++ RNode.mk false (SH.mk none 0 0) :: (tc ++ t2)), nrR (tc ++ t2) (xs ++ xs2), slR encE [((.slice (some ⟨b8, 0, none⟩) 1 1), [(Ed.mk (((Ml.hdN x2 : Int))) ((((addM (f2 + 1) (s ++ (rests, []) :: xs) (stripP (pfx x2) r1)).2 : Nat) : Int)))])]] := hS29.newSlB hm10 hb6 hz5 hl9
              obtain ⟨g7, f15, hl10, k5⟩ := hS31.accK (i := 0) rfl
              have f16 := hS31.sl (i := 4) (k := 0) rfl rfl
              refine OL.act rfl rfl (AW.append f15 Try.underlying70 ti91 rfl encE_len encE_one rfl rfl (f16) (by first | omega | (simp only [List.length_append, List.length_cons, List.length_nil]; omega) | (simp; omega)) (by unfold maxLen; first | omega | (simp only [List.length_append, List.length_cons, List.length_nil]; omega) | (simp; omega)) ?_)
              intro v3 g6 w13 ha3 hm11 hg2 hz6
              have hS32 : St (fun _ => False) F w0 w13 [accR encE 91 2 v3 ((ES ++ [(Ed.mk (((Ml.hdN x2 : Int))) ((((addM (f2 + 1) (s ++ (rests, []) :: xs) (stripP (pfx x2) r1)).2 : Nat) : Int)))])), slR encS [(v_b2, (stripP (pfx x2) r1))], bldR 69 66 72 bB (s ++ (rests, []) :: (xs ++ xs2)) (nds ++ RNode.mk false (SH.mk none 0 0) :: (tc ++ t2)), nrR (tc ++ t2) (xs ++ xs2), slR encE [((.slice (some ⟨b8, 0, none⟩) 1 1), [(Ed.mk (((Ml.hdN x2 : Int))) ((((addM (f2 + 1) (s ++ (rests, []) :: xs) (stripP (pfx x2) r1)).2 : Nat) : Int)))])]] := k5 _ _ _ _ hm11 ha3 hg2
              clear hg2
              refine OL.q (Q1.assign rfl) rfl rfl ?_
              refine OL.nil ?_
              refine r_inBlock ?_
              have hS33 : St (fun _ => False) F w0 w13 [bldR 69 66 72 bB (s ++ (rests, []) :: (xs ++ xs2)) (nds ++ RNode.mk false (SH.mk none 0 0) :: (tc ++ t2)), nrR (tc ++ t2) (xs ++ xs2), accR encE 91 2 v3 ((ES ++ [(Ed.mk (((Ml.hdN x2 : Int))) ((((addM (f2 + 1) (s ++ (rests, []) :: xs) (stripP (pfx x2) r1)).2 : Nat) : Int)))]))] := hS32.sel [2, 3, 0] (by rfl) (by decide)
              exact (ih1 _ _ _ ⟨(v2 : Value), ((r1.drop k) : List Str), (v3 : Value), ((ES ++ [(Ed.mk (((Ml.hdN x2 : Int))) ((((addM (f2 + 1) (s ++ (rests, []) :: xs) (stripP (pfx x2) r1)).2 : Nat) : Int)))]) : List Ed), ((xs ++ xs2) : GS), ((tc ++ t2) : List RNode), rfl, rfl, hS33, hl8, (by first | exact EInv.cast hEInx (by rw [hqe]; simp) hst2.symm | (exfalso; omega)), (by first | exact ⟨by rw [hst2]; exact hr1.1.more _, fun t ht => hr1.2.1 t (List.mem_of_mem_drop ht), fun t ht => hr1.2.2 t (List.mem_of_mem_drop ht)⟩ | (exfalso; omega)), (by first | rw [show s ++ (rests, []) :: (xs ++ xs2) = (s ++ (rests, []) :: xs) ++ xs2 by simp, ← hqe]; exact hnm | (exfalso; omega)), (by first | rw [hst2]; simp only [List.length_append]; omega | (exfalso; omega)), (by first | rw [hst2]; simp only [List.length_append, List.length_cons, List.length_nil]; omega | (exfalso; omega)), (by first | simp only [List.length_append]; omega | (exfalso; omega))⟩ (by rw [hst2]; omega)).sub ⟨rfl, rfl, rfl, rfl, rfl, trivial⟩
        | false =>
          replace hb4 := of_decide_eq_false hb4.symm
          refine r_cond_f rfl ?_
          refine r_exit rfl ?_
          refine r_seq ?_
          refine r_region ?_
          obtain ⟨⟨bG2, bM2, vN2⟩, hS17⟩ := hS14.exo (i := 0) rfl
          change St (fun _ => False) F w0 w7 [boxR [bkR bB [ptr bG2 0, .map (some bM2)] 69, bkR bG2 [vN2] 66, mapR strV intV bM2 (mapK ((s ++ (rests, []) :: xs))), accR encN 72 2 vN2 ((nds ++ RNode.mk false (SH.mk none 0 0) :: tc))], nrR tc xs, accR encE 91 2 v_ES ES] at hS17
          have hS18 : St (fun _ => False) F w0 w7 [nrR tc xs, accR encE 91 2 v_ES ES, boxR [bkR bB [ptr bG2 0, .map (some bM2)] 69, bkR bG2 [vN2] 66, mapR strV intV bM2 (mapK ((s ++ (rests, []) :: xs))), accR encN 72 2 vN2 ((nds ++ RNode.mk false (SH.mk none 0 0) :: tc))]] := hS17.sel [1, 2, 0] (by rfl) (by decide)
          have hS19 : St (fun _ => False) F w0 w7 [nrR tc xs, accR encE 91 2 v_ES ES, boxR [bkR bB [ptr bG2 0, .map (some bM2)] 69, bkR bG2 [vN2] 66, mapR strV intV bM2 (mapK ((s ++ (rests, []) :: xs))), accR encN 72 2 vN2 ((nds ++ RNode.mk false (SH.mk none 0 0) :: tc))]] := hS18
          have hS20 : St (fun _ => False) F w0 w7 [nrR tc xs, accR encE 91 2 v_ES ES, bkR bB [ptr bG2 0, .map (some bM2)] 69, bkR bG2 [vN2] 66, mapR strV intV bM2 ((mapK ((s ++ (rests, []) :: xs)))), accR encN 72 2 vN2 ((nds ++ RNode.mk false (SH.mk none 0 0) :: tc))] := St.open (L1 := [nrR tc xs, accR encE 91 2 v_ES ES]) hS19
          refine OL.q (Q1.move rfl) rfl rfl ?_
          refine OL.q (Q1.nilCheckP rfl) rfl rfl ?_
          refine OL.q (Q1.fieldAddr fl69_0 rfl) rfl rfl ?_
          have f14 := hS20.bk (i := 2) rfl
          refine OL.q (Q1.load1 ti27 rfl (fun _ e => e ▸ (f14.cell 0 _ rfl))) rfl rfl ?_
          refine OL.q (Q1.nilCheckP rfl) rfl rfl ?_
          refine OL.q (Q1.fieldAddr fl66_0 rfl) rfl rfl ?_
          have f15 := hS20.bk (i := 3) rfl
          refine OL.q (Q1.load1 ti64 rfl (fun _ e => e ▸ (f15.cell 0 _ rfl))) rfl rfl ?_
          refine OL.q (Q1.move rfl) rfl rfl ?_
          refine OL.q (Q1.move rfl) rfl rfl ?_
          refine OL.q (Q1.move rfl) rfl rfl ?_
          obtain ⟨g6, f16, hl7, k5⟩ := hS20.accK (i := 1) rfl
          obtain ⟨ad2, cp2, hv2⟩ := f16.shape
          subst hv2
          refine OL.q (Q1.build (vs := #[(0, (.bool false : Value)), (1, (.slice ad2 ES.length cp2))]) (v := .agg #[.bool false, (.slice ad2 ES.length cp2)]) rfl (fun _ => by kernel_rfl)) rfl rfl ?_
          obtain ⟨g7, f17, hl8, k6⟩ := hS20.accK (i := 5) rfl
          obtain ⟨hr2, x2, hx2⟩ := Acc.at (P := Try.prog) f17 Try.underlying64 ti72 (k := .i64) (n := ((nds.length : Nat) : Int)) (nds.length) (by omega) (by first | assumption | omega | (simp; done))
          refine OL.q (Q1.indexAddr rfl rfl hr2) rfl rfl ?_
          refine OL.act rfl rfl (AW.storeA f17 encN_len (i := nds.length) (o := 0) hx2 ((RNode.mk false (SH.mk ad2 ES.length cp2))) ti72 rfl (by first | omega | rfl) rfl rfl rfl rfl (by decide) (by first | rfl | simp [encN]) ?_)
          intro w8 hm7 hz5 ha3
          have hl9 : (((nds ++ RNode.mk false (SH.mk none 0 0) :: tc)).set nds.length ((RNode.mk false (SH.mk ad2 ES.length cp2)))).length = ((nds ++ RNode.mk false (SH.mk none 0 0) :: tc)).length := List.length_set
          have hS21 : St (fun _ => False) F w0 w8 [nrR tc xs, accR encE 91 2 ((.slice ad2 ES.length cp2)) ES, bkR bB [ptr bG2 0, .map (some bM2)] 69, bkR bG2 [vN2] 66, mapR strV intV bM2 ((mapK ((s ++ (rests, []) :: xs)))), accR encN 72 2 vN2 ((((nds ++ RNode.mk false (SH.mk none 0 0) :: tc)).set nds.length ((RNode.mk false (SH.mk ad2 ES.length cp2)))))] := k6 _ _ _ _ hm7 ha3 (.inl rfl)
          refine OL.nil ?_
          refine r_seq ?_
          refine r_region ?_
          refine OL.q (Q1.move rfl) rfl rfl ?_
          refine OL.q (Q1.assign rfl) rfl rfl ?_
          refine OL.nil ?_
          refine r_ret1 Try.func34 rfl rfl ?_
          have hr0 : r1 = [] := List.eq_nil_of_length_eq_zero (by omega)
          subst hr0
          have hAD := addM_miss hfi hEI.fin
          have hS22 : St (fun _ => False) F w0 w8 [nrR tc xs, accR encE 91 2 ((.slice ad2 ES.length cp2)) ES, bkR bB [ptr bG2 0, .map (some bM2)] 69, bkR bG2 [vN2] 66, mapR strV intV bM2 ((mapK ((s ++ (rests, []) :: xs)))), accR encN 72 2 vN2 ((nds ++ (RNode.mk false (SH.mk ad2 ES.length cp2)) :: tc))] := hS21.imp (i := 5) rfl (fun F_ h_ => by rw [show (((nds ++ RNode.mk false (SH.mk none 0 0) :: tc)).set nds.length ((RNode.mk false (SH.mk ad2 ES.length cp2)))) = (nds ++ (RNode.mk false (SH.mk ad2 ES.length cp2)) :: tc) from by simp [List.set_append_right, hlen]] at h_; exact h_)
          have hS23 : St (fun _ => False) F w0 w8 [nrR tc xs, accR encE 91 2 ((.slice ad2 ES.length cp2)) ES, bkR bB [ptr bG2 0, .map (some bM2)] 69, bkR bG2 [vN2] 66, mapR strV intV bM2 ((mapK (s ++ (rests, ES) :: xs))), accR encN 72 2 vN2 ((nds ++ (RNode.mk false (SH.mk ad2 ES.length cp2)) :: tc))] := hS22.imp (i := 4) rfl (fun F_ h_ => by rw [show mapK (s ++ (rests, []) :: xs) = mapK (s ++ (rests, ES) :: xs) from mapK_es _ _ _ _ _] at h_; exact h_)
          have hS24 : St (fun _ => False) F w0 w8 [nrR tc xs, accR encE 91 2 ((.slice ad2 ES.length cp2)) ES, boxR [bkR bB [ptr bG2 0, .map (some bM2)] 69, bkR bG2 [vN2] 66, mapR strV intV bM2 ((mapK (s ++ (rests, ES) :: xs))), accR encN 72 2 vN2 ((nds ++ (RNode.mk false (SH.mk ad2 ES.length cp2)) :: tc))]] := St.close (L1 := [nrR tc xs, accR encE 91 2 ((.slice ad2 ES.length cp2)) ES]) hS23
          have hS25 : St (fun _ => False) F w0 w8 [nrR tc xs, accR encE 91 2 ((.slice ad2 ES.length cp2)) ES, bldR 69 66 72 bB (s ++ (rests, ES) :: xs) (nds ++ (RNode.mk false (SH.mk ad2 ES.length cp2)) :: tc)] := hS24.exi (bG2, bM2, vN2) (i := 2) rfl
          have hS26 : St (fun _ => False) F w0 w8 [bldR 69 66 72 bB (s ++ (rests, ES) :: xs) (nds ++ (RNode.mk false (SH.mk ad2 ES.length cp2)) :: tc), accR encE 91 2 ((.slice ad2 ES.length cp2)) ES, nrR tc xs] := hS25.sel [2, 1, 0] (by rfl) (by decide)
          have hS27 : St (fun _ => False) F w0 w8 [bldR 69 66 72 bB (s ++ (rests, ES) :: xs) (nds ++ (RNode.mk false (SH.mk ad2 ES.length cp2)) :: tc), boxR [accR encE 91 2 ((.slice ad2 ES.length cp2)) ES, nrR tc xs]] := St.close (L1 := [bldR 69 66 72 bB (s ++ (rests, ES) :: xs) (nds ++ (RNode.mk false (SH.mk ad2 ES.length cp2)) :: tc)]) hS26
          have hS28 : St (fun _ => False) F w0 w8 [bldR 69 66 72 bB (s ++ (rests, ES) :: xs) (nds ++ (RNode.mk false (SH.mk ad2 ES.length cp2)) :: tc), nrR ((RNode.mk false (SH.mk ad2 ES.length cp2)) :: tc) ((rests, ES) :: xs)] := hS27.imp (i := 1) rfl (fun F_ h_ => nr_cons rfl hdre.2.symm h_)
          have hS29 : St (fun _ => False) F w0 w8 [boxR [bldR 69 66 72 bB (s ++ (rests, ES) :: xs) (nds ++ (RNode.mk false (SH.mk ad2 ES.length cp2)) :: tc), nrR ((RNode.mk false (SH.mk ad2 ES.length cp2)) :: tc) ((rests, ES) :: xs)]] := St.close (L1 := []) hS28
          obtain ⟨hmF, F2, hA2, hF2⟩ := hS29.fin
          exact Ret.mk ⟨by rw [hAD]; simp [hlen], hmF, (RNode.mk false (SH.mk ad2 ES.length cp2)) :: tc, (rests, ES) :: xs, by rw [hAD], F2, hA2, hF2⟩
  | some i0 =>
    have hasc : asc (mapK s) (joinS rests) = some (i0 : Int) := by rw [asc_mapK hg.noff hne s hnok, hfi]; rfl
    refine OL.q (Q1.lookupHit (key := strV) (val := intV) (keyOk_str Try.underlying9) Try.underlying67 Try.zeroValue3 rfl rfl (fun _ e => e ▸ f2) hasc) rfl rfl ?_
    refine OL.q (Q1.move rfl) rfl rfl ?_
    refine OL.q (Q1.extract rfl rfl) rfl rfl ?_
    refine OL.q (Q1.extract rfl rfl) rfl rfl ?_
    refine OL.q (Q1.assign rfl) rfl rfl ?_
    refine OL.q (Q1.assign rfl) rfl rfl ?_
    refine OL.nil ?_
    refine r_seq ?_
    refine r_region ?_
    refine OL.q (Q1.move rfl) rfl rfl ?_
    refine OL.nil ?_
    refine r_cond_t rfl ?_
    refine r_seq ?_
    refine r_region ?_
    refine OL.q (Q1.move rfl) rfl rfl ?_
    refine OL.q (Q1.assign rfl) rfl rfl ?_
    refine OL.nil ?_
    refine r_ret1 Try.func34 rfl rfl ?_
    have hS4 : St (fun _ => False) F w0 w1 [boxR [bkR bB [ptr bG1 0, .map (some bM1)] 69, bkR bG1 [vN1] 66, mapR strV intV bM1 ((mapK s)), accR encN 72 2 vN1 nds]] := St.close (L1 := []) hS3
    have hS5 : St (fun _ => False) F w0 w1 [bldR 69 66 72 bB s nds] := hS4.exi (bG1, bM1, vN1) (i := 0) rfl
    have hS6 : St (fun _ => False) F w0 w1 [bldR 69 66 72 bB s nds, nrR [] []] := hS5.new (Mod.refl _ _) (F := fun _ => False) (All2.nil : NR _ _ [] []) (fun _ h => h.elim)
    have hS7 : St (fun _ => False) F w0 w1 [bldR 69 66 72 bB (s ++ []) (nds ++ []), nrR [] []] := hS6.imp (i := 0) rfl (fun F_ h_ => by simpa using h_)
    have hS8 : St (fun _ => False) F w0 w1 [boxR [bldR 69 66 72 bB (s ++ []) (nds ++ []), nrR [] []]] := St.close (L1 := []) hS7
    obtain ⟨hmF, F2, hA2, hF2⟩ := hS8.fin
    exact Ret.mk ⟨by rw [addM_hit hfi]; rfl, hmF, [], [], by rw [addM_hit hfi]; simp, F2, hA2, hF2⟩
end Go.Proofs
