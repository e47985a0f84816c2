/-
  What the law DiskScript needs, part 4 of 7: theory, and walks through the code.
-/
import Derived.Test.YtajedfbogchkcaaGreatSDiskScriptC
set_option linter.unusedVariables false
set_option linter.unusedSimpArgs false
namespace Go.Proofs
open Go.Ik Go.Ml
set_option maxRecDepth 20000 in
set_option maxHeartbeats 8000000 in
theorem node_c : ∀ (f : Nat) {w0 : World} {F G : Nat → Prop} {bB : Nat} {v_r : Value} {rests : List Str} {nds : List RNode} {s : GS} (hB : (bldR 108 105 111 bB s nds).p F w0) (hF : ∀ b, F b → b < w0.heap.size) (hr : Sl encS w0 G v_r rests) (hG : ∀ b, G b → ¬ F b) (hGl : ∀ b, G b → b < w0.heap.size) (hlen : nds.length = s.length) (hd : Deep f rests) (hg : GoodR rests) (hne : rests ≠ []) (hnd : (names s).Nodup) (hnok : NamesOk s) (hsz : s.length + 1 + sumLen rests ≤ 1000000) (hrl : rests.length ≤ 1000),
    Calls Tryz.prog 66 #[ptr bB 0, v_r] w0 (Ret fun rv w1 => rv = .int .i64 ((addM (f + 1) s rests).2 : Int) ∧ Mod F w0 w1 ∧ ∃ t xs, (addM (f + 1) s rests).1 = s ++ xs ∧ ∃ F2, (boxR [bldR 108 105 111 bB (s ++ xs) (nds ++ t), nrR t xs]).p F2 w1 ∧ ∀ b, F2 b → b < w1.heap.size ∧ (F b ∨ w0.heap.size ≤ b)) := by
  intro f
  induction f using Nat.strongRecOn with
  | _ f ih0 =>
  intro w0 F G bB v_r rests nds s hB hF hr hG hGl hlen hd hg hne hnd hnok hsz hrl
  have hS00 := St.start1 hB (fun b hb => ⟨hF b hb, id⟩) (fun _ h => h.elim)
  have hpos := List.length_pos_iff.2 hne
  have hle1 := hr.le
  have hdr := dropE_good hg
  have hsd := sumLen_dropE rests
  have hdl := dropE_len rests
  obtain ⟨⟨bG1, bM1, vN1⟩, hS1⟩ := hS00.exo (i := 0) rfl
  change St (fun _ => False) F w0 w0 [boxR [bkR bB [ptr bG1 0, .map (some bM1)] 108, bkR bG1 [vN1] 105, mapR strV intV bM1 (mapK s), accR encN 111 2 vN1 nds]] at hS1
  have hS2 : St (fun _ => False) F w0 w0 [bkR bB [ptr bG1 0, .map (some bM1)] 108, bkR bG1 [vN1] 105, mapR strV intV bM1 ((mapK s)), accR encN 111 2 vN1 nds] := St.open (L1 := []) hS1
  refine calls_enter Tryz.func66 rfl Tryz.ntmps66 rfl ?_
  refine r_seq ?_
  refine r_region ?_
  refine OL.q (Q1.assign rfl) rfl rfl ?_
  refine OL.nil ?_
  refine r_seq ?_
  refine r_region ?_
  refine OL.q (Q1.move rfl) rfl rfl ?_
  refine OL.act rfl rfl (AW.callF cl82 rfl (join_own Tryz.joinL joinX (w0 := w0) hr hne hGl (by omega)) ?_)
  rintro _ w1 ⟨rfl, hm1⟩
  have hS3 := hS2.ext hm1
  refine OL.q (Q1.assign rfl) rfl rfl ?_
  refine OL.nil ?_
  refine r_seq ?_
  refine r_seq ?_
  refine r_region ?_
  refine OL.q (Q1.move rfl) rfl rfl ?_
  refine OL.q (Q1.nilCheckP rfl) rfl rfl ?_
  refine OL.q (Q1.fieldAddr fl108_1 rfl) rfl rfl ?_
  have f1 := hS3.bk (i := 0) rfl
  refine OL.q (Q1.load1 ti106 rfl (fun _ e => e ▸ (f1.cell 1 _ rfl))) rfl rfl ?_
  refine OL.q (Q1.move rfl) rfl rfl ?_
  have f2 := hS3.map (i := 2) rfl
  cases hfi : s.findIdx? (fun x => x.1 == rests) with
  | none =>
    have hasc : asc (mapK s) (joinS rests) = none := by rw [asc_mapK hg.noff hne s hnok, hfi]; rfl
    refine OL.q (Q1.lookupMiss (key := strV) (val := intV) (keyOk_str Tryz.underlying9) Tryz.underlying106 Tryz.zeroValue3 rfl rfl (fun _ e => e ▸ f2) hasc) rfl rfl ?_
    refine OL.q (Q1.move rfl) rfl rfl ?_
    refine OL.q (Q1.extract rfl rfl) rfl rfl ?_
    refine OL.q (Q1.extract rfl rfl) rfl rfl ?_
    refine OL.q (Q1.assign rfl) rfl rfl ?_
    refine OL.q (Q1.assign rfl) rfl rfl ?_
    refine OL.nil ?_
    refine r_seq ?_
    refine r_region ?_
    refine OL.q (Q1.move rfl) rfl rfl ?_
    refine OL.nil ?_
    refine r_cond_f rfl ?_
    refine r_skip ?_
    refine r_seq ?_
    refine r_region ?_
    refine OL.q (Q1.move rfl) rfl rfl ?_
    refine OL.q (Q1.nilCheckP rfl) rfl rfl ?_
    refine OL.q (Q1.fieldAddr fl108_0 rfl) rfl rfl ?_
    refine OL.q (Q1.load1 ti92 rfl (fun _ e => e ▸ (f1.cell 0 _ rfl))) rfl rfl ?_
    refine OL.q (Q1.nilCheckP rfl) rfl rfl ?_
    refine OL.q (Q1.fieldAddr fl105_0 rfl) rfl rfl ?_
    have f3 := hS3.bk (i := 1) rfl
    refine OL.q (Q1.load1 ti103 rfl (fun _ e => e ▸ (f3.cell 0 _ rfl))) rfl rfl ?_
    obtain ⟨g1, f4, hl1, k1⟩ := hS3.accK (i := 3) rfl
    refine OL.q (Q1.lenSl Tryz.underlying103 (f4.sl) rfl) rfl rfl ?_
    refine OL.q (Q1.assign rfl) rfl rfl ?_
    refine OL.nil ?_
    refine r_seq ?_
    refine r_region ?_
    refine OL.q (Q1.move rfl) rfl rfl ?_
    refine OL.q (Q1.nilCheckP rfl) rfl rfl ?_
    refine OL.q (Q1.fieldAddr fl108_1 rfl) rfl rfl ?_
    refine OL.q (Q1.load1 ti106 rfl (fun _ e => e ▸ (f1.cell 1 _ rfl))) rfl rfl ?_
    refine OL.q (Q1.move rfl) rfl rfl ?_
    refine OL.q (Q1.move rfl) rfl rfl ?_
    refine OL.act rfl rfl (AW.mapNew (key := strV) (val := intV) (u := ((nds.length : Nat) : Int)) (keyOk_str Tryz.underlying9) Tryz.underlying106 rfl rfl rfl f2 hasc ?_)
    intro w2 hm2 hz1 hk1
    replace hk1 : MapO strV intV w2 bM1 (mapK (s ++ [(rests, [])])) := mapO_cast hk1 (by rw [mapK_snoc, hlen])
    have hS4 : St (fun _ => False) F w0 w2 [bkR bB [ptr bG1 0, .map (some bM1)] 108, bkR bG1 [vN1] 105, mapR strV intV bM1 ((mapK (s ++ [(rests, [])]))), accR encN 111 2 vN1 nds] := hS3.mapK (i := 2) rfl hm2 hk1
    refine OL.nil ?_
    refine r_seq ?_
    obtain ⟨g2, f5, hl2, k2⟩ := hS4.accK (i := 3) rfl
    refine r_draw1 (fun i => Nat.beq i 12 || Nat.beq i 13 || Nat.beq i 16) 16 (fun w' => Mod (Mg g2) w2 w') mixed (by kernel_rfl) ?_
    intro w3 hm3
    have hS5 := hS4.ext hm3
    have hCw3 : Mod (Mg g2) w2 w3 := Mod.ofExt hm3
    refine ⟨hCw3, ?_⟩
    rw [show List.range' 0 (Array.size _) = [0, 1, 2, 3, 4, 5, 6, 7, 8, 9, 10, 11, 12, 13, 14, 15, 16] from rfl]
    refine OD.q rfl rfl (Q1.move rfl) rfl rfl ?_
    refine OD.q rfl rfl (Q1.nilCheckP rfl) rfl rfl ?_
    refine OD.q rfl rfl (Q1.fieldAddr fl108_0 rfl) rfl rfl ?_
    have f6 := hS4.bk (i := 0) rfl
    refine OD.q rfl rfl (Q1.load1 ti92 rfl (fun _ hc => (f6.cell 0 _ rfl).keepG hc (hS4.ne (i := 3) (j := 0) rfl rfl (by decide) f5))) rfl rfl ?_
    refine OD.q rfl rfl (Q1.move rfl) rfl rfl ?_
    refine OD.q rfl rfl (Q1.nilCheckP rfl) rfl rfl ?_
    refine OD.q rfl rfl (Q1.fieldAddr fl108_0 rfl) rfl rfl ?_
    refine OD.q rfl rfl (Q1.load1 ti92 rfl (fun _ hc => (f6.cell 0 _ rfl).keepG hc (hS4.ne (i := 3) (j := 0) rfl rfl (by decide) f5))) rfl rfl ?_
    refine OD.q rfl rfl (Q1.nilCheckP rfl) rfl rfl ?_
    refine OD.q rfl rfl (Q1.fieldAddr fl105_0 rfl) rfl rfl ?_
    have f7 := hS4.bk (i := 1) rfl
    refine OD.q rfl rfl (Q1.load1 ti103 rfl (fun _ hc => (f7.cell 0 _ rfl).keepG hc (hS4.ne (i := 3) (j := 1) rfl rfl (by decide) f5))) rfl rfl ?_
    refine OD.q rfl rfl (Q1.build (vs := #[]) (v := .agg #[.bool false, .slice none 0 0]) rfl (fun _ => by kernel_rfl)) rfl rfl ?_
    refine OD.act rfl rfl rfl rfl (AW.buildSlice [(.agg #[.bool false, .slice none 0 0] : Value)] Tryz.underlying103 ti111 rfl rfl rfl (by decide) ?_)
    intro w4 b1 hm4 hb1 hz2 hk2
    have hS6 := hS5.ext hm4
    have hl3 := Sl.of_blk (enc := encN) hk2 ([(RNode.mk false (SH.mk none 0 0))] : List RNode) 1 rfl rfl (by unfold maxLen; omega)
    have hS7 : St (fun _ => False) F w0 w4 [bkR bB [ptr bG1 0, .map (some bM1)] 108, bkR bG1 [vN1] 105, mapR strV intV bM1 ((mapK (s ++ [(rests, [])]))), accR encN 111 2 vN1 nds, slR encN [((.slice (some ⟨b1, 0, none⟩) 1 1), [(RNode.mk false (SH.mk none 0 0))])]] := hS5.newSlB hm4 hb1 hz2 hl3
    have hCw4 := hCw3.ext hm4
    refine ⟨.inr hCw4, ?_⟩
    obtain ⟨g4, f8, hl4, k3⟩ := hS7.accK (i := 3) rfl
    have he1 := Acc.uniq f5 f8
    subst he1
    have f9 := hS7.sl (i := 4) (k := 0) rfl rfl
    refine OD.act rfl rfl rfl rfl (AW.append f8 Tryz.underlying103 ti111 rfl encN_len encN_one rfl rfl (f9) (by first | omega | (simp only [List.length_append, List.length_cons, List.length_nil]; omega) | (simp; omega)) (by unfold maxLen; first | omega | (simp only [List.length_append, List.length_cons, List.length_nil]; omega) | (simp; omega)) ?_)
    intro v1 g3 w5 ha1 hm5 hg1 hz3
    have hS8 : St (fun _ => False) F w0 w5 [bkR bB [ptr bG1 0, .map (some bM1)] 108, bkR bG1 [vN1] 105, mapR strV intV bM1 ((mapK (s ++ [(rests, [])]))), accR encN 111 2 v1 ((nds ++ [(RNode.mk false (SH.mk none 0 0))])), slR encN [((.slice (some ⟨b1, 0, none⟩) 1 1), [(RNode.mk false (SH.mk none 0 0))])]] := k3 _ _ _ _ hm5 ha1 hg1
    have hCw5 := hCw4.trans hm5
    refine ⟨.inr hCw5, ?_⟩
    clear hg1
    refine OD.q rfl rfl (Q1.nilCheckP rfl) rfl rfl ?_
    refine OD.q rfl rfl (Q1.fieldAddr fl105_0 rfl) rfl rfl ?_
    obtain ⟨g5, f10, hl5, k4⟩ := hS8.accK (i := 3) rfl
    obtain ⟨ad1, cp1, hv1⟩ := f10.shape
    subst hv1
    have f11 := hS8.bk (i := 1) rfl
    refine OD.act rfl rfl rfl rfl (AW.store ti103 rfl rfl rfl rfl rfl f11 (Nat.le_of_ble_eq_true rfl) ?_)
    intro w6 hm6 hz4 hk3
    have hS9 : St (fun _ => False) F w0 w6 [bkR bB [ptr bG1 0, .map (some bM1)] 108, bkR bG1 [(.slice ad1 ((nds ++ [(RNode.mk false (SH.mk none 0 0))])).length cp1)] 105, mapR strV intV bM1 ((mapK (s ++ [(rests, [])]))), accR encN 111 2 ((.slice ad1 ((nds ++ [(RNode.mk false (SH.mk none 0 0))])).length cp1)) ((nds ++ [(RNode.mk false (SH.mk none 0 0))])), slR encN [((.slice (some ⟨b1, 0, none⟩) 1 1), [(RNode.mk false (SH.mk none 0 0))])]] := hS8.bkK (i := 1) rfl hm6 hk3
    refine ⟨.inl rfl, ?_⟩
    refine OD.nil ?_
    refine r_seq ?_
    refine r_region ?_
    refine OL.q (Q1.move rfl) rfl rfl ?_
    have f12 := hS9.out hr hG
    refine OL.q (Q1.lenSl Tryz.underlying22 (f12) rfl) rfl rfl ?_
    refine OL.qb (Q1.gt rfl rfl) rfl rfl ?_
    intro b2 hb2
    obtain rfl : b2 = true := hb2.trans (by exact decide_eq_true (by have := List.length_pos_iff.2 hne; omega))
    refine OL.q (Q1.move rfl) rfl rfl ?_
    refine OL.q (Q1.move rfl) rfl rfl ?_
    obtain ⟨x1, b3, o1, hx1, hr1, hl6, hw1⟩ := Sl.atF (P := Tryz.prog) f12 Tryz.underlying22 ti9 encS_len (k := .i64) (n := 0) (0) (by omega) (by first | assumption | omega)
    refine OL.q (Q1.indexAddr rfl rfl hr1) rfl rfl ?_
    refine OL.q (Q1.load1 ti9 rfl (fun _ e => e ▸ hw1)) rfl rfl ?_
    refine OL.qb (Q1.eqS rfl rfl) rfl rfl ?_
    intro b4 hb3
    refine OL.q (Q1.pick_t rfl rfl) rfl rfl ?_
    refine OL.q (Q1.assign rfl) rfl rfl ?_
    refine OL.nil ?_
    refine r_seq ?_
    refine r_seq ?_
    refine r_region ?_
    refine OL.q (Q1.move rfl) rfl rfl ?_
    refine OL.nil ?_
    cases b4 with
    | true =>
      replace hb3 := eq_of_beq hb3.symm
      refine r_cond_t rfl ?_
      refine r_region ?_
      refine OL.q (Q1.move rfl) rfl rfl ?_
      obtain ⟨v2, hr2, hl7⟩ := Sl.part (P := Tryz.prog) hr Tryz.underlying22 ti9 encS_len (1) (rests.length) (.inr ⟨.i64, 1, rfl, by omega⟩) (.inl ⟨rfl, rfl⟩) (by omega) (by first | assumption | omega)
      replace hl7 : Sl encS w0 G v2 (rests.drop 1) := by simpa using hl7
      refine OL.q (Q1.sliceV rfl rfl rfl rfl hr2) rfl rfl ?_
      refine OL.q (Q1.assign rfl) rfl rfl ?_
      refine OL.nil ?_
      refine r_seq ?_
      refine r_region ?_
      refine OL.q (Q1.assign rfl) rfl rfl ?_
      have hdre := dropE_nil hx1 (by assumption)
      have hS10 : St (fun _ => False) F w0 w6 [slR encN [((.slice (some ⟨b1, 0, none⟩) 1 1), [(RNode.mk false (SH.mk none 0 0))])], bkR bB [ptr bG1 0, .map (some bM1)] 108, bkR bG1 [(.slice ad1 ((nds ++ [(RNode.mk false (SH.mk none 0 0))])).length cp1)] 105, mapR strV intV bM1 ((mapK (s ++ [(rests, [])]))), accR encN 111 2 ((.slice ad1 ((nds ++ [(RNode.mk false (SH.mk none 0 0))])).length cp1)) ((nds ++ [(RNode.mk false (SH.mk none 0 0))]))] := hS9.sel [4, 0, 1, 2, 3] (by rfl) (by decide)
      have hS11 : St (fun _ => False) F w0 w6 [slR encN [((.slice (some ⟨b1, 0, none⟩) 1 1), [(RNode.mk false (SH.mk none 0 0))])], boxR [bkR bB [ptr bG1 0, .map (some bM1)] 108, bkR bG1 [(.slice ad1 ((nds ++ [(RNode.mk false (SH.mk none 0 0))])).length cp1)] 105, mapR strV intV bM1 ((mapK (s ++ [(rests, [])]))), accR encN 111 2 ((.slice ad1 ((nds ++ [(RNode.mk false (SH.mk none 0 0))])).length cp1)) ((nds ++ [(RNode.mk false (SH.mk none 0 0))]))]] := St.close (L1 := [slR encN [((.slice (some ⟨b1, 0, none⟩) 1 1), [(RNode.mk false (SH.mk none 0 0))])]]) hS10
      have hS12 : St (fun _ => False) F w0 w6 [slR encN [((.slice (some ⟨b1, 0, none⟩) 1 1), [(RNode.mk false (SH.mk none 0 0))])], bldR 108 105 111 bB (s ++ (rests, []) :: []) (nds ++ RNode.mk false (SH.mk none 0 0) :: [])] := hS11.exi (bG1, bM1, (.slice ad1 ((nds ++ [(RNode.mk false (SH.mk none 0 0))])).length cp1)) (i := 1) rfl
      have hS13 : St (fun _ => False) F w0 w6 [slR encN [((.slice (some ⟨b1, 0, none⟩) 1 1), [(RNode.mk false (SH.mk none 0 0))])], bldR 108 105 111 bB (s ++ (rests, []) :: []) (nds ++ RNode.mk false (SH.mk none 0 0) :: []), nrR [] []] := hS12.new (Mod.refl _ _) (F := fun _ => False) (All2.nil : NR _ _ [] []) (fun _ h => h.elim)
      refine OL.nil ?_
      refine r_seq ?_
      refine r_block ?_
      have hS15 : St (fun _ => False) F w0 w6 [slR encN [((.slice (some ⟨b1, 0, none⟩) 1 1), [(RNode.mk false (SH.mk none 0 0))])], bldR 108 105 111 bB (s ++ (rests, []) :: []) (nds ++ RNode.mk false (SH.mk none 0 0) :: []), nrR [] [], accR encE 114 2 (.slice none 0 0) []] := hS13.newAcc (Mod.refl _ _) Acc.nil (.inl rfl)
      have hS16 : St (fun _ => False) F w0 w6 [bldR 108 105 111 bB (s ++ (rests, []) :: []) (nds ++ RNode.mk false (SH.mk none 0 0) :: []), nrR [] [], accR encE 114 2 (.slice none 0 0) []] := hS15.sel [1, 2, 3] (by rfl) (by decide)
      refine r_loop (I := fun m E W => ∃ (v_r1 : Value) (r1 : List Str) (v_ES : Value) (ES : List Ed) (xs : GS) (tc : List RNode), E = [(0, ptr bB 0), (1, v_r1), (8, .int .i64 (((nds.length : Nat) : Int))), (9, .bool true), (10, v_ES)] ∧ m = r1.length ∧ St (fun _ => False) F w0 W [bldR 108 105 111 bB (s ++ (rests, []) :: xs) (nds ++ RNode.mk false (SH.mk none 0 0) :: tc), nrR tc xs, accR encE 114 2 v_ES ES] ∧ Sl encS w0 G v_r1 r1 ∧ (EInv f (s ++ [(rests, [])]) (groups (dropE rests)) (s ++ (rests, []) :: xs) ES r1) ∧ (GoodR r1 ∧ (∀ t ∈ r1, t ≠ []) ∧ Deep f r1) ∧ (NamesOk (s ++ (rests, []) :: xs) ∧ (names (s ++ (rests, []) :: xs)).Nodup) ∧ (s.length + 1 + xs.length + sumLen r1 ≤ 1000000) ∧ (ES.length + r1.length ≤ 1000) ∧ (tc.length = xs.length)) ?_ ?_
      · refine ⟨_, _, ⟨(v2 : Value), ((rests.drop 1) : List Str), (.slice none 0 0 : Value), ([] : List Ed), ([] : GS), ([] : List RNode), rfl, rfl, hS16, hl7, (by first | (rw [hdre.1]; exact EInv.start f _ _)), (by rw [← hdre.1]; exact ⟨hdr.1, hdr.2, fun t ht => hd t (dropE_mem ht)⟩), (by exact names_put hfi hnd hnok hne hg.noff), (by rw [← hdre.1]; simp only [List.length_nil]; omega), (by rw [← hdre.1]; simp only [List.length_nil]; omega), (by rfl)⟩, ⟨rfl, rfl, rfl, rfl, rfl, trivial⟩⟩
      · rintro _ _ w7 ⟨v_r1, r1, v_ES, ES, xs, tc, rfl, rfl, hS14, ha2, hEI, hr1, hnd1, hs1, hel, htc⟩ ih1
        refine r_seq ?_
        refine r_seq ?_
        refine r_region ?_
        refine OL.q (Q1.move rfl) rfl rfl ?_
        have f13 := hS14.out ha2 hG
        refine OL.q (Q1.lenSl Tryz.underlying22 (f13) rfl) rfl rfl ?_
        refine OL.qb (Q1.gt rfl rfl) rfl rfl ?_
        intro b5 hb4
        refine OL.nil ?_
        cases b5 with
        | true =>
          replace hb4 := of_decide_eq_true hb4.symm
          refine r_cond_t rfl ?_
          refine r_skip ?_
          refine r_block ?_
          refine r_seq ?_
          refine r_region ?_
          refine OL.q (Q1.move rfl) rfl rfl ?_
          obtain ⟨x2, b6, o2, hx2, hr3, hl8, hw2⟩ := Sl.atF (P := Tryz.prog) f13 Tryz.underlying22 ti9 encS_len (k := .i64) (n := 0) (0) (by omega) (by first | assumption | omega)
          refine OL.q (Q1.indexAddr rfl rfl hr3) rfl rfl ?_
          refine OL.q (Q1.load1 ti9 rfl (fun _ e => e ▸ hw2)) rfl rfl ?_
          have hxm := List.mem_of_getElem? hx2
          have hxg := hr1.1.fine x2 hxm
          have hxn : x2 ≠ [] := hr1.2.1 x2 hxm
          obtain ⟨f2, rfl⟩ := deep_succ hr1.2.2 hxm hxn
          have hwl := pfx_len hxn
          have hwd := wdN_le x2 hxn
          have hxl := sum_mem hxm
          have hdn := hdN_le x2
          refine OL.act rfl rfl (AW.callF cl83 rfl (first_c (w0 := w7)  x2 (by first | assumption | omega | (simp; done)) (by assumption)) ?_)
          rintro _ w8 ⟨_, _, rfl, rfl, rfl, hm7⟩
          have hS17 := hS14.ext hm7
          have := Ml.wdN_le x2
          have := Ml.hdN_le x2
          refine OL.q (Q1.move rfl) rfl rfl ?_
          refine OL.q (Q1.extract rfl rfl) rfl rfl ?_
          refine OL.q (Q1.extract rfl rfl) rfl rfl ?_
          refine OL.q (Q1.assign rfl) rfl rfl ?_
          refine OL.q (Q1.assign rfl) rfl rfl ?_
          refine OL.nil ?_
          refine r_seq ?_
          refine r_region ?_
          refine OL.q (Q1.assign rfl) rfl rfl ?_
          refine OL.nil ?_
          refine r_seq ?_
          refine r_region ?_
          refine OL.q (Q1.assign rfl) rfl rfl ?_
          refine OL.nil ?_
          refine r_seq ?_
          refine r_block ?_
          have hS19 : St (fun _ => False) F w0 w8 [bldR 108 105 111 bB (s ++ (rests, []) :: xs) (nds ++ RNode.mk false (SH.mk none 0 0) :: tc), nrR tc xs, accR encE 114 2 v_ES ES, accR encS 9 1 (.slice none 0 0) []] := hS17.newAcc (Mod.refl _ _) Acc.nil (.inl rfl)
          refine r_loop (I := fun m E W => ∃ (k : Nat) (v_b2 : Value) (b2 : List Str), E = [(0, ptr bB 0), (1, v_r1), (8, .int .i64 (((nds.length : Nat) : Int))), (9, .bool true), (10, v_ES), (11, .int .i32 (((Ml.hdN x2 : Int)))), (12, .int .i64 ((((Ml.wdN x2 : Nat) : Int)))), (13, .int .i64 (((k : Nat) : Int))), (14, v_b2)] ∧ m = r1.length - k ∧ St (fun _ => False) F w0 W [bldR 108 105 111 bB (s ++ (rests, []) :: xs) (nds ++ RNode.mk false (SH.mk none 0 0) :: tc), nrR tc xs, accR encE 114 2 v_ES ES, accR encS 9 1 v_b2 b2] ∧ (SpanInv (pfx x2) r1 k b2) ∧ (b2.length ≤ k) ∧ (k ≤ r1.length)) ?_ ?_
          · refine ⟨_, _, ⟨(0 : Nat), (.slice none 0 0 : Value), ([] : List Str), rfl, rfl, hS19, (by exact SpanInv.start _ _), (by exact Nat.zero_le _), (by omega)⟩, ⟨rfl, rfl, rfl, rfl, rfl, rfl, rfl, rfl, rfl, trivial⟩⟩
          · rintro _ _ w9 ⟨k, v_b2, b2, rfl, rfl, hS18, hsp, hbl, hkl⟩ ih2
            refine r_seq ?_
            refine r_seq ?_
            refine r_draw1 (fun i => Nat.beq i 14) 16 (fun w' => Mod (Mg 0) w9 w') mixed (by kernel_rfl) ?_
            intro w10 hm8
            have hS20 := hS18.ext hm8
            have hCw10 : Mod (Mg 0) w9 w10 := Mod.ofExt hm8
            refine ⟨hCw10, ?_⟩
            rw [show List.range' 0 (Array.size _) = [0, 1, 2, 3, 4, 5, 6, 7, 8, 9, 10, 11, 12, 13, 14, 15] from rfl]
            refine OD.q rfl rfl (Q1.move rfl) rfl rfl ?_
            refine OD.q rfl rfl (Q1.move rfl) rfl rfl ?_
            have f14 := hS18.out ha2 hG
            refine OD.q rfl rfl (Q1.lenSl Tryz.underlying22 (f14) rfl) rfl rfl ?_
            refine OD.qb rfl rfl (Q1.lt rfl rfl) rfl rfl ?_
            intro b7 hb5
            refine OD.q rfl rfl (Q1.move rfl) rfl rfl ?_
            cases b7 with
            | true =>
              replace hb5 := of_decide_eq_true hb5.symm
              refine OD.q rfl rfl (Q1.move rfl) rfl rfl ?_
              refine OD.q rfl rfl (Q1.move rfl) rfl rfl ?_
              obtain ⟨x3, b8, o3, hx3, hr4, hl9, hw3⟩ := Sl.atF (P := Tryz.prog) f14 Tryz.underlying22 ti9 encS_len (k := .i64) (n := ((k : Nat) : Int)) (k) (by omega) (by first | assumption | omega)
              refine OD.q rfl rfl (Q1.indexAddr rfl rfl hr4) rfl rfl ?_
              refine OD.q rfl rfl (Q1.load1 ti9 rfl (fun _ hc => hw3.keepG hc (Nat.succ_ne_zero _))) rfl rfl ?_
              have hx3l := sum_mem (List.mem_of_getElem? hx3)
              refine OD.q rfl rfl (Q1.move rfl) rfl rfl ?_
              obtain ⟨x4, b9, o4, hx4, hr5, hl10, hw4⟩ := Sl.atF (P := Tryz.prog) f14 Tryz.underlying22 ti9 encS_len (k := .i64) (n := 0) (0) (by omega) (by first | assumption | omega)
              obtain rfl : x2 = x4 := Option.some.inj (hx2.symm.trans hx4)
              refine OD.q rfl rfl (Q1.indexAddr rfl rfl hr5) rfl rfl ?_
              refine OD.q rfl rfl (Q1.load1 ti9 rfl (fun _ hc => hw4.keepG hc (Nat.succ_ne_zero _))) rfl rfl ?_
              refine OD.q rfl rfl (Q1.move rfl) rfl rfl ?_
              refine OD.q rfl rfl (Q1.sliceS_hi (Ml.wdN x2) Tryz.underlying9 rfl rfl (by omega) (by first | assumption | omega)) rfl rfl ?_
              refine OD.act rfl rfl rfl rfl (AW.callF cl84 rfl (shp_c (w0 := w10)  x3 ((x2.take (Ml.wdN x2))) ) ?_)
              rintro _ w11 ⟨⟨b10, hb6, rfl⟩, hm9⟩
              have hS21 := hS20.ext hm9
              have hCw11 := hCw10.ext hm9
              refine ⟨.inr hCw11, ?_⟩
              refine OD.q rfl rfl (Q1.pick_t rfl rfl) rfl rfl ?_
              refine OD.nil ?_
              cases b10 with
              | true =>
                replace hb6 := hb6.symm
                refine r_cond_t rfl ?_
                refine r_skip ?_
                refine r_block ?_
                refine r_seq ?_
                refine r_region ?_
                refine OL.q (Q1.move rfl) rfl rfl ?_
                refine OL.q (Q1.move rfl) rfl rfl ?_
                refine OL.q (Q1.move rfl) rfl rfl ?_
                have f15 := hS21.out ha2 hG
                obtain ⟨x5, b11, o5, hx5, hr6, hl11, hw5⟩ := Sl.atF (P := Tryz.prog) f15 Tryz.underlying22 ti9 encS_len (k := .i64) (n := ((k : Nat) : Int)) (k) (by omega) (by first | assumption | omega)
                obtain rfl : x3 = x5 := Option.some.inj (hx3.symm.trans hx5)
                refine OL.q (Q1.indexAddr rfl rfl hr6) rfl rfl ?_
                refine OL.q (Q1.load1 ti9 rfl (fun _ e => e ▸ hw5)) rfl rfl ?_
                have hpl : wdN x2 ≤ x3.length := hp_le (p := x2.take (wdN x2)) (by assumption) hwl
                refine OL.q (Q1.move rfl) rfl rfl ?_
                refine OL.q (Q1.sliceS_lo (Ml.wdN x2) Tryz.underlying9 rfl rfl (by omega) (by first | assumption | omega)) rfl rfl ?_
                refine OL.act rfl rfl (AW.buildSlice [strV ((x3.drop (Ml.wdN x2)))] Tryz.underlying22 ti9 rfl rfl rfl (by decide) ?_)
                intro w12 b12 hm10 hb7 hz5 hk4
                have hS22 := hS21.ext hm10
                have hl12 := Sl.of_blk (enc := encS) hk4 ([(x3.drop (Ml.wdN x2))] : List Str) 1 rfl rfl (by unfold maxLen; omega)
                have hS23 : St (fun _ => False) F w0 w12 [bldR 108 105 111 bB (s ++ (rests, []) :: xs) (nds ++ RNode.mk false (SH.mk none 0 0) :: tc), nrR tc xs, accR encE 114 2 v_ES ES, accR encS 9 1 v_b2 b2, slR encS [((.slice (some ⟨b12, 0, none⟩) 1 1), [(x3.drop (Ml.wdN x2))])]] := hS21.newSlB hm10 hb7 hz5 hl12
                obtain ⟨g7, f16, hl13, k5⟩ := hS23.accK (i := 3) rfl
                have f17 := hS23.sl (i := 4) (k := 0) rfl rfl
                refine OL.act rfl rfl (AW.append f16 Tryz.underlying22 ti9 rfl encS_len encS_one rfl rfl (f17) (by first | omega | (simp only [List.length_append, List.length_cons, List.length_nil]; omega) | (simp; omega)) (by unfold maxLen; first | omega | (simp only [List.length_append, List.length_cons, List.length_nil]; omega) | (simp; omega)) ?_)
                intro v3 g6 w13 ha3 hm11 hg2 hz6
                have hS24 : St (fun _ => False) F w0 w13 [bldR 108 105 111 bB (s ++ (rests, []) :: xs) (nds ++ RNode.mk false (SH.mk none 0 0) :: tc), nrR tc xs, accR encE 114 2 v_ES ES, accR encS 9 1 v3 ((b2 ++ [(x3.drop (Ml.wdN x2))])), slR encS [((.slice (some ⟨b12, 0, none⟩) 1 1), [(x3.drop (Ml.wdN x2))])]] := k5 _ _ _ _ hm11 ha3 hg2
                clear hg2
                refine OL.q (Q1.assign rfl) rfl rfl ?_
                refine OL.nil ?_
                refine r_region ?_
                refine OL.q (Q1.move rfl) rfl rfl ?_
                refine OL.q (Q1.addI (((k + 1 : Nat) : Int)) rfl rfl (by omega)) rfl rfl ?_
                refine OL.q (Q1.assign rfl) rfl rfl ?_
                refine OL.nil ?_
                refine r_inBlock ?_
                have hS25 : St (fun _ => False) F w0 w13 [bldR 108 105 111 bB (s ++ (rests, []) :: xs) (nds ++ RNode.mk false (SH.mk none 0 0) :: tc), nrR tc xs, accR encE 114 2 v_ES ES, accR encS 9 1 v3 ((b2 ++ [(x3.drop (Ml.wdN x2))]))] := hS24.sel [0, 1, 2, 3] (by rfl) (by decide)
                exact (ih2 _ _ _ ⟨(k + 1 : Nat), (v3 : Value), ((b2 ++ [(x3.drop (Ml.wdN x2))]) : List Str), rfl, rfl, hS25, (by first | exact hsp.nxt hwl hx3 (by assumption) | (exfalso; omega)), (by first | simp only [List.length_append, List.length_cons, List.length_nil]; omega | (exfalso; omega)), (by first | omega | (exfalso; omega))⟩ (by omega)).sub ⟨rfl, rfl, rfl, rfl, rfl, rfl, rfl, rfl, rfl, trivial⟩
              | false =>
                replace hb6 := hb6.symm
                refine r_cond_f rfl ?_
                refine r_exit rfl ?_
                refine r_seq ?_
                refine r_region ?_
                refine OL.q (Q1.move rfl) rfl rfl ?_
                refine OL.q (Q1.move rfl) rfl rfl ?_
                obtain ⟨v3, hr6, hl11⟩ := Sl.part (P := Tryz.prog) ha2 Tryz.underlying22 ti9 encS_len (k) (r1.length) (.inr ⟨.i64, ((k : Nat) : Int), rfl, by omega⟩) (.inl ⟨rfl, rfl⟩) (by omega) (by first | assumption | omega)
                replace hl11 : Sl encS w0 G v3 (r1.drop k) := by simpa using hl11
                refine OL.q (Q1.sliceV rfl rfl rfl rfl hr6) rfl rfl ?_
                refine OL.q (Q1.assign rfl) rfl rfl ?_
                refine OL.nil ?_
                refine r_region ?_
                refine OL.q (Q1.move rfl) rfl rfl ?_
                refine OL.q (Q1.move rfl) rfl rfl ?_
                refine OL.q (Q1.move rfl) rfl rfl ?_
                refine OL.q (Q1.move rfl) rfl rfl ?_
                obtain ⟨hst, hst2⟩ := hsp.fin (by first | exact .inr ⟨_, by assumption, by assumption⟩ | exact .inl (by omega))
                have hsf := strip_facts hx2 hr1
                subst hst
                have hEInx := hEI.next2 hx2
                have hS22 : St (fun _ => False) F w0 w11 [bldR 108 105 111 bB (s ++ (rests, []) :: xs) (nds ++ RNode.mk false (SH.mk none 0 0) :: tc), nrR tc xs, accR encE 114 2 v_ES ES, slR encS [(v_b2, (stripP (pfx x2) r1))]] := hS21.freeze (i := 3) rfl
                have hnm := addM_names hsf.2.2.1 hsf.1 hsf.2.1 hnd1.2 hnd1.1
                obtain ⟨Fb, Gb, hAb, hBl, hGF, hFb, hGb, hkb⟩ := hS22.act2 (i := 0) (j := 3) rfl rfl (by decide)
                refine OL.act rfl rfl (AW.callF cl66 rfl (ih0 f2 (by omega) hAb (fun b hb => (hFb b hb).2) (slR_no hBl) hGF hGb (by simp only [List.length_append, List.length_cons]; omega) hsf.2.2.1 hsf.1 hsf.2.1 hnd1.2 hnd1.1 (by simp only [List.length_append, List.length_cons]; omega) (by omega)) ?_)
                rintro _ w12 ⟨rfl, hm10, t2, xs2, hqe, F2b, hB2, hF2b⟩
                have hS23 : St (fun _ => False) F w0 w12 [boxR [bldR 108 105 111 bB ((s ++ (rests, []) :: xs) ++ xs2) ((nds ++ RNode.mk false (SH.mk none 0 0) :: tc) ++ t2), nrR t2 xs2], nrR tc xs, accR encE 114 2 v_ES ES, slR encS [(v_b2, (stripP (pfx x2) r1))]] := hkb _ _ _ hm10 hB2 hF2b
                have ht2 := nr_len hB2
                clear hAb hBl hGF hFb hGb hkb hB2 hF2b
                have hS24 : St (fun _ => False) F w0 w12 [nrR tc xs, accR encE 114 2 v_ES ES, slR encS [(v_b2, (stripP (pfx x2) r1))], boxR [bldR 108 105 111 bB ((s ++ (rests, []) :: xs) ++ xs2) ((nds ++ RNode.mk false (SH.mk none 0 0) :: tc) ++ t2), nrR t2 xs2]] := hS23.sel [1, 2, 3, 0] (by rfl) (by decide)
                have hS25 : St (fun _ => False) F w0 w12 [nrR tc xs, accR encE 114 2 v_ES ES, slR encS [(v_b2, (stripP (pfx x2) r1))], boxR [bldR 108 105 111 bB ((s ++ (rests, []) :: xs) ++ xs2) ((nds ++ RNode.mk false (SH.mk none 0 0) :: tc) ++ t2), nrR t2 xs2]] := hS24
                have hS26 : St (fun _ => False) F w0 w12 [nrR tc xs, accR encE 114 2 v_ES ES, slR encS [(v_b2, (stripP (pfx x2) r1))], bldR 108 105 111 bB ((s ++ (rests, []) :: xs) ++ xs2) ((nds ++ RNode.mk false (SH.mk none 0 0) :: tc) ++ t2), nrR t2 xs2] := St.open (L1 := [nrR tc xs, accR encE 114 2 v_ES ES, slR encS [(v_b2, (stripP (pfx x2) r1))]]) hS25
                have hS27 : St (fun _ => False) F w0 w12 [accR encE 114 2 v_ES ES, slR encS [(v_b2, (stripP (pfx x2) r1))], bldR 108 105 111 bB ((s ++ (rests, []) :: xs) ++ xs2) ((nds ++ RNode.mk false (SH.mk none 0 0) :: tc) ++ t2), nrR tc xs, nrR t2 xs2] := hS26.sel [1, 2, 3, 0, 4] (by rfl) (by decide)
                have hS28 : St (fun _ => False) F w0 w12 [accR encE 114 2 v_ES ES, slR encS [(v_b2, (stripP (pfx x2) r1))], bldR 108 105 111 bB ((s ++ (rests, []) :: xs) ++ xs2) ((nds ++ RNode.mk false (SH.mk none 0 0) :: tc) ++ t2), boxR [nrR tc xs, nrR t2 xs2]] := St.close (L1 := [accR encE 114 2 v_ES ES, slR encS [(v_b2, (stripP (pfx x2) r1))], bldR 108 105 111 bB ((s ++ (rests, []) :: xs) ++ xs2) ((nds ++ RNode.mk false (SH.mk none 0 0) :: tc) ++ t2)]) hS27
                have hS29 : St (fun _ => False) F w0 w12 [accR encE 114 2 v_ES ES, slR encS [(v_b2, (stripP (pfx x2) r1))], bldR 108 105 111 bB ((s ++ (rests, []) :: xs) ++ xs2) ((nds ++ RNode.mk false (SH.mk none 0 0) :: tc) ++ t2), nrR (tc ++ t2) (xs ++ xs2)] := hS28.imp (i := 3) rfl (fun F_ h_ => nr_app h_)
                have hS30 : St (fun _ => False) F w0 w12 [accR encE 114 2 v_ES ES, slR encS [(v_b2, (stripP (pfx x2) r1))], bldR 108 105 111 bB (s ++ (rests, []) :: (xs ++ xs2)) (nds ++ RNode.mk false (SH.mk none 0 0) :: (tc ++ t2)), nrR (tc ++ t2) (xs ++ xs2)] := hS29.imp (i := 2) rfl (fun F_ h_ => by simpa only [List.append_assoc, List.cons_append] using h_)
                have hal := addM_len (f2 + 1) (s ++ (rests, []) :: xs) (stripP (pfx x2) r1) hsf.1
                rw [hqe] at hal
                simp only [List.length_append, List.length_cons] at hal
                have hidx : (addM (f2 + 1) (s ++ (rests, []) :: xs) (stripP (pfx x2) r1)).2 < ((s ++ (rests, []) :: xs) ++ xs2).length := by rw [← hqe]; exact addM_lt hsf.2.2.1 hsf.1 hsf.2.1 hnd1.2
                simp only [List.length_append, List.length_cons] at hidx
                refine OL.q (Q1.build (vs := #[(0, (.int .i32 (((Ml.hdN x2 : Int))) : Value)), (1, (.int .i64 ((((addM (f2 + 1) (s ++ (rests, []) :: xs) (stripP (pfx x2) r1)).2 : Nat) : Int)) : Value))]) (v := .agg #[.int .i32 (((Ml.hdN x2 : Int))), .int .i64 ((((addM (f2 + 1) (s ++ (rests, []) :: xs) (stripP (pfx x2) r1)).2 : Nat) : Int))]) rfl (fun _ => by kernel_rfl)) rfl rfl ?_
                refine OL.act rfl rfl (AW.buildSlice [(.agg #[.int .i32 (((Ml.hdN x2 : Int))), .int .i64 ((((addM (f2 + 1) (s ++ (rests, []) :: xs) (stripP (pfx x2) r1)).2 : Nat) : Int))] : Value)] Tryz.underlying109 ti114 rfl rfl rfl (by decide) ?_)
                intro w13 b11 hm11 hb7 hz5 hk4
                have hS31 := hS30.ext hm11
                have hl12 := Sl.of_blk (enc := encE) hk4 ([(Ed.mk (((Ml.hdN x2 : Int))) ((((addM (f2 + 1) (s ++ (rests, []) :: xs) (stripP (pfx x2) r1)).2 : Nat) : Int)))] : List Ed) 1 rfl rfl (by unfold maxLen; omega)
                have hS32 : St (fun _ => False) F w0 w13 [accR encE 114 2 v_ES ES, slR encS [(v_b2, (stripP (pfx x2) r1))], bldR 108 105 111 bB (s ++ (rests, []) :: (xs ++ xs2)) (nds ++ RNode.mk false (SH.mk none 0 0) :: (tc ++ t2)), nrR (tc ++ t2) (xs ++ xs2), slR encE [((.slice (some ⟨b11, 0, none⟩) 1 1), [(Ed.mk (((Ml.hdN x2 : Int))) ((((addM (f2 + 1) (s ++ (rests, []) :: xs) (stripP (pfx x2) r1)).2 : Nat) : Int)))])]] := hS30.newSlB hm11 hb7 hz5 hl12
                obtain ⟨g7, f15, hl13, k5⟩ := hS32.accK (i := 0) rfl
                have f16 := hS32.sl (i := 4) (k := 0) rfl rfl
                refine OL.act rfl rfl (AW.append f15 Tryz.underlying109 ti114 rfl encE_len encE_one rfl rfl (f16) (by first | omega | (simp only [List.length_append, List.length_cons, List.length_nil]; omega) | (simp; omega)) (by unfold maxLen; first | omega | (simp only [List.length_append, List.length_cons, List.length_nil]; omega) | (simp; omega)) ?_)
                intro v4 g6 w14 ha3 hm12 hg2 hz6
                have hS33 : St (fun _ => False) F w0 w14 [accR encE 114 2 v4 ((ES ++ [(Ed.mk (((Ml.hdN x2 : Int))) ((((addM (f2 + 1) (s ++ (rests, []) :: xs) (stripP (pfx x2) r1)).2 : Nat) : Int)))])), slR encS [(v_b2, (stripP (pfx x2) r1))], bldR 108 105 111 bB (s ++ (rests, []) :: (xs ++ xs2)) (nds ++ RNode.mk false (SH.mk none 0 0) :: (tc ++ t2)), nrR (tc ++ t2) (xs ++ xs2), slR encE [((.slice (some ⟨b11, 0, none⟩) 1 1), [(Ed.mk (((Ml.hdN x2 : Int))) ((((addM (f2 + 1) (s ++ (rests, []) :: xs) (stripP (pfx x2) r1)).2 : Nat) : Int)))])]] := k5 _ _ _ _ hm12 ha3 hg2
                clear hg2
                refine OL.q (Q1.assign rfl) rfl rfl ?_
                refine OL.nil ?_
                refine r_inBlock ?_
                have hS34 : St (fun _ => False) F w0 w14 [bldR 108 105 111 bB (s ++ (rests, []) :: (xs ++ xs2)) (nds ++ RNode.mk false (SH.mk none 0 0) :: (tc ++ t2)), nrR (tc ++ t2) (xs ++ xs2), accR encE 114 2 v4 ((ES ++ [(Ed.mk (((Ml.hdN x2 : Int))) ((((addM (f2 + 1) (s ++ (rests, []) :: xs) (stripP (pfx x2) r1)).2 : Nat) : Int)))]))] := hS33.sel [2, 3, 0] (by rfl) (by decide)
                exact (ih1 _ _ _ ⟨(v3 : Value), ((r1.drop k) : List Str), (v4 : Value), ((ES ++ [(Ed.mk (((Ml.hdN x2 : Int))) ((((addM (f2 + 1) (s ++ (rests, []) :: xs) (stripP (pfx x2) r1)).2 : Nat) : Int)))]) : List Ed), ((xs ++ xs2) : GS), ((tc ++ t2) : List RNode), rfl, rfl, hS34, hl11, (by first | exact EInv.cast hEInx (by rw [hqe]; simp) hst2.symm | (exfalso; omega)), (by first | exact ⟨by rw [hst2]; exact hr1.1.more _, fun t ht => hr1.2.1 t (List.mem_of_mem_drop ht), fun t ht => hr1.2.2 t (List.mem_of_mem_drop ht)⟩ | (exfalso; omega)), (by first | rw [show s ++ (rests, []) :: (xs ++ xs2) = (s ++ (rests, []) :: xs) ++ xs2 by simp, ← hqe]; exact hnm | (exfalso; omega)), (by first | rw [hst2]; simp only [List.length_append]; omega | (exfalso; omega)), (by first | rw [hst2]; simp only [List.length_append, List.length_cons, List.length_nil]; omega | (exfalso; omega)), (by first | simp only [List.length_append]; omega | (exfalso; omega))⟩ (by rw [hst2]; omega)).sub ⟨rfl, rfl, rfl, rfl, rfl, trivial⟩
            | false =>
              replace hb5 := of_decide_eq_false hb5.symm
              refine OD.sk rfl rfl rfl ?_
              refine OD.sk rfl rfl rfl ?_
              refine OD.sk rfl rfl rfl ?_
              refine OD.sk rfl rfl rfl ?_
              refine OD.sk rfl rfl rfl ?_
              refine OD.sk rfl rfl rfl ?_
              refine OD.sk rfl rfl rfl ?_
              refine OD.sk rfl rfl rfl ?_
              refine OD.sk rfl rfl rfl ?_
              refine OD.sk rfl rfl rfl ?_
              refine OD.q rfl rfl (Q1.pick_f rfl rfl) rfl rfl ?_
              refine OD.nil ?_
              refine r_cond_f rfl ?_
              refine r_exit rfl ?_
              refine r_seq ?_
              refine r_region ?_
              refine OL.q (Q1.move rfl) rfl rfl ?_
              refine OL.q (Q1.move rfl) rfl rfl ?_
              obtain ⟨v3, hr4, hl9⟩ := Sl.part (P := Tryz.prog) ha2 Tryz.underlying22 ti9 encS_len (k) (r1.length) (.inr ⟨.i64, ((k : Nat) : Int), rfl, by omega⟩) (.inl ⟨rfl, rfl⟩) (by omega) (by first | assumption | omega)
              replace hl9 : Sl encS w0 G v3 (r1.drop k) := by simpa using hl9
              refine OL.q (Q1.sliceV rfl rfl rfl rfl hr4) rfl rfl ?_
              refine OL.q (Q1.assign rfl) rfl rfl ?_
              refine OL.nil ?_
              refine r_region ?_
              refine OL.q (Q1.move rfl) rfl rfl ?_
              refine OL.q (Q1.move rfl) rfl rfl ?_
              refine OL.q (Q1.move rfl) rfl rfl ?_
              refine OL.q (Q1.move rfl) rfl rfl ?_
              obtain ⟨hst, hst2⟩ := hsp.fin (by first | exact .inr ⟨_, by assumption, by assumption⟩ | exact .inl (by omega))
              have hsf := strip_facts hx2 hr1
              subst hst
              have hEInx := hEI.next2 hx2
              have hS21 : St (fun _ => False) F w0 w10 [bldR 108 105 111 bB (s ++ (rests, []) :: xs) (nds ++ RNode.mk false (SH.mk none 0 0) :: tc), nrR tc xs, accR encE 114 2 v_ES ES, slR encS [(v_b2, (stripP (pfx x2) r1))]] := hS20.freeze (i := 3) rfl
              have hnm := addM_names hsf.2.2.1 hsf.1 hsf.2.1 hnd1.2 hnd1.1
              obtain ⟨Fb, Gb, hAb, hBl, hGF, hFb, hGb, hkb⟩ := hS21.act2 (i := 0) (j := 3) rfl rfl (by decide)
              refine OL.act rfl rfl (AW.callF cl66 rfl (ih0 f2 (by omega) hAb (fun b hb => (hFb b hb).2) (slR_no hBl) hGF hGb (by simp only [List.length_append, List.length_cons]; omega) hsf.2.2.1 hsf.1 hsf.2.1 hnd1.2 hnd1.1 (by simp only [List.length_append, List.length_cons]; omega) (by omega)) ?_)
              rintro _ w11 ⟨rfl, hm9, t2, xs2, hqe, F2b, hB2, hF2b⟩
              have hS22 : St (fun _ => False) F w0 w11 [boxR [bldR 108 105 111 bB ((s ++ (rests, []) :: xs) ++ xs2) ((nds ++ RNode.mk false (SH.mk none 0 0) :: tc) ++ t2), nrR t2 xs2], nrR tc xs, accR encE 114 2 v_ES ES, slR encS [(v_b2, (stripP (pfx x2) r1))]] := hkb _ _ _ hm9 hB2 hF2b
              have ht2 := nr_len hB2
              clear hAb hBl hGF hFb hGb hkb hB2 hF2b
              have hS23 : St (fun _ => False) F w0 w11 [nrR tc xs, accR encE 114 2 v_ES ES, slR encS [(v_b2, (stripP (pfx x2) r1))], boxR [bldR 108 105 111 bB ((s ++ (rests, []) :: xs) ++ xs2) ((nds ++ RNode.mk false (SH.mk none 0 0) :: tc) ++ t2), nrR t2 xs2]] := hS22.sel [1, 2, 3, 0] (by rfl) (by decide)
              have hS24 : St (fun _ => False) F w0 w11 [nrR tc xs, accR encE 114 2 v_ES ES, slR encS [(v_b2, (stripP (pfx x2) r1))], boxR [bldR 108 105 111 bB ((s ++ (rests, []) :: xs) ++ xs2) ((nds ++ RNode.mk false (SH.mk none 0 0) :: tc) ++ t2), nrR t2 xs2]] := hS23
              have hS25 : St (fun _ => False) F w0 w11 [nrR tc xs, accR encE 114 2 v_ES ES, slR encS [(v_b2, (stripP (pfx x2) r1))], bldR 108 105 111 bB ((s ++ (rests, []) :: xs) ++ xs2) ((nds ++ RNode.mk false (SH.mk none 0 0) :: tc) ++ t2), nrR t2 xs2] := St.open (L1 := [nrR tc xs, accR encE 114 2 v_ES ES, slR encS [(v_b2, (stripP (pfx x2) r1))]]) hS24
              have hS26 : St (fun _ => False) F w0 w11 [accR encE 114 2 v_ES ES, slR encS [(v_b2, (stripP (pfx x2) r1))], bldR 108 105 111 bB ((s ++ (rests, []) :: xs) ++ xs2) ((nds ++ RNode.mk false (SH.mk none 0 0) :: tc) ++ t2), nrR tc xs, nrR t2 xs2] := hS25.sel [1, 2, 3, 0, 4] (by rfl) (by decide)
              have hS27 : St (fun _ => False) F w0 w11 [accR encE 114 2 v_ES ES, slR encS [(v_b2, (stripP (pfx x2) r1))], bldR 108 105 111 bB ((s ++ (rests, []) :: xs) ++ xs2) ((nds ++ RNode.mk false (SH.mk none 0 0) :: tc) ++ t2), boxR [nrR tc xs, nrR t2 xs2]] := St.close (L1 := [accR encE 114 2 v_ES ES, slR encS [(v_b2, (stripP (pfx x2) r1))], bldR 108 105 111 bB ((s ++ (rests, []) :: xs) ++ xs2) ((nds ++ RNode.mk false (SH.mk none 0 0) :: tc) ++ t2)]) hS26
              have hS28 : St (fun _ => False) F w0 w11 [accR encE 114 2 v_ES ES, slR encS [(v_b2, (stripP (pfx x2) r1))], bldR 108 105 111 bB ((s ++ (rests, []) :: xs) ++ xs2) ((nds ++ RNode.mk false (SH.mk none 0 0) :: tc) ++ t2), nrR (tc ++ t2) (xs ++ xs2)] := hS27.imp (i := 3) rfl (fun F_ h_ => nr_app h_)
              have hS29 : St (fun _ => False) F w0 w11 [accR encE 114 2 v_ES ES, slR encS [(v_b2, (stripP (pfx x2) r1))], bldR 108 105 111 bB (s ++ (rests, []) :: (xs ++ xs2)) (nds ++ RNode.mk false (SH.mk none 0 0) :: (tc ++ t2)), nrR (tc ++ t2) (xs ++ xs2)] := hS28.imp (i := 2) rfl (fun F_ h_ => by simpa only [List.append_assoc, List.cons_append] using h_)
              have hal := addM_len (f2 + 1) (s ++ (rests, []) :: xs) (stripP (pfx x2) r1) hsf.1
              rw [hqe] at hal
              simp only [List.length_append, List.length_cons] at hal
              have hidx : (addM (f2 + 1) (s ++ (rests, []) :: xs) (stripP (pfx x2) r1)).2 < ((s ++ (rests, []) :: xs) ++ xs2).length := by rw [← hqe]; exact addM_lt hsf.2.2.1 hsf.1 hsf.2.1 hnd1.2
              simp only [List.length_append, List.length_cons] at hidx
              refine OL.q (Q1.build (vs := #[(0, (.int .i32 (((Ml.hdN x2 : Int))) : Value)), (1, (.int .i64 ((((addM (f2 + 1) (s ++ (rests, []) :: xs) (stripP (pfx x2) r1)).2 : Nat) : Int)) : Value))]) (v := .agg #[.int .i32 (((Ml.hdN x2 : Int))), .int .i64 ((((addM (f2 + 1) (s ++ (rests, []) :: xs) (stripP (pfx x2) r1)).2 : Nat) : Int))]) rfl (fun _ => by kernel_rfl)) rfl rfl ?_
              refine OL.act rfl rfl (AW.buildSlice [(.agg #[.int .i32 (((Ml.hdN x2 : Int))), .int .i64 ((((addM (f2 + 1) (s ++ (rests, []) :: xs) (stripP (pfx x2) r1)).2 : Nat) : Int))] : Value)] Tryz.underlying109 ti114 rfl rfl rfl (by decide) ?_)
              intro w12 b8 hm10 hb6 hz5 hk4
              have hS30 := hS29.ext hm10
              have hl10 := Sl.of_blk (enc := encE) hk4 ([(Ed.mk (((Ml.hdN x2 : Int))) ((((addM (f2 + 1) (s ++ (rests, []) :: xs) (stripP (pfx x2) r1)).2 : Nat) : Int)))] : List Ed) 1 rfl rfl (by unfold maxLen; omega)
              have hS31 : St (fun _ => False) F w0 w12 [accR encE 114 2 v_ES ES, slR encS [(v_b2, (stripP (pfx x2) r1))], bldR 108 105 111 bB (s ++ (rests, []) :: (xs ++ xs2)) (nds ++ RNode.mk false (SH.mk none 0 0) :: (tc ++ t2)), nrR (tc ++ t2) (xs ++ xs2), slR encE [((.slice (some ⟨b8, 0, none⟩) 1 1), [(Ed.mk (((Ml.hdN x2 : Int))) ((((addM (f2 + 1) (s ++ (rests, []) :: xs) (stripP (pfx x2) r1)).2 : Nat) : Int)))])]] := hS29.newSlB hm10 hb6 hz5 hl10
              obtain ⟨g7, f15, hl11, k5⟩ := hS31.accK (i := 0) rfl
              have f16 := hS31.sl (i := 4) (k := 0) rfl rfl
              refine OL.act rfl rfl (AW.append f15 Tryz.underlying109 ti114 rfl encE_len encE_one rfl rfl (f16) (by first | omega | (simp only [List.length_append, List.length_cons, List.length_nil]; omega) | (simp; omega)) (by unfold maxLen; first | omega | (simp only [List.length_append, List.length_cons, List.length_nil]; omega) | (simp; omega)) ?_)
              intro v4 g6 w13 ha3 hm11 hg2 hz6
              have hS32 : St (fun _ => False) F w0 w13 [accR encE 114 2 v4 ((ES ++ [(Ed.mk (((Ml.hdN x2 : Int))) ((((addM (f2 + 1) (s ++ (rests, []) :: xs) (stripP (pfx x2) r1)).2 : Nat) : Int)))])), slR encS [(v_b2, (stripP (pfx x2) r1))], bldR 108 105 111 bB (s ++ (rests, []) :: (xs ++ xs2)) (nds ++ RNode.mk false (SH.mk none 0 0) :: (tc ++ t2)), nrR (tc ++ t2) (xs ++ xs2), slR encE [((.slice (some ⟨b8, 0, none⟩) 1 1), [(Ed.mk (((Ml.hdN x2 : Int))) ((((addM (f2 + 1) (s ++ (rests, []) :: xs) (stripP (pfx x2) r1)).2 : Nat) : Int)))])]] := k5 _ _ _ _ hm11 ha3 hg2
              clear hg2
              refine OL.q (Q1.assign rfl) rfl rfl ?_
              refine OL.nil ?_
              refine r_inBlock ?_
              have hS33 : St (fun _ => False) F w0 w13 [bldR 108 105 111 bB (s ++ (rests, []) :: (xs ++ xs2)) (nds ++ RNode.mk false (SH.mk none 0 0) :: (tc ++ t2)), nrR (tc ++ t2) (xs ++ xs2), accR encE 114 2 v4 ((ES ++ [(Ed.mk (((Ml.hdN x2 : Int))) ((((addM (f2 + 1) (s ++ (rests, []) :: xs) (stripP (pfx x2) r1)).2 : Nat) : Int)))]))] := hS32.sel [2, 3, 0] (by rfl) (by decide)
              exact (ih1 _ _ _ ⟨(v3 : Value), ((r1.drop k) : List Str), (v4 : Value), ((ES ++ [(Ed.mk (((Ml.hdN x2 : Int))) ((((addM (f2 + 1) (s ++ (rests, []) :: xs) (stripP (pfx x2) r1)).2 : Nat) : Int)))]) : List Ed), ((xs ++ xs2) : GS), ((tc ++ t2) : List RNode), rfl, rfl, hS33, hl9, (by first | exact EInv.cast hEInx (by rw [hqe]; simp) hst2.symm | (exfalso; omega)), (by first | exact ⟨by rw [hst2]; exact hr1.1.more _, fun t ht => hr1.2.1 t (List.mem_of_mem_drop ht), fun t ht => hr1.2.2 t (List.mem_of_mem_drop ht)⟩ | (exfalso; omega)), (by first | rw [show s ++ (rests, []) :: (xs ++ xs2) = (s ++ (rests, []) :: xs) ++ xs2 by simp, ← hqe]; exact hnm | (exfalso; omega)), (by first | rw [hst2]; simp only [List.length_append]; omega | (exfalso; omega)), (by first | rw [hst2]; simp only [List.length_append, List.length_cons, List.length_nil]; omega | (exfalso; omega)), (by first | simp only [List.length_append]; omega | (exfalso; omega))⟩ (by rw [hst2]; omega)).sub ⟨rfl, rfl, rfl, rfl, rfl, trivial⟩
        | false =>
          replace hb4 := of_decide_eq_false hb4.symm
          refine r_cond_f rfl ?_
          refine r_exit rfl ?_
          refine r_seq ?_
          refine r_region ?_
          obtain ⟨⟨bG2, bM2, vN2⟩, hS17⟩ := hS14.exo (i := 0) rfl
          change St (fun _ => False) F w0 w7 [boxR [bkR bB [ptr bG2 0, .map (some bM2)] 108, bkR bG2 [vN2] 105, mapR strV intV bM2 (mapK ((s ++ (rests, []) :: xs))), accR encN 111 2 vN2 ((nds ++ RNode.mk false (SH.mk none 0 0) :: tc))], nrR tc xs, accR encE 114 2 v_ES ES] at hS17
          have hS18 : St (fun _ => False) F w0 w7 [nrR tc xs, accR encE 114 2 v_ES ES, boxR [bkR bB [ptr bG2 0, .map (some bM2)] 108, bkR bG2 [vN2] 105, mapR strV intV bM2 (mapK ((s ++ (rests, []) :: xs))), accR encN 111 2 vN2 ((nds ++ RNode.mk false (SH.mk none 0 0) :: tc))]] := hS17.sel [1, 2, 0] (by rfl) (by decide)
          have hS19 : St (fun _ => False) F w0 w7 [nrR tc xs, accR encE 114 2 v_ES ES, boxR [bkR bB [ptr bG2 0, .map (some bM2)] 108, bkR bG2 [vN2] 105, mapR strV intV bM2 (mapK ((s ++ (rests, []) :: xs))), accR encN 111 2 vN2 ((nds ++ RNode.mk false (SH.mk none 0 0) :: tc))]] := hS18
          have hS20 : St (fun _ => False) F w0 w7 [nrR tc xs, accR encE 114 2 v_ES ES, bkR bB [ptr bG2 0, .map (some bM2)] 108, bkR bG2 [vN2] 105, mapR strV intV bM2 ((mapK ((s ++ (rests, []) :: xs)))), accR encN 111 2 vN2 ((nds ++ RNode.mk false (SH.mk none 0 0) :: tc))] := St.open (L1 := [nrR tc xs, accR encE 114 2 v_ES ES]) hS19
          refine OL.q (Q1.move rfl) rfl rfl ?_
          refine OL.q (Q1.nilCheckP rfl) rfl rfl ?_
          refine OL.q (Q1.fieldAddr fl108_0 rfl) rfl rfl ?_
          have f14 := hS20.bk (i := 2) rfl
          refine OL.q (Q1.load1 ti92 rfl (fun _ e => e ▸ (f14.cell 0 _ rfl))) rfl rfl ?_
          refine OL.q (Q1.nilCheckP rfl) rfl rfl ?_
          refine OL.q (Q1.fieldAddr fl105_0 rfl) rfl rfl ?_
          have f15 := hS20.bk (i := 3) rfl
          refine OL.q (Q1.load1 ti103 rfl (fun _ e => e ▸ (f15.cell 0 _ rfl))) rfl rfl ?_
          refine OL.q (Q1.move rfl) rfl rfl ?_
          refine OL.q (Q1.move rfl) rfl rfl ?_
          refine OL.q (Q1.move rfl) rfl rfl ?_
          obtain ⟨g6, f16, hl8, k5⟩ := hS20.accK (i := 1) rfl
          obtain ⟨ad2, cp2, hv2⟩ := f16.shape
          subst hv2
          refine OL.q (Q1.build (vs := #[(0, (.bool true : Value)), (1, (.slice ad2 ES.length cp2))]) (v := .agg #[.bool true, (.slice ad2 ES.length cp2)]) rfl (fun _ => by kernel_rfl)) rfl rfl ?_
          obtain ⟨g7, f17, hl9, k6⟩ := hS20.accK (i := 5) rfl
          obtain ⟨hr3, x2, hx2⟩ := Acc.at (P := Tryz.prog) f17 Tryz.underlying103 ti111 (k := .i64) (n := ((nds.length : Nat) : Int)) (nds.length) (by omega) (by first | assumption | omega | (simp; done))
          refine OL.q (Q1.indexAddr rfl rfl hr3) rfl rfl ?_
          refine OL.act rfl rfl (AW.storeA f17 encN_len (i := nds.length) (o := 0) hx2 ((RNode.mk true (SH.mk ad2 ES.length cp2))) ti111 rfl (by first | omega | rfl) rfl rfl rfl rfl (by decide) (by first | rfl | simp [encN]) ?_)
          intro w8 hm7 hz5 ha3
          have hl10 : (((nds ++ RNode.mk false (SH.mk none 0 0) :: tc)).set nds.length ((RNode.mk true (SH.mk ad2 ES.length cp2)))).length = ((nds ++ RNode.mk false (SH.mk none 0 0) :: tc)).length := List.length_set
          have hS21 : St (fun _ => False) F w0 w8 [nrR tc xs, accR encE 114 2 ((.slice ad2 ES.length cp2)) ES, bkR bB [ptr bG2 0, .map (some bM2)] 108, bkR bG2 [vN2] 105, mapR strV intV bM2 ((mapK ((s ++ (rests, []) :: xs)))), accR encN 111 2 vN2 ((((nds ++ RNode.mk false (SH.mk none 0 0) :: tc)).set nds.length ((RNode.mk true (SH.mk ad2 ES.length cp2)))))] := k6 _ _ _ _ hm7 ha3 (.inl rfl)
          refine OL.nil ?_
          refine r_seq ?_
          refine r_region ?_
          refine OL.q (Q1.move rfl) rfl rfl ?_
          refine OL.q (Q1.assign rfl) rfl rfl ?_
          refine OL.nil ?_
          refine r_ret1 Tryz.func66 rfl rfl ?_
          have hr0 : r1 = [] := List.eq_nil_of_length_eq_zero (by omega)
          subst hr0
          have hAD := addM_miss hfi hEI.fin
          have hS22 : St (fun _ => False) F w0 w8 [nrR tc xs, accR encE 114 2 ((.slice ad2 ES.length cp2)) ES, bkR bB [ptr bG2 0, .map (some bM2)] 108, bkR bG2 [vN2] 105, mapR strV intV bM2 ((mapK ((s ++ (rests, []) :: xs)))), accR encN 111 2 vN2 ((nds ++ (RNode.mk true (SH.mk ad2 ES.length cp2)) :: tc))] := hS21.imp (i := 5) rfl (fun F_ h_ => by rw [show (((nds ++ RNode.mk false (SH.mk none 0 0) :: tc)).set nds.length ((RNode.mk true (SH.mk ad2 ES.length cp2)))) = (nds ++ (RNode.mk true (SH.mk ad2 ES.length cp2)) :: tc) from by simp [List.set_append_right, hlen]] at h_; exact h_)
          have hS23 : St (fun _ => False) F w0 w8 [nrR tc xs, accR encE 114 2 ((.slice ad2 ES.length cp2)) ES, bkR bB [ptr bG2 0, .map (some bM2)] 108, bkR bG2 [vN2] 105, mapR strV intV bM2 ((mapK (s ++ (rests, ES) :: xs))), accR encN 111 2 vN2 ((nds ++ (RNode.mk true (SH.mk ad2 ES.length cp2)) :: tc))] := hS22.imp (i := 4) rfl (fun F_ h_ => by rw [show mapK (s ++ (rests, []) :: xs) = mapK (s ++ (rests, ES) :: xs) from mapK_es _ _ _ _ _] at h_; exact h_)
          have hS24 : St (fun _ => False) F w0 w8 [nrR tc xs, accR encE 114 2 ((.slice ad2 ES.length cp2)) ES, boxR [bkR bB [ptr bG2 0, .map (some bM2)] 108, bkR bG2 [vN2] 105, mapR strV intV bM2 ((mapK (s ++ (rests, ES) :: xs))), accR encN 111 2 vN2 ((nds ++ (RNode.mk true (SH.mk ad2 ES.length cp2)) :: tc))]] := St.close (L1 := [nrR tc xs, accR encE 114 2 ((.slice ad2 ES.length cp2)) ES]) hS23
          have hS25 : St (fun _ => False) F w0 w8 [nrR tc xs, accR encE 114 2 ((.slice ad2 ES.length cp2)) ES, bldR 108 105 111 bB (s ++ (rests, ES) :: xs) (nds ++ (RNode.mk true (SH.mk ad2 ES.length cp2)) :: tc)] := hS24.exi (bG2, bM2, vN2) (i := 2) rfl
          have hS26 : St (fun _ => False) F w0 w8 [bldR 108 105 111 bB (s ++ (rests, ES) :: xs) (nds ++ (RNode.mk true (SH.mk ad2 ES.length cp2)) :: tc), accR encE 114 2 ((.slice ad2 ES.length cp2)) ES, nrR tc xs] := hS25.sel [2, 1, 0] (by rfl) (by decide)
          have hS27 : St (fun _ => False) F w0 w8 [bldR 108 105 111 bB (s ++ (rests, ES) :: xs) (nds ++ (RNode.mk true (SH.mk ad2 ES.length cp2)) :: tc), boxR [accR encE 114 2 ((.slice ad2 ES.length cp2)) ES, nrR tc xs]] := St.close (L1 := [bldR 108 105 111 bB (s ++ (rests, ES) :: xs) (nds ++ (RNode.mk true (SH.mk ad2 ES.length cp2)) :: tc)]) hS26
          have hS28 : St (fun _ => False) F w0 w8 [bldR 108 105 111 bB (s ++ (rests, ES) :: xs) (nds ++ (RNode.mk true (SH.mk ad2 ES.length cp2)) :: tc), nrR ((RNode.mk true (SH.mk ad2 ES.length cp2)) :: tc) ((rests, ES) :: xs)] := hS27.imp (i := 1) rfl (fun F_ h_ => nr_cons rfl hdre.2.symm h_)
          have hS29 : St (fun _ => False) F w0 w8 [boxR [bldR 108 105 111 bB (s ++ (rests, ES) :: xs) (nds ++ (RNode.mk true (SH.mk ad2 ES.length cp2)) :: tc), nrR ((RNode.mk true (SH.mk ad2 ES.length cp2)) :: tc) ((rests, ES) :: xs)]] := St.close (L1 := []) hS28
          obtain ⟨hmF, F2, hA2, hF2⟩ := hS29.fin
          exact Ret.mk ⟨by rw [hAD]; simp [hlen], hmF, (RNode.mk true (SH.mk ad2 ES.length cp2)) :: tc, (rests, ES) :: xs, by rw [hAD], F2, hA2, hF2⟩
    | false =>
      replace hb3 := ne_of_beq_false hb3.symm
      refine r_cond_f rfl ?_
      refine r_skip ?_
      refine r_seq ?_
      refine r_region ?_
      refine OL.q (Q1.assign rfl) rfl rfl ?_
      have hdre := dropE_cons hx1 (by assumption)
      have hS10 : St (fun _ => False) F w0 w6 [slR encN [((.slice (some ⟨b1, 0, none⟩) 1 1), [(RNode.mk false (SH.mk none 0 0))])], bkR bB [ptr bG1 0, .map (some bM1)] 108, bkR bG1 [(.slice ad1 ((nds ++ [(RNode.mk false (SH.mk none 0 0))])).length cp1)] 105, mapR strV intV bM1 ((mapK (s ++ [(rests, [])]))), accR encN 111 2 ((.slice ad1 ((nds ++ [(RNode.mk false (SH.mk none 0 0))])).length cp1)) ((nds ++ [(RNode.mk false (SH.mk none 0 0))]))] := hS9.sel [4, 0, 1, 2, 3] (by rfl) (by decide)
      have hS11 : St (fun _ => False) F w0 w6 [slR encN [((.slice (some ⟨b1, 0, none⟩) 1 1), [(RNode.mk false (SH.mk none 0 0))])], boxR [bkR bB [ptr bG1 0, .map (some bM1)] 108, bkR bG1 [(.slice ad1 ((nds ++ [(RNode.mk false (SH.mk none 0 0))])).length cp1)] 105, mapR strV intV bM1 ((mapK (s ++ [(rests, [])]))), accR encN 111 2 ((.slice ad1 ((nds ++ [(RNode.mk false (SH.mk none 0 0))])).length cp1)) ((nds ++ [(RNode.mk false (SH.mk none 0 0))]))]] := St.close (L1 := [slR encN [((.slice (some ⟨b1, 0, none⟩) 1 1), [(RNode.mk false (SH.mk none 0 0))])]]) hS10
      have hS12 : St (fun _ => False) F w0 w6 [slR encN [((.slice (some ⟨b1, 0, none⟩) 1 1), [(RNode.mk false (SH.mk none 0 0))])], bldR 108 105 111 bB (s ++ (rests, []) :: []) (nds ++ RNode.mk false (SH.mk none 0 0) :: [])] := hS11.exi (bG1, bM1, (.slice ad1 ((nds ++ [(RNode.mk false (SH.mk none 0 0))])).length cp1)) (i := 1) rfl
      have hS13 : St (fun _ => False) F w0 w6 [slR encN [((.slice (some ⟨b1, 0, none⟩) 1 1), [(RNode.mk false (SH.mk none 0 0))])], bldR 108 105 111 bB (s ++ (rests, []) :: []) (nds ++ RNode.mk false (SH.mk none 0 0) :: []), nrR [] []] := hS12.new (Mod.refl _ _) (F := fun _ => False) (All2.nil : NR _ _ [] []) (fun _ h => h.elim)
      refine OL.nil ?_
      refine r_seq ?_
      refine r_block ?_
      have hS15 : St (fun _ => False) F w0 w6 [slR encN [((.slice (some ⟨b1, 0, none⟩) 1 1), [(RNode.mk false (SH.mk none 0 0))])], bldR 108 105 111 bB (s ++ (rests, []) :: []) (nds ++ RNode.mk false (SH.mk none 0 0) :: []), nrR [] [], accR encE 114 2 (.slice none 0 0) []] := hS13.newAcc (Mod.refl _ _) Acc.nil (.inl rfl)
      have hS16 : St (fun _ => False) F w0 w6 [bldR 108 105 111 bB (s ++ (rests, []) :: []) (nds ++ RNode.mk false (SH.mk none 0 0) :: []), nrR [] [], accR encE 114 2 (.slice none 0 0) []] := hS15.sel [1, 2, 3] (by rfl) (by decide)
      refine r_loop (I := fun m E W => ∃ (v_r1 : Value) (r1 : List Str) (v_ES : Value) (ES : List Ed) (xs : GS) (tc : List RNode), E = [(0, ptr bB 0), (1, v_r1), (8, .int .i64 (((nds.length : Nat) : Int))), (9, .bool false), (10, v_ES)] ∧ m = r1.length ∧ St (fun _ => False) F w0 W [bldR 108 105 111 bB (s ++ (rests, []) :: xs) (nds ++ RNode.mk false (SH.mk none 0 0) :: tc), nrR tc xs, accR encE 114 2 v_ES ES] ∧ Sl encS w0 G v_r1 r1 ∧ (EInv f (s ++ [(rests, [])]) (groups (dropE rests)) (s ++ (rests, []) :: xs) ES r1) ∧ (GoodR r1 ∧ (∀ t ∈ r1, t ≠ []) ∧ Deep f r1) ∧ (NamesOk (s ++ (rests, []) :: xs) ∧ (names (s ++ (rests, []) :: xs)).Nodup) ∧ (s.length + 1 + xs.length + sumLen r1 ≤ 1000000) ∧ (ES.length + r1.length ≤ 1000) ∧ (tc.length = xs.length)) ?_ ?_
      · refine ⟨_, _, ⟨(v_r : Value), (rests : List Str), (.slice none 0 0 : Value), ([] : List Ed), ([] : GS), ([] : List RNode), rfl, rfl, hS16, hr, (by first | (rw [hdre.1]; exact EInv.start f _ _)), (by rw [← hdre.1]; exact ⟨hdr.1, hdr.2, fun t ht => hd t (dropE_mem ht)⟩), (by exact names_put hfi hnd hnok hne hg.noff), (by rw [← hdre.1]; simp only [List.length_nil]; omega), (by rw [← hdre.1]; simp only [List.length_nil]; omega), (by rfl)⟩, ⟨rfl, rfl, rfl, rfl, rfl, trivial⟩⟩
      · rintro _ _ w7 ⟨v_r1, r1, v_ES, ES, xs, tc, rfl, rfl, hS14, ha2, hEI, hr1, hnd1, hs1, hel, htc⟩ ih1
        refine r_seq ?_
        refine r_seq ?_
        refine r_region ?_
        refine OL.q (Q1.move rfl) rfl rfl ?_
        have f13 := hS14.out ha2 hG
        refine OL.q (Q1.lenSl Tryz.underlying22 (f13) rfl) rfl rfl ?_
        refine OL.qb (Q1.gt rfl rfl) rfl rfl ?_
        intro b5 hb4
        refine OL.nil ?_
        cases b5 with
        | true =>
          replace hb4 := of_decide_eq_true hb4.symm
          refine r_cond_t rfl ?_
          refine r_skip ?_
          refine r_block ?_
          refine r_seq ?_
          refine r_region ?_
          refine OL.q (Q1.move rfl) rfl rfl ?_
          obtain ⟨x2, b6, o2, hx2, hr2, hl7, hw2⟩ := Sl.atF (P := Tryz.prog) f13 Tryz.underlying22 ti9 encS_len (k := .i64) (n := 0) (0) (by omega) (by first | assumption | omega)
          refine OL.q (Q1.indexAddr rfl rfl hr2) rfl rfl ?_
          refine OL.q (Q1.load1 ti9 rfl (fun _ e => e ▸ hw2)) rfl rfl ?_
          have hxm := List.mem_of_getElem? hx2
          have hxg := hr1.1.fine x2 hxm
          have hxn : x2 ≠ [] := hr1.2.1 x2 hxm
          obtain ⟨f2, rfl⟩ := deep_succ hr1.2.2 hxm hxn
          have hwl := pfx_len hxn
          have hwd := wdN_le x2 hxn
          have hxl := sum_mem hxm
          have hdn := hdN_le x2
          refine OL.act rfl rfl (AW.callF cl83 rfl (first_c (w0 := w7)  x2 (by first | assumption | omega | (simp; done)) (by assumption)) ?_)
          rintro _ w8 ⟨_, _, rfl, rfl, rfl, hm7⟩
          have hS17 := hS14.ext hm7
          have := Ml.wdN_le x2
          have := Ml.hdN_le x2
          refine OL.q (Q1.move rfl) rfl rfl ?_
          refine OL.q (Q1.extract rfl rfl) rfl rfl ?_
          refine OL.q (Q1.extract rfl rfl) rfl rfl ?_
          refine OL.q (Q1.assign rfl) rfl rfl ?_
          refine OL.q (Q1.assign rfl) rfl rfl ?_
          refine OL.nil ?_
          refine r_seq ?_
          refine r_region ?_
          refine OL.q (Q1.assign rfl) rfl rfl ?_
          refine OL.nil ?_
          refine r_seq ?_
          refine r_region ?_
          refine OL.q (Q1.assign rfl) rfl rfl ?_
          refine OL.nil ?_
          refine r_seq ?_
          refine r_block ?_
          have hS19 : St (fun _ => False) F w0 w8 [bldR 108 105 111 bB (s ++ (rests, []) :: xs) (nds ++ RNode.mk false (SH.mk none 0 0) :: tc), nrR tc xs, accR encE 114 2 v_ES ES, accR encS 9 1 (.slice none 0 0) []] := hS17.newAcc (Mod.refl _ _) Acc.nil (.inl rfl)
          refine r_loop (I := fun m E W => ∃ (k : Nat) (v_b2 : Value) (b2 : List Str), E = [(0, ptr bB 0), (1, v_r1), (8, .int .i64 (((nds.length : Nat) : Int))), (9, .bool false), (10, v_ES), (11, .int .i32 (((Ml.hdN x2 : Int)))), (12, .int .i64 ((((Ml.wdN x2 : Nat) : Int)))), (13, .int .i64 (((k : Nat) : Int))), (14, v_b2)] ∧ m = r1.length - k ∧ St (fun _ => False) F w0 W [bldR 108 105 111 bB (s ++ (rests, []) :: xs) (nds ++ RNode.mk false (SH.mk none 0 0) :: tc), nrR tc xs, accR encE 114 2 v_ES ES, accR encS 9 1 v_b2 b2] ∧ (SpanInv (pfx x2) r1 k b2) ∧ (b2.length ≤ k) ∧ (k ≤ r1.length)) ?_ ?_
          · refine ⟨_, _, ⟨(0 : Nat), (.slice none 0 0 : Value), ([] : List Str), rfl, rfl, hS19, (by exact SpanInv.start _ _), (by exact Nat.zero_le _), (by omega)⟩, ⟨rfl, rfl, rfl, rfl, rfl, rfl, rfl, rfl, rfl, trivial⟩⟩
          · rintro _ _ w9 ⟨k, v_b2, b2, rfl, rfl, hS18, hsp, hbl, hkl⟩ ih2
            refine r_seq ?_
            refine r_seq ?_
            refine r_draw1 (fun i => Nat.beq i 14) 16 (fun w' => Mod (Mg 0) w9 w') mixed (by kernel_rfl) ?_
            intro w10 hm8
            have hS20 := hS18.ext hm8
            have hCw10 : Mod (Mg 0) w9 w10 := Mod.ofExt hm8
            refine ⟨hCw10, ?_⟩
            rw [show List.range' 0 (Array.size _) = [0, 1, 2, 3, 4, 5, 6, 7, 8, 9, 10, 11, 12, 13, 14, 15] from rfl]
            refine OD.q rfl rfl (Q1.move rfl) rfl rfl ?_
            refine OD.q rfl rfl (Q1.move rfl) rfl rfl ?_
            have f14 := hS18.out ha2 hG
            refine OD.q rfl rfl (Q1.lenSl Tryz.underlying22 (f14) rfl) rfl rfl ?_
            refine OD.qb rfl rfl (Q1.lt rfl rfl) rfl rfl ?_
            intro b7 hb5
            refine OD.q rfl rfl (Q1.move rfl) rfl rfl ?_
            cases b7 with
            | true =>
              replace hb5 := of_decide_eq_true hb5.symm
              refine OD.q rfl rfl (Q1.move rfl) rfl rfl ?_
              refine OD.q rfl rfl (Q1.move rfl) rfl rfl ?_
              obtain ⟨x3, b8, o3, hx3, hr3, hl8, hw3⟩ := Sl.atF (P := Tryz.prog) f14 Tryz.underlying22 ti9 encS_len (k := .i64) (n := ((k : Nat) : Int)) (k) (by omega) (by first | assumption | omega)
              refine OD.q rfl rfl (Q1.indexAddr rfl rfl hr3) rfl rfl ?_
              refine OD.q rfl rfl (Q1.load1 ti9 rfl (fun _ hc => hw3.keepG hc (Nat.succ_ne_zero _))) rfl rfl ?_
              have hx3l := sum_mem (List.mem_of_getElem? hx3)
              refine OD.q rfl rfl (Q1.move rfl) rfl rfl ?_
              obtain ⟨x4, b9, o4, hx4, hr4, hl9, hw4⟩ := Sl.atF (P := Tryz.prog) f14 Tryz.underlying22 ti9 encS_len (k := .i64) (n := 0) (0) (by omega) (by first | assumption | omega)
              obtain rfl : x2 = x4 := Option.some.inj (hx2.symm.trans hx4)
              refine OD.q rfl rfl (Q1.indexAddr rfl rfl hr4) rfl rfl ?_
              refine OD.q rfl rfl (Q1.load1 ti9 rfl (fun _ hc => hw4.keepG hc (Nat.succ_ne_zero _))) rfl rfl ?_
              refine OD.q rfl rfl (Q1.move rfl) rfl rfl ?_
              refine OD.q rfl rfl (Q1.sliceS_hi (Ml.wdN x2) Tryz.underlying9 rfl rfl (by omega) (by first | assumption | omega)) rfl rfl ?_
              refine OD.act rfl rfl rfl rfl (AW.callF cl84 rfl (shp_c (w0 := w10)  x3 ((x2.take (Ml.wdN x2))) ) ?_)
              rintro _ w11 ⟨⟨b10, hb6, rfl⟩, hm9⟩
              have hS21 := hS20.ext hm9
              have hCw11 := hCw10.ext hm9
              refine ⟨.inr hCw11, ?_⟩
              refine OD.q rfl rfl (Q1.pick_t rfl rfl) rfl rfl ?_
              refine OD.nil ?_
              cases b10 with
              | true =>
                replace hb6 := hb6.symm
                refine r_cond_t rfl ?_
                refine r_skip ?_
                refine r_block ?_
                refine r_seq ?_
                refine r_region ?_
                refine OL.q (Q1.move rfl) rfl rfl ?_
                refine OL.q (Q1.move rfl) rfl rfl ?_
                refine OL.q (Q1.move rfl) rfl rfl ?_
                have f15 := hS21.out ha2 hG
                obtain ⟨x5, b11, o5, hx5, hr5, hl10, hw5⟩ := Sl.atF (P := Tryz.prog) f15 Tryz.underlying22 ti9 encS_len (k := .i64) (n := ((k : Nat) : Int)) (k) (by omega) (by first | assumption | omega)
                obtain rfl : x3 = x5 := Option.some.inj (hx3.symm.trans hx5)
                refine OL.q (Q1.indexAddr rfl rfl hr5) rfl rfl ?_
                refine OL.q (Q1.load1 ti9 rfl (fun _ e => e ▸ hw5)) rfl rfl ?_
                have hpl : wdN x2 ≤ x3.length := hp_le (p := x2.take (wdN x2)) (by assumption) hwl
                refine OL.q (Q1.move rfl) rfl rfl ?_
                refine OL.q (Q1.sliceS_lo (Ml.wdN x2) Tryz.underlying9 rfl rfl (by omega) (by first | assumption | omega)) rfl rfl ?_
                refine OL.act rfl rfl (AW.buildSlice [strV ((x3.drop (Ml.wdN x2)))] Tryz.underlying22 ti9 rfl rfl rfl (by decide) ?_)
                intro w12 b12 hm10 hb7 hz5 hk4
                have hS22 := hS21.ext hm10
                have hl11 := Sl.of_blk (enc := encS) hk4 ([(x3.drop (Ml.wdN x2))] : List Str) 1 rfl rfl (by unfold maxLen; omega)
                have hS23 : St (fun _ => False) F w0 w12 [bldR 108 105 111 bB (s ++ (rests, []) :: xs) (nds ++ RNode.mk false (SH.mk none 0 0) :: tc), nrR tc xs, accR encE 114 2 v_ES ES, accR encS 9 1 v_b2 b2, slR encS [((.slice (some ⟨b12, 0, none⟩) 1 1), [(x3.drop (Ml.wdN x2))])]] := hS21.newSlB hm10 hb7 hz5 hl11
                obtain ⟨g7, f16, hl12, k5⟩ := hS23.accK (i := 3) rfl
                have f17 := hS23.sl (i := 4) (k := 0) rfl rfl
                refine OL.act rfl rfl (AW.append f16 Tryz.underlying22 ti9 rfl encS_len encS_one rfl rfl (f17) (by first | omega | (simp only [List.length_append, List.length_cons, List.length_nil]; omega) | (simp; omega)) (by unfold maxLen; first | omega | (simp only [List.length_append, List.length_cons, List.length_nil]; omega) | (simp; omega)) ?_)
                intro v2 g6 w13 ha3 hm11 hg2 hz6
                have hS24 : St (fun _ => False) F w0 w13 [bldR 108 105 111 bB (s ++ (rests, []) :: xs) (nds ++ RNode.mk false (SH.mk none 0 0) :: tc), nrR tc xs, accR encE 114 2 v_ES ES, accR encS 9 1 v2 ((b2 ++ [(x3.drop (Ml.wdN x2))])), slR encS [((.slice (some ⟨b12, 0, none⟩) 1 1), [(x3.drop (Ml.wdN x2))])]] := k5 _ _ _ _ hm11 ha3 hg2
                clear hg2
                refine OL.q (Q1.assign rfl) rfl rfl ?_
                refine OL.nil ?_
                refine r_region ?_
                refine OL.q (Q1.move rfl) rfl rfl ?_
                refine OL.q (Q1.addI (((k + 1 : Nat) : Int)) rfl rfl (by omega)) rfl rfl ?_
                refine OL.q (Q1.assign rfl) rfl rfl ?_
                refine OL.nil ?_
                refine r_inBlock ?_
                have hS25 : St (fun _ => False) F w0 w13 [bldR 108 105 111 bB (s ++ (rests, []) :: xs) (nds ++ RNode.mk false (SH.mk none 0 0) :: tc), nrR tc xs, accR encE 114 2 v_ES ES, accR encS 9 1 v2 ((b2 ++ [(x3.drop (Ml.wdN x2))]))] := hS24.sel [0, 1, 2, 3] (by rfl) (by decide)
                exact (ih2 _ _ _ ⟨(k + 1 : Nat), (v2 : Value), ((b2 ++ [(x3.drop (Ml.wdN x2))]) : List Str), rfl, rfl, hS25, (by first | exact hsp.nxt hwl hx3 (by assumption) | (exfalso; omega)), (by first | simp only [List.length_append, List.length_cons, List.length_nil]; omega | (exfalso; omega)), (by first | omega | (exfalso; omega))⟩ (by omega)).sub ⟨rfl, rfl, rfl, rfl, rfl, rfl, rfl, rfl, rfl, trivial⟩
              | false =>
                replace hb6 := hb6.symm
                refine r_cond_f rfl ?_
                refine r_exit rfl ?_
                refine r_seq ?_
                refine r_region ?_
                refine OL.q (Q1.move rfl) rfl rfl ?_
                refine OL.q (Q1.move rfl) rfl rfl ?_
                obtain ⟨v2, hr5, hl10⟩ := Sl.part (P := Tryz.prog) ha2 Tryz.underlying22 ti9 encS_len (k) (r1.length) (.inr ⟨.i64, ((k : Nat) : Int), rfl, by omega⟩) (.inl ⟨rfl, rfl⟩) (by omega) (by first | assumption | omega)
                replace hl10 : Sl encS w0 G v2 (r1.drop k) := by simpa using hl10
                refine OL.q (Q1.sliceV rfl rfl rfl rfl hr5) rfl rfl ?_
                refine OL.q (Q1.assign rfl) rfl rfl ?_
                refine OL.nil ?_
                refine r_region ?_
                refine OL.q (Q1.move rfl) rfl rfl ?_
                refine OL.q (Q1.move rfl) rfl rfl ?_
                refine OL.q (Q1.move rfl) rfl rfl ?_
                refine OL.q (Q1.move rfl) rfl rfl ?_
                obtain ⟨hst, hst2⟩ := hsp.fin (by first | exact .inr ⟨_, by assumption, by assumption⟩ | exact .inl (by omega))
                have hsf := strip_facts hx2 hr1
                subst hst
                have hEInx := hEI.next2 hx2
                have hS22 : St (fun _ => False) F w0 w11 [bldR 108 105 111 bB (s ++ (rests, []) :: xs) (nds ++ RNode.mk false (SH.mk none 0 0) :: tc), nrR tc xs, accR encE 114 2 v_ES ES, slR encS [(v_b2, (stripP (pfx x2) r1))]] := hS21.freeze (i := 3) rfl
                have hnm := addM_names hsf.2.2.1 hsf.1 hsf.2.1 hnd1.2 hnd1.1
                obtain ⟨Fb, Gb, hAb, hBl, hGF, hFb, hGb, hkb⟩ := hS22.act2 (i := 0) (j := 3) rfl rfl (by decide)
                refine OL.act rfl rfl (AW.callF cl66 rfl (ih0 f2 (by omega) hAb (fun b hb => (hFb b hb).2) (slR_no hBl) hGF hGb (by simp only [List.length_append, List.length_cons]; omega) hsf.2.2.1 hsf.1 hsf.2.1 hnd1.2 hnd1.1 (by simp only [List.length_append, List.length_cons]; omega) (by omega)) ?_)
                rintro _ w12 ⟨rfl, hm10, t2, xs2, hqe, F2b, hB2, hF2b⟩
                have hS23 : St (fun _ => False) F w0 w12 [boxR [bldR 108 105 111 bB ((s ++ (rests, []) :: xs) ++ xs2) ((nds ++ RNode.mk false (SH.mk none 0 0) :: tc) ++ t2), nrR t2 xs2], nrR tc xs, accR encE 114 2 v_ES ES, slR encS [(v_b2, (stripP (pfx x2) r1))]] := hkb _ _ _ hm10 hB2 hF2b
                have ht2 := nr_len hB2
                clear hAb hBl hGF hFb hGb hkb hB2 hF2b
                have hS24 : St (fun _ => False) F w0 w12 [nrR tc xs, accR encE 114 2 v_ES ES, slR encS [(v_b2, (stripP (pfx x2) r1))], boxR [bldR 108 105 111 bB ((s ++ (rests, []) :: xs) ++ xs2) ((nds ++ RNode.mk false (SH.mk none 0 0) :: tc) ++ t2), nrR t2 xs2]] := hS23.sel [1, 2, 3, 0] (by rfl) (by decide)
                have hS25 : St (fun _ => False) F w0 w12 [nrR tc xs, accR encE 114 2 v_ES ES, slR encS [(v_b2, (stripP (pfx x2) r1))], boxR [bldR 108 105 111 bB ((s ++ (rests, []) :: xs) ++ xs2) ((nds ++ RNode.mk false (SH.mk none 0 0) :: tc) ++ t2), nrR t2 xs2]] := hS24
                have hS26 : St (fun _ => False) F w0 w12 [nrR tc xs, accR encE 114 2 v_ES ES, slR encS [(v_b2, (stripP (pfx x2) r1))], bldR 108 105 111 bB ((s ++ (rests, []) :: xs) ++ xs2) ((nds ++ RNode.mk false (SH.mk none 0 0) :: tc) ++ t2), nrR t2 xs2] := St.open (L1 := [nrR tc xs, accR encE 114 2 v_ES ES, slR encS [(v_b2, (stripP (pfx x2) r1))]]) hS25
                have hS27 : St (fun _ => False) F w0 w12 [accR encE 114 2 v_ES ES, slR encS [(v_b2, (stripP (pfx x2) r1))], bldR 108 105 111 bB ((s ++ (rests, []) :: xs) ++ xs2) ((nds ++ RNode.mk false (SH.mk none 0 0) :: tc) ++ t2), nrR tc xs, nrR t2 xs2] := hS26.sel [1, 2, 3, 0, 4] (by rfl) (by decide)
                have hS28 : St (fun _ => False) F w0 w12 [accR encE 114 2 v_ES ES, slR encS [(v_b2, (stripP (pfx x2) r1))], bldR 108 105 111 bB ((s ++ (rests, []) :: xs) ++ xs2) ((nds ++ RNode.mk false (SH.mk none 0 0) :: tc) ++ t2), boxR [nrR tc xs, nrR t2 xs2]] := St.close (L1 := [accR encE 114 2 v_ES ES, slR encS [(v_b2, (stripP (pfx x2) r1))], bldR 108 105 111 bB ((s ++ (rests, []) :: xs) ++ xs2) ((nds ++ RNode.mk false (SH.mk none 0 0) :: tc) ++ t2)]) hS27
                have hS29 : St (fun _ => False) F w0 w12 [accR encE 114 2 v_ES ES, slR encS [(v_b2, (stripP (pfx x2) r1))], bldR 108 105 111 bB ((s ++ (rests, []) :: xs) ++ xs2) ((nds ++ RNode.mk false (SH.mk none 0 0) :: tc) ++ t2), nrR (tc ++ t2) (xs ++ xs2)] := hS28.imp (i := 3) rfl (fun F_ h_ => nr_app h_)
                have hS30 : St (fun _ => False) F w0 w12 [accR encE 114 2 v_ES ES, slR encS [(v_b2, (stripP (pfx x2) r1))], bldR 108 105 111 bB (s ++ (rests, []) :: (xs ++ xs2)) (nds ++ RNode.mk false (SH.mk none 0 0) :: (tc ++ t2)), nrR (tc ++ t2) (xs ++ xs2)] := hS29.imp (i := 2) rfl (fun F_ h_ => by simpa only [List.append_assoc, List.cons_append] using h_)
                have hal := addM_len (f2 + 1) (s ++ (rests, []) :: xs) (stripP (pfx x2) r1) hsf.1
                rw [hqe] at hal
                simp only [List.length_append, List.length_cons] at hal
                have hidx : (addM (f2 + 1) (s ++ (rests, []) :: xs) (stripP (pfx x2) r1)).2 < ((s ++ (rests, []) :: xs) ++ xs2).length := by rw [← hqe]; exact addM_lt hsf.2.2.1 hsf.1 hsf.2.1 hnd1.2
                simp only [List.length_append, List.length_cons] at hidx
                refine OL.q (Q1.build (vs := #[(0, (.int .i32 (((Ml.hdN x2 : Int))) : Value)), (1, (.int .i64 ((((addM (f2 + 1) (s ++ (rests, []) :: xs) (stripP (pfx x2) r1)).2 : Nat) : Int)) : Value))]) (v := .agg #[.int .i32 (((Ml.hdN x2 : Int))), .int .i64 ((((addM (f2 + 1) (s ++ (rests, []) :: xs) (stripP (pfx x2) r1)).2 : Nat) : Int))]) rfl (fun _ => by kernel_rfl)) rfl rfl ?_
                refine OL.act rfl rfl (AW.buildSlice [(.agg #[.int .i32 (((Ml.hdN x2 : Int))), .int .i64 ((((addM (f2 + 1) (s ++ (rests, []) :: xs) (stripP (pfx x2) r1)).2 : Nat) : Int))] : Value)] Tryz.underlying109 ti114 rfl rfl rfl (by decide) ?_)
                intro w13 b11 hm11 hb7 hz5 hk4
                have hS31 := hS30.ext hm11
                have hl11 := Sl.of_blk (enc := encE) hk4 ([(Ed.mk (((Ml.hdN x2 : Int))) ((((addM (f2 + 1) (s ++ (rests, []) :: xs) (stripP (pfx x2) r1)).2 : Nat) : Int)))] : List Ed) 1 rfl rfl (by unfold maxLen; omega)
                have hS32 : St (fun _ => False) F w0 w13 [accR encE 114 2 v_ES ES, slR encS [(v_b2, (stripP (pfx x2) r1))], bldR 108 105 111 bB (s ++ (rests, []) :: (xs ++ xs2)) (nds ++ RNode.mk false (SH.mk none 0 0) :: (tc ++ t2)), nrR (tc ++ t2) (xs ++ xs2), slR encE [((.slice (some ⟨b11, 0, none⟩) 1 1), [(Ed.mk (((Ml.hdN x2 : Int))) ((((addM (f2 + 1) (s ++ (rests, []) :: xs) (stripP (pfx x2) r1)).2 : Nat) : Int)))])]] := hS30.newSlB hm11 hb7 hz5 hl11
                obtain ⟨g7, f15, hl12, k5⟩ := hS32.accK (i := 0) rfl
                have f16 := hS32.sl (i := 4) (k := 0) rfl rfl
                refine OL.act rfl rfl (AW.append f15 Tryz.underlying109 ti114 rfl encE_len encE_one rfl rfl (f16) (by first | omega | (simp only [List.length_append, List.length_cons, List.length_nil]; omega) | (simp; omega)) (by unfold maxLen; first | omega | (simp only [List.length_append, List.length_cons, List.length_nil]; omega) | (simp; omega)) ?_)
                intro v3 g6 w14 ha3 hm12 hg2 hz6
                have hS33 : St (fun _ => False) F w0 w14 [accR encE 114 2 v3 ((ES ++ [(Ed.mk (((Ml.hdN x2 : Int))) ((((addM (f2 + 1) (s ++ (rests, []) :: xs) (stripP (pfx x2) r1)).2 : Nat) : Int)))])), slR encS [(v_b2, (stripP (pfx x2) r1))], bldR 108 105 111 bB (s ++ (rests, []) :: (xs ++ xs2)) (nds ++ RNode.mk false (SH.mk none 0 0) :: (tc ++ t2)), nrR (tc ++ t2) (xs ++ xs2), slR encE [((.slice (some ⟨b11, 0, none⟩) 1 1), [(Ed.mk (((Ml.hdN x2 : Int))) ((((addM (f2 + 1) (s ++ (rests, []) :: xs) (stripP (pfx x2) r1)).2 : Nat) : Int)))])]] := k5 _ _ _ _ hm12 ha3 hg2
                clear hg2
                refine OL.q (Q1.assign rfl) rfl rfl ?_
                refine OL.nil ?_
                refine r_inBlock ?_
                have hS34 : St (fun _ => False) F w0 w14 [bldR 108 105 111 bB (s ++ (rests, []) :: (xs ++ xs2)) (nds ++ RNode.mk false (SH.mk none 0 0) :: (tc ++ t2)), nrR (tc ++ t2) (xs ++ xs2), accR encE 114 2 v3 ((ES ++ [(Ed.mk (((Ml.hdN x2 : Int))) ((((addM (f2 + 1) (s ++ (rests, []) :: xs) (stripP (pfx x2) r1)).2 : Nat) : Int)))]))] := hS33.sel [2, 3, 0] (by rfl) (by decide)
                exact (ih1 _ _ _ ⟨(v2 : Value), ((r1.drop k) : List Str), (v3 : Value), ((ES ++ [(Ed.mk (((Ml.hdN x2 : Int))) ((((addM (f2 + 1) (s ++ (rests, []) :: xs) (stripP (pfx x2) r1)).2 : Nat) : Int)))]) : List Ed), ((xs ++ xs2) : GS), ((tc ++ t2) : List RNode), rfl, rfl, hS34, hl10, (by first | exact EInv.cast hEInx (by rw [hqe]; simp) hst2.symm | (exfalso; omega)), (by first | exact ⟨by rw [hst2]; exact hr1.1.more _, fun t ht => hr1.2.1 t (List.mem_of_mem_drop ht), fun t ht => hr1.2.2 t (List.mem_of_mem_drop ht)⟩ | (exfalso; omega)), (by first | rw [show s ++ (rests, []) :: (xs ++ xs2) = (s ++ (rests, []) :: xs) ++ xs2 by simp, ← hqe]; exact hnm | (exfalso; omega)), (by first | rw [hst2]; simp only [List.length_append]; omega | (exfalso; omega)), (by first | rw [hst2]; simp only [List.length_append, List.length_cons, List.length_nil]; omega | (exfalso; omega)), (by first | simp only [List.length_append]; omega | (exfalso; omega))⟩ (by rw [hst2]; omega)).sub ⟨rfl, rfl, rfl, rfl, rfl, trivial⟩
            | false =>
              replace hb5 := of_decide_eq_false hb5.symm
              refine OD.sk rfl rfl rfl ?_
              refine OD.sk rfl rfl rfl ?_
              refine OD.sk rfl rfl rfl ?_
              refine OD.sk rfl rfl rfl ?_
              refine OD.sk rfl rfl rfl ?_
              refine OD.sk rfl rfl rfl ?_
              refine OD.sk rfl rfl rfl ?_
              refine OD.sk rfl rfl rfl ?_
              refine OD.sk rfl rfl rfl ?_
              refine OD.sk rfl rfl rfl ?_
              refine OD.q rfl rfl (Q1.pick_f rfl rfl) rfl rfl ?_
              refine OD.nil ?_
              refine r_cond_f rfl ?_
              refine r_exit rfl ?_
              refine r_seq ?_
              refine r_region ?_
              refine OL.q (Q1.move rfl) rfl rfl ?_
              refine OL.q (Q1.move rfl) rfl rfl ?_
              obtain ⟨v2, hr3, hl8⟩ := Sl.part (P := Tryz.prog) ha2 Tryz.underlying22 ti9 encS_len (k) (r1.length) (.inr ⟨.i64, ((k : Nat) : Int), rfl, by omega⟩) (.inl ⟨rfl, rfl⟩) (by omega) (by first | assumption | omega)
              replace hl8 : Sl encS w0 G v2 (r1.drop k) := by simpa using hl8
              refine OL.q (Q1.sliceV rfl rfl rfl rfl hr3) rfl rfl ?_
              refine OL.q (Q1.assign rfl) rfl rfl ?_
              refine OL.nil ?_
              refine r_region ?_
              refine OL.q (Q1.move rfl) rfl rfl ?_
              refine OL.q (Q1.move rfl) rfl rfl ?_
              refine OL.q (Q1.move rfl) rfl rfl ?_
              refine OL.q (Q1.move rfl) rfl rfl ?_
              obtain ⟨hst, hst2⟩ := hsp.fin (by first | exact .inr ⟨_, by assumption, by assumption⟩ | exact .inl (by omega))
              have hsf := strip_facts hx2 hr1
              subst hst
              have hEInx := hEI.next2 hx2
              have hS21 : St (fun _ => False) F w0 w10 [bldR 108 105 111 bB (s ++ (rests, []) :: xs) (nds ++ RNode.mk false (SH.mk none 0 0) :: tc), nrR tc xs, accR encE 114 2 v_ES ES, slR encS [(v_b2, (stripP (pfx x2) r1))]] := hS20.freeze (i := 3) rfl
              have hnm := addM_names hsf.2.2.1 hsf.1 hsf.2.1 hnd1.2 hnd1.1
              obtain ⟨Fb, Gb, hAb, hBl, hGF, hFb, hGb, hkb⟩ := hS21.act2 (i := 0) (j := 3) rfl rfl (by decide)
              refine OL.act rfl rfl (AW.callF cl66 rfl (ih0 f2 (by omega) hAb (fun b hb => (hFb b hb).2) (slR_no hBl) hGF hGb (by simp only [List.length_append, List.length_cons]; omega) hsf.2.2.1 hsf.1 hsf.2.1 hnd1.2 hnd1.1 (by simp only [List.length_append, List.length_cons]; omega) (by omega)) ?_)
              rintro _ w11 ⟨rfl, hm9, t2, xs2, hqe, F2b, hB2, hF2b⟩
              have hS22 : St (fun _ => False) F w0 w11 [boxR [bldR 108 105 111 bB ((s ++ (rests, []) :: xs) ++ xs2) ((nds ++ RNode.mk false (SH.mk none 0 0) :: tc) ++ t2), nrR t2 xs2], nrR tc xs, accR encE 114 2 v_ES ES, slR encS [(v_b2, (stripP (pfx x2) r1))]] := hkb _ _ _ hm9 hB2 hF2b
              have ht2 := nr_len hB2
              clear hAb hBl hGF hFb hGb hkb hB2 hF2b
              have hS23 : St (fun _ => False) F w0 w11 [nrR tc xs, accR encE 114 2 v_ES ES, slR encS [(v_b2, (stripP (pfx x2) r1))], boxR [bldR 108 105 111 bB ((s ++ (rests, []) :: xs) ++ xs2) ((nds ++ RNode.mk false (SH.mk none 0 0) :: tc) ++ t2), nrR t2 xs2]] := hS22.sel [1, 2, 3, 0] (by rfl) (by decide)
              have hS24 : St (fun _ => False) F w0 w11 [nrR tc xs, accR encE 114 2 v_ES ES, slR encS [(v_b2, (stripP (pfx x2) r1))], boxR [bldR 108 105 111 bB ((s ++ (rests, []) :: xs) ++ xs2) ((nds ++ RNode.mk false (SH.mk none 0 0) :: tc) ++ t2), nrR t2 xs2]] := hS23
              have hS25 : St (fun _ => False) F w0 w11 [nrR tc xs, accR encE 114 2 v_ES ES, slR encS [(v_b2, (stripP (pfx x2) r1))], bldR 108 105 111 bB ((s ++ (rests, []) :: xs) ++ xs2) ((nds ++ RNode.mk false (SH.mk none 0 0) :: tc) ++ t2), nrR t2 xs2] := St.open (L1 := [nrR tc xs, accR encE 114 2 v_ES ES, slR encS [(v_b2, (stripP (pfx x2) r1))]]) hS24
              have hS26 : St (fun _ => False) F w0 w11 [accR encE 114 2 v_ES ES, slR encS [(v_b2, (stripP (pfx x2) r1))], bldR 108 105 111 bB ((s ++ (rests, []) :: xs) ++ xs2) ((nds ++ RNode.mk false (SH.mk none 0 0) :: tc) ++ t2), nrR tc xs, nrR t2 xs2] := hS25.sel [1, 2, 3, 0, 4] (by rfl) (by decide)
              have hS27 : St (fun _ => False) F w0 w11 [accR encE 114 2 v_ES ES, slR encS [(v_b2, (stripP (pfx x2) r1))], bldR 108 105 111 bB ((s ++ (rests, []) :: xs) ++ xs2) ((nds ++ RNode.mk false (SH.mk none 0 0) :: tc) ++ t2), boxR [nrR tc xs, nrR t2 xs2]] := St.close (L1 := [accR encE 114 2 v_ES ES, slR encS [(v_b2, (stripP (pfx x2) r1))], bldR 108 105 111 bB ((s ++ (rests, []) :: xs) ++ xs2) ((nds ++ RNode.mk false (SH.mk none 0 0) :: tc) ++ t2)]) hS26
              have hS28 : St (fun _ => False) F w0 w11 [accR encE 114 2 v_ES ES, slR encS [(v_b2, (stripP (pfx x2) r1))], bldR 108 105 111 bB ((s ++ (rests, []) :: xs) ++ xs2) ((nds ++ RNode.mk false (SH.mk none 0 0) :: tc) ++ t2), nrR (tc ++ t2) (xs ++ xs2)] := hS27.imp (i := 3) rfl (fun F_ h_ => nr_app h_)
              have hS29 : St (fun _ => False) F w0 w11 [accR encE 114 2 v_ES ES, slR encS [(v_b2, (stripP (pfx x2) r1))], bldR 108 105 111 bB (s ++ (rests, []) :: (xs ++ xs2)) (nds ++ RNode.mk false (SH.mk none 0 0) :: (tc ++ t2)), nrR (tc ++ t2) (xs ++ xs2)] := hS28.imp (i := 2) rfl (fun F_ h_ => by simpa only [List.append_assoc, List.cons_append] using h_)
              have hal := addM_len (f2 + 1) (s ++ (rests, []) :: xs) (stripP (pfx x2) r1) hsf.1
              rw [hqe] at hal
              simp only [List.length_append, List.length_cons] at hal
              have hidx : (addM (f2 + 1) (s ++ (rests, []) :: xs) (stripP (pfx x2) r1)).2 < ((s ++ (rests, []) :: xs) ++ xs2).length := by rw [← hqe]; exact addM_lt hsf.2.2.1 hsf.1 hsf.2.1 hnd1.2
              simp only [List.length_append, List.length_cons] at hidx
              refine OL.q (Q1.build (vs := #[(0, (.int .i32 (((Ml.hdN x2 : Int))) : Value)), (1, (.int .i64 ((((addM (f2 + 1) (s ++ (rests, []) :: xs) (stripP (pfx x2) r1)).2 : Nat) : Int)) : Value))]) (v := .agg #[.int .i32 (((Ml.hdN x2 : Int))), .int .i64 ((((addM (f2 + 1) (s ++ (rests, []) :: xs) (stripP (pfx x2) r1)).2 : Nat) : Int))]) rfl (fun _ => by kernel_rfl)) rfl rfl ?_
              refine OL.act rfl rfl (AW.buildSlice [(.agg #[.int .i32 (((Ml.hdN x2 : Int))), .int .i64 ((((addM (f2 + 1) (s ++ (rests, []) :: xs) (stripP (pfx x2) r1)).2 : Nat) : Int))] : Value)] Tryz.underlying109 ti114 rfl rfl rfl (by decide) ?_)
              intro w12 b8 hm10 hb6 hz5 hk4
              have hS30 := hS29.ext hm10
              have hl9 := Sl.of_blk (enc := encE) hk4 ([(Ed.mk (((Ml.hdN x2 : Int))) ((((addM (f2 + 1) (s ++ (rests, []) :: xs) (stripP (pfx x2) r1)).2 : Nat) : Int)))] : List Ed) 1 rfl rfl (by unfold maxLen; omega)
              have hS31 : St (fun _ => False) F w0 w12 [accR encE 114 2 v_ES ES, slR encS [(v_b2, (stripP (pfx x2) r1))], bldR 108 105 111 bB (s ++ (rests, []) :: (xs ++ xs2)) (nds ++ RNode.mk false (SH.mk none 0 0) :: (tc ++ t2)), nrR (tc ++ t2) (xs ++ xs2), slR encE [((.slice (some ⟨b8, 0, none⟩) 1 1), [(Ed.mk (((Ml.hdN x2 : Int))) ((((addM (f2 + 1) (s ++ (rests, []) :: xs) (stripP (pfx x2) r1)).2 : Nat) : Int)))])]] := hS29.newSlB hm10 hb6 hz5 hl9
              obtain ⟨g7, f15, hl10, k5⟩ := hS31.accK (i := 0) rfl
              have f16 := hS31.sl (i := 4) (k := 0) rfl rfl
              refine OL.act rfl rfl (AW.append f15 Tryz.underlying109 ti114 rfl encE_len encE_one rfl rfl (f16) (by first | omega | (simp only [List.length_append, List.length_cons, List.length_nil]; omega) | (simp; omega)) (by unfold maxLen; first | omega | (simp only [List.length_append, List.length_cons, List.length_nil]; omega) | (simp; omega)) ?_)
              intro v3 g6 w13 ha3 hm11 hg2 hz6
              have hS32 : St (fun _ => False) F w0 w13 [accR encE 114 2 v3 ((ES ++ [(Ed.mk (((Ml.hdN x2 : Int))) ((((addM (f2 + 1) (s ++ (rests, []) :: xs) (stripP (pfx x2) r1)).2 : Nat) : Int)))])), slR encS [(v_b2, (stripP (pfx x2) r1))], bldR 108 105 111 bB (s ++ (rests, []) :: (xs ++ xs2)) (nds ++ RNode.mk false (SH.mk none 0 0) :: (tc ++ t2)), nrR (tc ++ t2) (xs ++ xs2), slR encE [((.slice (some ⟨b8, 0, none⟩) 1 1), [(Ed.mk (((Ml.hdN x2 : Int))) ((((addM (f2 + 1) (s ++ (rests, []) :: xs) (stripP (pfx x2) r1)).2 : Nat) : Int)))])]] := k5 _ _ _ _ hm11 ha3 hg2
              clear hg2
              refine OL.q (Q1.assign rfl) rfl rfl ?_
              refine OL.nil ?_
              refine r_inBlock ?_
              have hS33 : St (fun _ => False) F w0 w13 [bldR 108 105 111 bB (s ++ (rests, []) :: (xs ++ xs2)) (nds ++ RNode.mk false (SH.mk none 0 0) :: (tc ++ t2)), nrR (tc ++ t2) (xs ++ xs2), accR encE 114 2 v3 ((ES ++ [(Ed.mk (((Ml.hdN x2 : Int))) ((((addM (f2 + 1) (s ++ (rests, []) :: xs) (stripP (pfx x2) r1)).2 : Nat) : Int)))]))] := hS32.sel [2, 3, 0] (by rfl) (by decide)
              exact (ih1 _ _ _ ⟨(v2 : Value), ((r1.drop k) : List Str), (v3 : Value), ((ES ++ [(Ed.mk (((Ml.hdN x2 : Int))) ((((addM (f2 + 1) (s ++ (rests, []) :: xs) (stripP (pfx x2) r1)).2 : Nat) : Int)))]) : List Ed), ((xs ++ xs2) : GS), ((tc ++ t2) : List RNode), rfl, rfl, hS33, hl8, (by first | exact EInv.cast hEInx (by rw [hqe]; simp) hst2.symm | (exfalso; omega)), (by first | exact ⟨by rw [hst2]; exact hr1.1.more _, fun t ht => hr1.2.1 t (List.mem_of_mem_drop ht), fun t ht => hr1.2.2 t (List.mem_of_mem_drop ht)⟩ | (exfalso; omega)), (by first | rw [show s ++ (rests, []) :: (xs ++ xs2) = (s ++ (rests, []) :: xs) ++ xs2 by simp, ← hqe]; exact hnm | (exfalso; omega)), (by first | rw [hst2]; simp only [List.length_append]; omega | (exfalso; omega)), (by first | rw [hst2]; simp only [List.length_append, List.length_cons, List.length_nil]; omega | (exfalso; omega)), (by first | simp only [List.length_append]; omega | (exfalso; omega))⟩ (by rw [hst2]; omega)).sub ⟨rfl, rfl, rfl, rfl, rfl, trivial⟩
        | false =>
          replace hb4 := of_decide_eq_false hb4.symm
          refine r_cond_f rfl ?_
          refine r_exit rfl ?_
          refine r_seq ?_
          refine r_region ?_
          obtain ⟨⟨bG2, bM2, vN2⟩, hS17⟩ := hS14.exo (i := 0) rfl
          change St (fun _ => False) F w0 w7 [boxR [bkR bB [ptr bG2 0, .map (some bM2)] 108, bkR bG2 [vN2] 105, mapR strV intV bM2 (mapK ((s ++ (rests, []) :: xs))), accR encN 111 2 vN2 ((nds ++ RNode.mk false (SH.mk none 0 0) :: tc))], nrR tc xs, accR encE 114 2 v_ES ES] at hS17
          have hS18 : St (fun _ => False) F w0 w7 [nrR tc xs, accR encE 114 2 v_ES ES, boxR [bkR bB [ptr bG2 0, .map (some bM2)] 108, bkR bG2 [vN2] 105, mapR strV intV bM2 (mapK ((s ++ (rests, []) :: xs))), accR encN 111 2 vN2 ((nds ++ RNode.mk false (SH.mk none 0 0) :: tc))]] := hS17.sel [1, 2, 0] (by rfl) (by decide)
          have hS19 : St (fun _ => False) F w0 w7 [nrR tc xs, accR encE 114 2 v_ES ES, boxR [bkR bB [ptr bG2 0, .map (some bM2)] 108, bkR bG2 [vN2] 105, mapR strV intV bM2 (mapK ((s ++ (rests, []) :: xs))), accR encN 111 2 vN2 ((nds ++ RNode.mk false (SH.mk none 0 0) :: tc))]] := hS18
          have hS20 : St (fun _ => False) F w0 w7 [nrR tc xs, accR encE 114 2 v_ES ES, bkR bB [ptr bG2 0, .map (some bM2)] 108, bkR bG2 [vN2] 105, mapR strV intV bM2 ((mapK ((s ++ (rests, []) :: xs)))), accR encN 111 2 vN2 ((nds ++ RNode.mk false (SH.mk none 0 0) :: tc))] := St.open (L1 := [nrR tc xs, accR encE 114 2 v_ES ES]) hS19
          refine OL.q (Q1.move rfl) rfl rfl ?_
          refine OL.q (Q1.nilCheckP rfl) rfl rfl ?_
          refine OL.q (Q1.fieldAddr fl108_0 rfl) rfl rfl ?_
          have f14 := hS20.bk (i := 2) rfl
          refine OL.q (Q1.load1 ti92 rfl (fun _ e => e ▸ (f14.cell 0 _ rfl))) rfl rfl ?_
          refine OL.q (Q1.nilCheckP rfl) rfl rfl ?_
          refine OL.q (Q1.fieldAddr fl105_0 rfl) rfl rfl ?_
          have f15 := hS20.bk (i := 3) rfl
          refine OL.q (Q1.load1 ti103 rfl (fun _ e => e ▸ (f15.cell 0 _ rfl))) rfl rfl ?_
          refine OL.q (Q1.move rfl) rfl rfl ?_
          refine OL.q (Q1.move rfl) rfl rfl ?_
          refine OL.q (Q1.move rfl) rfl rfl ?_
          obtain ⟨g6, f16, hl7, k5⟩ := hS20.accK (i := 1) rfl
          obtain ⟨ad2, cp2, hv2⟩ := f16.shape
          subst hv2
          refine OL.q (Q1.build (vs := #[(0, (.bool false : Value)), (1, (.slice ad2 ES.length cp2))]) (v := .agg #[.bool false, (.slice ad2 ES.length cp2)]) rfl (fun _ => by kernel_rfl)) rfl rfl ?_
          obtain ⟨g7, f17, hl8, k6⟩ := hS20.accK (i := 5) rfl
          obtain ⟨hr2, x2, hx2⟩ := Acc.at (P := Tryz.prog) f17 Tryz.underlying103 ti111 (k := .i64) (n := ((nds.length : Nat) : Int)) (nds.length) (by omega) (by first | assumption | omega | (simp; done))
          refine OL.q (Q1.indexAddr rfl rfl hr2) rfl rfl ?_
          refine OL.act rfl rfl (AW.storeA f17 encN_len (i := nds.length) (o := 0) hx2 ((RNode.mk false (SH.mk ad2 ES.length cp2))) ti111 rfl (by first | omega | rfl) rfl rfl rfl rfl (by decide) (by first | rfl | simp [encN]) ?_)
          intro w8 hm7 hz5 ha3
          have hl9 : (((nds ++ RNode.mk false (SH.mk none 0 0) :: tc)).set nds.length ((RNode.mk false (SH.mk ad2 ES.length cp2)))).length = ((nds ++ RNode.mk false (SH.mk none 0 0) :: tc)).length := List.length_set
          have hS21 : St (fun _ => False) F w0 w8 [nrR tc xs, accR encE 114 2 ((.slice ad2 ES.length cp2)) ES, bkR bB [ptr bG2 0, .map (some bM2)] 108, bkR bG2 [vN2] 105, mapR strV intV bM2 ((mapK ((s ++ (rests, []) :: xs)))), accR encN 111 2 vN2 ((((nds ++ RNode.mk false (SH.mk none 0 0) :: tc)).set nds.length ((RNode.mk false (SH.mk ad2 ES.length cp2)))))] := k6 _ _ _ _ hm7 ha3 (.inl rfl)
          refine OL.nil ?_
          refine r_seq ?_
          refine r_region ?_
          refine OL.q (Q1.move rfl) rfl rfl ?_
          refine OL.q (Q1.assign rfl) rfl rfl ?_
          refine OL.nil ?_
          refine r_ret1 Tryz.func66 rfl rfl ?_
          have hr0 : r1 = [] := List.eq_nil_of_length_eq_zero (by omega)
          subst hr0
          have hAD := addM_miss hfi hEI.fin
          have hS22 : St (fun _ => False) F w0 w8 [nrR tc xs, accR encE 114 2 ((.slice ad2 ES.length cp2)) ES, bkR bB [ptr bG2 0, .map (some bM2)] 108, bkR bG2 [vN2] 105, mapR strV intV bM2 ((mapK ((s ++ (rests, []) :: xs)))), accR encN 111 2 vN2 ((nds ++ (RNode.mk false (SH.mk ad2 ES.length cp2)) :: tc))] := hS21.imp (i := 5) rfl (fun F_ h_ => by rw [show (((nds ++ RNode.mk false (SH.mk none 0 0) :: tc)).set nds.length ((RNode.mk false (SH.mk ad2 ES.length cp2)))) = (nds ++ (RNode.mk false (SH.mk ad2 ES.length cp2)) :: tc) from by simp [List.set_append_right, hlen]] at h_; exact h_)
          have hS23 : St (fun _ => False) F w0 w8 [nrR tc xs, accR encE 114 2 ((.slice ad2 ES.length cp2)) ES, bkR bB [ptr bG2 0, .map (some bM2)] 108, bkR bG2 [vN2] 105, mapR strV intV bM2 ((mapK (s ++ (rests, ES) :: xs))), accR encN 111 2 vN2 ((nds ++ (RNode.mk false (SH.mk ad2 ES.length cp2)) :: tc))] := hS22.imp (i := 4) rfl (fun F_ h_ => by rw [show mapK (s ++ (rests, []) :: xs) = mapK (s ++ (rests, ES) :: xs) from mapK_es _ _ _ _ _] at h_; exact h_)
          have hS24 : St (fun _ => False) F w0 w8 [nrR tc xs, accR encE 114 2 ((.slice ad2 ES.length cp2)) ES, boxR [bkR bB [ptr bG2 0, .map (some bM2)] 108, bkR bG2 [vN2] 105, mapR strV intV bM2 ((mapK (s ++ (rests, ES) :: xs))), accR encN 111 2 vN2 ((nds ++ (RNode.mk false (SH.mk ad2 ES.length cp2)) :: tc))]] := St.close (L1 := [nrR tc xs, accR encE 114 2 ((.slice ad2 ES.length cp2)) ES]) hS23
          have hS25 : St (fun _ => False) F w0 w8 [nrR tc xs, accR encE 114 2 ((.slice ad2 ES.length cp2)) ES, bldR 108 105 111 bB (s ++ (rests, ES) :: xs) (nds ++ (RNode.mk false (SH.mk ad2 ES.length cp2)) :: tc)] := hS24.exi (bG2, bM2, vN2) (i := 2) rfl
          have hS26 : St (fun _ => False) F w0 w8 [bldR 108 105 111 bB (s ++ (rests, ES) :: xs) (nds ++ (RNode.mk false (SH.mk ad2 ES.length cp2)) :: tc), accR encE 114 2 ((.slice ad2 ES.length cp2)) ES, nrR tc xs] := hS25.sel [2, 1, 0] (by rfl) (by decide)
          have hS27 : St (fun _ => False) F w0 w8 [bldR 108 105 111 bB (s ++ (rests, ES) :: xs) (nds ++ (RNode.mk false (SH.mk ad2 ES.length cp2)) :: tc), boxR [accR encE 114 2 ((.slice ad2 ES.length cp2)) ES, nrR tc xs]] := St.close (L1 := [bldR 108 105 111 bB (s ++ (rests, ES) :: xs) (nds ++ (RNode.mk false (SH.mk ad2 ES.length cp2)) :: tc)]) hS26
          have hS28 : St (fun _ => False) F w0 w8 [bldR 108 105 111 bB (s ++ (rests, ES) :: xs) (nds ++ (RNode.mk false (SH.mk ad2 ES.length cp2)) :: tc), nrR ((RNode.mk false (SH.mk ad2 ES.length cp2)) :: tc) ((rests, ES) :: xs)] := hS27.imp (i := 1) rfl (fun F_ h_ => nr_cons rfl hdre.2.symm h_)
          have hS29 : St (fun _ => False) F w0 w8 [boxR [bldR 108 105 111 bB (s ++ (rests, ES) :: xs) (nds ++ (RNode.mk false (SH.mk ad2 ES.length cp2)) :: tc), nrR ((RNode.mk false (SH.mk ad2 ES.length cp2)) :: tc) ((rests, ES) :: xs)]] := St.close (L1 := []) hS28
          obtain ⟨hmF, F2, hA2, hF2⟩ := hS29.fin
          exact Ret.mk ⟨by rw [hAD]; simp [hlen], hmF, (RNode.mk false (SH.mk ad2 ES.length cp2)) :: tc, (rests, ES) :: xs, by rw [hAD], F2, hA2, hF2⟩
  | some i0 =>
    have hasc : asc (mapK s) (joinS rests) = some (i0 : Int) := by rw [asc_mapK hg.noff hne s hnok, hfi]; rfl
    refine OL.q (Q1.lookupHit (key := strV) (val := intV) (keyOk_str Tryz.underlying9) Tryz.underlying106 Tryz.zeroValue3 rfl rfl (fun _ e => e ▸ f2) hasc) rfl rfl ?_
    refine OL.q (Q1.move rfl) rfl rfl ?_
    refine OL.q (Q1.extract rfl rfl) rfl rfl ?_
    refine OL.q (Q1.extract rfl rfl) rfl rfl ?_
    refine OL.q (Q1.assign rfl) rfl rfl ?_
    refine OL.q (Q1.assign rfl) rfl rfl ?_
    refine OL.nil ?_
    refine r_seq ?_
    refine r_region ?_
    refine OL.q (Q1.move rfl) rfl rfl ?_
    refine OL.nil ?_
    refine r_cond_t rfl ?_
    refine r_seq ?_
    refine r_region ?_
    refine OL.q (Q1.move rfl) rfl rfl ?_
    refine OL.q (Q1.assign rfl) rfl rfl ?_
    refine OL.nil ?_
    refine r_ret1 Tryz.func66 rfl rfl ?_
    have hS4 : St (fun _ => False) F w0 w1 [boxR [bkR bB [ptr bG1 0, .map (some bM1)] 108, bkR bG1 [vN1] 105, mapR strV intV bM1 ((mapK s)), accR encN 111 2 vN1 nds]] := St.close (L1 := []) hS3
    have hS5 : St (fun _ => False) F w0 w1 [bldR 108 105 111 bB s nds] := hS4.exi (bG1, bM1, vN1) (i := 0) rfl
    have hS6 : St (fun _ => False) F w0 w1 [bldR 108 105 111 bB s nds, nrR [] []] := hS5.new (Mod.refl _ _) (F := fun _ => False) (All2.nil : NR _ _ [] []) (fun _ h => h.elim)
    have hS7 : St (fun _ => False) F w0 w1 [bldR 108 105 111 bB (s ++ []) (nds ++ []), nrR [] []] := hS6.imp (i := 0) rfl (fun F_ h_ => by simpa using h_)
    have hS8 : St (fun _ => False) F w0 w1 [boxR [bldR 108 105 111 bB (s ++ []) (nds ++ []), nrR [] []]] := St.close (L1 := []) hS7
    obtain ⟨hmF, F2, hA2, hF2⟩ := hS8.fin
    exact Ret.mk ⟨by rw [addM_hit hfi]; rfl, hmF, [], [], by rw [addM_hit hfi]; simp, F2, hA2, hF2⟩
end Go.Proofs
namespace Go.Proofs
open Go.Ik Go.Ml
set_option maxRecDepth 20000 in
set_option maxHeartbeats 8000000 in
theorem build_c {w0 : World}  {v_words : Value} {words : List Str} (h_words : Sl encS w0 (Iv 0 w0.heap.size) v_words words) (hok : Ml.LOk words) (hsz : words.length ≤ 1000000) :
    Calls Tryz.prog 54 #[v_words] w0 (Ret fun rv w1 => ∃ u0 u1, rv = .tuple #[u0, u1] ∧ (∃ lo hi, Gr 0 w1 lo hi u0 (Ml.gnodes words) ∧ w0.heap.size ≤ lo ∧ hi ≤ w1.heap.size) ∧ u1 = .int .i64 (Ml.goodL words) ∧ Ext w0 w1) := by
  have hle_words := h_words.le
  have hS0 := St.start0 w0
  refine calls_enter Tryz.func54 rfl Tryz.ntmps54 rfl ?_
  refine r_seq ?_
  refine r_region ?_
  refine OL.q (Q1.assign rfl) rfl rfl ?_
  refine OL.q (Q1.assign rfl) rfl rfl ?_
  refine OL.nil ?_
  refine r_seq ?_
  refine r_seq ?_
  refine r_region ?_
  refine OL.q (Q1.move rfl) rfl rfl ?_
  refine OL.act rfl rfl (AW.callF cl34 rfl (lgood_c (w0 := w0) (words := words)  h_words (by assumption)) ?_)
  rintro _ w1 ⟨rfl, hm1⟩
  have hS1 := hS0.ext hm1
  have := Ml.goodL_range words
  refine OL.q (Q1.assign rfl) rfl rfl ?_
  refine OL.nil ?_
  refine r_seq ?_
  refine r_region ?_
  refine OL.q (Q1.move rfl) rfl rfl ?_
  refine OL.qb (Q1.ne rfl rfl) rfl rfl ?_
  intro b1 hb1
  refine OL.nil ?_
  cases b1 with
  | true =>
    replace hb1 := bne_iff_ne.1 hb1.symm
    refine r_cond_t rfl ?_
    refine r_seq ?_
    refine r_region ?_
    refine OL.q (Q1.move rfl) rfl rfl ?_
    refine OL.q (Q1.assign rfl) rfl rfl ?_
    refine OL.q (Q1.assign rfl) rfl rfl ?_
    refine OL.nil ?_
    refine r_ret2 Tryz.func54 rfl rfl rfl ?_
    exact Ret.mk ⟨_, _, rfl, ⟨w0.heap.size, w0.heap.size, .inl ⟨rfl, gnodes_no (by assumption)⟩, Nat.le_refl _, hS1.mod.size⟩, rfl, hS1.mod⟩
  | false =>
    replace hb1 := bne_eq_false_iff_eq.1 hb1.symm
    refine r_cond_f rfl ?_
    refine r_skip ?_
    refine r_seq ?_
    refine r_region ?_
    refine OL.q (Q1.build (vs := #[]) (v := .agg #[.slice none 0 0]) rfl (fun _ => by kernel_rfl)) rfl rfl ?_
    have hg0 : goodL words = 0 := by assumption
    have hgd := good_deep hg0
    have hgs := good_sum hg0
    refine OL.act rfl rfl (AW.box [.slice none 0 0] rfl rfl ?_)
    intro w2 b2 hm2 hb2 hz1 hk1
    have hS2 := hS1.ext hm2
    have hS3 : St (fun _ => False) (fun _ => False) w0 w2 [bkR b2 [.slice none 0 0] 105] := hS1.newBk hm2 hb2 hk1
    refine OL.act rfl rfl (AW.makeMap (key := strV) (val := intV) ?_)
    intro w3 b3 hm3 hb3 hz2 hk2
    have hS4 := hS3.ext hm3
    have hS5 : St (fun _ => False) (fun _ => False) w0 w3 [bkR b2 [.slice none 0 0] 105, mapR strV intV b3 []] := hS3.newMap hm3 hb3 hk2
    refine OL.q (Q1.build (vs := #[(0, ptr b2 0), (1, (.map (some b3) : Value))]) (v := .agg #[ptr b2 0, .map (some b3)]) rfl (fun _ => by kernel_rfl)) rfl rfl ?_
    refine OL.act rfl rfl (AW.box [ptr b2 0, .map (some b3)] rfl rfl ?_)
    intro w4 b4 hm4 hb4 hz3 hk3
    have hS6 := hS5.ext hm4
    have hS7 : St (fun _ => False) (fun _ => False) w0 w4 [bkR b2 [.slice none 0 0] 105, mapR strV intV b3 [], bkR b4 [ptr b2 0, .map (some b3)] 108] := hS5.newBk hm4 hb4 hk3
    refine OL.q (Q1.assign rfl) rfl rfl ?_
    refine OL.nil ?_
    refine r_seq ?_
    refine r_seq ?_
    refine r_region ?_
    refine OL.q (Q1.move rfl) rfl rfl ?_
    have f1 := hS7.out h_words (fun _ _ h => h)
    refine OL.q (Q1.lenSl Tryz.underlying22 (f1) rfl) rfl rfl ?_
    refine OL.qb (Q1.eq rfl rfl) rfl rfl ?_
    intro b5 hb5
    refine OL.nil ?_
    cases b5 with
    | true =>
      replace hb5 := eq_of_beq hb5.symm
      refine r_cond_t rfl ?_
      refine r_seq ?_
      refine r_region ?_
      refine OL.q (Q1.move rfl) rfl rfl ?_
      refine OL.q (Q1.nilCheckP rfl) rfl rfl ?_
      refine OL.q (Q1.fieldAddr fl108_0 rfl) rfl rfl ?_
      have f2 := hS7.bk (i := 2) rfl
      refine OL.q (Q1.load1 ti92 rfl (fun _ e => e ▸ (f2.cell 0 _ rfl))) rfl rfl ?_
      refine OL.q (Q1.build (vs := #[]) (v := .agg #[.bool false, .slice none 0 0]) rfl (fun _ => by kernel_rfl)) rfl rfl ?_
      refine OL.act rfl rfl (AW.buildSlice [(.agg #[.bool false, .slice none 0 0] : Value)] Tryz.underlying103 ti111 rfl rfl rfl (by decide) ?_)
      intro w5 b6 hm5 hb6 hz4 hk4
      have hS8 := hS7.ext hm5
      have hl1 := Sl.of_blk (enc := encN) hk4 ([(RNode.mk false (SH.mk none 0 0))] : List RNode) 1 rfl rfl (by unfold maxLen; omega)
      have hS9 : St (fun _ => False) (fun _ => False) w0 w5 [bkR b2 [.slice none 0 0] 105, mapR strV intV b3 [], bkR b4 [ptr b2 0, .map (some b3)] 108, slR encN [((.slice (some ⟨b6, 0, none⟩) 1 1), [(RNode.mk false (SH.mk none 0 0))])]] := hS7.newSlB hm5 hb6 hz4 hl1
      refine OL.q (Q1.nilCheckP rfl) rfl rfl ?_
      refine OL.q (Q1.fieldAddr fl105_0 rfl) rfl rfl ?_
      have f3 := hS9.bk (i := 0) rfl
      refine OL.act rfl rfl (AW.store ti103 rfl rfl rfl rfl rfl f3 (Nat.le_of_ble_eq_true rfl) ?_)
      intro w6 hm6 hz5 hk5
      have hS10 : St (fun _ => False) (fun _ => False) w0 w6 [bkR b2 [(.slice (some ⟨b6, 0, none⟩) 1 1)] 105, mapR strV intV b3 [], bkR b4 [ptr b2 0, .map (some b3)] 108, slR encN [((.slice (some ⟨b6, 0, none⟩) 1 1), [(RNode.mk false (SH.mk none 0 0))])]] := hS9.bkK (i := 0) rfl hm6 hk5
      refine OL.nil ?_
      refine r_seq ?_
      refine r_region ?_
      refine OL.q (Q1.move rfl) rfl rfl ?_
      refine OL.q (Q1.nilCheckP rfl) rfl rfl ?_
      refine OL.q (Q1.fieldAddr fl108_0 rfl) rfl rfl ?_
      have f4 := hS10.bk (i := 2) rfl
      refine OL.q (Q1.load1 ti92 rfl (fun _ e => e ▸ (f4.cell 0 _ rfl))) rfl rfl ?_
      refine OL.q (Q1.assign rfl) rfl rfl ?_
      refine OL.q (Q1.assign rfl) rfl rfl ?_
      refine OL.nil ?_
      refine r_ret2 Tryz.func54 rfl rfl rfl ?_
      have hS11 : St (fun _ => False) (fun _ => False) w0 w6 [bkR b2 [(.slice (some ⟨b6, 0, none⟩) 1 1)] 105, slR encN [((.slice (some ⟨b6, 0, none⟩) 1 1), [(RNode.mk false (SH.mk none 0 0))])]] := hS10.sel [0, 3] (by rfl) (by decide)
      have hwn : words = [] := List.eq_nil_of_length_eq_zero (by omega)
      exact Ret.mk ⟨_, _, rfl, ⟨w0.heap.size, _, by rw [gnodes_nil hwn]; exact hS11.gr1, Nat.le_refl _, Nat.le_refl _⟩, (congrArg (Value.int .i64) hg0.symm), hS11.mod⟩
    | false =>
      replace hb5 := ne_of_beq_false hb5.symm
      refine r_cond_f rfl ?_
      refine r_skip ?_
      refine r_seq ?_
      refine r_region ?_
      refine OL.q (Q1.move rfl) rfl rfl ?_
      refine OL.q (Q1.move rfl) rfl rfl ?_
      have hne0 : words ≠ [] := fun e => by subst e; simp at *
      have hS8 : St (fun _ => False) (fun _ => False) w0 w4 [bkR b2 [.slice none 0 0] 105, mapR strV intV b3 [], bkR b4 [ptr b2 0, .map (some b3)] 108, accR encN 111 2 (.slice none 0 0) []] := hS7.newAcc (Mod.refl _ _) Acc.nil (.inl rfl)
      change St (fun _ => False) (fun _ => False) w0 w4 [bkR b2 [.slice none 0 0] 105, mapR strV intV b3 ((mapK [])), bkR b4 [ptr b2 0, .map (some b3)] 108, accR encN 111 2 (.slice none 0 0) []] at hS8
      have hS9 : St (fun _ => False) (fun _ => False) w0 w4 [bkR b4 [ptr b2 0, .map (some b3)] 108, bkR b2 [.slice none 0 0] 105, mapR strV intV b3 ((mapK [])), accR encN 111 2 (.slice none 0 0) []] := hS8.sel [2, 0, 1, 3] (by rfl) (by decide)
      have hS10 : St (fun _ => False) (fun _ => False) w0 w4 [boxR [bkR b4 [ptr b2 0, .map (some b3)] 108, bkR b2 [.slice none 0 0] 105, mapR strV intV b3 ((mapK [])), accR encN 111 2 (.slice none 0 0) []]] := St.close (L1 := []) hS9
      have hS11 : St (fun _ => False) (fun _ => False) w0 w4 [bldR 108 105 111 b4 [] []] := hS10.exi (b2, b3, .slice none 0 0) (i := 0) rfl
      have f2 := hS11.out h_words (fun _ _ h => h)
      obtain ⟨Fb, hAb, hFb, hkb⟩ := hS11.act (i := 0) rfl
      refine OL.act rfl rfl (AW.callF cl66 rfl (node_c 12 (G := Iv 0 w0.heap.size) hAb (fun b hb => (hFb b hb).2) f2 (far_iv hFb) (fun b hb => Nat.lt_of_lt_of_le hb.2 hS11.mod.size) rfl hgd.2 hgd.1 hne0 (by simp [names]) (by simp [NamesOk]) (by simp only [List.length_nil]; omega) (by omega)) ?_)
      rintro _ w5 ⟨rfl, hm5, t2, xs2, hqe, F2b, hB2, hF2b⟩
      have hS12 : St (fun _ => False) (fun _ => False) w0 w5 [boxR [bldR 108 105 111 b4 ([] ++ xs2) ([] ++ t2), nrR t2 xs2]] := hkb _ _ _ hm5 hB2 hF2b
      have hS13 : St (fun _ => False) (fun _ => False) w0 w5 [bldR 108 105 111 b4 ([] ++ xs2) ([] ++ t2), nrR t2 xs2] := St.open (L1 := []) hS12
      have hS14 : St (fun _ => False) (fun _ => False) w0 w5 [bldR 108 105 111 b4 xs2 t2, nrR t2 xs2] := hS13.imp (i := 0) rfl (fun F_ h_ => by simpa only [List.nil_append] using h_)
      obtain ⟨⟨bG1, bM1, vN1⟩, hS15⟩ := hS14.exo (i := 0) rfl
      change St (fun _ => False) (fun _ => False) w0 w5 [boxR [bkR b4 [ptr bG1 0, .map (some bM1)] 108, bkR bG1 [vN1] 105, mapR strV intV bM1 (mapK xs2), accR encN 111 2 vN1 t2], nrR t2 xs2] at hS15
      have hS16 : St (fun _ => False) (fun _ => False) w0 w5 [nrR t2 xs2, boxR [bkR b4 [ptr bG1 0, .map (some bM1)] 108, bkR bG1 [vN1] 105, mapR strV intV bM1 (mapK xs2), accR encN 111 2 vN1 t2]] := hS15.sel [1, 0] (by rfl) (by decide)
      have hS17 : St (fun _ => False) (fun _ => False) w0 w5 [nrR t2 xs2, boxR [bkR b4 [ptr bG1 0, .map (some bM1)] 108, bkR bG1 [vN1] 105, mapR strV intV bM1 (mapK xs2), accR encN 111 2 vN1 t2]] := hS16
      have hS18 : St (fun _ => False) (fun _ => False) w0 w5 [nrR t2 xs2, bkR b4 [ptr bG1 0, .map (some bM1)] 108, bkR bG1 [vN1] 105, mapR strV intV bM1 ((mapK xs2)), accR encN 111 2 vN1 t2] := St.open (L1 := [nrR t2 xs2]) hS17
      refine OL.nil ?_
      refine r_seq ?_
      refine r_region ?_
      refine OL.q (Q1.move rfl) rfl rfl ?_
      refine OL.q (Q1.nilCheckP rfl) rfl rfl ?_
      refine OL.q (Q1.fieldAddr fl108_0 rfl) rfl rfl ?_
      have f3 := hS18.bk (i := 1) rfl
      refine OL.q (Q1.load1 ti92 rfl (fun _ e => e ▸ (f3.cell 0 _ rfl))) rfl rfl ?_
      refine OL.q (Q1.assign rfl) rfl rfl ?_
      refine OL.q (Q1.assign rfl) rfl rfl ?_
      refine OL.nil ?_
      refine r_ret2 Tryz.func54 rfl rfl rfl ?_
      have hS19 : St (fun _ => False) (fun _ => False) w0 w5 [bkR bG1 [vN1] 105, accR encN 111 2 vN1 t2, nrR t2 xs2] := hS18.sel [2, 4, 0] (by rfl) (by decide)
      have hgm : (addM 13 [] words).1 = graphM words := rfl
      have hxs : xs2 = graphM words := by rw [← hgm, hqe]; simp
      have hgn : gnodes words = gnOf xs2 := by rw [gnodes_yes hg0, hxs]; unfold graphB; rw [if_neg hne0]
      have hxn : xs2 ≠ [] := fun e => by have := (graphM_ok hgd.2 hgd.1 hne0).root; rw [← hxs, e] at this; simp at this
      exact Ret.mk ⟨_, _, rfl, ⟨w0.heap.size, _, by rw [hgn]; exact hS19.gr hxn, Nat.le_refl _, Nat.le_refl _⟩, (congrArg (Value.int .i64) hg0.symm), hS19.mod⟩
end Go.Proofs
namespace Go.Proofs
open Go.Ik Go.Ml
set_option maxRecDepth 20000 in
set_option maxHeartbeats 4000000 in
theorem encode_c {w0 : World}  {v_g : Value} {lo_g hi_g : Nat} {g : List GN} (h_g : Gr 0 w0 lo_g hi_g v_g g) (hhi_g : hi_g ≤ w0.heap.size) (hgl : g.length ≤ 1000000) (hel : ∀ x ∈ g, x.2.length ≤ 1000000) (hI : ∀ x ∈ g, ∀ e ∈ x.2, I64 e.to ∧ -2147483648 ≤ e.rune ∧ e.rune ≤ 2147483647) (hbd : (bodyB g).length ≤ 3000000) :
    Calls Tryz.prog 55 #[v_g] w0 (Ret fun rv w1 => ∃ u0 u1, rv = .tuple #[u0, u1] ∧ (∃ gr, Acc encB 5 1 w1 gr u0 (encA g) ∧ (gr = 0 ∨ w0.heap.size < gr)) ∧ u1 = .int .i64 (errA g) ∧ Ext w0 w1) := by
  have hE0 : Ext w0 w0 := Mod.refl _ _
  refine calls_enter Tryz.func55 rfl Tryz.ntmps55 rfl ?_
  refine r_seq ?_
  refine r_region ?_
  refine OL.q (Q1.assign rfl) rfl rfl ?_
  refine OL.q (Q1.assign rfl) rfl rfl ?_
  refine OL.nil ?_
  refine r_seq ?_
  refine r_seq ?_
  refine r_region ?_
  refine OL.q (Q1.move rfl) rfl rfl ?_
  have hgr1 := h_g
  rcases h_g with ⟨hv1, hN1⟩ | ⟨b1, vn1, nds1, hv1, hN1, hrw1, hsl1, hrel1⟩
  · subst hv1
    try subst hN1
    refine OL.q (Q1.eqNil Tryz.underlying92 rfl rfl) rfl rfl ?_
    refine OL.nil ?_
    refine r_cond_t rfl ?_
    refine r_seq ?_
    refine r_region ?_
    refine OL.q (Q1.assign rfl) rfl rfl ?_
    refine OL.q (Q1.assign rfl) rfl rfl ?_
    refine OL.nil ?_
    refine r_ret2 Tryz.func55 rfl rfl rfl ?_
    exact Ret.mk ⟨_, _, rfl, ⟨0, Acc.cast Acc.nil (by first | (rw [encA_no rfl]; done) | (rw [encA_no rfl]) | rfl | (rw [encA_yes (by assumption), enc_fin hO (by omega)]; rfl) | exact errA_yes (by assumption) | (exfalso; omega)), .inl rfl⟩, (congrArg (Value.int .i64) (by first | (rw [encA_no rfl]; done) | (rw [encA_no rfl]) | rfl | (rw [encA_yes (by assumption), enc_fin hO (by omega)]; rfl) | exact errA_yes (by assumption) | (exfalso; omega))), hE0⟩
  · subst hv1
    have hnl1 := (All2.get hrel1).1
    refine OL.q (Q1.eqNil Tryz.underlying92 rfl rfl) rfl rfl ?_
    refine OL.nil ?_
    refine r_cond_f rfl ?_
    refine r_skip ?_
    refine r_seq ?_
    refine r_region ?_
    refine OL.act rfl rfl (AW.buildSlice [(.int .u8 73 : Value), (.int .u8 78 : Value), (.int .u8 75 : Value), (.int .u8 49 : Value)] Tryz.underlying47 ti5 rfl rfl rfl (by decide) ?_)
    intro w1 b2 hm1 hb1 hz1 hk1
    have f1 := hgr1.ext hm1
    have f2 := hrel1.ext hm1
    have f3 := hsl1.ext hm1
    have f4 := hrw1.ext hm1
    have hE1 := hE0.ext hm1
    have hs1 := hm1.size
    have hl1 := Sl.of_blk (enc := encB) hk1 ([(73 : UInt8), (78 : UInt8), (75 : UInt8), (49 : UInt8)] : List UInt8) 4 rfl rfl (by unfold maxLen; omega)
    refine OL.act rfl rfl (AW.convSl Tryz.underlying47 Tryz.underlying5 rfl hk1 ?_)
    intro w2 hm2 hz2 hrw2
    have f5 := f1.keepG hm2 (by omega)
    have f6 := f2.keepG hm2 (by omega)
    have f7 := f3.keepG hm2 (by omega)
    have f8 := f4.keepG hm2 (by omega)
    have hE2 := Ext.thenG hE1 hm2 (by omega)
    have hs2 := hm2.size
    have hl2 : Sl encB w2 (Iv b2 (b2 + 1)) (.slice (some ⟨b2, 0, none⟩) 4 4) [(73 : UInt8), (78 : UInt8), (75 : UInt8), (49 : UInt8)] := Sl.of_row (enc := encB) (l := [(73 : UInt8), (78 : UInt8), (75 : UInt8), (49 : UInt8)]) hrw2 4 rfl (by unfold maxLen; omega)
    refine OL.q (Q1.move rfl) rfl rfl ?_
    refine OL.act rfl rfl (AW.callF cl68 rfl (nodes_c (w0 := w2)   f5 (by omega)) ?_)
    rintro _ w3 ⟨rfl, hm3⟩
    have f9 := f5.ext hm3
    have f10 := f6.ext hm3
    have f11 := f7.ext hm3
    have f12 := f8.ext hm3
    have f13 := hl2.ext hm3
    have hE3 := hE2.ext hm3
    have hs3 := hm3.size
    refine OL.act rfl rfl (AW.callF cl67 rfl (put_c (w0 := w3) (b := [(73 : UInt8), (78 : UInt8), (75 : UInt8), (49 : UInt8)]) ((((g.length : Nat) : Int))) (2) ((f13).iv (Nat.zero_le _) (by omega)) (by first | assumption | omega | (simp only [List.length_append, putN_len, List.length_cons, List.length_nil]; omega)) (by first | omega | decide)) ?_)
    rintro v1 w4 ⟨⟨gr1, h1, hg1⟩, hm4⟩
    have f14 := f9.ext hm4
    have f15 := f10.ext hm4
    have f16 := f11.ext hm4
    have f17 := f12.ext hm4
    have f18 := f13.ext hm4
    have hE4 := hE3.ext hm4
    have hs4 := hm4.size
    have hle_1 := h1.le
    have hlt_1 := h1.lt
    have := putN_len ((((g.length : Nat) : Int))) 2
    refine OL.q (Q1.assign rfl) rfl rfl ?_
    refine OL.nil ?_
    refine r_seq ?_
    refine r_seq ?_
    refine r_region ?_
    refine OL.q (Q1.move rfl) rfl rfl ?_
    refine OL.act rfl rfl (AW.callF cl68 rfl (nodes_c (w0 := w4)   f14 (by omega)) ?_)
    rintro _ w5 ⟨rfl, hm5⟩
    have hl3 := h1.lt
    have f19 := f14.ext hm5
    have f20 := f15.ext hm5
    have f21 := f16.ext hm5
    have f22 := f17.ext hm5
    have f23 := f18.ext hm5
    have f24 := h1.ext hm5
    have hE5 := hE4.ext hm5
    have hs5 := hm5.size
    refine OL.q (Q1.move rfl) rfl rfl ?_
    refine OL.nil ?_
    refine r_block ?_
    refine r_loop (I := fun m E W => ∃ (v_out : Value) (g_out : Nat) (out : List UInt8) (i : Nat), E = [(0, ptr b1 0), (4, v_out), (18, .int .i64 ((((g.length : Nat) : Int)))), (19, .int .i64 (((i : Nat) : Int)))] ∧ m = g.length - i ∧ Ext w0 W ∧ w5.heap.size ≤ W.heap.size ∧ Acc encB 5 1 W g_out v_out out ∧ (g_out = 0 ∨ w0.heap.size < g_out) ∧ Rw W lo_g hi_g b1 [vn1] ∧ Sl encN W (Iv lo_g hi_g) vn1 nds1 ∧ NRel W (Iv lo_g hi_g) nds1 g ∧ Gr 0 W lo_g hi_g ((ptr b1 0)) g ∧ (g_out ≤ lo_g ∨ hi_g < g_out) ∧ (out ++ (g.drop i).flatMap nodeB = bodyB g) ∧ (i ≤ g.length)) ?_ ?_
    · refine ⟨_, _, ⟨(v1 : Value), (gr1 : Nat), ((([(73 : UInt8), (78 : UInt8), (75 : UInt8), (49 : UInt8)]) ++ putN ((((g.length : Nat) : Int))) 2) : List UInt8), (0 : Nat), rfl, rfl, hE5, Nat.le_refl _, f24, (by omega), f22, f21, f20, f19, (by omega), (by exact enc_start g), (by omega)⟩, ⟨rfl, rfl, rfl, rfl, trivial⟩⟩
    · rintro _ _ w6 ⟨v_out, g_out, out, i, rfl, rfl, hE6, hs6, ha1, hg2, f25, f26, f27, f28, hn1, hO, hil⟩ ih1
      have hbl := enc_len hO
      refine r_seq ?_
      refine r_region ?_
      refine OL.qb (Q1.lt rfl rfl) rfl rfl ?_
      intro b3 hb2
      refine OL.nil ?_
      refine r_seq ?_
      cases b3 with
      | true =>
        replace hb2 := of_decide_eq_true hb2.symm
        refine r_cond_t rfl ?_
        refine r_skip ?_
        refine r_seq ?_
        refine r_block ?_
        refine r_seq ?_
        refine r_region ?_
        refine OL.q (Q1.move rfl) rfl rfl ?_
        have hgi := nodeAt_some (g := g) (i := i) (by omega)
        have hgl3 := enc_lenN hO hgi
        have hnl := nodeAt_len hel (i : Int)
        refine OL.q (Q1.assign rfl) rfl rfl ?_
        refine OL.nil ?_
        refine r_seq ?_
        refine r_region ?_
        refine OL.q (Q1.assign rfl) rfl rfl ?_
        refine OL.nil ?_
        refine r_seq ?_
        refine r_seq ?_
        refine r_region ?_
        refine OL.q (Q1.move rfl) rfl rfl ?_
        refine OL.q (Q1.move rfl) rfl rfl ?_
        refine OL.act rfl rfl (AW.callF cl69 rfl (final_c (w0 := w6)  (((i : Nat) : Int)) f28 (by omega) (by first | omega | assumption) (by first | assumption | omega | (simp; done))) ?_)
        rintro _ w7 ⟨⟨b4, hb3, rfl⟩, hm6⟩
        have hl4 := ha1.lt
        have f29 := ha1.ext hm6
        have f30 := f25.ext hm6
        have f31 := f26.ext hm6
        have f32 := f27.ext hm6
        have f33 := f28.ext hm6
        have hE7 := hE6.ext hm6
        have hs7 := hm6.size
        refine OL.nil ?_
        cases b4 with
        | true =>
          replace hb3 := hb3.symm
          refine r_cond_t rfl ?_
          refine r_region ?_
          refine OL.q (Q1.assign rfl) rfl rfl ?_
          refine OL.nil ?_
          refine r_seq ?_
          refine r_region ?_
          refine OL.q (Q1.move rfl) rfl rfl ?_
          refine OL.q (Q1.move rfl) rfl rfl ?_
          refine OL.act rfl rfl (AW.callF cl67 rfl (put_c (w0 := w7) (b := out) (1) (1) ((f29.sl).iv (Nat.zero_le _) (by omega)) (by first | assumption | omega | (simp only [List.length_append, putN_len, List.length_cons, List.length_nil]; omega)) (by first | omega | decide)) ?_)
          rintro v2 w8 ⟨⟨gr2, h2, hg3⟩, hm7⟩
          have hl5 := f29.lt
          have f34 := f29.ext hm7
          have f35 := f30.ext hm7
          have f36 := f31.ext hm7
          have f37 := f32.ext hm7
          have f38 := f33.ext hm7
          have hE8 := hE7.ext hm7
          have hs8 := hm7.size
          have hle_2 := h2.le
          have hlt_2 := h2.lt
          have := putN_len 1 1
          refine OL.q (Q1.assign rfl) rfl rfl ?_
          refine OL.nil ?_
          refine r_seq ?_
          refine r_region ?_
          refine OL.q (Q1.move rfl) rfl rfl ?_
          refine OL.q (Q1.move rfl) rfl rfl ?_
          refine OL.act rfl rfl (AW.callF cl70 rfl (edges_c (w0 := w8)  (((i : Nat) : Int)) f38 (by omega) (by first | omega | assumption) (by first | assumption | omega | (simp; done)) (by first | assumption | (simp; done))) ?_)
          rintro v3 w9 ⟨⟨gr3, h3, hg4⟩, hm8⟩
          have hl6 := f34.lt
          have hl7 := h2.lt
          have f39 := f34.ext hm8
          have f40 := f35.ext hm8
          have f41 := f36.ext hm8
          have f42 := f37.ext hm8
          have f43 := f38.ext hm8
          have f44 := h2.ext hm8
          have hE9 := hE8.ext hm8
          have hs9 := hm8.size
          have hle_3 := h3.le
          have hlt_3 := h3.lt
          refine OL.q (Q1.assign rfl) rfl rfl ?_
          refine OL.nil ?_
          refine r_seq ?_
          refine r_region ?_
          refine OL.q (Q1.move rfl) rfl rfl ?_
          refine OL.q (Q1.move rfl) rfl rfl ?_
          refine OL.q (Q1.lenSl Tryz.underlying109 (h3.sl) rfl) rfl rfl ?_
          refine OL.act rfl rfl (AW.callF cl67 rfl (put_c (w0 := w9) (b := (out ++ putN 1 1)) ((((((nodeAt g (((i : Nat) : Int))).2)).length : Nat) : Int)) (2) ((f44.sl).iv (Nat.zero_le _) (by omega)) (by first | assumption | omega | (simp only [List.length_append, putN_len, List.length_cons, List.length_nil]; omega)) (by first | omega | decide)) ?_)
          rintro v4 w10 ⟨⟨gr4, h4, hg5⟩, hm9⟩
          have hl8 := f39.lt
          have hl9 := f44.lt
          have hl10 := h3.lt
          have f45 := f39.ext hm9
          have f46 := f40.ext hm9
          have f47 := f41.ext hm9
          have f48 := f42.ext hm9
          have f49 := f43.ext hm9
          have f50 := f44.ext hm9
          have f51 := h3.ext hm9
          have hE10 := hE9.ext hm9
          have hs10 := hm9.size
          have hle_4 := h4.le
          have hlt_4 := h4.lt
          have := putN_len ((((((nodeAt g (((i : Nat) : Int))).2)).length : Nat) : Int)) 2
          refine OL.q (Q1.assign rfl) rfl rfl ?_
          refine OL.nil ?_
          refine r_seq ?_
          refine r_region ?_
          refine OL.q (Q1.move rfl) rfl rfl ?_
          refine OL.q (Q1.lenSl Tryz.underlying109 (f51.sl) rfl) rfl rfl ?_
          refine OL.q (Q1.move rfl) rfl rfl ?_
          refine OL.nil ?_
          refine r_block ?_
          refine r_loop (I := fun m E W => ∃ (v_out2 : Value) (g_out2 : Nat) (out2 : List UInt8) (k : Nat), E = [(0, ptr b1 0), (4, v_out2), (18, .int .i64 ((((g.length : Nat) : Int)))), (19, .int .i64 (((i : Nat) : Int))), (35, v3), (36, .int .i64 ((((((nodeAt g (((i : Nat) : Int))).2)).length : Nat) : Int))), (37, .int .i64 (((k : Nat) : Int)))] ∧ m = (nodeAt g (i : Int)).2.length - k ∧ Ext w0 W ∧ w10.heap.size ≤ W.heap.size ∧ Acc encB 5 1 W g_out2 v_out2 out2 ∧ (g_out2 = 0 ∨ w0.heap.size < g_out2) ∧ Rw W lo_g hi_g b1 [vn1] ∧ Sl encN W (Iv lo_g hi_g) vn1 nds1 ∧ NRel W (Iv lo_g hi_g) nds1 g ∧ Gr 0 W lo_g hi_g ((ptr b1 0)) g ∧ Acc encE 114 2 W gr3 v3 (((nodeAt g (((i : Nat) : Int))).2)) ∧ (g_out2 ≤ lo_g ∨ hi_g < g_out2) ∧ (g_out2 ≠ gr3 ∨ gr3 = 0) ∧ (out2 ++ (((nodeAt g (i : Int)).2.drop k).flatMap edgeB ++ (g.drop (i + 1)).flatMap nodeB) = bodyB g) ∧ (k ≤ (nodeAt g (i : Int)).2.length)) ?_ ?_
          · refine ⟨_, _, ⟨(v4 : Value), (gr4 : Nat), ((((out ++ putN 1 1)) ++ putN ((((((nodeAt g (((i : Nat) : Int))).2)).length : Nat) : Int)) 2) : List UInt8), (0 : Nat), rfl, rfl, hE10, Nat.le_refl _, h4, (by omega), f46, f47, f48, f49, f51, (by omega), (by omega), (by first | exact enc_node hO hgi (by rw [if_pos (by assumption)]) | exact enc_node hO hgi (by rw [if_neg (by simp [*])])), (by omega)⟩, ⟨rfl, rfl, rfl, rfl, rfl, rfl, rfl, trivial⟩⟩
          · rintro _ _ w11 ⟨v_out2, g_out2, out2, k, rfl, rfl, hE11, hs11, ha2, hg6, f52, f53, f54, f55, f56, hn2, hn3, hO2, hkl⟩ ih2
            have hbl2 := enc_len hO2
            refine r_seq ?_
            refine r_region ?_
            refine OL.qb (Q1.lt rfl rfl) rfl rfl ?_
            intro b5 hb4
            refine OL.nil ?_
            refine r_seq ?_
            cases b5 with
            | true =>
              replace hb4 := of_decide_eq_true hb4.symm
              refine r_cond_t rfl ?_
              refine r_skip ?_
              refine r_seq ?_
              refine r_block ?_
              refine r_seq ?_
              refine r_region ?_
              obtain ⟨x1, b6, o1, hx1, hr1, hl11, hu1, hw1⟩ := Sl.at' (P := Tryz.prog) f56.sl Tryz.underlying109 ti114 encE_len (k := .i64) (n := ((k : Nat) : Int)) (k) (by omega) (by first | assumption | omega)
              refine OL.q (Q1.indexAddr rfl rfl hr1) rfl rfl ?_
              refine OL.q (Q1.loadN ti114 rfl (fun _ e => e ▸ hw1) rfl) rfl rfl ?_
              have hl6 := enc_len4 hO2 hx1
              have hie := hI _ (List.mem_of_getElem? hgi) _ (List.mem_of_getElem? hx1)
              refine OL.act rfl rfl (AW.alloc ti114 ?_)
              intro w12 b7 hm10 hb5 hz3 hk2
              have hl12 := ha2.lt
              have hl13 := f56.lt
              have f57 := ha2.ext hm10
              have f58 := f52.ext hm10
              have f59 := f53.ext hm10
              have f60 := f54.ext hm10
              have f61 := f55.ext hm10
              have f62 := f56.ext hm10
              have hE12 := hE11.ext hm10
              have hs12 := hm10.size
              refine OL.act rfl rfl (AW.store ti114 rfl rfl rfl rfl rfl hk2 (Nat.le_of_ble_eq_true rfl) ?_)
              intro w13 hm11 hz4 hk3
              replace hk3 : Bk w13 b7 [.int .i32 x1.rune, .int .i64 x1.to] 114 := hk3
              have hl14 := f57.lt
              have hl15 := f62.lt
              have f63 := f57.keepG hm11 (by omega)
              have f64 := f58.keepG hm11 (by omega)
              have f65 := f59.keepG hm11 (by omega)
              have f66 := f60.keepG hm11 (by omega)
              have f67 := f61.keepG hm11 (by omega)
              have f68 := f62.keepG hm11 (by omega)
              have hE13 := Ext.thenG hE12 hm11 (by omega)
              have hs13 := hm11.size
              refine OL.nil ?_
              refine r_seq ?_
              refine r_region ?_
              refine OL.q (Q1.move rfl) rfl rfl ?_
              refine OL.q (Q1.fieldAddr fl114_0 rfl) rfl rfl ?_
              refine OL.q (Q1.load1 ti21 rfl (fun _ e => e ▸ (hk3.cell 0 _ rfl))) rfl rfl ?_
              refine OL.q (Q1.convN (by kernel_rfl) Tryz.underlying3 rfl (IntWalk.i64_in _ (by omega))) rfl rfl ?_
              refine OL.act rfl rfl (AW.callF cl67 rfl (put_c (w0 := w13) (b := out2) (x1.rune) (4) ((f63.sl).iv (Nat.zero_le _) (by omega)) (by first | assumption | omega | (simp only [List.length_append, putN_len, List.length_cons, List.length_nil]; omega)) (by first | omega | decide)) ?_)
              rintro v5 w14 ⟨⟨gr5, h5, hg7⟩, hm12⟩
              have hl16 := f63.lt
              have hl17 := f68.lt
              have f69 := f63.ext hm12
              have f70 := f64.ext hm12
              have f71 := f65.ext hm12
              have f72 := f66.ext hm12
              have f73 := f67.ext hm12
              have f74 := f68.ext hm12
              have f75 := hk3.ext hm12
              have hE14 := hE13.ext hm12
              have hs14 := hm12.size
              have hle_5 := h5.le
              have hlt_5 := h5.lt
              have := putN_len x1.rune 4
              refine OL.q (Q1.assign rfl) rfl rfl ?_
              refine OL.nil ?_
              refine r_region ?_
              refine OL.q (Q1.move rfl) rfl rfl ?_
              refine OL.q (Q1.fieldAddr fl114_1 rfl) rfl rfl ?_
              refine OL.q (Q1.load1 ti3 rfl (fun _ e => e ▸ (f75.cell 1 _ rfl))) rfl rfl ?_
              refine OL.act rfl rfl (AW.callF cl67 rfl (put_c (w0 := w14) (b := (out2 ++ putN x1.rune 4)) (x1.to) (2) ((h5.sl).iv (Nat.zero_le _) (by omega)) (by first | assumption | omega | (simp only [List.length_append, putN_len, List.length_cons, List.length_nil]; omega)) (by first | omega | decide)) ?_)
              rintro v6 w15 ⟨⟨gr6, h6, hg8⟩, hm13⟩
              have hl18 := f69.lt
              have hl19 := f74.lt
              have hl20 := h5.lt
              have f76 := f69.ext hm13
              have f77 := f70.ext hm13
              have f78 := f71.ext hm13
              have f79 := f72.ext hm13
              have f80 := f73.ext hm13
              have f81 := f74.ext hm13
              have f82 := f75.ext hm13
              have f83 := h5.ext hm13
              have hE15 := hE14.ext hm13
              have hs15 := hm13.size
              have hle_6 := h6.le
              have hlt_6 := h6.lt
              have := putN_len x1.to 2
              refine OL.q (Q1.assign rfl) rfl rfl ?_
              refine OL.nil ?_
              refine r_inBlock ?_
              refine r_region ?_
              refine OL.q (Q1.addI (((k + 1 : Nat) : Int)) rfl rfl (by omega)) rfl rfl ?_
              refine OL.q (Q1.move rfl) rfl rfl ?_
              refine OL.nil ?_
              exact (ih2 _ _ _ ⟨(v6 : Value), (gr6 : Nat), ((((out2 ++ putN x1.rune 4)) ++ putN x1.to 2) : List UInt8), (k + 1 : Nat), rfl, rfl, hE15, (by omega), h6, (by omega), f77, f78, f79, f80, f81, (by omega), (by omega), (by first | exact enc_edge hO2 hx1 | (exfalso; omega)), (by first | omega | (exfalso; omega))⟩ (by omega)).sub ⟨rfl, rfl, rfl, rfl, rfl, rfl, rfl, trivial⟩
            | false =>
              replace hb4 := of_decide_eq_false hb4.symm
              refine r_cond_f rfl ?_
              refine r_exit rfl ?_
              refine r_inBlock ?_
              refine r_region ?_
              refine OL.q (Q1.addI (((i + 1 : Nat) : Int)) rfl rfl (by omega)) rfl rfl ?_
              refine OL.q (Q1.move rfl) rfl rfl ?_
              refine OL.nil ?_
              exact (ih1 _ _ _ ⟨(v_out2 : Value), (g_out2 : Nat), (out2 : List UInt8), (i + 1 : Nat), rfl, rfl, hE11, (by omega), ha2, (by omega), f52, f53, f54, f55, (by omega), (by first | exact enc_next hO2 (by omega) | (exfalso; omega)), (by first | omega | (exfalso; omega))⟩ (by omega)).sub ⟨rfl, rfl, rfl, rfl, trivial⟩
        | false =>
          replace hb3 := hb3.symm
          refine r_cond_f rfl ?_
          refine r_skip ?_
          refine r_seq ?_
          refine r_region ?_
          refine OL.q (Q1.move rfl) rfl rfl ?_
          refine OL.q (Q1.move rfl) rfl rfl ?_
          refine OL.act rfl rfl (AW.callF cl67 rfl (put_c (w0 := w7) (b := out) (0) (1) ((f29.sl).iv (Nat.zero_le _) (by omega)) (by first | assumption | omega | (simp only [List.length_append, putN_len, List.length_cons, List.length_nil]; omega)) (by first | omega | decide)) ?_)
          rintro v2 w8 ⟨⟨gr2, h2, hg3⟩, hm7⟩
          have hl5 := f29.lt
          have f34 := f29.ext hm7
          have f35 := f30.ext hm7
          have f36 := f31.ext hm7
          have f37 := f32.ext hm7
          have f38 := f33.ext hm7
          have hE8 := hE7.ext hm7
          have hs8 := hm7.size
          have hle_2 := h2.le
          have hlt_2 := h2.lt
          have := putN_len 0 1
          refine OL.q (Q1.assign rfl) rfl rfl ?_
          refine OL.nil ?_
          refine r_seq ?_
          refine r_region ?_
          refine OL.q (Q1.move rfl) rfl rfl ?_
          refine OL.q (Q1.move rfl) rfl rfl ?_
          refine OL.act rfl rfl (AW.callF cl70 rfl (edges_c (w0 := w8)  (((i : Nat) : Int)) f38 (by omega) (by first | omega | assumption) (by first | assumption | omega | (simp; done)) (by first | assumption | (simp; done))) ?_)
          rintro v3 w9 ⟨⟨gr3, h3, hg4⟩, hm8⟩
          have hl6 := f34.lt
          have hl7 := h2.lt
          have f39 := f34.ext hm8
          have f40 := f35.ext hm8
          have f41 := f36.ext hm8
          have f42 := f37.ext hm8
          have f43 := f38.ext hm8
          have f44 := h2.ext hm8
          have hE9 := hE8.ext hm8
          have hs9 := hm8.size
          have hle_3 := h3.le
          have hlt_3 := h3.lt
          refine OL.q (Q1.assign rfl) rfl rfl ?_
          refine OL.nil ?_
          refine r_seq ?_
          refine r_region ?_
          refine OL.q (Q1.move rfl) rfl rfl ?_
          refine OL.q (Q1.move rfl) rfl rfl ?_
          refine OL.q (Q1.lenSl Tryz.underlying109 (h3.sl) rfl) rfl rfl ?_
          refine OL.act rfl rfl (AW.callF cl67 rfl (put_c (w0 := w9) (b := (out ++ putN 0 1)) ((((((nodeAt g (((i : Nat) : Int))).2)).length : Nat) : Int)) (2) ((f44.sl).iv (Nat.zero_le _) (by omega)) (by first | assumption | omega | (simp only [List.length_append, putN_len, List.length_cons, List.length_nil]; omega)) (by first | omega | decide)) ?_)
          rintro v4 w10 ⟨⟨gr4, h4, hg5⟩, hm9⟩
          have hl8 := f39.lt
          have hl9 := f44.lt
          have hl10 := h3.lt
          have f45 := f39.ext hm9
          have f46 := f40.ext hm9
          have f47 := f41.ext hm9
          have f48 := f42.ext hm9
          have f49 := f43.ext hm9
          have f50 := f44.ext hm9
          have f51 := h3.ext hm9
          have hE10 := hE9.ext hm9
          have hs10 := hm9.size
          have hle_4 := h4.le
          have hlt_4 := h4.lt
          have := putN_len ((((((nodeAt g (((i : Nat) : Int))).2)).length : Nat) : Int)) 2
          refine OL.q (Q1.assign rfl) rfl rfl ?_
          refine OL.nil ?_
          refine r_seq ?_
          refine r_region ?_
          refine OL.q (Q1.move rfl) rfl rfl ?_
          refine OL.q (Q1.lenSl Tryz.underlying109 (f51.sl) rfl) rfl rfl ?_
          refine OL.q (Q1.move rfl) rfl rfl ?_
          refine OL.nil ?_
          refine r_block ?_
          refine r_loop (I := fun m E W => ∃ (v_out2 : Value) (g_out2 : Nat) (out2 : List UInt8) (k : Nat), E = [(0, ptr b1 0), (4, v_out2), (18, .int .i64 ((((g.length : Nat) : Int)))), (19, .int .i64 (((i : Nat) : Int))), (35, v3), (36, .int .i64 ((((((nodeAt g (((i : Nat) : Int))).2)).length : Nat) : Int))), (37, .int .i64 (((k : Nat) : Int)))] ∧ m = (nodeAt g (i : Int)).2.length - k ∧ Ext w0 W ∧ w10.heap.size ≤ W.heap.size ∧ Acc encB 5 1 W g_out2 v_out2 out2 ∧ (g_out2 = 0 ∨ w0.heap.size < g_out2) ∧ Rw W lo_g hi_g b1 [vn1] ∧ Sl encN W (Iv lo_g hi_g) vn1 nds1 ∧ NRel W (Iv lo_g hi_g) nds1 g ∧ Gr 0 W lo_g hi_g ((ptr b1 0)) g ∧ Acc encE 114 2 W gr3 v3 (((nodeAt g (((i : Nat) : Int))).2)) ∧ (g_out2 ≤ lo_g ∨ hi_g < g_out2) ∧ (g_out2 ≠ gr3 ∨ gr3 = 0) ∧ (out2 ++ (((nodeAt g (i : Int)).2.drop k).flatMap edgeB ++ (g.drop (i + 1)).flatMap nodeB) = bodyB g) ∧ (k ≤ (nodeAt g (i : Int)).2.length)) ?_ ?_
          · refine ⟨_, _, ⟨(v4 : Value), (gr4 : Nat), ((((out ++ putN 0 1)) ++ putN ((((((nodeAt g (((i : Nat) : Int))).2)).length : Nat) : Int)) 2) : List UInt8), (0 : Nat), rfl, rfl, hE10, Nat.le_refl _, h4, (by omega), f46, f47, f48, f49, f51, (by omega), (by omega), (by first | exact enc_node hO hgi (by rw [if_pos (by assumption)]) | exact enc_node hO hgi (by rw [if_neg (by simp [*])])), (by omega)⟩, ⟨rfl, rfl, rfl, rfl, rfl, rfl, rfl, trivial⟩⟩
          · rintro _ _ w11 ⟨v_out2, g_out2, out2, k, rfl, rfl, hE11, hs11, ha2, hg6, f52, f53, f54, f55, f56, hn2, hn3, hO2, hkl⟩ ih2
            have hbl2 := enc_len hO2
            refine r_seq ?_
            refine r_region ?_
            refine OL.qb (Q1.lt rfl rfl) rfl rfl ?_
            intro b5 hb4
            refine OL.nil ?_
            refine r_seq ?_
            cases b5 with
            | true =>
              replace hb4 := of_decide_eq_true hb4.symm
              refine r_cond_t rfl ?_
              refine r_skip ?_
              refine r_seq ?_
              refine r_block ?_
              refine r_seq ?_
              refine r_region ?_
              obtain ⟨x1, b6, o1, hx1, hr1, hl11, hu1, hw1⟩ := Sl.at' (P := Tryz.prog) f56.sl Tryz.underlying109 ti114 encE_len (k := .i64) (n := ((k : Nat) : Int)) (k) (by omega) (by first | assumption | omega)
              refine OL.q (Q1.indexAddr rfl rfl hr1) rfl rfl ?_
              refine OL.q (Q1.loadN ti114 rfl (fun _ e => e ▸ hw1) rfl) rfl rfl ?_
              have hl6 := enc_len4 hO2 hx1
              have hie := hI _ (List.mem_of_getElem? hgi) _ (List.mem_of_getElem? hx1)
              refine OL.act rfl rfl (AW.alloc ti114 ?_)
              intro w12 b7 hm10 hb5 hz3 hk2
              have hl12 := ha2.lt
              have hl13 := f56.lt
              have f57 := ha2.ext hm10
              have f58 := f52.ext hm10
              have f59 := f53.ext hm10
              have f60 := f54.ext hm10
              have f61 := f55.ext hm10
              have f62 := f56.ext hm10
              have hE12 := hE11.ext hm10
              have hs12 := hm10.size
              refine OL.act rfl rfl (AW.store ti114 rfl rfl rfl rfl rfl hk2 (Nat.le_of_ble_eq_true rfl) ?_)
              intro w13 hm11 hz4 hk3
              replace hk3 : Bk w13 b7 [.int .i32 x1.rune, .int .i64 x1.to] 114 := hk3
              have hl14 := f57.lt
              have hl15 := f62.lt
              have f63 := f57.keepG hm11 (by omega)
              have f64 := f58.keepG hm11 (by omega)
              have f65 := f59.keepG hm11 (by omega)
              have f66 := f60.keepG hm11 (by omega)
              have f67 := f61.keepG hm11 (by omega)
              have f68 := f62.keepG hm11 (by omega)
              have hE13 := Ext.thenG hE12 hm11 (by omega)
              have hs13 := hm11.size
              refine OL.nil ?_
              refine r_seq ?_
              refine r_region ?_
              refine OL.q (Q1.move rfl) rfl rfl ?_
              refine OL.q (Q1.fieldAddr fl114_0 rfl) rfl rfl ?_
              refine OL.q (Q1.load1 ti21 rfl (fun _ e => e ▸ (hk3.cell 0 _ rfl))) rfl rfl ?_
              refine OL.q (Q1.convN (by kernel_rfl) Tryz.underlying3 rfl (IntWalk.i64_in _ (by omega))) rfl rfl ?_
              refine OL.act rfl rfl (AW.callF cl67 rfl (put_c (w0 := w13) (b := out2) (x1.rune) (4) ((f63.sl).iv (Nat.zero_le _) (by omega)) (by first | assumption | omega | (simp only [List.length_append, putN_len, List.length_cons, List.length_nil]; omega)) (by first | omega | decide)) ?_)
              rintro v5 w14 ⟨⟨gr5, h5, hg7⟩, hm12⟩
              have hl16 := f63.lt
              have hl17 := f68.lt
              have f69 := f63.ext hm12
              have f70 := f64.ext hm12
              have f71 := f65.ext hm12
              have f72 := f66.ext hm12
              have f73 := f67.ext hm12
              have f74 := f68.ext hm12
              have f75 := hk3.ext hm12
              have hE14 := hE13.ext hm12
              have hs14 := hm12.size
              have hle_5 := h5.le
              have hlt_5 := h5.lt
              have := putN_len x1.rune 4
              refine OL.q (Q1.assign rfl) rfl rfl ?_
              refine OL.nil ?_
              refine r_region ?_
              refine OL.q (Q1.move rfl) rfl rfl ?_
              refine OL.q (Q1.fieldAddr fl114_1 rfl) rfl rfl ?_
              refine OL.q (Q1.load1 ti3 rfl (fun _ e => e ▸ (f75.cell 1 _ rfl))) rfl rfl ?_
              refine OL.act rfl rfl (AW.callF cl67 rfl (put_c (w0 := w14) (b := (out2 ++ putN x1.rune 4)) (x1.to) (2) ((h5.sl).iv (Nat.zero_le _) (by omega)) (by first | assumption | omega | (simp only [List.length_append, putN_len, List.length_cons, List.length_nil]; omega)) (by first | omega | decide)) ?_)
              rintro v6 w15 ⟨⟨gr6, h6, hg8⟩, hm13⟩
              have hl18 := f69.lt
              have hl19 := f74.lt
              have hl20 := h5.lt
              have f76 := f69.ext hm13
              have f77 := f70.ext hm13
              have f78 := f71.ext hm13
              have f79 := f72.ext hm13
              have f80 := f73.ext hm13
              have f81 := f74.ext hm13
              have f82 := f75.ext hm13
              have f83 := h5.ext hm13
              have hE15 := hE14.ext hm13
              have hs15 := hm13.size
              have hle_6 := h6.le
              have hlt_6 := h6.lt
              have := putN_len x1.to 2
              refine OL.q (Q1.assign rfl) rfl rfl ?_
              refine OL.nil ?_
              refine r_inBlock ?_
              refine r_region ?_
              refine OL.q (Q1.addI (((k + 1 : Nat) : Int)) rfl rfl (by omega)) rfl rfl ?_
              refine OL.q (Q1.move rfl) rfl rfl ?_
              refine OL.nil ?_
              exact (ih2 _ _ _ ⟨(v6 : Value), (gr6 : Nat), ((((out2 ++ putN x1.rune 4)) ++ putN x1.to 2) : List UInt8), (k + 1 : Nat), rfl, rfl, hE15, (by omega), h6, (by omega), f77, f78, f79, f80, f81, (by omega), (by omega), (by first | exact enc_edge hO2 hx1 | (exfalso; omega)), (by first | omega | (exfalso; omega))⟩ (by omega)).sub ⟨rfl, rfl, rfl, rfl, rfl, rfl, rfl, trivial⟩
            | false =>
              replace hb4 := of_decide_eq_false hb4.symm
              refine r_cond_f rfl ?_
              refine r_exit rfl ?_
              refine r_inBlock ?_
              refine r_region ?_
              refine OL.q (Q1.addI (((i + 1 : Nat) : Int)) rfl rfl (by omega)) rfl rfl ?_
              refine OL.q (Q1.move rfl) rfl rfl ?_
              refine OL.nil ?_
              exact (ih1 _ _ _ ⟨(v_out2 : Value), (g_out2 : Nat), (out2 : List UInt8), (i + 1 : Nat), rfl, rfl, hE11, (by omega), ha2, (by omega), f52, f53, f54, f55, (by omega), (by first | exact enc_next hO2 (by omega) | (exfalso; omega)), (by first | omega | (exfalso; omega))⟩ (by omega)).sub ⟨rfl, rfl, rfl, rfl, trivial⟩
      | false =>
        replace hb2 := of_decide_eq_false hb2.symm
        refine r_cond_f rfl ?_
        refine r_exit rfl ?_
        refine r_seq ?_
        refine r_region ?_
        refine OL.q (Q1.move rfl) rfl rfl ?_
        have hl4 := ha1.lt
        refine OL.q (Q1.move rfl) rfl rfl ?_
        refine OL.act rfl rfl (AW.callF cl71 rfl (sumof_c (w0 := w6) (b := out)  ((ha1.sl).iv (Nat.zero_le _) (by omega)) (by first | assumption | omega | (simp only [List.length_append, putN_len, List.length_cons, List.length_nil]; omega))) ?_)
        rintro _ w7 ⟨rfl, hm6⟩
        have hl5 := ha1.lt
        have f29 := ha1.ext hm6
        have f30 := f25.ext hm6
        have f31 := f26.ext hm6
        have f32 := f27.ext hm6
        have f33 := f28.ext hm6
        have hE7 := hE6.ext hm6
        have hs7 := hm6.size
        have := sumF_lt 0 out
        change sumN out < _ at this
        refine OL.q (Q1.convN (by kernel_rfl) Tryz.underlying3 rfl (IntWalk.i64_in _ (by omega))) rfl rfl ?_
        refine OL.act rfl rfl (AW.callF cl67 rfl (put_c (w0 := w7) (b := out) ((((sumN out : Nat) : Int))) (4) ((f29.sl).iv (Nat.zero_le _) (by omega)) (by first | assumption | omega | (simp only [List.length_append, putN_len, List.length_cons, List.length_nil]; omega)) (by first | omega | decide)) ?_)
        rintro v2 w8 ⟨⟨gr2, h2, hg3⟩, hm7⟩
        have hl6 := f29.lt
        have f34 := f29.ext hm7
        have f35 := f30.ext hm7
        have f36 := f31.ext hm7
        have f37 := f32.ext hm7
        have f38 := f33.ext hm7
        have hE8 := hE7.ext hm7
        have hs8 := hm7.size
        have hle_2 := h2.le
        have hlt_2 := h2.lt
        have := putN_len ((((sumN out : Nat) : Int))) 4
        refine OL.q (Q1.assign rfl) rfl rfl ?_
        refine OL.q (Q1.assign rfl) rfl rfl ?_
        refine OL.nil ?_
        refine r_ret2 Tryz.func55 rfl rfl rfl ?_
        exact Ret.mk ⟨_, _, rfl, ⟨_, Acc.cast h2 (by first | (rw [encA_no rfl]; done) | (rw [encA_no rfl]) | rfl | (rw [encA_yes (by assumption), enc_fin hO (by omega)]; rfl) | exact errA_yes (by assumption) | (exfalso; omega)), by omega⟩, (congrArg (Value.int .i64) (by first | (rw [encA_no rfl]; done) | (rw [encA_no rfl]) | rfl | (rw [encA_yes (by assumption), enc_fin hO (by omega)]; rfl) | exact errA_yes (by assumption) | (exfalso; omega))), hE8⟩
set_option maxRecDepth 20000 in
set_option maxHeartbeats 4000000 in
theorem packof_c {w0 : World}  {v_words : Value} {words : List Str} (h_words : Sl encS w0 (Iv 0 w0.heap.size) v_words words) (hok : Ml.LOk words) (hsz : words.length ≤ 1000000) :
    Calls Tryz.prog 40 #[v_words] w0 (Ret fun rv w1 => ∃ u0 u1, rv = .tuple #[u0, u1] ∧ (∃ gr, Acc encB 5 1 w1 gr u0 (imgM words) ∧ (gr = 0 ∨ w0.heap.size < gr)) ∧ u1 = .int .i64 (goodL words) ∧ Ext w0 w1) := by
  have hE0 : Ext w0 w0 := Mod.refl _ _
  have hle1 := h_words.le
  refine calls_enter Tryz.func40 rfl Tryz.ntmps40 rfl ?_
  refine r_seq ?_
  refine r_region ?_
  refine OL.q (Q1.assign rfl) rfl rfl ?_
  refine OL.q (Q1.assign rfl) rfl rfl ?_
  refine OL.nil ?_
  refine r_seq ?_
  refine r_region ?_
  refine OL.q (Q1.move rfl) rfl rfl ?_
  refine OL.act rfl rfl (AW.callF cl54 rfl (build_c (w0 := w0) (words := words)  ((h_words).iv (Nat.zero_le _) (by omega)) (by assumption) (by first | assumption | omega)) ?_)
  rintro _ w1 ⟨vg1, _, rfl, ⟨lo1, hi1, hgr_1, hlo1, hhi1⟩, rfl, hm1⟩
  have f1 := h_words.ext hm1
  have hE1 := hE0.ext hm1
  have hs1 := hm1.size
  have := Ml.goodL_range words
  refine OL.q (Q1.move rfl) rfl rfl ?_
  refine OL.q (Q1.extract rfl rfl) rfl rfl ?_
  refine OL.q (Q1.extract rfl rfl) rfl rfl ?_
  refine OL.q (Q1.assign rfl) rfl rfl ?_
  refine OL.q (Q1.assign rfl) rfl rfl ?_
  refine OL.nil ?_
  refine r_seq ?_
  refine r_seq ?_
  refine r_region ?_
  refine OL.q (Q1.move rfl) rfl rfl ?_
  refine OL.qb (Q1.ne rfl rfl) rfl rfl ?_
  intro b1 hb1
  refine OL.nil ?_
  cases b1 with
  | true =>
    replace hb1 := bne_iff_ne.1 hb1.symm
    refine r_cond_t rfl ?_
    refine r_seq ?_
    refine r_region ?_
    refine OL.q (Q1.move rfl) rfl rfl ?_
    refine OL.q (Q1.assign rfl) rfl rfl ?_
    refine OL.q (Q1.assign rfl) rfl rfl ?_
    refine OL.nil ?_
    refine r_ret2 Tryz.func40 rfl rfl rfl ?_
    exact Ret.mk ⟨_, _, rfl, ⟨0, Acc.cast Acc.nil (by first | exact imgM_no (by assumption) | rfl | exact encA_img hg0 | exact errA_img hg0 | assumption | (exfalso; omega)), .inl rfl⟩, (congrArg (Value.int .i64) (by first | exact imgM_no (by assumption) | rfl | exact encA_img hg0 | exact errA_img hg0 | assumption | (exfalso; omega))), hE1⟩
  | false =>
    replace hb1 := bne_eq_false_iff_eq.1 hb1.symm
    refine r_cond_f rfl ?_
    refine r_skip ?_
    refine r_seq ?_
    refine r_region ?_
    refine OL.q (Q1.move rfl) rfl rfl ?_
    have hg0 : goodL words = 0 := by assumption
    have hgok := gok_of hg0
    obtain ⟨hI, hgl, hel⟩ := hgok.edges
    have hbd := body_len hg0
    refine OL.act rfl rfl (AW.callF cl55 rfl (encode_c (w0 := w1)   hgr_1 (by omega) (by first | assumption | omega | (simp; done)) (by first | assumption | (simp; done)) (by first | assumption | (simp; done)) (by first | assumption | omega | (simp [bodyB, putN_len]; done))) ?_)
    rintro _ w2 ⟨v1, _, rfl, ⟨gr1, h1, hg1⟩, rfl, hm2⟩
    have f2 := f1.ext hm2
    have f3 := hgr_1.ext hm2
    have hE2 := hE1.ext hm2
    have hs2 := hm2.size
    have hle_1 := h1.le
    have hlt_1 := h1.lt
    have := encA_lenE ((Ml.gnodes words)) (by first | assumption | omega | (simp [bodyB, putN_len]; done))
    refine OL.q (Q1.extract rfl rfl) rfl rfl ?_
    refine OL.q (Q1.extract rfl rfl) rfl rfl ?_
    refine OL.q (Q1.assign rfl) rfl rfl ?_
    refine OL.q (Q1.assign rfl) rfl rfl ?_
    refine OL.nil ?_
    refine r_ret2 Tryz.func40 rfl rfl rfl ?_
    exact Ret.mk ⟨_, _, rfl, ⟨_, Acc.cast h1 (by first | exact imgM_no (by assumption) | rfl | exact encA_img hg0 | exact errA_img hg0 | assumption | (exfalso; omega)), by omega⟩, (congrArg (Value.int .i64) (by first | exact imgM_no (by assumption) | rfl | exact encA_img hg0 | exact errA_img hg0 | assumption | (exfalso; omega))), hE2⟩
end Go.Proofs
namespace Go.Proofs
open Go.Ik Go.Ml
set_option maxRecDepth 20000 in
set_option maxHeartbeats 4000000 in
theorem pimage_c {w0 : World}  {c : Cfg} {v_c_words : Value} {v_c_cuts : Value} (shard : Int) (h_c_words : Sl encS w0 (Iv 0 w0.heap.size) v_c_words c.words) (h_c_cuts : Sl encKey w0 (Iv 0 w0.heap.size) v_c_cuts c.cuts) (h_c : Cfg.Ok c) (h_shard : I64 shard) (hlen : c.words.length ≤ 1000000) :
    Calls Tryz.prog 25 #[.agg #[v_c_words, v_c_cuts, .int .i64 c.workers, .int .i64 c.copies, .int .i64 c.slots, .int .i64 c.batch, .int .i64 c.lease, .int .i64 c.hedge, .int .i64 c.first, .int .i64 c.cap, .int .i64 c.jitter, .int .i64 c.net], .int .i64 shard] w0 (Ret fun rv w1 => ∃ u0 u1, rv = .tuple #[u0, u1] ∧ (∃ gr, Acc encB 5 1 w1 gr u0 (imgC c shard) ∧ (gr = 0 ∨ w0.heap.size < gr)) ∧ u1 = .int .i64 (errC c shard) ∧ Ext w0 w1) := by
  have hE0 : Ext w0 w0 := Mod.refl _ _
  have hle1 := h_c_words.le
  have hle2 := h_c_cuts.le
  refine calls_enter Tryz.func25 rfl Tryz.ntmps25 rfl ?_
  refine r_seq ?_
  refine r_region ?_
  refine OL.act rfl rfl (AW.box [v_c_words, v_c_cuts, .int .i64 c.workers, .int .i64 c.copies, .int .i64 c.slots, .int .i64 c.batch, .int .i64 c.lease, .int .i64 c.hedge, .int .i64 c.first, .int .i64 c.cap, .int .i64 c.jitter, .int .i64 c.net] rfl rfl ?_)
  intro w1 b1 hm1 hb1 hz1 hk1
  have f1 := h_c_words.ext hm1
  have f2 := h_c_cuts.ext hm1
  have hE1 := hE0.ext hm1
  have hs1 := hm1.size
  refine OL.q (Q1.assign rfl) rfl rfl ?_
  refine OL.q (Q1.assign rfl) rfl rfl ?_
  refine OL.nil ?_
  refine r_seq ?_
  refine r_seq ?_
  refine r_region ?_
  refine OL.q (Q1.move rfl) rfl rfl ?_
  refine OL.q (Q1.loadN ti25 rfl (fun _ e => e ▸ hk1.row) rfl) rfl rfl ?_
  refine OL.act rfl rfl (AW.callF cl37 rfl (shards_c (w0 := w1) (c := c)  ((f1).iv (Nat.zero_le _) (by omega)) ((f2).iv (Nat.zero_le _) (by omega)) (by first | assumption | exact Ml.Cfg.ok_of (by decide +kernel))) ?_)
  rintro _ w2 ⟨rfl, hm2⟩
  have f3 := f1.ext hm2
  have f4 := f2.ext hm2
  have f5 := hk1.ext hm2
  have hE2 := hE1.ext hm2
  have hs2 := hm2.size
  have := Ml.shards_le c
  refine OL.q (Q1.subI (((((Ml.shards c : Nat) : Int)) - 1)) rfl rfl (by omega)) rfl rfl ?_
  refine OL.act rfl rfl (AW.callF cl36 rfl (within_c (w0 := w2)  (shard) (0) (((((Ml.shards c : Nat) : Int)) - 1)) (by first | omega | assumption) (by first | omega | assumption) (by first | omega | assumption)) ?_)
  rintro _ w3 ⟨⟨b2, hb2, rfl⟩, hm3⟩
  have f6 := f3.ext hm3
  have f7 := f4.ext hm3
  have f8 := f5.ext hm3
  have hE3 := hE2.ext hm3
  have hs3 := hm3.size
  cases b2 with
  | true =>
    replace hb2 := hb2.symm
    have := Ml.within_true hb2
    refine OL.q (Q1.not rfl) rfl rfl ?_
    refine OL.nil ?_
    refine r_cond_f rfl ?_
    refine r_skip ?_
    refine r_seq ?_
    refine r_region ?_
    refine OL.q (Q1.loadN ti25 rfl (fun _ e => e ▸ f8.row) rfl) rfl rfl ?_
    refine OL.q (Q1.move rfl) rfl rfl ?_
    refine OL.act rfl rfl (AW.callF cl41 rfl (pwords_c (w0 := w3) (c := c) (shard) ((f6).iv (Nat.zero_le _) (by omega)) ((f7).iv (Nat.zero_le _) (by omega)) (by first | assumption | exact Ml.Cfg.ok_of (by decide +kernel)) (by first | omega | assumption) (by first | assumption | omega)) ?_)
    rintro v1 w4 ⟨⟨gr1, h1, hg1⟩, hm4⟩
    have f9 := f6.ext hm4
    have f10 := f7.ext hm4
    have f11 := f8.ext hm4
    have hE4 := hE3.ext hm4
    have hs4 := hm4.size
    have hle_1 := h1.le
    have hlt_1 := h1.lt
    have := slice_len c.cuts c.words shard
    change (Ml.wordsM c shard).length ≤ _ at this
    refine OL.act rfl rfl (AW.callF cl40 rfl (packof_c (w0 := w4) (words := (Ml.wordsM c shard))  ((h1.sl).iv (Nat.zero_le _) (by omega)) (by exact slice_lok h_c.words) (by first | assumption | omega | (simp; done))) ?_)
    rintro _ w5 ⟨v2, _, rfl, ⟨gr2, h2, hg2⟩, rfl, hm5⟩
    have hl1 := h1.lt
    have f12 := f9.ext hm5
    have f13 := f10.ext hm5
    have f14 := f11.ext hm5
    have f15 := h1.ext hm5
    have hE5 := hE4.ext hm5
    have hs5 := hm5.size
    have hle_2 := h2.le
    have hlt_2 := h2.lt
    have := imgM_len ((Ml.wordsM c shard))
    refine OL.q (Q1.extract rfl rfl) rfl rfl ?_
    refine OL.q (Q1.extract rfl rfl) rfl rfl ?_
    refine OL.q (Q1.assign rfl) rfl rfl ?_
    refine OL.q (Q1.assign rfl) rfl rfl ?_
    refine OL.nil ?_
    refine r_ret2 Tryz.func25 rfl rfl rfl ?_
    exact Ret.mk ⟨_, _, rfl, ⟨_, Acc.cast h2 (by first | exact (imgC_no (by omega)).1 | exact (imgC_no (by omega)).2 | exact (imgC_yes (by omega) (by omega)).1 | exact (imgC_yes (by omega) (by omega)).2 | (exfalso; omega)), by omega⟩, (congrArg (Value.int .i64) (by first | exact (imgC_no (by omega)).1 | exact (imgC_no (by omega)).2 | exact (imgC_yes (by omega) (by omega)).1 | exact (imgC_yes (by omega) (by omega)).2 | (exfalso; omega))), hE5⟩
  | false =>
    replace hb2 := hb2.symm
    have := Ml.within_false hb2
    refine OL.q (Q1.not rfl) rfl rfl ?_
    refine OL.nil ?_
    refine r_cond_t rfl ?_
    refine r_seq ?_
    refine r_region ?_
    refine OL.q (Q1.assign rfl) rfl rfl ?_
    refine OL.q (Q1.assign rfl) rfl rfl ?_
    refine OL.nil ?_
    refine r_ret2 Tryz.func25 rfl rfl rfl ?_
    exact Ret.mk ⟨_, _, rfl, ⟨0, Acc.cast Acc.nil (by first | exact (imgC_no (by omega)).1 | exact (imgC_no (by omega)).2 | exact (imgC_yes (by omega) (by omega)).1 | exact (imgC_yes (by omega) (by omega)).2 | (exfalso; omega)), .inl rfl⟩, (congrArg (Value.int .i64) (by first | exact (imgC_no (by omega)).1 | exact (imgC_no (by omega)).2 | exact (imgC_yes (by omega) (by omega)).1 | exact (imgC_yes (by omega) (by omega)).2 | (exfalso; omega))), hE3⟩
end Go.Proofs
namespace Go.Proofs
open Go.Ik Go.Ml
set_option maxRecDepth 20000 in
set_option maxHeartbeats 1000000 in
theorem dnew_c {w0 : World} {c : Cfg} {v_c_words : Value} {v_c_cuts : Value} (worker : Int) (h_c_words : Sl encS w0 (Iv 0 w0.heap.size) v_c_words c.words) (h_c_cuts : Sl encKey w0 (Iv 0 w0.heap.size) v_c_cuts c.cuts) (h_c : Cfg.Ok c) (hw : I64 worker) (hlen : c.words.length ≤ 1000000) :
    Calls Tryz.prog 6 #[(.agg #[v_c_words, v_c_cuts, .int .i64 c.workers, .int .i64 c.copies, .int .i64 c.slots, .int .i64 c.batch, .int .i64 c.lease, .int .i64 c.hedge, .int .i64 c.first, .int .i64 c.cap, .int .i64 c.jitter, .int .i64 c.net] : Value), .int .i64 worker] w0 (Ret fun rv w1 => Mod (fun _ => False) w0 w1 ∧ (mayD c worker = false ∧ rv = .tuple #[.pointer none, .int .i64 2] ∨ mayD c worker = true ∧ ∃ bd F2, rv = .tuple #[ptr bd 0, .int .i64 0] ∧ (dkK (R := fun _ => False) 62 69 5 bd 0 ((dkNew c worker))).p F2 w1 ∧ ∀ b, F2 b → b < w1.heap.size ∧ w0.heap.size ≤ b)) := by
  have hS0 := St.start0 w0
  have hle1 := h_c_words.le
  have hle2 := h_c_cuts.le
  have hc1 := h_c.workers
  have hc2 := h_c.copies
  have hc3 := h_c.slots
  have hc4 := h_c.batch
  have hc5 := h_c.lease
  have hc6 := h_c.hedge
  have hc7 := h_c.first
  have hc8 := h_c.cap
  have hc9 := h_c.jitter
  have hc10 := h_c.net
  refine calls_enter Tryz.func6 rfl Tryz.ntmps6 rfl ?_
  refine r_seq ?_
  refine r_region ?_
  refine OL.act rfl rfl (AW.box [v_c_words, v_c_cuts, .int .i64 c.workers, .int .i64 c.copies, .int .i64 c.slots, .int .i64 c.batch, .int .i64 c.lease, .int .i64 c.hedge, .int .i64 c.first, .int .i64 c.cap, .int .i64 c.jitter, .int .i64 c.net] rfl rfl ?_)
  intro w1 b1 hm1 hb1 hz1 hk1
  have hS1 := hS0.ext hm1
  have hS2 : St (fun _ => False) (fun _ => False) w0 w1 [bkR b1 [v_c_words, v_c_cuts, .int .i64 c.workers, .int .i64 c.copies, .int .i64 c.slots, .int .i64 c.batch, .int .i64 c.lease, .int .i64 c.hedge, .int .i64 c.first, .int .i64 c.cap, .int .i64 c.jitter, .int .i64 c.net] 25] := hS0.newBk hm1 hb1 hk1
  refine OL.q (Q1.assign rfl) rfl rfl ?_
  refine OL.q (Q1.assign rfl) rfl rfl ?_
  refine OL.nil ?_
  refine r_seq ?_
  refine r_seq ?_
  refine r_region ?_
  have f1 := hS2.bk (i := 0) rfl
  refine OL.q (Q1.loadN ti25 rfl (fun _ e => e ▸ f1.row) rfl) rfl rfl ?_
  have f2 := hS2.out h_c_words (fun _ _ h => h)
  have f3 := hS2.out h_c_cuts (fun _ _ h => h)
  refine OL.act rfl rfl (AW.callF cl23 rfl (may_c (w0 := w1) (c := c)  (f2.iv (Nat.zero_le _) hS2.mod.size) (f3.iv (Nat.zero_le _) hS2.mod.size) (by first | assumption | exact Ml.Cfg.ok_of (by decide +kernel))) ?_)
  rintro _ w2 ⟨⟨b2, hb2, rfl⟩, hm2⟩
  have hS3 := hS2.ext hm2
  cases b2 with
  | true =>
    replace hb2 := hb2.symm
    have := Ml.may_bounds hb2
    refine OL.q (Q1.not rfl) rfl rfl ?_
    refine OL.q (Q1.move rfl) rfl rfl ?_
    refine OL.q (Q1.move rfl) rfl rfl ?_
    refine OL.qb (Q1.lt rfl rfl) rfl rfl ?_
    intro b3 hb3
    refine OL.q (Q1.pick_f rfl rfl) rfl rfl ?_
    refine OL.q (Q1.move rfl) rfl rfl ?_
    cases b3 with
    | true =>
      replace hb3 := of_decide_eq_true hb3.symm
      refine OL.sk rfl rfl ?_
      refine OL.sk rfl rfl ?_
      refine OL.sk rfl rfl ?_
      refine OL.sk rfl rfl ?_
      refine OL.q (Q1.pick_t rfl rfl) rfl rfl ?_
      refine OL.nil ?_
      refine r_cond_t rfl ?_
      refine r_seq ?_
      refine r_region ?_
      refine OL.q (Q1.assign rfl) rfl rfl ?_
      refine OL.q (Q1.assign rfl) rfl rfl ?_
      refine OL.nil ?_
      refine r_ret2 Tryz.func6 rfl rfl rfl ?_
      exact Ret.mk ⟨hS3.mod, .inl ⟨mayD_no (by first | exact .inl (Eq.symm (by assumption)) | exact .inl (by assumption) | exact .inr (by omega)), rfl⟩⟩
    | false =>
      replace hb3 := of_decide_eq_false hb3.symm
      refine OL.q (Q1.move rfl) rfl rfl ?_
      refine OL.q (Q1.fieldAddr fl25_2 rfl) rfl rfl ?_
      have f4 := hS3.bk (i := 0) rfl
      refine OL.q (Q1.load1 ti3 rfl (fun _ e => e ▸ (f4.cell 2 _ rfl))) rfl rfl ?_
      refine OL.qb (Q1.gt rfl rfl) rfl rfl ?_
      intro b4 hb4
      refine OL.q (Q1.pick_f rfl rfl) rfl rfl ?_
      refine OL.nil ?_
      cases b4 with
      | true =>
        replace hb4 := of_decide_eq_true hb4.symm
        refine r_cond_t rfl ?_
        refine r_seq ?_
        refine r_region ?_
        refine OL.q (Q1.assign rfl) rfl rfl ?_
        refine OL.q (Q1.assign rfl) rfl rfl ?_
        refine OL.nil ?_
        refine r_ret2 Tryz.func6 rfl rfl rfl ?_
        exact Ret.mk ⟨hS3.mod, .inl ⟨mayD_no (by first | exact .inl (Eq.symm (by assumption)) | exact .inl (by assumption) | exact .inr (by omega)), rfl⟩⟩
      | false =>
        replace hb4 := of_decide_eq_false hb4.symm
        refine r_cond_f rfl ?_
        refine r_skip ?_
        refine r_seq ?_
        refine r_region ?_
        refine OL.act rfl rfl (AW.makeMap (key := intV) (val := ptrV) ?_)
        intro w3 b5 hm3 hb5 hz2 hk2
        have hS4 := hS3.ext hm3
        have hS5 : St (fun _ => False) (fun _ => False) w0 w3 [bkR b1 [v_c_words, v_c_cuts, .int .i64 c.workers, .int .i64 c.copies, .int .i64 c.slots, .int .i64 c.batch, .int .i64 c.lease, .int .i64 c.hedge, .int .i64 c.first, .int .i64 c.cap, .int .i64 c.jitter, .int .i64 c.net] 25, mapR intV ptrV b5 []] := hS3.newMap hm3 hb5 hk2
        refine OL.q (Q1.build (vs := #[(0, (.map (some b5) : Value))]) (v := .agg #[.map (some b5), .int .i64 0]) rfl (fun _ => by kernel_rfl)) rfl rfl ?_
        refine OL.act rfl rfl (AW.box [.map (some b5), .int .i64 0] rfl rfl ?_)
        intro w4 b6 hm4 hb6 hz3 hk3
        have hS6 := hS5.ext hm4
        have hS7 : St (fun _ => False) (fun _ => False) w0 w4 [bkR b1 [v_c_words, v_c_cuts, .int .i64 c.workers, .int .i64 c.copies, .int .i64 c.slots, .int .i64 c.batch, .int .i64 c.lease, .int .i64 c.hedge, .int .i64 c.first, .int .i64 c.cap, .int .i64 c.jitter, .int .i64 c.net] 25, mapR intV ptrV b5 [], bkR b6 [.map (some b5), .int .i64 0] 62] := hS5.newBk hm4 hb6 hk3
        refine OL.q (Q1.assign rfl) rfl rfl ?_
        have hkl := keeps_len c worker
        have hS8 : St (fun _ => False) (fun _ => False) w0 w4 [bkR b1 [v_c_words, v_c_cuts, .int .i64 c.workers, .int .i64 c.copies, .int .i64 c.slots, .int .i64 c.batch, .int .i64 c.lease, .int .i64 c.hedge, .int .i64 c.first, .int .i64 c.cap, .int .i64 c.jitter, .int .i64 c.net] 25, bkR b6 [.map (some b5), .int .i64 0] 62, mapR intV ptrV b5 []] := hS7.sel [0, 2, 1] (by rfl) (by decide)
        have hS9 : St (fun _ => False) (fun _ => False) w0 w4 [bkR b1 [v_c_words, v_c_cuts, .int .i64 c.workers, .int .i64 c.copies, .int .i64 c.slots, .int .i64 c.batch, .int .i64 c.lease, .int .i64 c.hedge, .int .i64 c.first, .int .i64 c.cap, .int .i64 c.jitter, .int .i64 c.net] 25, boxR [bkR b6 [.map (some b5), .int .i64 0] 62, mapR intV ptrV b5 []]] := St.close (L1 := [bkR b1 [v_c_words, v_c_cuts, .int .i64 c.workers, .int .i64 c.copies, .int .i64 c.slots, .int .i64 c.batch, .int .i64 c.lease, .int .i64 c.hedge, .int .i64 c.first, .int .i64 c.cap, .int .i64 c.jitter, .int .i64 c.net] 25]) hS8
        have hS10 : St (fun _ => False) (fun _ => False) w0 w4 [bkR b1 [v_c_words, v_c_cuts, .int .i64 c.workers, .int .i64 c.copies, .int .i64 c.slots, .int .i64 c.batch, .int .i64 c.lease, .int .i64 c.hedge, .int .i64 c.first, .int .i64 c.cap, .int .i64 c.jitter, .int .i64 c.net] 25, dkK 62 69 5 b6 0 []] := hS9.imp (i := 1) rfl (fun F_ h_ => dkK_nil h_)
        refine OL.nil ?_
        refine r_seq ?_
        refine r_seq ?_
        refine r_region ?_
        have f5 := hS10.bk (i := 0) rfl
        refine OL.q (Q1.loadN ti25 rfl (fun _ e => e ▸ f5.row) rfl) rfl rfl ?_
        refine OL.q (Q1.move rfl) rfl rfl ?_
        have f6 := hS10.out h_c_words (fun _ _ h => h)
        have f7 := hS10.out h_c_cuts (fun _ _ h => h)
        refine OL.act rfl rfl (AW.callF cl24 rfl (keeps_c (w0 := w4) (c := c) (worker) (f6.iv (Nat.zero_le _) hS10.mod.size) (f7.iv (Nat.zero_le _) hS10.mod.size) (by first | assumption | exact Ml.Cfg.ok_of (by decide +kernel)) (by first | omega | assumption)) ?_)
        rintro v1 w5 ⟨⟨gr1, h1, hg1⟩, hm5⟩
        have hS11 := hS10.ext hm5
        have hS12 : St (fun _ => False) (fun _ => False) w0 w5 [bkR b1 [v_c_words, v_c_cuts, .int .i64 c.workers, .int .i64 c.copies, .int .i64 c.slots, .int .i64 c.batch, .int .i64 c.lease, .int .i64 c.hedge, .int .i64 c.first, .int .i64 c.cap, .int .i64 c.jitter, .int .i64 c.net] 25, dkK 62 69 5 b6 0 [], accR Ik.encI 3 1 v1 ((Ml.keepsM c worker))] := hS10.newAcc hm5 h1 hg1
        clear hg1
        have hle_1 := h1.le
        have := keeps_len c worker
        obtain ⟨g1, f8, hl1, k1⟩ := hS12.accK (i := 2) rfl
        refine OL.q (Q1.lenSl Tryz.underlying63 (f8.sl) rfl) rfl rfl ?_
        refine OL.q (Q1.move rfl) rfl rfl ?_
        refine OL.nil ?_
        refine r_block ?_
        have hS14 : St (fun _ => False) (fun _ => False) w0 w5 [bkR b1 [v_c_words, v_c_cuts, .int .i64 c.workers, .int .i64 c.copies, .int .i64 c.slots, .int .i64 c.batch, .int .i64 c.lease, .int .i64 c.hedge, .int .i64 c.first, .int .i64 c.cap, .int .i64 c.jitter, .int .i64 c.net] 25, accR Ik.encI 3 1 v1 ((Ml.keepsM c worker)), dkK 62 69 5 b6 0 []] := hS12.sel [0, 2, 1] (by rfl) (by decide)
        refine r_loop (I := fun m E W => ∃ (k : Nat), E = [(2, ptr b1 0), (6, ptr b6 0), (29, v1), (30, .int .i64 (((((Ml.keepsM c worker)).length : Nat) : Int))), (31, .int .i64 (((k : Nat) : Int)))] ∧ m = (keepsM c worker).length - k ∧ St (fun _ => False) (fun _ => False) w0 W [bkR b1 [v_c_words, v_c_cuts, .int .i64 c.workers, .int .i64 c.copies, .int .i64 c.slots, .int .i64 c.batch, .int .i64 c.lease, .int .i64 c.hedge, .int .i64 c.first, .int .i64 c.cap, .int .i64 c.jitter, .int .i64 c.net] 25, accR Ik.encI 3 1 v1 ((Ml.keepsM c worker)), dkK 62 69 5 b6 0 ((((keepsM c worker).take k).map (dkE c)))]) ?_ ?_
        · refine ⟨_, _, ⟨(0 : Nat), rfl, rfl, hS14⟩, ⟨rfl, rfl, rfl, rfl, rfl, trivial⟩⟩
        · rintro _ _ w6 ⟨k, rfl, rfl, hS13⟩ ih1
          refine r_seq ?_
          refine r_region ?_
          refine OL.qb (Q1.lt rfl rfl) rfl rfl ?_
          intro b7 hb7
          refine OL.nil ?_
          refine r_seq ?_
          cases b7 with
          | true =>
            replace hb7 := of_decide_eq_true hb7.symm
            refine r_cond_t rfl ?_
            refine r_skip ?_
            refine r_seq ?_
            refine r_block ?_
            refine r_seq ?_
            refine r_region ?_
            obtain ⟨g2, f9, hl2, k2⟩ := hS13.accK (i := 1) rfl
            obtain ⟨x1, b8, o1, hx1, hr1, hl3, hw1⟩ := Sl.atF (P := Tryz.prog) f9.sl Tryz.underlying63 ti3 Ik.encI_len (k := .i64) (n := ((k : Nat) : Int)) (k) (by omega) (by first | assumption | omega)
            refine OL.q (Q1.indexAddr rfl rfl hr1) rfl rfl ?_
            refine OL.q (Q1.load1 ti3 rfl (fun _ e => e ▸ hw1)) rfl rfl ?_
            have hx1r := keeps_range (List.mem_of_getElem? hx1)
            have hshl := Ml.shards_le c
            have hx1i : I64 x1 := by unfold I64; omega
            refine OL.q (Q1.assign rfl) rfl rfl ?_
            refine OL.nil ?_
            refine r_seq ?_
            refine r_region ?_
            have f10 := hS13.bk (i := 0) rfl
            refine OL.q (Q1.loadN ti25 rfl (fun _ e => e ▸ f10.row) rfl) rfl rfl ?_
            refine OL.q (Q1.move rfl) rfl rfl ?_
            have f11 := hS13.out h_c_words (fun _ _ h => h)
            have f12 := hS13.out h_c_cuts (fun _ _ h => h)
            refine OL.act rfl rfl (AW.callF cl25 rfl (pimage_c (w0 := w6) (c := c) (x1) (f11.iv (Nat.zero_le _) hS13.mod.size) (f12.iv (Nat.zero_le _) hS13.mod.size) (by first | assumption | exact Ml.Cfg.ok_of (by decide +kernel)) (by first | omega | assumption) (by first | assumption | omega)) ?_)
            rintro _ w7 ⟨v2, _, rfl, ⟨gr2, h2, hg2⟩, rfl, hm6⟩
            have hS15 := hS13.ext hm6
            have hS16 : St (fun _ => False) (fun _ => False) w0 w7 [bkR b1 [v_c_words, v_c_cuts, .int .i64 c.workers, .int .i64 c.copies, .int .i64 c.slots, .int .i64 c.batch, .int .i64 c.lease, .int .i64 c.hedge, .int .i64 c.first, .int .i64 c.cap, .int .i64 c.jitter, .int .i64 c.net] 25, accR Ik.encI 3 1 v1 ((Ml.keepsM c worker)), dkK 62 69 5 b6 0 ((((keepsM c worker).take k).map (dkE c))), accR encB 5 1 v2 ((imgC c x1))] := hS13.newAcc hm6 h2 hg2
            clear hg2
            have hle_2 := h2.le
            have := imgC_len c x1
            have := errC_rng c x1
            refine OL.q (Q1.move rfl) rfl rfl ?_
            refine OL.q (Q1.extract rfl rfl) rfl rfl ?_
            refine OL.q (Q1.extract rfl rfl) rfl rfl ?_
            refine OL.q (Q1.assign rfl) rfl rfl ?_
            refine OL.q (Q1.assign rfl) rfl rfl ?_
            refine OL.nil ?_
            obtain ⟨Fy1, hAy1, hFy1, hky1⟩ := hS16.act (i := 2) rfl
            obtain ⟨D, bm, hD, hbx⟩ := dkK_op hAy1
            have hS17 : St (fun _ => False) (fun _ => False) w0 w7 [bkR b1 [v_c_words, v_c_cuts, .int .i64 c.workers, .int .i64 c.copies, .int .i64 c.slots, .int .i64 c.batch, .int .i64 c.lease, .int .i64 c.hedge, .int .i64 c.first, .int .i64 c.cap, .int .i64 c.jitter, .int .i64 c.net] 25, accR Ik.encI 3 1 v1 ((Ml.keepsM c worker)), boxR [bkR b6 [.map (some bm), .int .i64 0] 62, mapR intV ptrV bm (D.map fun x => (x.shard, x.ptr)), boxR (D.map (imR 69 5))], accR encB 5 1 v2 ((imgC c x1))] := hky1 _ _ _ (Mod.refl _ _) hbx (fun b hb => ⟨(hFy1 b hb).2, .inl hb⟩)
            clear hky1 hAy1 hbx
            have hS18 : St (fun _ => False) (fun _ => False) w0 w7 [bkR b1 [v_c_words, v_c_cuts, .int .i64 c.workers, .int .i64 c.copies, .int .i64 c.slots, .int .i64 c.batch, .int .i64 c.lease, .int .i64 c.hedge, .int .i64 c.first, .int .i64 c.cap, .int .i64 c.jitter, .int .i64 c.net] 25, accR Ik.encI 3 1 v1 ((Ml.keepsM c worker)), accR encB 5 1 v2 ((imgC c x1)), boxR [bkR b6 [.map (some bm), .int .i64 0] 62, mapR intV ptrV bm (D.map fun x => (x.shard, x.ptr)), boxR (D.map (imR 69 5))]] := hS17.sel [0, 1, 3, 2] (by rfl) (by decide)
            have hS19 : St (fun _ => False) (fun _ => False) w0 w7 [bkR b1 [v_c_words, v_c_cuts, .int .i64 c.workers, .int .i64 c.copies, .int .i64 c.slots, .int .i64 c.batch, .int .i64 c.lease, .int .i64 c.hedge, .int .i64 c.first, .int .i64 c.cap, .int .i64 c.jitter, .int .i64 c.net] 25, accR Ik.encI 3 1 v1 ((Ml.keepsM c worker)), accR encB 5 1 v2 ((imgC c x1)), boxR [bkR b6 [.map (some bm), .int .i64 0] 62, mapR intV ptrV bm (D.map fun x => (x.shard, x.ptr)), boxR (D.map (imR 69 5))]] := hS18
            have hS20 : St (fun _ => False) (fun _ => False) w0 w7 [bkR b1 [v_c_words, v_c_cuts, .int .i64 c.workers, .int .i64 c.copies, .int .i64 c.slots, .int .i64 c.batch, .int .i64 c.lease, .int .i64 c.hedge, .int .i64 c.first, .int .i64 c.cap, .int .i64 c.jitter, .int .i64 c.net] 25, accR Ik.encI 3 1 v1 ((Ml.keepsM c worker)), accR encB 5 1 v2 ((imgC c x1)), bkR b6 [.map (some bm), .int .i64 0] 62, mapR intV ptrV bm ((D.map fun x => (x.shard, x.ptr))), boxR (D.map (imR 69 5))] := St.open (L1 := [bkR b1 [v_c_words, v_c_cuts, .int .i64 c.workers, .int .i64 c.copies, .int .i64 c.slots, .int .i64 c.batch, .int .i64 c.lease, .int .i64 c.hedge, .int .i64 c.first, .int .i64 c.cap, .int .i64 c.jitter, .int .i64 c.net] 25, accR Ik.encI 3 1 v1 ((Ml.keepsM c worker)), accR encB 5 1 v2 ((imgC c x1))]) hS19
            refine r_draw1 (fun i => Nat.beq i 7 || Nat.beq i 9 || Nat.beq i 10) 10 (fun w' => Mod (Mg 0) w7 w') mixed (by kernel_rfl) ?_
            intro w8 hm7
            have hS21 := hS20.ext hm7
            have hCw8 : Mod (Mg 0) w7 w8 := Mod.ofExt hm7
            refine ⟨hCw8, ?_⟩
            rw [show List.range' 0 (Array.size _) = [0, 1, 2, 3, 4, 5, 6, 7, 8, 9, 10] from rfl]
            refine OD.q rfl rfl (Q1.move rfl) rfl rfl ?_
            refine OD.q rfl rfl (Q1.nilCheckP rfl) rfl rfl ?_
            refine OD.q rfl rfl (Q1.fieldAddr fl62_0 rfl) rfl rfl ?_
            have f13 := hS20.bk (i := 3) rfl
            refine OD.q rfl rfl (Q1.load1 ti60 rfl (fun _ hc => (f13.cell 0 _ rfl).keepG hc (Nat.succ_ne_zero _))) rfl rfl ?_
            refine OD.q rfl rfl (Q1.move rfl) rfl rfl ?_
            refine OD.q rfl rfl (Q1.move rfl) rfl rfl ?_
            refine OD.q rfl rfl (Q1.move rfl) rfl rfl ?_
            obtain ⟨g3, f14, hl4, k3⟩ := hS21.accK (i := 2) rfl
            refine OD.act rfl rfl rfl rfl (AW.callF cl26 rfl (cloneB_c (w0 := w8) (s := (imgC c x1))  (f14.sl.iv (Nat.zero_le _) f14.lt) (by first | assumption | omega)) ?_)
            rintro v3 w9 ⟨⟨gr3, h3, hg3⟩, hm8⟩
            have hS22 := hS21.ext hm8
            have hS23 : St (fun _ => False) (fun _ => False) w0 w9 [bkR b1 [v_c_words, v_c_cuts, .int .i64 c.workers, .int .i64 c.copies, .int .i64 c.slots, .int .i64 c.batch, .int .i64 c.lease, .int .i64 c.hedge, .int .i64 c.first, .int .i64 c.cap, .int .i64 c.jitter, .int .i64 c.net] 25, accR Ik.encI 3 1 v1 ((Ml.keepsM c worker)), accR encB 5 1 v2 ((imgC c x1)), bkR b6 [.map (some bm), .int .i64 0] 62, mapR intV ptrV bm ((D.map fun x => (x.shard, x.ptr))), boxR (D.map (imR 69 5)), accR encB 5 1 v3 ((((imgC c x1))))] := hS21.newAcc hm8 h3 hg3
            clear hg3
            have hle_3 := h3.le
            have hCw9 := hCw8.ext hm8
            refine ⟨.inr hCw9, ?_⟩
            obtain ⟨g4, f15, hl5, k4⟩ := hS23.accK (i := 2) rfl
            obtain ⟨ad1, cp1, hv1⟩ := f15.shape
            subst hv1
            obtain ⟨g5, f16, hl6, k5⟩ := hS23.accK (i := 6) rfl
            obtain ⟨ad2, cp2, hv2⟩ := f16.shape
            subst hv2
            refine OD.q rfl rfl (Q1.build (vs := #[(0, (.slice ad1 ((imgC c x1)).length cp1)), (1, (.slice ad2 ((((imgC c x1)))).length cp2))]) (v := .agg #[(.slice ad1 ((imgC c x1)).length cp1), (.slice ad2 ((((imgC c x1)))).length cp2)]) rfl (fun _ => by kernel_rfl)) rfl rfl ?_
            refine OD.act rfl rfl rfl rfl (AW.box [(.slice ad1 ((imgC c x1)).length cp1), (.slice ad2 ((((imgC c x1)))).length cp2)] rfl rfl ?_)
            intro w10 b9 hm9 hb8 hz4 hk4
            have hS24 := hS23.ext hm9
            have hS25 : St (fun _ => False) (fun _ => False) w0 w10 [bkR b1 [v_c_words, v_c_cuts, .int .i64 c.workers, .int .i64 c.copies, .int .i64 c.slots, .int .i64 c.batch, .int .i64 c.lease, .int .i64 c.hedge, .int .i64 c.first, .int .i64 c.cap, .int .i64 c.jitter, .int .i64 c.net] 25, accR Ik.encI 3 1 v1 ((Ml.keepsM c worker)), accR encB 5 1 ((.slice ad1 ((imgC c x1)).length cp1)) ((imgC c x1)), bkR b6 [.map (some bm), .int .i64 0] 62, mapR intV ptrV bm ((D.map fun x => (x.shard, x.ptr))), boxR (D.map (imR 69 5)), accR encB 5 1 ((.slice ad2 ((((imgC c x1)))).length cp2)) ((((imgC c x1)))), bkR b9 [(.slice ad1 ((imgC c x1)).length cp1), (.slice ad2 ((((imgC c x1)))).length cp2)] 69] := hS23.newBk hm9 hb8 hk4
            have hCw10 := hCw9.ext hm9
            refine ⟨.inr hCw10, ?_⟩
            have f17 := hS25.map (i := 4) rfl
            refine OD.act rfl rfl rfl rfl (AW.mapNew (key := intV) (val := ptrV) (u := b9) (keyOk_int Tryz.underlying3) Tryz.underlying60 rfl rfl rfl f17 (asc_none (dkE_fresh (keeps_nodup c worker) hx1 hD)) ?_)
            intro w11 hm10 hz5 hk5
            have hS26 : St (fun _ => False) (fun _ => False) w0 w11 [bkR b1 [v_c_words, v_c_cuts, .int .i64 c.workers, .int .i64 c.copies, .int .i64 c.slots, .int .i64 c.batch, .int .i64 c.lease, .int .i64 c.hedge, .int .i64 c.first, .int .i64 c.cap, .int .i64 c.jitter, .int .i64 c.net] 25, accR Ik.encI 3 1 v1 ((Ml.keepsM c worker)), accR encB 5 1 ((.slice ad1 ((imgC c x1)).length cp1)) ((imgC c x1)), bkR b6 [.map (some bm), .int .i64 0] 62, mapR intV ptrV bm (((D.map fun x => (x.shard, x.ptr)) ++ [(x1, b9)])), boxR (D.map (imR 69 5)), accR encB 5 1 ((.slice ad2 ((((imgC c x1)))).length cp2)) ((((imgC c x1)))), bkR b9 [(.slice ad1 ((imgC c x1)).length cp1), (.slice ad2 ((((imgC c x1)))).length cp2)] 69] := hS25.mapK (i := 4) rfl hm10 hk5
            refine ⟨.inl rfl, ?_⟩
            refine OD.nil ?_
            refine r_inBlock ?_
            refine r_region ?_
            have hS27 : St (fun _ => False) (fun _ => False) w0 w11 [bkR b1 [v_c_words, v_c_cuts, .int .i64 c.workers, .int .i64 c.copies, .int .i64 c.slots, .int .i64 c.batch, .int .i64 c.lease, .int .i64 c.hedge, .int .i64 c.first, .int .i64 c.cap, .int .i64 c.jitter, .int .i64 c.net] 25, accR Ik.encI 3 1 v1 ((Ml.keepsM c worker)), bkR b6 [.map (some bm), .int .i64 0] 62, mapR intV ptrV bm (((D.map fun x => (x.shard, x.ptr)) ++ [(x1, b9)])), boxR (D.map (imR 69 5)), bkR b9 [(.slice ad1 ((imgC c x1)).length cp1), (.slice ad2 ((((imgC c x1)))).length cp2)] 69, accR encB 5 1 ((.slice ad1 ((imgC c x1)).length cp1)) ((imgC c x1)), accR encB 5 1 ((.slice ad2 ((((imgC c x1)))).length cp2)) ((((imgC c x1))))] := hS26.sel [0, 1, 3, 4, 5, 7, 2, 6] (by rfl) (by decide)
            have hS28 : St (fun _ => False) (fun _ => False) w0 w11 [bkR b1 [v_c_words, v_c_cuts, .int .i64 c.workers, .int .i64 c.copies, .int .i64 c.slots, .int .i64 c.batch, .int .i64 c.lease, .int .i64 c.hedge, .int .i64 c.first, .int .i64 c.cap, .int .i64 c.jitter, .int .i64 c.net] 25, accR Ik.encI 3 1 v1 ((Ml.keepsM c worker)), bkR b6 [.map (some bm), .int .i64 0] 62, mapR intV ptrV bm (((D.map fun x => (x.shard, x.ptr)) ++ [(x1, b9)])), boxR (D.map (imR 69 5)), boxR [bkR b9 [(.slice ad1 ((imgC c x1)).length cp1), (.slice ad2 ((((imgC c x1)))).length cp2)] 69, accR encB 5 1 ((.slice ad1 ((imgC c x1)).length cp1)) ((imgC c x1)), accR encB 5 1 ((.slice ad2 ((((imgC c x1)))).length cp2)) ((((imgC c x1))))]] := St.close (L1 := [bkR b1 [v_c_words, v_c_cuts, .int .i64 c.workers, .int .i64 c.copies, .int .i64 c.slots, .int .i64 c.batch, .int .i64 c.lease, .int .i64 c.hedge, .int .i64 c.first, .int .i64 c.cap, .int .i64 c.jitter, .int .i64 c.net] 25, accR Ik.encI 3 1 v1 ((Ml.keepsM c worker)), bkR b6 [.map (some bm), .int .i64 0] 62, mapR intV ptrV bm (((D.map fun x => (x.shard, x.ptr)) ++ [(x1, b9)])), boxR (D.map (imR 69 5))]) hS27
            have hS29 : St (fun _ => False) (fun _ => False) w0 w11 [bkR b1 [v_c_words, v_c_cuts, .int .i64 c.workers, .int .i64 c.copies, .int .i64 c.slots, .int .i64 c.batch, .int .i64 c.lease, .int .i64 c.hedge, .int .i64 c.first, .int .i64 c.cap, .int .i64 c.jitter, .int .i64 c.net] 25, accR Ik.encI 3 1 v1 ((Ml.keepsM c worker)), bkR b6 [.map (some bm), .int .i64 0] 62, mapR intV ptrV bm (((D.map fun x => (x.shard, x.ptr)) ++ [(x1, b9)])), boxR (D.map (imR 69 5)), imR 69 5 (DI.mk x1 b9 (imgC c x1) (imgC c x1))] := hS28.exi (A := fun vs : Value × Value => boxR [bkR b9 [vs.1, vs.2] 69, accR encB 5 1 vs.1 (imgC c x1), accR encB 5 1 vs.2 (imgC c x1)]) ((.slice ad1 ((imgC c x1)).length cp1), (.slice ad2 ((((imgC c x1)))).length cp2)) (i := 5) rfl
            have hS30 : St (fun _ => False) (fun _ => False) w0 w11 [bkR b1 [v_c_words, v_c_cuts, .int .i64 c.workers, .int .i64 c.copies, .int .i64 c.slots, .int .i64 c.batch, .int .i64 c.lease, .int .i64 c.hedge, .int .i64 c.first, .int .i64 c.cap, .int .i64 c.jitter, .int .i64 c.net] 25, accR Ik.encI 3 1 v1 ((Ml.keepsM c worker)), boxR [bkR b6 [.map (some bm), .int .i64 0] 62, mapR intV ptrV bm (((D.map fun x => (x.shard, x.ptr)) ++ [(x1, b9)])), boxR (D.map (imR 69 5)), imR 69 5 (DI.mk x1 b9 (imgC c x1) (imgC c x1))]] := St.close (L1 := [bkR b1 [v_c_words, v_c_cuts, .int .i64 c.workers, .int .i64 c.copies, .int .i64 c.slots, .int .i64 c.batch, .int .i64 c.lease, .int .i64 c.hedge, .int .i64 c.first, .int .i64 c.cap, .int .i64 c.jitter, .int .i64 c.net] 25, accR Ik.encI 3 1 v1 ((Ml.keepsM c worker))]) hS29
            have hS31 : St (fun _ => False) (fun _ => False) w0 w11 [bkR b1 [v_c_words, v_c_cuts, .int .i64 c.workers, .int .i64 c.copies, .int .i64 c.slots, .int .i64 c.batch, .int .i64 c.lease, .int .i64 c.hedge, .int .i64 c.first, .int .i64 c.cap, .int .i64 c.jitter, .int .i64 c.net] 25, accR Ik.encI 3 1 v1 ((Ml.keepsM c worker)), dkK 62 69 5 b6 0 ((((keepsM c worker).take (k + 1)).map (dkE c)))] := hS30.imp (i := 2) rfl (fun F_ h_ => (by rw [← dkE_step hx1]; exact dkK_push (y := (DI.mk x1 b9 (imgC c x1) (imgC c x1))) hD rfl h_))
            refine OL.q (Q1.addI (((k + 1 : Nat) : Int)) rfl rfl (by omega)) rfl rfl ?_
            refine OL.q (Q1.move rfl) rfl rfl ?_
            refine OL.nil ?_
            exact (ih1 _ _ _ ⟨(k + 1 : Nat), rfl, rfl, hS31⟩ (by omega)).sub ⟨rfl, rfl, rfl, rfl, rfl, trivial⟩
          | false =>
            replace hb7 := of_decide_eq_false hb7.symm
            refine r_cond_f rfl ?_
            refine r_exit rfl ?_
            refine r_seq ?_
            refine r_region ?_
            refine OL.q (Q1.move rfl) rfl rfl ?_
            refine OL.q (Q1.assign rfl) rfl rfl ?_
            refine OL.q (Q1.assign rfl) rfl rfl ?_
            refine OL.nil ?_
            refine r_ret2 Tryz.func6 rfl rfl rfl ?_
            have hS15 : St (fun _ => False) (fun _ => False) w0 w6 [dkK 62 69 5 b6 0 ((((keepsM c worker).take k).map (dkE c)))] := hS13.sel [2] (by rfl) (by decide)
            have hall : (((keepsM c worker).take k).map (dkE c)) = dkNew c worker := by rw [List.take_of_length_le (by omega)]; rfl
            rw [hall] at hS15
            obtain ⟨hmF, F2r, hAr, hFr⟩ := hS15.fin
            exact Ret.mk ⟨hmF, .inr ⟨mayD_yes (by first | assumption | (symm; assumption)) (by omega) (by omega), _, F2r, rfl, hAr, fun b hb => ⟨(hFr b hb).1, (hFr b hb).2.resolve_left id⟩⟩⟩
  | false =>
    replace hb2 := hb2.symm
    refine OL.q (Q1.not rfl) rfl rfl ?_
    refine OL.q (Q1.move rfl) rfl rfl ?_
    refine OL.sk rfl rfl ?_
    refine OL.sk rfl rfl ?_
    refine OL.q (Q1.pick_t rfl rfl) rfl rfl ?_
    refine OL.q (Q1.move rfl) rfl rfl ?_
    refine OL.sk rfl rfl ?_
    refine OL.sk rfl rfl ?_
    refine OL.sk rfl rfl ?_
    refine OL.sk rfl rfl ?_
    refine OL.q (Q1.pick_t rfl rfl) rfl rfl ?_
    refine OL.nil ?_
    refine r_cond_t rfl ?_
    refine r_seq ?_
    refine r_region ?_
    refine OL.q (Q1.assign rfl) rfl rfl ?_
    refine OL.q (Q1.assign rfl) rfl rfl ?_
    refine OL.nil ?_
    refine r_ret2 Tryz.func6 rfl rfl rfl ?_
    exact Ret.mk ⟨hS3.mod, .inl ⟨mayD_no (by first | exact .inl (Eq.symm (by assumption)) | exact .inl (by assumption) | exact .inr (by omega)), rfl⟩⟩
end Go.Proofs
namespace Go.Proofs
open Go.Ik Go.Ml
set_option maxRecDepth 20000 in
set_option maxHeartbeats 4000000 in
theorem small_c {w0 : World} :
    Calls Tryz.prog 22 #[] w0 (Ret fun rv w1 => ∃ vw vc, rv = .agg #[vw, vc, .int .i64 2, .int .i64 1, .int .i64 1, .int .i64 1, .int .i64 1, .int .i64 1, .int .i64 1, .int .i64 1, .int .i64 0, .int .i64 8] ∧ Sl encS w1 (Iv w0.heap.size w1.heap.size) vw smallC.words ∧ Sl encKey w1 (Iv w0.heap.size w1.heap.size) vc smallC.cuts ∧ Ext w0 w1) := by
  have hS0 := St.start0 w0
  refine calls_enter Tryz.func22 rfl Tryz.ntmps22 rfl ?_
  refine r_seq ?_
  refine r_region ?_
  refine OL.act rfl rfl (AW.alloc ti25 ?_)
  intro w1 b1 hm1 hb1 hz1 hk1
  have hS1 := hS0.ext hm1
  have hS2 : St (fun _ => False) (fun _ => False) w0 w1 [bkR b1 [.slice none 0 0, .slice none 0 0, .int .i64 0, .int .i64 0, .int .i64 0, .int .i64 0, .int .i64 0, .int .i64 0, .int .i64 0, .int .i64 0, .int .i64 0, .int .i64 0] 25] := hS0.newBk hm1 hb1 hk1
  refine OL.nil ?_
  refine r_seq ?_
  refine r_region ?_
  refine OL.act rfl rfl (AW.buildSlice [strV (([97] : Str)), strV (([97, 98, 99] : Str)), strV (([98] : Str))] Tryz.underlying22 ti9 rfl rfl rfl (by decide) ?_)
  intro w2 b2 hm2 hb2 hz2 hk2
  have hS3 := hS2.ext hm2
  have hl1 := Sl.of_blk (enc := encS) hk2 ([([97] : Str), ([97, 98, 99] : Str), ([98] : Str)] : List Str) 3 rfl rfl (by unfold maxLen; omega)
  have hS4 : St (fun _ => False) (fun _ => False) w0 w2 [bkR b1 [.slice none 0 0, .slice none 0 0, .int .i64 0, .int .i64 0, .int .i64 0, .int .i64 0, .int .i64 0, .int .i64 0, .int .i64 0, .int .i64 0, .int .i64 0, .int .i64 0] 25, slR encS [((.slice (some ⟨b2, 0, none⟩) 3 3), [([97] : Str), ([97, 98, 99] : Str), ([98] : Str)])]] := hS2.newSlB hm2 hb2 hz2 hl1
  refine OL.q (Q1.build (vs := #[(0, (.int .i64 2 : Value))]) (v := .agg #[.int .i64 2, strV []]) rfl (fun _ => by kernel_rfl)) rfl rfl ?_
  refine OL.act rfl rfl (AW.buildSlice [(.agg #[.int .i64 2, strV []] : Value)] Tryz.underlying23 ti57 rfl rfl rfl (by decide) ?_)
  intro w3 b3 hm3 hb3 hz3 hk3
  have hS5 := hS4.ext hm3
  have hl2 := Sl.of_blk (enc := encKey) hk3 ([(Key.mk 2 [])] : List Key) 1 rfl rfl (by unfold maxLen; omega)
  have hS6 : St (fun _ => False) (fun _ => False) w0 w3 [bkR b1 [.slice none 0 0, .slice none 0 0, .int .i64 0, .int .i64 0, .int .i64 0, .int .i64 0, .int .i64 0, .int .i64 0, .int .i64 0, .int .i64 0, .int .i64 0, .int .i64 0] 25, slR encS [((.slice (some ⟨b2, 0, none⟩) 3 3), [([97] : Str), ([97, 98, 99] : Str), ([98] : Str)])], slR encKey [((.slice (some ⟨b3, 0, none⟩) 1 1), [(Key.mk 2 [])])]] := hS4.newSlB hm3 hb3 hz3 hl2
  refine OL.q (Q1.build (vs := #[(0, (.slice (some ⟨b2, 0, none⟩) 3 3)), (1, (.slice (some ⟨b3, 0, none⟩) 1 1)), (2, (.int .i64 2 : Value)), (3, (.int .i64 1 : Value)), (4, (.int .i64 1 : Value)), (5, (.int .i64 1 : Value)), (6, (.int .i64 1 : Value)), (7, (.int .i64 1 : Value)), (8, (.int .i64 1 : Value)), (9, (.int .i64 1 : Value)), (11, (.int .i64 8 : Value))]) (v := .agg #[(.slice (some ⟨b2, 0, none⟩) 3 3), (.slice (some ⟨b3, 0, none⟩) 1 1), .int .i64 2, .int .i64 1, .int .i64 1, .int .i64 1, .int .i64 1, .int .i64 1, .int .i64 1, .int .i64 1, .int .i64 0, .int .i64 8]) rfl (fun _ => by kernel_rfl)) rfl rfl ?_
  have f1 := hS6.bk (i := 0) rfl
  refine OL.act rfl rfl (AW.store ti25 rfl rfl rfl rfl rfl f1 (Nat.le_of_ble_eq_true rfl) ?_)
  intro w4 hm4 hz4 hk4
  have hS7 : St (fun _ => False) (fun _ => False) w0 w4 [bkR b1 [(.slice (some ⟨b2, 0, none⟩) 3 3), (.slice (some ⟨b3, 0, none⟩) 1 1), .int .i64 2, .int .i64 1, .int .i64 1, .int .i64 1, .int .i64 1, .int .i64 1, .int .i64 1, .int .i64 1, .int .i64 0, .int .i64 8] 25, slR encS [((.slice (some ⟨b2, 0, none⟩) 3 3), [([97] : Str), ([97, 98, 99] : Str), ([98] : Str)])], slR encKey [((.slice (some ⟨b3, 0, none⟩) 1 1), [(Key.mk 2 [])])]] := hS6.bkK (i := 0) rfl hm4 hk4
  refine OL.nil ?_
  have f2 := hS7.bk (i := 0) rfl
  refine r_retC1 Tryz.func22 rfl rfl ti25 f2.row rfl ?_
  have hs1 := hS7.slOut (i := 1) (k := 0) rfl rfl
  have hs2 := hS7.slOut (i := 2) (k := 0) rfl rfl
  exact Ret.mk ⟨_, _, rfl, hs1, hs2, hS7.mod⟩
set_option maxRecDepth 20000 in
set_option maxHeartbeats 4000000 in
theorem awake14_c {w0 : World}    :
    Calls Tryz.prog 5 #[] w0 (Ret fun rv w1 => (∃ rb : Bool, rb = true ∧ rv = .bool rb) ∧ Ext w0 w1) := by
  have hS0 := St.start0 w0
  refine calls_enter Tryz.func5 rfl Tryz.ntmps5 rfl ?_
  refine r_seq ?_
  refine r_region ?_
  refine OL.q (Q1.assign rfl) rfl rfl ?_
  refine OL.nil ?_
  refine r_seq ?_
  refine r_region ?_
  refine OL.act rfl rfl (AW.callF cl22 rfl (small_c (w0 := w0)) ?_)
  rintro _ w1 ⟨vw1, vc1, rfl, hw_1, hc_1, hm1⟩
  replace hw_1 := hw_1.iv (Nat.zero_le _) (Nat.le_refl _)
  replace hc_1 := hc_1.iv (Nat.zero_le _) (Nat.le_refl _)
  have hS1 := hS0.ext hm1
  refine OL.act rfl rfl (AW.callF cl6 rfl (dnew_c (w0 := w1) (c := smallC) (1) hw_1 hc_1 (by first | assumption | exact Ml.Cfg.ok_of (by decide +kernel)) (by first | assumption | (unfold I64; omega) | (unfold I64; decide)) (by first | assumption | omega | decide)) ?_)
  rintro _ w2 ⟨hm2, hd1⟩
  rcases hd1 with ⟨hmd1, rfl⟩ | ⟨hmd1, bd1, F1, rfl, hA1, hF1⟩
  · exact absurd (hmd1.symm.trans smallC_may) (by decide)
  · skip
    rw [oneD_new] at hA1
    have hS2 := hS1.ext hm2
    have hS3 : St (fun _ => False) (fun _ => False) w0 w2 [dkK 62 69 5 bd1 0 ((oneD rightS))] := hS1.new hm2 hA1 (fun b hb => ⟨(hF1 b hb).2, (hF1 b hb).1⟩)
    refine OL.q (Q1.move rfl) rfl rfl ?_
    refine OL.q (Q1.extract rfl rfl) rfl rfl ?_
    refine OL.q (Q1.extract rfl rfl) rfl rfl ?_
    refine OL.q (Q1.assign rfl) rfl rfl ?_
    refine OL.q (Q1.assign rfl) rfl rfl ?_
    refine OL.nil ?_
    refine r_seq ?_
    refine r_seq ?_
    refine r_region ?_
    refine OL.q (Q1.move rfl) rfl rfl ?_
    refine OL.qb (Q1.ne rfl rfl) rfl rfl ?_
    intro b1 hb1
    obtain rfl : b1 = false := hb1.trans (by rfl)
    refine OL.q (Q1.move rfl) rfl rfl ?_
    refine OL.q (Q1.move rfl) rfl rfl ?_
    refine OL.q (Q1.eqNil Tryz.underlying29 rfl rfl) rfl rfl ?_
    refine OL.q (Q1.pick_f rfl rfl) rfl rfl ?_
    refine OL.nil ?_
    refine r_cond_f rfl ?_
    refine r_skip ?_
    refine r_seq ?_
    refine r_region ?_
    refine OL.q (Q1.move rfl) rfl rfl ?_
    obtain ⟨Fy1, hAy1, hFy1, hky1⟩ := hS3.act (i := 0) rfl
    refine OL.act rfl rfl (AW.callF cl14 rfl (dread_c (w0 := w2) (0) (by first | assumption | (unfold I64; omega) | (unfold I64; decide)) hAy1 (fun b hb => (hFy1 b hb).2) (oneD_ok rfl)) ?_)
    rintro _ w3 ⟨v1, rfl, ⟨g1, ha1, hg1⟩, hm3⟩
    replace ha1 := Acc.cast ha1 ((oneD_get rightS).2.1)
    rw [(oneD_get rightS).1]
    have hS4 := hS3.ext hm3
    have hS5 : St (fun _ => False) (fun _ => False) w0 w3 [dkK 62 69 5 bd1 0 ((oneD rightS)), accR encB 5 1 v1 rightS] := hS3.newAcc hm3 ha1 hg1
    clear hg1
    have hle_1 := ha1.le
    have hei1 := dkErr_I64 ((oneD rightS)) 0
    have hrd1 := dkRead_len (K := (oneD rightS)) (oneD_ok rfl) 0
    refine OL.q (Q1.move rfl) rfl rfl ?_
    refine OL.q (Q1.extract rfl rfl) rfl rfl ?_
    refine OL.q (Q1.extract rfl rfl) rfl rfl ?_
    refine OL.q (Q1.assign rfl) rfl rfl ?_
    refine OL.q (Q1.assign rfl) rfl rfl ?_
    refine OL.nil ?_
    refine r_seq ?_
    refine r_region ?_
    refine OL.q (Q1.move rfl) rfl rfl ?_
    refine OL.qb (Q1.eq rfl rfl) rfl rfl ?_
    intro b2 hb2
    obtain rfl : b2 = true := hb2.trans (by rfl)
    refine OL.q (Q1.move rfl) rfl rfl ?_
    refine OL.q (Q1.move rfl) rfl rfl ?_
    obtain ⟨g2, f3, hl1, k1⟩ := hS5.accK (i := 1) rfl
    refine OL.q (Q1.lenSl Tryz.underlying47 (f3.sl) rfl) rfl rfl ?_
    refine OL.qb (Q1.gt rfl rfl) rfl rfl ?_
    intro b3 hb3
    obtain rfl : b3 = true := hb3.trans (by exact decide_eq_true (by rw [rightS_len]; decide))
    refine OL.q (Q1.pick_t rfl rfl) rfl rfl ?_
    refine OL.q (Q1.move rfl) rfl rfl ?_
    refine OL.q (Q1.move rfl) rfl rfl ?_
    obtain ⟨Fy2, hAy2, hFy2, hky2⟩ := hS5.act (i := 0) rfl
    refine OL.act rfl rfl (AW.callF cl13 rfl (dborn_c (w0 := w3) (by omega) hAy2 (fun b hb => (hFy2 b hb).2)) ?_)
    rintro _ w4 ⟨rfl, hm4, F2, hA2, hF2⟩
    have hS6 : St (fun _ => False) (fun _ => False) w0 w4 [dkK 62 69 5 bd1 ((0 + 1)) ((oneD rightS)), accR encB 5 1 v1 rightS] := hky2 _ _ _ hm4 hA2 hF2
    clear hky2 hA2
    refine OL.qb (Q1.eq rfl rfl) rfl rfl ?_
    intro b4 hb4
    obtain rfl : b4 = true := hb4.trans (by rfl)
    refine OL.q (Q1.pick_t rfl rfl) rfl rfl ?_
    refine OL.q (Q1.move rfl) rfl rfl ?_
    refine OL.q (Q1.move rfl) rfl rfl ?_
    obtain ⟨Fy3, hAy3, hFy3, hky3⟩ := hS6.act (i := 0) rfl
    refine OL.act rfl rfl (AW.callF cl13 rfl (dborn_c (w0 := w4) (by omega) hAy3 (fun b hb => (hFy3 b hb).2)) ?_)
    rintro _ w5 ⟨rfl, hm5, F3, hA3, hF3⟩
    have hS7 : St (fun _ => False) (fun _ => False) w0 w5 [dkK 62 69 5 bd1 (((0 + 1) + 1)) ((oneD rightS)), accR encB 5 1 v1 rightS] := hky3 _ _ _ hm5 hA3 hF3
    clear hky3 hA3
    refine OL.qb (Q1.eq rfl rfl) rfl rfl ?_
    intro b5 hb5
    obtain rfl : b5 = true := hb5.trans (by rfl)
    refine OL.q (Q1.pick_t rfl rfl) rfl rfl ?_
    refine OL.q (Q1.move rfl) rfl rfl ?_
    refine OL.q (Q1.move rfl) rfl rfl ?_
    obtain ⟨Fy4, hAy4, hFy4, hky4⟩ := hS7.act (i := 0) rfl
    refine OL.act rfl rfl (AW.callF cl19 rfl (dlife_c (w0 := w5) hAy4) ?_)
    rintro _ w6 ⟨rfl, hm6⟩
    have hS8 := hS7.ext hm6
    refine OL.qb (Q1.eq rfl rfl) rfl rfl ?_
    intro b6 hb6
    obtain rfl : b6 = true := hb6.trans (by rfl)
    refine OL.q (Q1.pick_t rfl rfl) rfl rfl ?_
    refine OL.q (Q1.move rfl) rfl rfl ?_
    refine OL.q (Q1.move rfl) rfl rfl ?_
    obtain ⟨Fy5, hAy5, hFy5, hky5⟩ := hS8.act (i := 0) rfl
    refine OL.act rfl rfl (AW.callF cl17 rfl (drotten_c (w0 := w6) (0) (by first | assumption | (unfold I64; omega) | (unfold I64; decide)) hAy5 (fun b hb => (hFy5 b hb).2) (oneD_ok rfl)) ?_)
    rintro _ w7 ⟨rfl, hm7⟩
    have hS9 := hS8.ext hm7
    generalize hb7 : (dkRotten ((oneD rightS)) 0) = b7
    replace hb7 := hb7.symm
    obtain rfl : b7 = false := hb7.trans (by rw [(oneD_get _).2.2]; exact decide_eq_false (fun h => h rfl))
    refine OL.q (Q1.not rfl) rfl rfl ?_
    refine OL.q (Q1.pick_t rfl rfl) rfl rfl ?_
    refine OL.q (Q1.assign rfl) rfl rfl ?_
    refine OL.nil ?_
    refine r_ret1 Tryz.func5 rfl rfl ?_
    exact Ret.mk ⟨⟨_, (by rfl), rfl⟩, hS9.mod⟩
end Go.Proofs
namespace Go.Proofs
open Go.Ik Go.Ml
set_option maxRecDepth 20000 in
set_option maxHeartbeats 4000000 in
theorem sameB_c {w0 : World}  {v_a : Value} {a : List UInt8} {v_b : Value} {b : List UInt8} (h_a : Sl encB w0 (Iv 0 w0.heap.size) v_a a) (h_b : Sl encB w0 (Iv 0 w0.heap.size) v_b b) :
    Calls Tryz.prog 16 #[v_a, v_b] w0 (Ret fun rv w1 => (∃ rb : Bool, rb = (decide (a = b)) ∧ rv = .bool rb) ∧ Ext w0 w1) := by
  have hE0 : Ext w0 w0 := Mod.refl _ _
  have hle1 := h_a.le
  have hle2 := h_b.le
  refine calls_enter Tryz.func16 rfl Tryz.ntmps16 rfl ?_
  refine r_seq ?_
  refine r_region ?_
  refine OL.q (Q1.assign rfl) rfl rfl ?_
  refine OL.nil ?_
  refine r_seq ?_
  refine r_seq ?_
  refine r_region ?_
  refine OL.q (Q1.move rfl) rfl rfl ?_
  refine OL.q (Q1.lenSl Tryz.underlying47 (h_a) rfl) rfl rfl ?_
  refine OL.q (Q1.move rfl) rfl rfl ?_
  refine OL.q (Q1.lenSl Tryz.underlying47 (h_b) rfl) rfl rfl ?_
  refine OL.qb (Q1.ne rfl rfl) rfl rfl ?_
  intro b1 hb1
  refine OL.nil ?_
  cases b1 with
  | true =>
    replace hb1 := bne_iff_ne.1 hb1.symm
    refine r_cond_t rfl ?_
    refine r_seq ?_
    refine r_region ?_
    refine OL.q (Q1.assign rfl) rfl rfl ?_
    refine OL.nil ?_
    refine r_ret1 Tryz.func16 rfl rfl ?_
    exact Ret.mk ⟨⟨_, (by first | (have e := Ml.same_not hx1 hx2 (fun e => absurd (congrArg UInt8.toNat e) (by omega)); simp [e]) | (have e := Ml.same_all hi (by omega) (by omega); simp [e]) | (have e : a ≠ b := (fun e => absurd (congrArg List.length e) (by omega)); simp [e]) | (exfalso; omega)), rfl⟩, hE0⟩
  | false =>
    replace hb1 := bne_eq_false_iff_eq.1 hb1.symm
    refine r_cond_f rfl ?_
    refine r_skip ?_
    refine r_seq ?_
    refine r_seq ?_
    refine r_region ?_
    refine OL.q (Q1.assign rfl) rfl rfl ?_
    refine OL.nil ?_
    refine r_block ?_
    refine r_loop (I := fun m E W => ∃ (k : Nat), E = [(0, v_a), (1, v_b), (5, .int .i64 (((k : Nat) : Int)))] ∧ m = a.length - k ∧ Ext w0 W ∧ w0.heap.size ≤ W.heap.size ∧ Sl encB W (Iv 0 w0.heap.size) v_a a ∧ Sl encB W (Iv 0 w0.heap.size) v_b b ∧ (a.take k = b.take k)) ?_ ?_
    · refine ⟨_, _, ⟨(0 : Nat), rfl, rfl, hE0, Nat.le_refl _, h_a, h_b, (by rfl)⟩, ⟨rfl, rfl, rfl, trivial⟩⟩
    · rintro _ _ w1 ⟨k, rfl, rfl, hE1, hs1, f1, f2, hi⟩ ih1
      refine r_seq ?_
      refine r_seq ?_
      refine r_region ?_
      refine OL.q (Q1.move rfl) rfl rfl ?_
      refine OL.q (Q1.move rfl) rfl rfl ?_
      refine OL.q (Q1.lenSl Tryz.underlying47 (f1) rfl) rfl rfl ?_
      refine OL.qb (Q1.lt rfl rfl) rfl rfl ?_
      intro b2 hb2
      refine OL.nil ?_
      cases b2 with
      | true =>
        replace hb2 := of_decide_eq_true hb2.symm
        refine r_cond_t rfl ?_
        refine r_skip ?_
        refine r_seq ?_
        refine r_block ?_
        refine r_seq ?_
        refine r_draw1 (fun i => false) 9 (fun w' => Mod (Mg 0) w1 w') mixed (by kernel_rfl) ?_
        intro w2 hm1
        have f3 := f1.ext hm1
        have f4 := f2.ext hm1
        have hE2 := hE1.ext hm1
        have hs2 := hm1.size
        have hCw2 : Mod (Mg 0) w1 w2 := Mod.ofExt hm1
        refine ⟨hCw2, ?_⟩
        rw [show List.range' 0 (Array.size _) = [0, 1, 2, 3, 4, 5, 6, 7, 8] from rfl]
        refine OD.q rfl rfl (Q1.move rfl) rfl rfl ?_
        refine OD.q rfl rfl (Q1.move rfl) rfl rfl ?_
        obtain ⟨x1, b3, o1, hx1, hr1, hl1, hu1, hw1⟩ := Sl.at' (P := Tryz.prog) f1 Tryz.underlying47 ti5 encB_len (k := .i64) (n := ((k : Nat) : Int)) (k) (by omega) (by first | assumption | omega)
        refine OD.q rfl rfl (Q1.indexAddr rfl rfl hr1) rfl rfl ?_
        refine OD.q rfl rfl (Q1.load1 ti5 rfl (fun _ hc => hw1.keepG hc (by omega))) rfl rfl ?_
        refine OD.q rfl rfl (Q1.move rfl) rfl rfl ?_
        refine OD.q rfl rfl (Q1.move rfl) rfl rfl ?_
        obtain ⟨x2, b4, o2, hx2, hr2, hl2, hu2, hw2⟩ := Sl.at' (P := Tryz.prog) f2 Tryz.underlying47 ti5 encB_len (k := .i64) (n := ((k : Nat) : Int)) (k) (by omega) (by first | assumption | omega)
        refine OD.q rfl rfl (Q1.indexAddr rfl rfl hr2) rfl rfl ?_
        refine OD.q rfl rfl (Q1.load1 ti5 rfl (fun _ hc => hw2.keepG hc (by omega))) rfl rfl ?_
        refine OD.qb rfl rfl (Q1.ne rfl rfl) rfl rfl ?_
        intro b5 hb3
        refine OD.nil ?_
        cases b5 with
        | true =>
          replace hb3 := bne_iff_ne.1 hb3.symm
          refine r_cond_t rfl ?_
          refine r_seq ?_
          refine r_region ?_
          refine OL.q (Q1.assign rfl) rfl rfl ?_
          refine OL.nil ?_
          refine r_ret1 Tryz.func16 rfl rfl ?_
          exact Ret.mk ⟨⟨_, (by first | (have e := Ml.same_not hx1 hx2 (fun e => absurd (congrArg UInt8.toNat e) (by omega)); simp [e]) | (have e := Ml.same_all hi (by omega) (by omega); simp [e]) | (have e : a ≠ b := (fun e => absurd (congrArg List.length e) (by omega)); simp [e]) | (exfalso; omega)), rfl⟩, hE2⟩
        | false =>
          replace hb3 := bne_eq_false_iff_eq.1 hb3.symm
          refine r_cond_f rfl ?_
          refine r_skip ?_
          refine r_inBlock ?_
          refine r_region ?_
          refine OL.q (Q1.move rfl) rfl rfl ?_
          refine OL.q (Q1.addI (((k + 1 : Nat) : Int)) rfl rfl (by omega)) rfl rfl ?_
          refine OL.q (Q1.assign rfl) rfl rfl ?_
          refine OL.nil ?_
          exact (ih1 _ _ _ ⟨(k + 1 : Nat), rfl, rfl, hE2, (by omega), f3, f4, (by first | exact Ml.same_take hi hx1 hx2 (UInt8.toNat_inj.1 (by omega)) | (exfalso; omega))⟩ (by omega)).sub ⟨rfl, rfl, rfl, trivial⟩
      | false =>
        replace hb2 := of_decide_eq_false hb2.symm
        refine r_cond_f rfl ?_
        refine r_exit rfl ?_
        refine r_seq ?_
        refine r_region ?_
        refine OL.q (Q1.assign rfl) rfl rfl ?_
        refine OL.nil ?_
        refine r_ret1 Tryz.func16 rfl rfl ?_
        exact Ret.mk ⟨⟨_, (by first | (have e := Ml.same_not hx1 hx2 (fun e => absurd (congrArg UInt8.toNat e) (by omega)); simp [e]) | (have e := Ml.same_all hi (by omega) (by omega); simp [e]) | (have e : a ≠ b := (fun e => absurd (congrArg List.length e) (by omega)); simp [e]) | (exfalso; omega)), rfl⟩, hE1⟩
set_option maxRecDepth 20000 in
set_option maxHeartbeats 4000000 in
theorem greatT_c {w0 : World}  {v_l : Value} {l : List Str} (h_l : Sl encS w0 (Iv 0 w0.heap.size) v_l l) :
    Calls Tryz.prog 21 #[v_l] w0 (Ret fun rv w1 => (∃ rb : Bool, rb = (Ml.greatT l) ∧ rv = .bool rb) ∧ Ext w0 w1) := by
  have hE0 : Ext w0 w0 := Mod.refl _ _
  have hle1 := h_l.le
  refine calls_enter Tryz.func21 rfl Tryz.ntmps21 rfl ?_
  refine r_seq ?_
  refine r_region ?_
  refine OL.q (Q1.assign rfl) rfl rfl ?_
  refine OL.nil ?_
  refine r_seq ?_
  refine r_seq ?_
  refine r_region ?_
  refine OL.q (Q1.assign rfl) rfl rfl ?_
  refine OL.nil ?_
  refine r_block ?_
  refine r_loop (I := fun m E W => ∃ (k : Nat), E = [(0, v_l), (3, .int .i64 (((k : Nat) : Int)))] ∧ m = l.length - k ∧ Ext w0 W ∧ w0.heap.size ≤ W.heap.size ∧ Sl encS W (Iv 0 w0.heap.size) v_l l ∧ ((l.take k).any (fun s => decide (s.length > 100)) = false)) ?_ ?_
  · refine ⟨_, _, ⟨(0 : Nat), rfl, rfl, hE0, Nat.le_refl _, h_l, (by rfl)⟩, ⟨rfl, rfl, trivial⟩⟩
  · rintro _ _ w1 ⟨k, rfl, rfl, hE1, hs1, f1, hi⟩ ih1
    refine r_seq ?_
    refine r_seq ?_
    refine r_region ?_
    refine OL.q (Q1.move rfl) rfl rfl ?_
    refine OL.q (Q1.move rfl) rfl rfl ?_
    refine OL.q (Q1.lenSl Tryz.underlying22 (f1) rfl) rfl rfl ?_
    refine OL.qb (Q1.lt rfl rfl) rfl rfl ?_
    intro b1 hb1
    refine OL.q (Q1.move rfl) rfl rfl ?_
    cases b1 with
    | true =>
      replace hb1 := of_decide_eq_true hb1.symm
      refine OL.q (Q1.move rfl) rfl rfl ?_
      refine OL.q (Q1.lenSl Tryz.underlying22 (f1) rfl) rfl rfl ?_
      refine OL.qb (Q1.le rfl rfl) rfl rfl ?_
      intro b2 hb2
      refine OL.q (Q1.pick_t rfl rfl) rfl rfl ?_
      refine OL.nil ?_
      cases b2 with
      | true =>
        replace hb2 := of_decide_eq_true hb2.symm
        refine r_cond_t rfl ?_
        refine r_skip ?_
        refine r_seq ?_
        refine r_block ?_
        refine r_seq ?_
        refine r_region ?_
        refine OL.q (Q1.move rfl) rfl rfl ?_
        refine OL.q (Q1.move rfl) rfl rfl ?_
        obtain ⟨x1, b3, o1, hx1, hr1, hl1, hu1, hw1⟩ := Sl.at' (P := Tryz.prog) f1 Tryz.underlying22 ti9 encS_len (k := .i64) (n := ((k : Nat) : Int)) (k) (by omega) (by first | assumption | omega)
        refine OL.q (Q1.indexAddr rfl rfl hr1) rfl rfl ?_
        refine OL.q (Q1.load1 ti9 rfl (fun _ e => e ▸ hw1)) rfl rfl ?_
        refine OL.q (Q1.lenS Tryz.underlying9 rfl) rfl rfl ?_
        refine OL.qb (Q1.gt rfl rfl) rfl rfl ?_
        intro b4 hb3
        refine OL.nil ?_
        cases b4 with
        | true =>
          replace hb3 := of_decide_eq_true hb3.symm
          refine r_cond_t rfl ?_
          refine r_seq ?_
          refine r_region ?_
          refine OL.q (Q1.assign rfl) rfl rfl ?_
          refine OL.nil ?_
          refine r_ret1 Tryz.func21 rfl rfl ?_
          exact Ret.mk ⟨⟨_, (by first | exact Ml.greatT_long hx1 (by omega) | exact Ml.greatT_end hi (by omega) (by assumption) | (exfalso; omega)), rfl⟩, hE1⟩
        | false =>
          replace hb3 := of_decide_eq_false hb3.symm
          refine r_cond_f rfl ?_
          refine r_skip ?_
          refine r_inBlock ?_
          refine r_region ?_
          refine OL.q (Q1.move rfl) rfl rfl ?_
          refine OL.q (Q1.addI (((k + 1 : Nat) : Int)) rfl rfl (by omega)) rfl rfl ?_
          refine OL.q (Q1.assign rfl) rfl rfl ?_
          refine OL.nil ?_
          exact (ih1 _ _ _ ⟨(k + 1 : Nat), rfl, rfl, hE1, (by omega), f1, (by first | exact Ml.any_take_no hi hx1 (decide_eq_false (by omega)) | (exfalso; omega))⟩ (by omega)).sub ⟨rfl, rfl, trivial⟩
      | false =>
        replace hb2 := of_decide_eq_false hb2.symm
        refine r_cond_f rfl ?_
        refine r_exit rfl ?_
        refine r_seq ?_
        refine r_region ?_
        refine OL.q (Q1.move rfl) rfl rfl ?_
        refine OL.q (Q1.lenSl Tryz.underlying22 (f1) rfl) rfl rfl ?_
        refine OL.qb (Q1.gt rfl rfl) rfl rfl ?_
        intro b3 hb3
        refine OL.q (Q1.assign rfl) rfl rfl ?_
        refine OL.nil ?_
        refine r_ret1 Tryz.func21 rfl rfl ?_
        exact Ret.mk ⟨⟨_, (by first | exact Ml.greatT_long hx1 (by omega) | exact Ml.greatT_end hi (by omega) (by assumption) | (exfalso; omega)), rfl⟩, hE1⟩
    | false =>
      replace hb1 := of_decide_eq_false hb1.symm
      refine OL.sk rfl rfl ?_
      refine OL.sk rfl rfl ?_
      refine OL.sk rfl rfl ?_
      refine OL.q (Q1.pick_f rfl rfl) rfl rfl ?_
      refine OL.nil ?_
      refine r_cond_f rfl ?_
      refine r_exit rfl ?_
      refine r_seq ?_
      refine r_region ?_
      refine OL.q (Q1.move rfl) rfl rfl ?_
      refine OL.q (Q1.lenSl Tryz.underlying22 (f1) rfl) rfl rfl ?_
      refine OL.qb (Q1.gt rfl rfl) rfl rfl ?_
      intro b2 hb2
      refine OL.q (Q1.assign rfl) rfl rfl ?_
      refine OL.nil ?_
      refine r_ret1 Tryz.func21 rfl rfl ?_
      exact Ret.mk ⟨⟨_, (by first | exact Ml.greatT_long hx1 (by omega) | exact Ml.greatT_end hi (by omega) (by assumption) | (exfalso; omega)), rfl⟩, hE1⟩
set_option maxRecDepth 20000 in
set_option maxHeartbeats 4000000 in
theorem greatC_c {w0 : World}  {c : Cfg} {v_c_words : Value} {v_c_cuts : Value} (h_c_words : Sl encS w0 (Iv 0 w0.heap.size) v_c_words c.words) (h_c_cuts : Sl encKey w0 (Iv 0 w0.heap.size) v_c_cuts c.cuts) (h_c : Cfg.Ok c) :
    Calls Tryz.prog 4 #[.agg #[v_c_words, v_c_cuts, .int .i64 c.workers, .int .i64 c.copies, .int .i64 c.slots, .int .i64 c.batch, .int .i64 c.lease, .int .i64 c.hedge, .int .i64 c.first, .int .i64 c.cap, .int .i64 c.jitter, .int .i64 c.net]] w0 (Ret fun rv w1 => (∃ rb : Bool, rb = (Ml.greatC c) ∧ rv = .bool rb) ∧ Ext w0 w1) := by
  have hE0 : Ext w0 w0 := Mod.refl _ _
  have hle1 := h_c_words.le
  have hle2 := h_c_cuts.le
  have hc1 := h_c.workers
  have hc2 := h_c.copies
  have hc3 := h_c.slots
  have hc4 := h_c.batch
  have hc5 := h_c.lease
  have hc6 := h_c.hedge
  have hc7 := h_c.first
  have hc8 := h_c.cap
  have hc9 := h_c.jitter
  have hc10 := h_c.net
  refine calls_enter Tryz.func4 rfl Tryz.ntmps4 rfl ?_
  refine r_seq ?_
  refine r_region ?_
  refine OL.act rfl rfl (AW.box [v_c_words, v_c_cuts, .int .i64 c.workers, .int .i64 c.copies, .int .i64 c.slots, .int .i64 c.batch, .int .i64 c.lease, .int .i64 c.hedge, .int .i64 c.first, .int .i64 c.cap, .int .i64 c.jitter, .int .i64 c.net] rfl rfl ?_)
  intro w1 b1 hm1 hb1 hz1 hk1
  have f1 := h_c_words.ext hm1
  have f2 := h_c_cuts.ext hm1
  have hE1 := hE0.ext hm1
  have hs1 := hm1.size
  refine OL.q (Q1.assign rfl) rfl rfl ?_
  refine OL.nil ?_
  refine r_seq ?_
  refine r_seq ?_
  refine r_region ?_
  refine OL.q (Q1.assign rfl) rfl rfl ?_
  refine OL.nil ?_
  refine r_block ?_
  refine r_loop (I := fun m E W => ∃ (k : Nat), E = [(1, ptr b1 0), (3, .int .i64 (((k : Nat) : Int)))] ∧ m = c.cuts.length - k ∧ Ext w0 W ∧ w1.heap.size ≤ W.heap.size ∧ Bk W b1 [v_c_words, v_c_cuts, .int .i64 c.workers, .int .i64 c.copies, .int .i64 c.slots, .int .i64 c.batch, .int .i64 c.lease, .int .i64 c.hedge, .int .i64 c.first, .int .i64 c.cap, .int .i64 c.jitter, .int .i64 c.net] 25 ∧ Sl encS W (Iv 0 w0.heap.size) v_c_words c.words ∧ Sl encKey W (Iv 0 w0.heap.size) v_c_cuts c.cuts ∧ ((c.cuts.take k).any (fun s => decide (s.text.length > 100)) = false)) ?_ ?_
  · refine ⟨_, _, ⟨(0 : Nat), rfl, rfl, hE1, Nat.le_refl _, hk1, f1, f2, (by rfl)⟩, ⟨rfl, rfl, trivial⟩⟩
  · rintro _ _ w2 ⟨k, rfl, rfl, hE2, hs2, f3, f4, f5, hi⟩ ih1
    refine r_seq ?_
    refine r_seq ?_
    refine r_region ?_
    refine OL.q (Q1.move rfl) rfl rfl ?_
    refine OL.q (Q1.fieldAddr fl25_1 rfl) rfl rfl ?_
    refine OL.q (Q1.load1 ti23 rfl (fun _ e => e ▸ (f3.cell 1 _ rfl))) rfl rfl ?_
    refine OL.q (Q1.lenSl Tryz.underlying23 (f5) rfl) rfl rfl ?_
    refine OL.qb (Q1.lt rfl rfl) rfl rfl ?_
    intro b2 hb2
    refine OL.q (Q1.move rfl) rfl rfl ?_
    cases b2 with
    | true =>
      replace hb2 := of_decide_eq_true hb2.symm
      refine OL.q (Q1.fieldAddr fl25_1 rfl) rfl rfl ?_
      refine OL.q (Q1.load1 ti23 rfl (fun _ e => e ▸ (f3.cell 1 _ rfl))) rfl rfl ?_
      refine OL.q (Q1.lenSl Tryz.underlying23 (f5) rfl) rfl rfl ?_
      refine OL.qb (Q1.le rfl rfl) rfl rfl ?_
      intro b3 hb3
      refine OL.q (Q1.pick_t rfl rfl) rfl rfl ?_
      refine OL.nil ?_
      cases b3 with
      | true =>
        replace hb3 := of_decide_eq_true hb3.symm
        refine r_cond_t rfl ?_
        refine r_skip ?_
        refine r_seq ?_
        refine r_block ?_
        refine r_seq ?_
        refine r_region ?_
        refine OL.q (Q1.fieldAddr fl25_1 rfl) rfl rfl ?_
        refine OL.q (Q1.load1 ti23 rfl (fun _ e => e ▸ (f3.cell 1 _ rfl))) rfl rfl ?_
        refine OL.q (Q1.move rfl) rfl rfl ?_
        obtain ⟨x1, b4, o1, hx1, hr1, hl1, hu1, hw1⟩ := Sl.at' (P := Tryz.prog) f5 Tryz.underlying23 ti57 encKey_len (k := .i64) (n := ((k : Nat) : Int)) (k) (by omega) (by first | assumption | omega)
        refine OL.q (Q1.indexAddr rfl rfl hr1) rfl rfl ?_
        refine OL.q (Q1.fieldAddr fl57_1 rfl) rfl rfl ?_
        have hr2 := hw1.sub 1 1 (Nat.le_of_ble_eq_true rfl)
        refine OL.q (Q1.load1 ti9 rfl (fun _ e => e ▸ hr2)) rfl rfl ?_
        refine OL.q (Q1.lenS Tryz.underlying9 rfl) rfl rfl ?_
        refine OL.qb (Q1.gt rfl rfl) rfl rfl ?_
        intro b5 hb4
        refine OL.nil ?_
        cases b5 with
        | true =>
          replace hb4 := of_decide_eq_true hb4.symm
          refine r_cond_t rfl ?_
          refine r_seq ?_
          refine r_region ?_
          refine OL.q (Q1.assign rfl) rfl rfl ?_
          refine OL.nil ?_
          refine r_ret1 Tryz.func4 rfl rfl ?_
          exact Ret.mk ⟨⟨_, (by first | exact Ml.greatC_cut hx1 (by omega) | exact Ml.greatC_words (by assumption) | exact Ml.greatC_no hi (by omega) (by assumption) (by assumption) | (exfalso; omega)), rfl⟩, hE2⟩
        | false =>
          replace hb4 := of_decide_eq_false hb4.symm
          refine r_cond_f rfl ?_
          refine r_skip ?_
          refine r_inBlock ?_
          refine r_region ?_
          refine OL.q (Q1.move rfl) rfl rfl ?_
          refine OL.q (Q1.addI (((k + 1 : Nat) : Int)) rfl rfl (by omega)) rfl rfl ?_
          refine OL.q (Q1.assign rfl) rfl rfl ?_
          refine OL.nil ?_
          exact (ih1 _ _ _ ⟨(k + 1 : Nat), rfl, rfl, hE2, (by omega), f3, f4, f5, (by first | exact Ml.any_take_no hi hx1 (decide_eq_false (by omega)) | (exfalso; omega))⟩ (by omega)).sub ⟨rfl, rfl, trivial⟩
      | false =>
        replace hb3 := of_decide_eq_false hb3.symm
        refine r_cond_f rfl ?_
        refine r_exit rfl ?_
        refine r_seq ?_
        refine r_region ?_
        refine OL.q (Q1.fieldAddr fl25_0 rfl) rfl rfl ?_
        refine OL.q (Q1.load1 ti22 rfl (fun _ e => e ▸ (f3.cell 0 _ rfl))) rfl rfl ?_
        refine OL.act rfl rfl (AW.callF cl21 rfl (greatT_c (w0 := w2) (l := c.words)  ((f4).iv (Nat.zero_le _) (by omega))) ?_)
        rintro _ w3 ⟨⟨b4, hb4, rfl⟩, hm2⟩
        have f6 := f3.ext hm2
        have f7 := f4.ext hm2
        have f8 := f5.ext hm2
        have hE3 := hE2.ext hm2
        have hs3 := hm2.size
        refine OL.q (Q1.move rfl) rfl rfl ?_
        cases b4 with
        | true =>
          replace hb4 := hb4.symm
          refine OL.sk rfl rfl ?_
          refine OL.sk rfl rfl ?_
          refine OL.sk rfl rfl ?_
          refine OL.sk rfl rfl ?_
          refine OL.q (Q1.pick_t rfl rfl) rfl rfl ?_
          refine OL.q (Q1.assign rfl) rfl rfl ?_
          refine OL.nil ?_
          refine r_ret1 Tryz.func4 rfl rfl ?_
          exact Ret.mk ⟨⟨_, (by first | exact Ml.greatC_cut hx1 (by omega) | exact Ml.greatC_words (by assumption) | exact Ml.greatC_no hi (by omega) (by assumption) (by assumption) | (exfalso; omega)), rfl⟩, hE3⟩
        | false =>
          replace hb4 := hb4.symm
          refine OL.q (Q1.fieldAddr fl25_1 rfl) rfl rfl ?_
          refine OL.q (Q1.load1 ti23 rfl (fun _ e => e ▸ (f6.cell 1 _ rfl))) rfl rfl ?_
          refine OL.q (Q1.lenSl Tryz.underlying23 (f8) rfl) rfl rfl ?_
          refine OL.qb (Q1.gt rfl rfl) rfl rfl ?_
          intro b5 hb5
          refine OL.q (Q1.pick_f rfl rfl) rfl rfl ?_
          refine OL.q (Q1.assign rfl) rfl rfl ?_
          refine OL.nil ?_
          refine r_ret1 Tryz.func4 rfl rfl ?_
          exact Ret.mk ⟨⟨_, (by first | exact Ml.greatC_cut hx1 (by omega) | exact Ml.greatC_words (by assumption) | exact Ml.greatC_no hi (by omega) (by assumption) (by assumption) | (exfalso; omega)), rfl⟩, hE3⟩
    | false =>
      replace hb2 := of_decide_eq_false hb2.symm
      refine OL.sk rfl rfl ?_
      refine OL.sk rfl rfl ?_
      refine OL.sk rfl rfl ?_
      refine OL.sk rfl rfl ?_
      refine OL.q (Q1.pick_f rfl rfl) rfl rfl ?_
      refine OL.nil ?_
      refine r_cond_f rfl ?_
      refine r_exit rfl ?_
      refine r_seq ?_
      refine r_region ?_
      refine OL.q (Q1.fieldAddr fl25_0 rfl) rfl rfl ?_
      refine OL.q (Q1.load1 ti22 rfl (fun _ e => e ▸ (f3.cell 0 _ rfl))) rfl rfl ?_
      refine OL.act rfl rfl (AW.callF cl21 rfl (greatT_c (w0 := w2) (l := c.words)  ((f4).iv (Nat.zero_le _) (by omega))) ?_)
      rintro _ w3 ⟨⟨b3, hb3, rfl⟩, hm2⟩
      have f6 := f3.ext hm2
      have f7 := f4.ext hm2
      have f8 := f5.ext hm2
      have hE3 := hE2.ext hm2
      have hs3 := hm2.size
      refine OL.q (Q1.move rfl) rfl rfl ?_
      cases b3 with
      | true =>
        replace hb3 := hb3.symm
        refine OL.sk rfl rfl ?_
        refine OL.sk rfl rfl ?_
        refine OL.sk rfl rfl ?_
        refine OL.sk rfl rfl ?_
        refine OL.q (Q1.pick_t rfl rfl) rfl rfl ?_
        refine OL.q (Q1.assign rfl) rfl rfl ?_
        refine OL.nil ?_
        refine r_ret1 Tryz.func4 rfl rfl ?_
        exact Ret.mk ⟨⟨_, (by first | exact Ml.greatC_cut hx1 (by omega) | exact Ml.greatC_words (by assumption) | exact Ml.greatC_no hi (by omega) (by assumption) (by assumption) | (exfalso; omega)), rfl⟩, hE3⟩
      | false =>
        replace hb3 := hb3.symm
        refine OL.q (Q1.fieldAddr fl25_1 rfl) rfl rfl ?_
        refine OL.q (Q1.load1 ti23 rfl (fun _ e => e ▸ (f6.cell 1 _ rfl))) rfl rfl ?_
        refine OL.q (Q1.lenSl Tryz.underlying23 (f8) rfl) rfl rfl ?_
        refine OL.qb (Q1.gt rfl rfl) rfl rfl ?_
        intro b4 hb4
        refine OL.q (Q1.pick_f rfl rfl) rfl rfl ?_
        refine OL.q (Q1.assign rfl) rfl rfl ?_
        refine OL.nil ?_
        refine r_ret1 Tryz.func4 rfl rfl ?_
        exact Ret.mk ⟨⟨_, (by first | exact Ml.greatC_cut hx1 (by omega) | exact Ml.greatC_words (by assumption) | exact Ml.greatC_no hi (by omega) (by assumption) (by assumption) | (exfalso; omega)), rfl⟩, hE3⟩
set_option maxRecDepth 20000 in
set_option maxHeartbeats 4000000 in
theorem num_c {w0 : World}  (e : Int) (h_e : I64 e) :
    Calls Tryz.prog 8 #[.int .i64 e] w0 (Ret fun rv w1 => rv = .int .i64 (e) ∧ Ext w0 w1) := by
  have hE0 : Ext w0 w0 := Mod.refl _ _
  refine calls_enter Tryz.func8 rfl Tryz.ntmps8 rfl ?_
  refine r_seq ?_
  refine r_region ?_
  refine OL.q (Q1.assign rfl) rfl rfl ?_
  refine OL.nil ?_
  refine r_seq ?_
  refine r_region ?_
  refine OL.q (Q1.move rfl) rfl rfl ?_
  refine OL.q (Q1.assign rfl) rfl rfl ?_
  refine OL.nil ?_
  refine r_ret1 Tryz.func8 rfl rfl ?_
  exact Ret.mk ⟨(congrArg (Value.int .i64) (by rfl)), hE0⟩
set_option maxRecDepth 20000 in
set_option maxHeartbeats 4000000 in
theorem overBytes_c {w0 : World}  {v_l : Value} {g_l : Nat} {l : List UInt8} (h_l : Acc encB 5 1 w0 g_l v_l l) (hln : l.length ≤ 4000000) :
    Calls Tryz.prog 20 #[v_l] w0 (Ret fun rv w1 => rv = .tuple #[] ∧ Mod (Mg g_l) w0 w1) := by
  have hE0 : Mod (Mg g_l) w0 w0 := Mod.refl _ _
  have hle1 := h_l.le
  have hlt1 := h_l.lt
  refine calls_enter Tryz.func20 rfl Tryz.ntmps20 rfl ?_
  refine r_seq ?_
  refine r_seq ?_
  refine r_region ?_
  refine OL.q (Q1.assign rfl) rfl rfl ?_
  refine OL.nil ?_
  refine r_block ?_
  refine r_loop (I := fun m E W => ∃ (k1 : Nat) (l1 : List UInt8), E = [(0, v_l), (2, .int .i64 (((k1 : Nat) : Int)))] ∧ m = l.length - k1 ∧ Mod (Mg g_l) w0 W ∧ w0.heap.size ≤ W.heap.size ∧ Acc encB 5 1 W g_l v_l l1 ∧ (l1.length = l.length)) ?_ ?_
  · refine ⟨_, _, ⟨(0 : Nat), (l : List UInt8), rfl, rfl, hE0, Nat.le_refl _, h_l, (by rfl)⟩, ⟨rfl, rfl, trivial⟩⟩
  · rintro _ _ w1 ⟨k1, l1, rfl, rfl, hE1, hs1, f1, hl1⟩ ih1
    refine r_seq ?_
    refine r_seq ?_
    refine r_region ?_
    refine OL.q (Q1.move rfl) rfl rfl ?_
    refine OL.q (Q1.move rfl) rfl rfl ?_
    refine OL.q (Q1.lenSl Tryz.underlying47 (f1.sl) rfl) rfl rfl ?_
    refine OL.qb (Q1.lt rfl rfl) rfl rfl ?_
    intro b1 hb1
    refine OL.nil ?_
    cases b1 with
    | true =>
      replace hb1 := of_decide_eq_true hb1.symm
      refine r_cond_t rfl ?_
      refine r_skip ?_
      refine r_seq ?_
      refine r_block ?_
      refine r_region ?_
      refine OL.q (Q1.move rfl) rfl rfl ?_
      refine OL.q (Q1.move rfl) rfl rfl ?_
      obtain ⟨hr1, x1, hx1⟩ := Acc.at (P := Tryz.prog) f1 Tryz.underlying47 ti5 (k := .i64) (n := ((k1 : Nat) : Int)) (k1) (by omega) (by first | assumption | omega | (simp; done))
      refine OL.q (Q1.indexAddr rfl rfl hr1) rfl rfl ?_
      have hl2 := f1.lt
      refine OL.act rfl rfl (AW.storeA f1 encB_len (i := k1) (o := 0) hx1 ((238 : UInt8)) ti5 rfl (by omega) rfl rfl rfl rfl (by decide) (by first | rfl | simp [encB]) ?_)
      intro w2 hm1 hz1 ha1
      have hl3 := f1.lt
      have hE2 := Mod.thenG hE1 hm1 (by omega)
      have hs2 := hm1.size
      have hl1 : (l1.set k1 ((238 : UInt8))).length = l1.length := List.length_set
      refine OL.nil ?_
      refine r_inBlock ?_
      refine r_region ?_
      refine OL.q (Q1.move rfl) rfl rfl ?_
      refine OL.q (Q1.addI (((k1 + 1 : Nat) : Int)) rfl rfl (by omega)) rfl rfl ?_
      refine OL.q (Q1.assign rfl) rfl rfl ?_
      refine OL.nil ?_
      exact (ih1 _ _ _ ⟨(k1 + 1 : Nat), ((l1.set k1 ((238 : UInt8))) : List UInt8), rfl, rfl, hE2, (by omega), ha1, (by first | omega | (simp only [List.length_set]; omega) | (exfalso; omega))⟩ (by omega)).sub ⟨rfl, rfl, trivial⟩
    | false =>
      replace hb1 := of_decide_eq_false hb1.symm
      refine r_cond_f rfl ?_
      refine r_exit rfl ?_
      refine r_region ?_
      refine OL.q (Q1.move rfl) rfl rfl ?_
      refine OL.act rfl rfl (AW.buildSlice [(.int .u8 238 : Value)] Tryz.underlying47 ti5 rfl rfl rfl (by decide) ?_)
      intro w2 b2 hm1 hb2 hz1 hk1
      have hl1 := f1.lt
      have f2 := f1.ext hm1
      have hE2 := hE1.ext hm1
      have hs2 := hm1.size
      have hl2 := Sl.of_blk (enc := encB) hk1 ([(238 : UInt8)] : List UInt8) 1 rfl rfl (by unfold maxLen; omega)
      have hl3 := f2.lt
      refine OL.act rfl rfl (AW.append f2 Tryz.underlying47 ti5 rfl encB_len encB_one rfl rfl (hl2) (by first | omega | (simp only [List.length_append, List.length_cons, List.length_nil]; omega) | (simp; omega)) (by unfold maxLen; first | omega | (simp only [List.length_append, List.length_cons, List.length_nil]; omega) | (simp; omega)) ?_)
      intro v1 g1 w3 ha1 hm2 hg1 hz2
      have hl4 := f2.lt
      have f3 := hl2.keepG hm2 (by omega)
      have hE3 := Mod.thenG hE2 hm2 (by omega)
      have hs3 := hm2.size
      refine OL.nil ?_
      refine r_end0 Tryz.func20 rfl ?_
      exact Ret.mk ⟨rfl, hE3⟩
end Go.Proofs
