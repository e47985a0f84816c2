/-
  Walks through walk.Next.
-/
import Derived.Test.YtjhbobjjkbppkaaWDists
import Derived.Test.YtjhbobjjkbppkaaWRank
set_option linter.unusedVariables false
set_option linter.unusedSimpArgs false
namespace Go.Proofs
open Go.Ik Go.Ml
set_option maxRecDepth 20000 in
set_option maxHeartbeats 4000000 in
theorem wnext1_c {w0 : World} {F : Nat → Prop} {bl bm bd bf ba bb : Nat} {l : List Itm} {more : Bool} (x : Str) (d batch : Int) (first : Bool) (after : Itm) (hd : I64 d) (hbt : I64 batch) (had : I64 after.dist) (haw : after.word.length ≤ 1000000) (hA : (boxR (R := fun _ => False) [nb0R (R := fun _ => False) 31 24 4 bl bm ((l, more)), bkR bd [.int .i64 d] 3, bkR bf [.bool first] 4, bkR ba [.int .i64 after.dist, strV after.word] 24, bkR bb [.int .i64 batch] 3]).p F w0) (hF : ∀ b, F b → b < w0.heap.size) (hln : l.length ≤ 1000000) :
    Calls Try.prog 37 #[strV x, ptr bd 0, ptr bf 0, ptr ba 0, ptr bl 0, ptr bb 0, ptr bm 0] w0 (Ret fun rv w1 => rv = .bool (nextF first after batch d (l, more) x).2 ∧ Mod F w0 w1 ∧ ∃ F2, (boxR (R := fun _ => False) [nb0R (R := fun _ => False) 31 24 4 bl bm ((nextF first after batch d (l, more) x).1), bkR bd [.int .i64 d] 3, bkR bf [.bool first] 4, bkR ba [.int .i64 after.dist, strV after.word] 24, bkR bb [.int .i64 batch] 3]).p F2 w1 ∧ ∀ b, F2 b → b < w1.heap.size ∧ (F b ∨ w0.heap.size ≤ b)) := by
  have hS00 := St.start1 hA (fun b hb => ⟨hF b hb, id⟩) (fun _ h => h.elim)
  have hS1 : St (fun _ => False) F w0 w0 [nb0R 31 24 4 bl bm ((l, more)), bkR bd [.int .i64 d] 3, bkR bf [.bool first] 4, bkR ba [.int .i64 after.dist, strV after.word] 24, bkR bb [.int .i64 batch] 3] := St.open (L1 := []) hS00
  obtain ⟨vb1, hS2⟩ := hS1.exo (i := 0) rfl
  change St (fun _ => False) F w0 w0 [boxR [bkR bl [vb1] 31, accR encItm 24 2 vb1 (((l, more)).1), bkR bm [.bool ((l, more)).2] 4], bkR bd [.int .i64 d] 3, bkR bf [.bool first] 4, bkR ba [.int .i64 after.dist, strV after.word] 24, bkR bb [.int .i64 batch] 3] at hS2
  have hS3 : St (fun _ => False) F w0 w0 [bkR bd [.int .i64 d] 3, bkR bf [.bool first] 4, bkR ba [.int .i64 after.dist, strV after.word] 24, bkR bb [.int .i64 batch] 3, boxR [bkR bl [vb1] 31, accR encItm 24 2 vb1 (((l, more)).1), bkR bm [.bool ((l, more)).2] 4]] := hS2.sel [1, 2, 3, 4, 0] (by rfl) (by decide)
  have hS4 : St (fun _ => False) F w0 w0 [bkR bd [.int .i64 d] 3, bkR bf [.bool first] 4, bkR ba [.int .i64 after.dist, strV after.word] 24, bkR bb [.int .i64 batch] 3, boxR [bkR bl [vb1] 31, accR encItm 24 2 vb1 (((l, more)).1), bkR bm [.bool ((l, more)).2] 4]] := hS3
  have hS5 : St (fun _ => False) F w0 w0 [bkR bd [.int .i64 d] 3, bkR bf [.bool first] 4, bkR ba [.int .i64 after.dist, strV after.word] 24, bkR bb [.int .i64 batch] 3, bkR bl [vb1] 31, accR encItm 24 2 vb1 (((l, more)).1), bkR bm [.bool (((l, more)).2)] 4] := St.open (L1 := [bkR bd [.int .i64 d] 3, bkR bf [.bool first] 4, bkR ba [.int .i64 after.dist, strV after.word] 24, bkR bb [.int .i64 batch] 3]) hS4
  have hS6 : St (fun _ => False) F w0 w0 [bkR bd [.int .i64 d] 3, bkR bf [.bool first] 4, bkR ba [.int .i64 after.dist, strV after.word] 24, bkR bb [.int .i64 batch] 3, bkR bl [vb1] 31, accR encItm 24 2 vb1 l, bkR bm [.bool more] 4] := hS5
  refine calls_enter Try.func37 rfl Try.ntmps37 rfl ?_
  refine r_seq ?_
  refine r_region ?_
  refine OL.q (Q1.assign rfl) rfl rfl ?_
  refine OL.nil ?_
  refine r_seq ?_
  refine r_region ?_
  have f1 := hS6.bk (i := 0) rfl
  refine OL.q (Q1.load1 ti3 rfl (fun _ e => e ▸ (f1.cell 0 _ rfl))) rfl rfl ?_
  refine OL.q (Q1.move rfl) rfl rfl ?_
  refine OL.q (Q1.build (vs := #[(0, (.int .i64 d : Value)), (1, strV x)]) (v := .agg #[.int .i64 d, strV x]) rfl (fun _ => by kernel_rfl)) rfl rfl ?_
  refine OL.act rfl rfl (AW.alloc ti24 ?_)
  intro w1 b1 hm1 hb1 hz1 hk1
  have hS7 := hS6.ext hm1
  have hS8 : St (fun _ => False) F w0 w1 [bkR bd [.int .i64 d] 3, bkR bf [.bool first] 4, bkR ba [.int .i64 after.dist, strV after.word] 24, bkR bb [.int .i64 batch] 3, bkR bl [vb1] 31, accR encItm 24 2 vb1 l, bkR bm [.bool more] 4, bkR b1 [.int .i64 0, strV []] 24] := hS6.newBk hm1 hb1 hk1
  have f2 := hS8.bk (i := 7) rfl
  refine OL.act rfl rfl (AW.store ti24 rfl rfl rfl rfl rfl f2 (Nat.le_of_ble_eq_true rfl) ?_)
  intro w2 hm2 hz2 hk2
  have hS9 : St (fun _ => False) F w0 w2 [bkR bd [.int .i64 d] 3, bkR bf [.bool first] 4, bkR ba [.int .i64 after.dist, strV after.word] 24, bkR bb [.int .i64 batch] 3, bkR bl [vb1] 31, accR encItm 24 2 vb1 l, bkR bm [.bool more] 4, bkR b1 [.int .i64 d, strV x] 24] := hS8.bkK (i := 7) rfl hm2 hk2
  refine OL.nil ?_
  refine r_seq ?_
  refine r_block ?_
  refine r_seq ?_
  refine r_region ?_
  have f3 := hS9.bk (i := 1) rfl
  refine OL.q (Q1.load1 ti4 rfl (fun _ e => e ▸ (f3.cell 0 _ rfl))) rfl rfl ?_
  cases first with
  | true =>
    refine OL.q (Q1.not rfl) rfl rfl ?_
    refine OL.q (Q1.move rfl) rfl rfl ?_
    refine OL.sk rfl rfl ?_
    refine OL.sk rfl rfl ?_
    refine OL.sk rfl rfl ?_
    refine OL.sk rfl rfl ?_
    refine OL.q (Q1.pick_f rfl rfl) rfl rfl ?_
    refine OL.q (Q1.assign rfl) rfl rfl ?_
    refine OL.nil ?_
    refine r_cond_f rfl ?_
    refine r_seq ?_
    refine r_region ?_
    have f4 := hS9.bk (i := 4) rfl
    refine OL.q (Q1.load1 ti31 rfl (fun _ e => e ▸ (f4.cell 0 _ rfl))) rfl rfl ?_
    obtain ⟨g1, f5, hl1, k1⟩ := hS9.accK (i := 5) rfl
    refine OL.q (Q1.lenSl Try.underlying31 (f5.sl) rfl) rfl rfl ?_
    have f6 := hS9.bk (i := 3) rfl
    refine OL.q (Q1.load1 ti3 rfl (fun _ e => e ▸ (f6.cell 0 _ rfl))) rfl rfl ?_
    refine OL.qb (Q1.eq rfl rfl) rfl rfl ?_
    intro b2 hb2
    refine OL.q (Q1.assign rfl) rfl rfl ?_
    refine OL.nil ?_
    cases b2 with
    | true =>
      replace hb2 := eq_of_beq hb2.symm
      refine r_cond_t rfl ?_
      refine r_region ?_
      have f7 := hS9.bk (i := 6) rfl
      refine OL.act rfl rfl (AW.store ti4 rfl rfl rfl rfl rfl f7 (Nat.le_of_ble_eq_true rfl) ?_)
      intro w3 hm3 hz3 hk3
      have hS10 : St (fun _ => False) F w0 w3 [bkR bd [.int .i64 d] 3, bkR bf [.bool true] 4, bkR ba [.int .i64 after.dist, strV after.word] 24, bkR bb [.int .i64 batch] 3, bkR bl [vb1] 31, accR encItm 24 2 vb1 l, bkR bm [.bool true] 4, bkR b1 [.int .i64 d, strV x] 24] := hS9.bkK (i := 6) rfl hm3 hk3
      refine OL.nil ?_
      refine r_inBlock ?_
      refine r_seq ?_
      refine r_region ?_
      have f8 := hS10.bk (i := 6) rfl
      refine OL.q (Q1.load1 ti4 rfl (fun _ e => e ▸ (f8.cell 0 _ rfl))) rfl rfl ?_
      refine OL.q (Q1.not rfl) rfl rfl ?_
      refine OL.q (Q1.assign rfl) rfl rfl ?_
      refine OL.nil ?_
      refine r_ret1 Try.func37 rfl rfl ?_
      have hS11 : St (fun _ => False) F w0 w3 [bkR bd [.int .i64 d] 3, bkR bf [.bool true] 4, bkR ba [.int .i64 after.dist, strV after.word] 24, bkR bb [.int .i64 batch] 3, bkR b1 [.int .i64 d, strV x] 24, bkR bl [vb1] 31, accR encItm 24 2 vb1 l, bkR bm [.bool true] 4] := hS10.sel [0, 1, 2, 3, 7, 4, 5, 6] (by rfl) (by decide)
      have hS12 : St (fun _ => False) F w0 w3 [bkR bd [.int .i64 d] 3, bkR bf [.bool true] 4, bkR ba [.int .i64 after.dist, strV after.word] 24, bkR bb [.int .i64 batch] 3, bkR b1 [.int .i64 d, strV x] 24, boxR [bkR bl [vb1] 31, accR encItm 24 2 vb1 l, bkR bm [.bool true] 4]] := St.close (L1 := [bkR bd [.int .i64 d] 3, bkR bf [.bool true] 4, bkR ba [.int .i64 after.dist, strV after.word] 24, bkR bb [.int .i64 batch] 3, bkR b1 [.int .i64 d, strV x] 24]) hS11
      have hS13 : St (fun _ => False) F w0 w3 [bkR bd [.int .i64 d] 3, bkR bf [.bool true] 4, bkR ba [.int .i64 after.dist, strV after.word] 24, bkR bb [.int .i64 batch] 3, bkR b1 [.int .i64 d, strV x] 24, nb0R 31 24 4 bl bm ((l, true))] := hS12.exi vb1 (i := 5) rfl
      have hS14 : St (fun _ => False) F w0 w3 [bkR b1 [.int .i64 d, strV x] 24, nb0R 31 24 4 bl bm ((l, true)), bkR bd [.int .i64 d] 3, bkR bf [.bool true] 4, bkR ba [.int .i64 after.dist, strV after.word] 24, bkR bb [.int .i64 batch] 3] := hS13.sel [4, 5, 0, 1, 2, 3] (by rfl) (by decide)
      have hS15 : St (fun _ => False) F w0 w3 [bkR b1 [.int .i64 d, strV x] 24, boxR [nb0R 31 24 4 bl bm ((l, true)), bkR bd [.int .i64 d] 3, bkR bf [.bool true] 4, bkR ba [.int .i64 after.dist, strV after.word] 24, bkR bb [.int .i64 batch] 3]] := St.close (L1 := [bkR b1 [.int .i64 d, strV x] 24]) hS14
      have hS16 : St (fun _ => False) F w0 w3 [boxR [nb0R 31 24 4 bl bm ((l, true)), bkR bd [.int .i64 d] 3, bkR bf [.bool true] 4, bkR ba [.int .i64 after.dist, strV after.word] 24, bkR bb [.int .i64 batch] 3]] := hS15.sel [1] (by rfl) (by decide)
      obtain ⟨hmF, F2r, hAr, hFr⟩ := hS16.fin
      have hnf : nextF true after batch d (l, more) x = ((l, true), false) := by first | exact nextF_skip (by assumption) | exact nextF_full (by first | exact .inl rfl | exact .inr (by assumption)) (by assumption) | exact nextF_add (by first | exact .inl rfl | exact .inr (by assumption)) (by assumption)
      exact Ret.mk ⟨by rw [hnf]; rfl, hmF, F2r, by rw [hnf]; exact hAr, hFr⟩
    | false =>
      replace hb2 := ne_of_beq_false hb2.symm
      refine r_cond_f rfl ?_
      refine r_region ?_
      refine OL.q (Q1.load1 ti31 rfl (fun _ e => e ▸ (f4.cell 0 _ rfl))) rfl rfl ?_
      have f7 := hS9.bk (i := 7) rfl
      refine OL.q (Q1.loadN ti24 rfl (fun _ e => e ▸ f7.row) rfl) rfl rfl ?_
      refine OL.act rfl rfl (AW.buildSlice [(.agg #[.int .i64 d, strV x] : Value)] Try.underlying31 ti24 rfl rfl rfl (by decide) ?_)
      intro w3 b3 hm3 hb3 hz3 hk3
      have hS10 := hS9.ext hm3
      have hl2 := Sl.of_blk (enc := encItm) hk3 ([(Itm.mk d x)] : List Itm) 1 rfl rfl (by unfold maxLen; omega)
      have hS11 : St (fun _ => False) F w0 w3 [bkR bd [.int .i64 d] 3, bkR bf [.bool true] 4, bkR ba [.int .i64 after.dist, strV after.word] 24, bkR bb [.int .i64 batch] 3, bkR bl [vb1] 31, accR encItm 24 2 vb1 l, bkR bm [.bool more] 4, bkR b1 [.int .i64 d, strV x] 24, slR encItm [((.slice (some ⟨b3, 0, none⟩) 1 1), [(Itm.mk d x)])]] := hS9.newSlB hm3 hb3 hz3 hl2
      obtain ⟨g3, f8, hl3, k2⟩ := hS11.accK (i := 5) rfl
      have f9 := hS11.sl (i := 8) (k := 0) rfl rfl
      refine OL.act rfl rfl (AW.append f8 Try.underlying31 ti24 rfl encItm_len encItm_one rfl rfl (f9) (by first | omega | (simp only [List.length_append, List.length_cons, List.length_nil]; omega) | (simp; omega)) (by unfold maxLen; first | omega | (simp only [List.length_append, List.length_cons, List.length_nil]; omega) | (simp; omega)) ?_)
      intro v1 g2 w4 ha1 hm4 hg1 hz4
      have hS12 : St (fun _ => False) F w0 w4 [bkR bd [.int .i64 d] 3, bkR bf [.bool true] 4, bkR ba [.int .i64 after.dist, strV after.word] 24, bkR bb [.int .i64 batch] 3, bkR bl [vb1] 31, accR encItm 24 2 v1 ((l ++ [(Itm.mk d x)])), bkR bm [.bool more] 4, bkR b1 [.int .i64 d, strV x] 24, slR encItm [((.slice (some ⟨b3, 0, none⟩) 1 1), [(Itm.mk d x)])]] := k2 _ _ _ _ hm4 ha1 hg1
      clear hg1
      obtain ⟨g4, f10, hl4, k3⟩ := hS12.accK (i := 5) rfl
      obtain ⟨ad1, cp1, hv1⟩ := f10.shape
      subst hv1
      have f11 := hS12.bk (i := 4) rfl
      refine OL.act rfl rfl (AW.store ti31 rfl rfl rfl rfl rfl f11 (Nat.le_of_ble_eq_true rfl) ?_)
      intro w5 hm5 hz5 hk4
      have hS13 : St (fun _ => False) F w0 w5 [bkR bd [.int .i64 d] 3, bkR bf [.bool true] 4, bkR ba [.int .i64 after.dist, strV after.word] 24, bkR bb [.int .i64 batch] 3, bkR bl [(.slice ad1 ((l ++ [(Itm.mk d x)])).length cp1)] 31, accR encItm 24 2 ((.slice ad1 ((l ++ [(Itm.mk d x)])).length cp1)) ((l ++ [(Itm.mk d x)])), bkR bm [.bool more] 4, bkR b1 [.int .i64 d, strV x] 24, slR encItm [((.slice (some ⟨b3, 0, none⟩) 1 1), [(Itm.mk d x)])]] := hS12.bkK (i := 4) rfl hm5 hk4
      refine OL.nil ?_
      refine r_inBlock ?_
      refine r_seq ?_
      refine r_region ?_
      have f12 := hS13.bk (i := 6) rfl
      refine OL.q (Q1.load1 ti4 rfl (fun _ e => e ▸ (f12.cell 0 _ rfl))) rfl rfl ?_
      cases more with
      | true =>
        refine OL.q (Q1.not rfl) rfl rfl ?_
        refine OL.q (Q1.assign rfl) rfl rfl ?_
        refine OL.nil ?_
        refine r_ret1 Try.func37 rfl rfl ?_
        have hS14 : St (fun _ => False) F w0 w5 [bkR bd [.int .i64 d] 3, bkR bf [.bool true] 4, bkR ba [.int .i64 after.dist, strV after.word] 24, bkR bb [.int .i64 batch] 3, bkR b1 [.int .i64 d, strV x] 24, slR encItm [((.slice (some ⟨b3, 0, none⟩) 1 1), [(Itm.mk d x)])], bkR bl [(.slice ad1 ((l ++ [(Itm.mk d x)])).length cp1)] 31, accR encItm 24 2 ((.slice ad1 ((l ++ [(Itm.mk d x)])).length cp1)) ((l ++ [(Itm.mk d x)])), bkR bm [.bool true] 4] := hS13.sel [0, 1, 2, 3, 7, 8, 4, 5, 6] (by rfl) (by decide)
        have hS15 : St (fun _ => False) F w0 w5 [bkR bd [.int .i64 d] 3, bkR bf [.bool true] 4, bkR ba [.int .i64 after.dist, strV after.word] 24, bkR bb [.int .i64 batch] 3, bkR b1 [.int .i64 d, strV x] 24, slR encItm [((.slice (some ⟨b3, 0, none⟩) 1 1), [(Itm.mk d x)])], boxR [bkR bl [(.slice ad1 ((l ++ [(Itm.mk d x)])).length cp1)] 31, accR encItm 24 2 ((.slice ad1 ((l ++ [(Itm.mk d x)])).length cp1)) ((l ++ [(Itm.mk d x)])), bkR bm [.bool true] 4]] := St.close (L1 := [bkR bd [.int .i64 d] 3, bkR bf [.bool true] 4, bkR ba [.int .i64 after.dist, strV after.word] 24, bkR bb [.int .i64 batch] 3, bkR b1 [.int .i64 d, strV x] 24, slR encItm [((.slice (some ⟨b3, 0, none⟩) 1 1), [(Itm.mk d x)])]]) hS14
        have hS16 : St (fun _ => False) F w0 w5 [bkR bd [.int .i64 d] 3, bkR bf [.bool true] 4, bkR ba [.int .i64 after.dist, strV after.word] 24, bkR bb [.int .i64 batch] 3, bkR b1 [.int .i64 d, strV x] 24, slR encItm [((.slice (some ⟨b3, 0, none⟩) 1 1), [(Itm.mk d x)])], nb0R 31 24 4 bl bm (((l ++ [(Itm.mk d x)]), true))] := hS15.exi (.slice ad1 ((l ++ [(Itm.mk d x)])).length cp1) (i := 6) rfl
        have hS17 : St (fun _ => False) F w0 w5 [bkR b1 [.int .i64 d, strV x] 24, slR encItm [((.slice (some ⟨b3, 0, none⟩) 1 1), [(Itm.mk d x)])], nb0R 31 24 4 bl bm (((l ++ [(Itm.mk d x)]), true)), bkR bd [.int .i64 d] 3, bkR bf [.bool true] 4, bkR ba [.int .i64 after.dist, strV after.word] 24, bkR bb [.int .i64 batch] 3] := hS16.sel [4, 5, 6, 0, 1, 2, 3] (by rfl) (by decide)
        have hS18 : St (fun _ => False) F w0 w5 [bkR b1 [.int .i64 d, strV x] 24, slR encItm [((.slice (some ⟨b3, 0, none⟩) 1 1), [(Itm.mk d x)])], boxR [nb0R 31 24 4 bl bm (((l ++ [(Itm.mk d x)]), true)), bkR bd [.int .i64 d] 3, bkR bf [.bool true] 4, bkR ba [.int .i64 after.dist, strV after.word] 24, bkR bb [.int .i64 batch] 3]] := St.close (L1 := [bkR b1 [.int .i64 d, strV x] 24, slR encItm [((.slice (some ⟨b3, 0, none⟩) 1 1), [(Itm.mk d x)])]]) hS17
        have hS19 : St (fun _ => False) F w0 w5 [boxR [nb0R 31 24 4 bl bm (((l ++ [(Itm.mk d x)]), true)), bkR bd [.int .i64 d] 3, bkR bf [.bool true] 4, bkR ba [.int .i64 after.dist, strV after.word] 24, bkR bb [.int .i64 batch] 3]] := hS18.sel [2] (by rfl) (by decide)
        obtain ⟨hmF, F2r, hAr, hFr⟩ := hS19.fin
        have hnf : nextF true after batch d (l, true) x = (((l ++ [(Itm.mk d x)]), true), false) := by first | exact nextF_skip (by assumption) | exact nextF_full (by first | exact .inl rfl | exact .inr (by assumption)) (by assumption) | exact nextF_add (by first | exact .inl rfl | exact .inr (by assumption)) (by assumption)
        exact Ret.mk ⟨by rw [hnf]; rfl, hmF, F2r, by rw [hnf]; exact hAr, hFr⟩
      | false =>
        refine OL.q (Q1.not rfl) rfl rfl ?_
        refine OL.q (Q1.assign rfl) rfl rfl ?_
        refine OL.nil ?_
        refine r_ret1 Try.func37 rfl rfl ?_
        have hS14 : St (fun _ => False) F w0 w5 [bkR bd [.int .i64 d] 3, bkR bf [.bool true] 4, bkR ba [.int .i64 after.dist, strV after.word] 24, bkR bb [.int .i64 batch] 3, bkR b1 [.int .i64 d, strV x] 24, slR encItm [((.slice (some ⟨b3, 0, none⟩) 1 1), [(Itm.mk d x)])], bkR bl [(.slice ad1 ((l ++ [(Itm.mk d x)])).length cp1)] 31, accR encItm 24 2 ((.slice ad1 ((l ++ [(Itm.mk d x)])).length cp1)) ((l ++ [(Itm.mk d x)])), bkR bm [.bool false] 4] := hS13.sel [0, 1, 2, 3, 7, 8, 4, 5, 6] (by rfl) (by decide)
        have hS15 : St (fun _ => False) F w0 w5 [bkR bd [.int .i64 d] 3, bkR bf [.bool true] 4, bkR ba [.int .i64 after.dist, strV after.word] 24, bkR bb [.int .i64 batch] 3, bkR b1 [.int .i64 d, strV x] 24, slR encItm [((.slice (some ⟨b3, 0, none⟩) 1 1), [(Itm.mk d x)])], boxR [bkR bl [(.slice ad1 ((l ++ [(Itm.mk d x)])).length cp1)] 31, accR encItm 24 2 ((.slice ad1 ((l ++ [(Itm.mk d x)])).length cp1)) ((l ++ [(Itm.mk d x)])), bkR bm [.bool false] 4]] := St.close (L1 := [bkR bd [.int .i64 d] 3, bkR bf [.bool true] 4, bkR ba [.int .i64 after.dist, strV after.word] 24, bkR bb [.int .i64 batch] 3, bkR b1 [.int .i64 d, strV x] 24, slR encItm [((.slice (some ⟨b3, 0, none⟩) 1 1), [(Itm.mk d x)])]]) hS14
        have hS16 : St (fun _ => False) F w0 w5 [bkR bd [.int .i64 d] 3, bkR bf [.bool true] 4, bkR ba [.int .i64 after.dist, strV after.word] 24, bkR bb [.int .i64 batch] 3, bkR b1 [.int .i64 d, strV x] 24, slR encItm [((.slice (some ⟨b3, 0, none⟩) 1 1), [(Itm.mk d x)])], nb0R 31 24 4 bl bm (((l ++ [(Itm.mk d x)]), false))] := hS15.exi (.slice ad1 ((l ++ [(Itm.mk d x)])).length cp1) (i := 6) rfl
        have hS17 : St (fun _ => False) F w0 w5 [bkR b1 [.int .i64 d, strV x] 24, slR encItm [((.slice (some ⟨b3, 0, none⟩) 1 1), [(Itm.mk d x)])], nb0R 31 24 4 bl bm (((l ++ [(Itm.mk d x)]), false)), bkR bd [.int .i64 d] 3, bkR bf [.bool true] 4, bkR ba [.int .i64 after.dist, strV after.word] 24, bkR bb [.int .i64 batch] 3] := hS16.sel [4, 5, 6, 0, 1, 2, 3] (by rfl) (by decide)
        have hS18 : St (fun _ => False) F w0 w5 [bkR b1 [.int .i64 d, strV x] 24, slR encItm [((.slice (some ⟨b3, 0, none⟩) 1 1), [(Itm.mk d x)])], boxR [nb0R 31 24 4 bl bm (((l ++ [(Itm.mk d x)]), false)), bkR bd [.int .i64 d] 3, bkR bf [.bool true] 4, bkR ba [.int .i64 after.dist, strV after.word] 24, bkR bb [.int .i64 batch] 3]] := St.close (L1 := [bkR b1 [.int .i64 d, strV x] 24, slR encItm [((.slice (some ⟨b3, 0, none⟩) 1 1), [(Itm.mk d x)])]]) hS17
        have hS19 : St (fun _ => False) F w0 w5 [boxR [nb0R 31 24 4 bl bm (((l ++ [(Itm.mk d x)]), false)), bkR bd [.int .i64 d] 3, bkR bf [.bool true] 4, bkR ba [.int .i64 after.dist, strV after.word] 24, bkR bb [.int .i64 batch] 3]] := hS18.sel [2] (by rfl) (by decide)
        obtain ⟨hmF, F2r, hAr, hFr⟩ := hS19.fin
        have hnf : nextF true after batch d (l, false) x = (((l ++ [(Itm.mk d x)]), false), true) := by first | exact nextF_skip (by assumption) | exact nextF_full (by first | exact .inl rfl | exact .inr (by assumption)) (by assumption) | exact nextF_add (by first | exact .inl rfl | exact .inr (by assumption)) (by assumption)
        exact Ret.mk ⟨by rw [hnf]; rfl, hmF, F2r, by rw [hnf]; exact hAr, hFr⟩
  | false =>
    refine OL.q (Q1.not rfl) rfl rfl ?_
    refine OL.q (Q1.move rfl) rfl rfl ?_
    have f4 := hS9.bk (i := 2) rfl
    refine OL.q (Q1.loadN ti24 rfl (fun _ e => e ▸ f4.row) rfl) rfl rfl ?_
    have f5 := hS9.bk (i := 7) rfl
    refine OL.q (Q1.loadN ti24 rfl (fun _ e => e ▸ f5.row) rfl) rfl rfl ?_
    refine OL.act rfl rfl (AW.callF cl38 rfl (iless_c (w0 := w2) (a := (Itm.mk after.dist after.word)) (b := (Itm.mk d x))  ) ?_)
    rintro _ w3 ⟨⟨b2, hb2, rfl⟩, hm3⟩
    have hS10 := hS9.ext hm3
    cases b2 with
    | true =>
      replace hb2 := hb2.symm
      refine OL.q (Q1.not rfl) rfl rfl ?_
      refine OL.q (Q1.pick_t rfl rfl) rfl rfl ?_
      refine OL.q (Q1.assign rfl) rfl rfl ?_
      refine OL.nil ?_
      refine r_cond_f rfl ?_
      refine r_seq ?_
      refine r_region ?_
      have f6 := hS10.bk (i := 4) rfl
      refine OL.q (Q1.load1 ti31 rfl (fun _ e => e ▸ (f6.cell 0 _ rfl))) rfl rfl ?_
      obtain ⟨g1, f7, hl1, k1⟩ := hS10.accK (i := 5) rfl
      refine OL.q (Q1.lenSl Try.underlying31 (f7.sl) rfl) rfl rfl ?_
      have f8 := hS10.bk (i := 3) rfl
      refine OL.q (Q1.load1 ti3 rfl (fun _ e => e ▸ (f8.cell 0 _ rfl))) rfl rfl ?_
      refine OL.qb (Q1.eq rfl rfl) rfl rfl ?_
      intro b3 hb3
      refine OL.q (Q1.assign rfl) rfl rfl ?_
      refine OL.nil ?_
      cases b3 with
      | true =>
        replace hb3 := eq_of_beq hb3.symm
        refine r_cond_t rfl ?_
        refine r_region ?_
        have f9 := hS10.bk (i := 6) rfl
        refine OL.act rfl rfl (AW.store ti4 rfl rfl rfl rfl rfl f9 (Nat.le_of_ble_eq_true rfl) ?_)
        intro w4 hm4 hz3 hk3
        have hS11 : St (fun _ => False) F w0 w4 [bkR bd [.int .i64 d] 3, bkR bf [.bool false] 4, bkR ba [.int .i64 after.dist, strV after.word] 24, bkR bb [.int .i64 batch] 3, bkR bl [vb1] 31, accR encItm 24 2 vb1 l, bkR bm [.bool true] 4, bkR b1 [.int .i64 d, strV x] 24] := hS10.bkK (i := 6) rfl hm4 hk3
        refine OL.nil ?_
        refine r_inBlock ?_
        refine r_seq ?_
        refine r_region ?_
        have f10 := hS11.bk (i := 6) rfl
        refine OL.q (Q1.load1 ti4 rfl (fun _ e => e ▸ (f10.cell 0 _ rfl))) rfl rfl ?_
        refine OL.q (Q1.not rfl) rfl rfl ?_
        refine OL.q (Q1.assign rfl) rfl rfl ?_
        refine OL.nil ?_
        refine r_ret1 Try.func37 rfl rfl ?_
        have hS12 : St (fun _ => False) F w0 w4 [bkR bd [.int .i64 d] 3, bkR bf [.bool false] 4, bkR ba [.int .i64 after.dist, strV after.word] 24, bkR bb [.int .i64 batch] 3, bkR b1 [.int .i64 d, strV x] 24, bkR bl [vb1] 31, accR encItm 24 2 vb1 l, bkR bm [.bool true] 4] := hS11.sel [0, 1, 2, 3, 7, 4, 5, 6] (by rfl) (by decide)
        have hS13 : St (fun _ => False) F w0 w4 [bkR bd [.int .i64 d] 3, bkR bf [.bool false] 4, bkR ba [.int .i64 after.dist, strV after.word] 24, bkR bb [.int .i64 batch] 3, bkR b1 [.int .i64 d, strV x] 24, boxR [bkR bl [vb1] 31, accR encItm 24 2 vb1 l, bkR bm [.bool true] 4]] := St.close (L1 := [bkR bd [.int .i64 d] 3, bkR bf [.bool false] 4, bkR ba [.int .i64 after.dist, strV after.word] 24, bkR bb [.int .i64 batch] 3, bkR b1 [.int .i64 d, strV x] 24]) hS12
        have hS14 : St (fun _ => False) F w0 w4 [bkR bd [.int .i64 d] 3, bkR bf [.bool false] 4, bkR ba [.int .i64 after.dist, strV after.word] 24, bkR bb [.int .i64 batch] 3, bkR b1 [.int .i64 d, strV x] 24, nb0R 31 24 4 bl bm ((l, true))] := hS13.exi vb1 (i := 5) rfl
        have hS15 : St (fun _ => False) F w0 w4 [bkR b1 [.int .i64 d, strV x] 24, nb0R 31 24 4 bl bm ((l, true)), bkR bd [.int .i64 d] 3, bkR bf [.bool false] 4, bkR ba [.int .i64 after.dist, strV after.word] 24, bkR bb [.int .i64 batch] 3] := hS14.sel [4, 5, 0, 1, 2, 3] (by rfl) (by decide)
        have hS16 : St (fun _ => False) F w0 w4 [bkR b1 [.int .i64 d, strV x] 24, boxR [nb0R 31 24 4 bl bm ((l, true)), bkR bd [.int .i64 d] 3, bkR bf [.bool false] 4, bkR ba [.int .i64 after.dist, strV after.word] 24, bkR bb [.int .i64 batch] 3]] := St.close (L1 := [bkR b1 [.int .i64 d, strV x] 24]) hS15
        have hS17 : St (fun _ => False) F w0 w4 [boxR [nb0R 31 24 4 bl bm ((l, true)), bkR bd [.int .i64 d] 3, bkR bf [.bool false] 4, bkR ba [.int .i64 after.dist, strV after.word] 24, bkR bb [.int .i64 batch] 3]] := hS16.sel [1] (by rfl) (by decide)
        obtain ⟨hmF, F2r, hAr, hFr⟩ := hS17.fin
        have hnf : nextF false after batch d (l, more) x = ((l, true), false) := by first | exact nextF_skip (by assumption) | exact nextF_full (by first | exact .inl rfl | exact .inr (by assumption)) (by assumption) | exact nextF_add (by first | exact .inl rfl | exact .inr (by assumption)) (by assumption)
        exact Ret.mk ⟨by rw [hnf]; rfl, hmF, F2r, by rw [hnf]; exact hAr, hFr⟩
      | false =>
        replace hb3 := ne_of_beq_false hb3.symm
        refine r_cond_f rfl ?_
        refine r_region ?_
        refine OL.q (Q1.load1 ti31 rfl (fun _ e => e ▸ (f6.cell 0 _ rfl))) rfl rfl ?_
        have f9 := hS10.bk (i := 7) rfl
        refine OL.q (Q1.loadN ti24 rfl (fun _ e => e ▸ f9.row) rfl) rfl rfl ?_
        refine OL.act rfl rfl (AW.buildSlice [(.agg #[.int .i64 d, strV x] : Value)] Try.underlying31 ti24 rfl rfl rfl (by decide) ?_)
        intro w4 b4 hm4 hb4 hz3 hk3
        have hS11 := hS10.ext hm4
        have hl2 := Sl.of_blk (enc := encItm) hk3 ([(Itm.mk d x)] : List Itm) 1 rfl rfl (by unfold maxLen; omega)
        have hS12 : St (fun _ => False) F w0 w4 [bkR bd [.int .i64 d] 3, bkR bf [.bool false] 4, bkR ba [.int .i64 after.dist, strV after.word] 24, bkR bb [.int .i64 batch] 3, bkR bl [vb1] 31, accR encItm 24 2 vb1 l, bkR bm [.bool more] 4, bkR b1 [.int .i64 d, strV x] 24, slR encItm [((.slice (some ⟨b4, 0, none⟩) 1 1), [(Itm.mk d x)])]] := hS10.newSlB hm4 hb4 hz3 hl2
        obtain ⟨g3, f10, hl3, k2⟩ := hS12.accK (i := 5) rfl
        have f11 := hS12.sl (i := 8) (k := 0) rfl rfl
        refine OL.act rfl rfl (AW.append f10 Try.underlying31 ti24 rfl encItm_len encItm_one rfl rfl (f11) (by first | omega | (simp only [List.length_append, List.length_cons, List.length_nil]; omega) | (simp; omega)) (by unfold maxLen; first | omega | (simp only [List.length_append, List.length_cons, List.length_nil]; omega) | (simp; omega)) ?_)
        intro v1 g2 w5 ha1 hm5 hg1 hz4
        have hS13 : St (fun _ => False) F w0 w5 [bkR bd [.int .i64 d] 3, bkR bf [.bool false] 4, bkR ba [.int .i64 after.dist, strV after.word] 24, bkR bb [.int .i64 batch] 3, bkR bl [vb1] 31, accR encItm 24 2 v1 ((l ++ [(Itm.mk d x)])), bkR bm [.bool more] 4, bkR b1 [.int .i64 d, strV x] 24, slR encItm [((.slice (some ⟨b4, 0, none⟩) 1 1), [(Itm.mk d x)])]] := k2 _ _ _ _ hm5 ha1 hg1
        clear hg1
        obtain ⟨g4, f12, hl4, k3⟩ := hS13.accK (i := 5) rfl
        obtain ⟨ad1, cp1, hv1⟩ := f12.shape
        subst hv1
        have f13 := hS13.bk (i := 4) rfl
        refine OL.act rfl rfl (AW.store ti31 rfl rfl rfl rfl rfl f13 (Nat.le_of_ble_eq_true rfl) ?_)
        intro w6 hm6 hz5 hk4
        have hS14 : St (fun _ => False) F w0 w6 [bkR bd [.int .i64 d] 3, bkR bf [.bool false] 4, bkR ba [.int .i64 after.dist, strV after.word] 24, bkR bb [.int .i64 batch] 3, bkR bl [(.slice ad1 ((l ++ [(Itm.mk d x)])).length cp1)] 31, accR encItm 24 2 ((.slice ad1 ((l ++ [(Itm.mk d x)])).length cp1)) ((l ++ [(Itm.mk d x)])), bkR bm [.bool more] 4, bkR b1 [.int .i64 d, strV x] 24, slR encItm [((.slice (some ⟨b4, 0, none⟩) 1 1), [(Itm.mk d x)])]] := hS13.bkK (i := 4) rfl hm6 hk4
        refine OL.nil ?_
        refine r_inBlock ?_
        refine r_seq ?_
        refine r_region ?_
        have f14 := hS14.bk (i := 6) rfl
        refine OL.q (Q1.load1 ti4 rfl (fun _ e => e ▸ (f14.cell 0 _ rfl))) rfl rfl ?_
        cases more with
        | true =>
          refine OL.q (Q1.not rfl) rfl rfl ?_
          refine OL.q (Q1.assign rfl) rfl rfl ?_
          refine OL.nil ?_
          refine r_ret1 Try.func37 rfl rfl ?_
          have hS15 : St (fun _ => False) F w0 w6 [bkR bd [.int .i64 d] 3, bkR bf [.bool false] 4, bkR ba [.int .i64 after.dist, strV after.word] 24, bkR bb [.int .i64 batch] 3, bkR b1 [.int .i64 d, strV x] 24, slR encItm [((.slice (some ⟨b4, 0, none⟩) 1 1), [(Itm.mk d x)])], bkR bl [(.slice ad1 ((l ++ [(Itm.mk d x)])).length cp1)] 31, accR encItm 24 2 ((.slice ad1 ((l ++ [(Itm.mk d x)])).length cp1)) ((l ++ [(Itm.mk d x)])), bkR bm [.bool true] 4] := hS14.sel [0, 1, 2, 3, 7, 8, 4, 5, 6] (by rfl) (by decide)
          have hS16 : St (fun _ => False) F w0 w6 [bkR bd [.int .i64 d] 3, bkR bf [.bool false] 4, bkR ba [.int .i64 after.dist, strV after.word] 24, bkR bb [.int .i64 batch] 3, bkR b1 [.int .i64 d, strV x] 24, slR encItm [((.slice (some ⟨b4, 0, none⟩) 1 1), [(Itm.mk d x)])], boxR [bkR bl [(.slice ad1 ((l ++ [(Itm.mk d x)])).length cp1)] 31, accR encItm 24 2 ((.slice ad1 ((l ++ [(Itm.mk d x)])).length cp1)) ((l ++ [(Itm.mk d x)])), bkR bm [.bool true] 4]] := St.close (L1 := [bkR bd [.int .i64 d] 3, bkR bf [.bool false] 4, bkR ba [.int .i64 after.dist, strV after.word] 24, bkR bb [.int .i64 batch] 3, bkR b1 [.int .i64 d, strV x] 24, slR encItm [((.slice (some ⟨b4, 0, none⟩) 1 1), [(Itm.mk d x)])]]) hS15
          have hS17 : St (fun _ => False) F w0 w6 [bkR bd [.int .i64 d] 3, bkR bf [.bool false] 4, bkR ba [.int .i64 after.dist, strV after.word] 24, bkR bb [.int .i64 batch] 3, bkR b1 [.int .i64 d, strV x] 24, slR encItm [((.slice (some ⟨b4, 0, none⟩) 1 1), [(Itm.mk d x)])], nb0R 31 24 4 bl bm (((l ++ [(Itm.mk d x)]), true))] := hS16.exi (.slice ad1 ((l ++ [(Itm.mk d x)])).length cp1) (i := 6) rfl
          have hS18 : St (fun _ => False) F w0 w6 [bkR b1 [.int .i64 d, strV x] 24, slR encItm [((.slice (some ⟨b4, 0, none⟩) 1 1), [(Itm.mk d x)])], nb0R 31 24 4 bl bm (((l ++ [(Itm.mk d x)]), true)), bkR bd [.int .i64 d] 3, bkR bf [.bool false] 4, bkR ba [.int .i64 after.dist, strV after.word] 24, bkR bb [.int .i64 batch] 3] := hS17.sel [4, 5, 6, 0, 1, 2, 3] (by rfl) (by decide)
          have hS19 : St (fun _ => False) F w0 w6 [bkR b1 [.int .i64 d, strV x] 24, slR encItm [((.slice (some ⟨b4, 0, none⟩) 1 1), [(Itm.mk d x)])], boxR [nb0R 31 24 4 bl bm (((l ++ [(Itm.mk d x)]), true)), bkR bd [.int .i64 d] 3, bkR bf [.bool false] 4, bkR ba [.int .i64 after.dist, strV after.word] 24, bkR bb [.int .i64 batch] 3]] := St.close (L1 := [bkR b1 [.int .i64 d, strV x] 24, slR encItm [((.slice (some ⟨b4, 0, none⟩) 1 1), [(Itm.mk d x)])]]) hS18
          have hS20 : St (fun _ => False) F w0 w6 [boxR [nb0R 31 24 4 bl bm (((l ++ [(Itm.mk d x)]), true)), bkR bd [.int .i64 d] 3, bkR bf [.bool false] 4, bkR ba [.int .i64 after.dist, strV after.word] 24, bkR bb [.int .i64 batch] 3]] := hS19.sel [2] (by rfl) (by decide)
          obtain ⟨hmF, F2r, hAr, hFr⟩ := hS20.fin
          have hnf : nextF false after batch d (l, true) x = (((l ++ [(Itm.mk d x)]), true), false) := by first | exact nextF_skip (by assumption) | exact nextF_full (by first | exact .inl rfl | exact .inr (by assumption)) (by assumption) | exact nextF_add (by first | exact .inl rfl | exact .inr (by assumption)) (by assumption)
          exact Ret.mk ⟨by rw [hnf]; rfl, hmF, F2r, by rw [hnf]; exact hAr, hFr⟩
        | false =>
          refine OL.q (Q1.not rfl) rfl rfl ?_
          refine OL.q (Q1.assign rfl) rfl rfl ?_
          refine OL.nil ?_
          refine r_ret1 Try.func37 rfl rfl ?_
          have hS15 : St (fun _ => False) F w0 w6 [bkR bd [.int .i64 d] 3, bkR bf [.bool false] 4, bkR ba [.int .i64 after.dist, strV after.word] 24, bkR bb [.int .i64 batch] 3, bkR b1 [.int .i64 d, strV x] 24, slR encItm [((.slice (some ⟨b4, 0, none⟩) 1 1), [(Itm.mk d x)])], bkR bl [(.slice ad1 ((l ++ [(Itm.mk d x)])).length cp1)] 31, accR encItm 24 2 ((.slice ad1 ((l ++ [(Itm.mk d x)])).length cp1)) ((l ++ [(Itm.mk d x)])), bkR bm [.bool false] 4] := hS14.sel [0, 1, 2, 3, 7, 8, 4, 5, 6] (by rfl) (by decide)
          have hS16 : St (fun _ => False) F w0 w6 [bkR bd [.int .i64 d] 3, bkR bf [.bool false] 4, bkR ba [.int .i64 after.dist, strV after.word] 24, bkR bb [.int .i64 batch] 3, bkR b1 [.int .i64 d, strV x] 24, slR encItm [((.slice (some ⟨b4, 0, none⟩) 1 1), [(Itm.mk d x)])], boxR [bkR bl [(.slice ad1 ((l ++ [(Itm.mk d x)])).length cp1)] 31, accR encItm 24 2 ((.slice ad1 ((l ++ [(Itm.mk d x)])).length cp1)) ((l ++ [(Itm.mk d x)])), bkR bm [.bool false] 4]] := St.close (L1 := [bkR bd [.int .i64 d] 3, bkR bf [.bool false] 4, bkR ba [.int .i64 after.dist, strV after.word] 24, bkR bb [.int .i64 batch] 3, bkR b1 [.int .i64 d, strV x] 24, slR encItm [((.slice (some ⟨b4, 0, none⟩) 1 1), [(Itm.mk d x)])]]) hS15
          have hS17 : St (fun _ => False) F w0 w6 [bkR bd [.int .i64 d] 3, bkR bf [.bool false] 4, bkR ba [.int .i64 after.dist, strV after.word] 24, bkR bb [.int .i64 batch] 3, bkR b1 [.int .i64 d, strV x] 24, slR encItm [((.slice (some ⟨b4, 0, none⟩) 1 1), [(Itm.mk d x)])], nb0R 31 24 4 bl bm (((l ++ [(Itm.mk d x)]), false))] := hS16.exi (.slice ad1 ((l ++ [(Itm.mk d x)])).length cp1) (i := 6) rfl
          have hS18 : St (fun _ => False) F w0 w6 [bkR b1 [.int .i64 d, strV x] 24, slR encItm [((.slice (some ⟨b4, 0, none⟩) 1 1), [(Itm.mk d x)])], nb0R 31 24 4 bl bm (((l ++ [(Itm.mk d x)]), false)), bkR bd [.int .i64 d] 3, bkR bf [.bool false] 4, bkR ba [.int .i64 after.dist, strV after.word] 24, bkR bb [.int .i64 batch] 3] := hS17.sel [4, 5, 6, 0, 1, 2, 3] (by rfl) (by decide)
          have hS19 : St (fun _ => False) F w0 w6 [bkR b1 [.int .i64 d, strV x] 24, slR encItm [((.slice (some ⟨b4, 0, none⟩) 1 1), [(Itm.mk d x)])], boxR [nb0R 31 24 4 bl bm (((l ++ [(Itm.mk d x)]), false)), bkR bd [.int .i64 d] 3, bkR bf [.bool false] 4, bkR ba [.int .i64 after.dist, strV after.word] 24, bkR bb [.int .i64 batch] 3]] := St.close (L1 := [bkR b1 [.int .i64 d, strV x] 24, slR encItm [((.slice (some ⟨b4, 0, none⟩) 1 1), [(Itm.mk d x)])]]) hS18
          have hS20 : St (fun _ => False) F w0 w6 [boxR [nb0R 31 24 4 bl bm (((l ++ [(Itm.mk d x)]), false)), bkR bd [.int .i64 d] 3, bkR bf [.bool false] 4, bkR ba [.int .i64 after.dist, strV after.word] 24, bkR bb [.int .i64 batch] 3]] := hS19.sel [2] (by rfl) (by decide)
          obtain ⟨hmF, F2r, hAr, hFr⟩ := hS20.fin
          have hnf : nextF false after batch d (l, false) x = (((l ++ [(Itm.mk d x)]), false), true) := by first | exact nextF_skip (by assumption) | exact nextF_full (by first | exact .inl rfl | exact .inr (by assumption)) (by assumption) | exact nextF_add (by first | exact .inl rfl | exact .inr (by assumption)) (by assumption)
          exact Ret.mk ⟨by rw [hnf]; rfl, hmF, F2r, by rw [hnf]; exact hAr, hFr⟩
    | false =>
      replace hb2 := hb2.symm
      refine OL.q (Q1.not rfl) rfl rfl ?_
      refine OL.q (Q1.pick_t rfl rfl) rfl rfl ?_
      refine OL.q (Q1.assign rfl) rfl rfl ?_
      refine OL.nil ?_
      refine r_cond_t rfl ?_
      refine r_skip ?_
      refine r_inBlock ?_
      refine r_seq ?_
      refine r_region ?_
      have f6 := hS10.bk (i := 6) rfl
      refine OL.q (Q1.load1 ti4 rfl (fun _ e => e ▸ (f6.cell 0 _ rfl))) rfl rfl ?_
      cases more with
      | true =>
        refine OL.q (Q1.not rfl) rfl rfl ?_
        refine OL.q (Q1.assign rfl) rfl rfl ?_
        refine OL.nil ?_
        refine r_ret1 Try.func37 rfl rfl ?_
        have hS11 : St (fun _ => False) F w0 w3 [bkR bd [.int .i64 d] 3, bkR bf [.bool false] 4, bkR ba [.int .i64 after.dist, strV after.word] 24, bkR bb [.int .i64 batch] 3, bkR b1 [.int .i64 d, strV x] 24, bkR bl [vb1] 31, accR encItm 24 2 vb1 l, bkR bm [.bool true] 4] := hS10.sel [0, 1, 2, 3, 7, 4, 5, 6] (by rfl) (by decide)
        have hS12 : St (fun _ => False) F w0 w3 [bkR bd [.int .i64 d] 3, bkR bf [.bool false] 4, bkR ba [.int .i64 after.dist, strV after.word] 24, bkR bb [.int .i64 batch] 3, bkR b1 [.int .i64 d, strV x] 24, boxR [bkR bl [vb1] 31, accR encItm 24 2 vb1 l, bkR bm [.bool true] 4]] := St.close (L1 := [bkR bd [.int .i64 d] 3, bkR bf [.bool false] 4, bkR ba [.int .i64 after.dist, strV after.word] 24, bkR bb [.int .i64 batch] 3, bkR b1 [.int .i64 d, strV x] 24]) hS11
        have hS13 : St (fun _ => False) F w0 w3 [bkR bd [.int .i64 d] 3, bkR bf [.bool false] 4, bkR ba [.int .i64 after.dist, strV after.word] 24, bkR bb [.int .i64 batch] 3, bkR b1 [.int .i64 d, strV x] 24, nb0R 31 24 4 bl bm ((l, true))] := hS12.exi vb1 (i := 5) rfl
        have hS14 : St (fun _ => False) F w0 w3 [bkR b1 [.int .i64 d, strV x] 24, nb0R 31 24 4 bl bm ((l, true)), bkR bd [.int .i64 d] 3, bkR bf [.bool false] 4, bkR ba [.int .i64 after.dist, strV after.word] 24, bkR bb [.int .i64 batch] 3] := hS13.sel [4, 5, 0, 1, 2, 3] (by rfl) (by decide)
        have hS15 : St (fun _ => False) F w0 w3 [bkR b1 [.int .i64 d, strV x] 24, boxR [nb0R 31 24 4 bl bm ((l, true)), bkR bd [.int .i64 d] 3, bkR bf [.bool false] 4, bkR ba [.int .i64 after.dist, strV after.word] 24, bkR bb [.int .i64 batch] 3]] := St.close (L1 := [bkR b1 [.int .i64 d, strV x] 24]) hS14
        have hS16 : St (fun _ => False) F w0 w3 [boxR [nb0R 31 24 4 bl bm ((l, true)), bkR bd [.int .i64 d] 3, bkR bf [.bool false] 4, bkR ba [.int .i64 after.dist, strV after.word] 24, bkR bb [.int .i64 batch] 3]] := hS15.sel [1] (by rfl) (by decide)
        obtain ⟨hmF, F2r, hAr, hFr⟩ := hS16.fin
        have hnf : nextF false after batch d (l, true) x = ((l, true), false) := by first | exact nextF_skip (by assumption) | exact nextF_full (by first | exact .inl rfl | exact .inr (by assumption)) (by assumption) | exact nextF_add (by first | exact .inl rfl | exact .inr (by assumption)) (by assumption)
        exact Ret.mk ⟨by rw [hnf]; rfl, hmF, F2r, by rw [hnf]; exact hAr, hFr⟩
      | false =>
        refine OL.q (Q1.not rfl) rfl rfl ?_
        refine OL.q (Q1.assign rfl) rfl rfl ?_
        refine OL.nil ?_
        refine r_ret1 Try.func37 rfl rfl ?_
        have hS11 : St (fun _ => False) F w0 w3 [bkR bd [.int .i64 d] 3, bkR bf [.bool false] 4, bkR ba [.int .i64 after.dist, strV after.word] 24, bkR bb [.int .i64 batch] 3, bkR b1 [.int .i64 d, strV x] 24, bkR bl [vb1] 31, accR encItm 24 2 vb1 l, bkR bm [.bool false] 4] := hS10.sel [0, 1, 2, 3, 7, 4, 5, 6] (by rfl) (by decide)
        have hS12 : St (fun _ => False) F w0 w3 [bkR bd [.int .i64 d] 3, bkR bf [.bool false] 4, bkR ba [.int .i64 after.dist, strV after.word] 24, bkR bb [.int .i64 batch] 3, bkR b1 [.int .i64 d, strV x] 24, boxR [bkR bl [vb1] 31, accR encItm 24 2 vb1 l, bkR bm [.bool false] 4]] := St.close (L1 := [bkR bd [.int .i64 d] 3, bkR bf [.bool false] 4, bkR ba [.int .i64 after.dist, strV after.word] 24, bkR bb [.int .i64 batch] 3, bkR b1 [.int .i64 d, strV x] 24]) hS11
        have hS13 : St (fun _ => False) F w0 w3 [bkR bd [.int .i64 d] 3, bkR bf [.bool false] 4, bkR ba [.int .i64 after.dist, strV after.word] 24, bkR bb [.int .i64 batch] 3, bkR b1 [.int .i64 d, strV x] 24, nb0R 31 24 4 bl bm ((l, false))] := hS12.exi vb1 (i := 5) rfl
        have hS14 : St (fun _ => False) F w0 w3 [bkR b1 [.int .i64 d, strV x] 24, nb0R 31 24 4 bl bm ((l, false)), bkR bd [.int .i64 d] 3, bkR bf [.bool false] 4, bkR ba [.int .i64 after.dist, strV after.word] 24, bkR bb [.int .i64 batch] 3] := hS13.sel [4, 5, 0, 1, 2, 3] (by rfl) (by decide)
        have hS15 : St (fun _ => False) F w0 w3 [bkR b1 [.int .i64 d, strV x] 24, boxR [nb0R 31 24 4 bl bm ((l, false)), bkR bd [.int .i64 d] 3, bkR bf [.bool false] 4, bkR ba [.int .i64 after.dist, strV after.word] 24, bkR bb [.int .i64 batch] 3]] := St.close (L1 := [bkR b1 [.int .i64 d, strV x] 24]) hS14
        have hS16 : St (fun _ => False) F w0 w3 [boxR [nb0R 31 24 4 bl bm ((l, false)), bkR bd [.int .i64 d] 3, bkR bf [.bool false] 4, bkR ba [.int .i64 after.dist, strV after.word] 24, bkR bb [.int .i64 batch] 3]] := hS15.sel [1] (by rfl) (by decide)
        obtain ⟨hmF, F2r, hAr, hFr⟩ := hS16.fin
        have hnf : nextF false after batch d (l, false) x = ((l, false), true) := by first | exact nextF_skip (by assumption) | exact nextF_full (by first | exact .inl rfl | exact .inr (by assumption)) (by assumption) | exact nextF_add (by first | exact .inl rfl | exact .inr (by assumption)) (by assumption)
        exact Ret.mk ⟨by rw [hnf]; rfl, hmF, F2r, by rw [hnf]; exact hAr, hFr⟩
theorem wnext_yield (bl bm bd bf ba bb : Nat) (d batch : Int) (first : Bool) (after : Itm) (hd : I64 d) (hbt : I64 batch) (had : I64 after.dist) (haw : after.word.length ≤ 1000000) : YieldS Try.prog 37 [] [ptr bd 0, ptr bf 0, ptr ba 0, ptr bl 0, ptr bb 0, ptr bm 0] (fun s : List Itm × Bool => boxR [nb0R 31 24 4 bl bm s, bkR bd [.int .i64 d] 3, bkR bf [.bool first] 4, bkR ba [.int .i64 after.dist, strV after.word] 24, bkR bb [.int .i64 batch] 3]) (fun s _ => s.1.length ≤ 1000000) (nextF first after batch d) where
  cl := by kernel_rfl
  call := fun s F w x h hF hok => wnext1_c (l := s.1) (more := s.2) x d batch first after hd hbt had haw h hF hok
set_option maxRecDepth 20000 in
set_option maxHeartbeats 2000000 in
theorem wnext_c {w0 : World} {s : GS} {g_words : List Str} {v_g : Value} {lo_g hi_g : Nat} {g : List GN} (sx : Str) (k : Int) (first : Bool) {after : Itm} (batch : Int) (h_g : Gr 0 w0 lo_g hi_g v_g g) (hhi_g : hi_g ≤ w0.heap.size) (h_k : I64 k) (h_batch : I64 batch) (hok : GOk g s g_words) (hwl : g_words.length ≤ 1000) (hs : sx.length ≤ 1000000) (had : I64 after.dist) (haw : after.word.length ≤ 1000000) :
    Calls Try.prog 15 #[v_g, strV sx, .int .i64 k, .bool first, .agg #[.int .i64 after.dist, strV after.word], .int .i64 batch] w0 (Ret fun rv w1 => ∃ u0 u1, rv = .tuple #[u0, u1] ∧ (∃ gr, Acc encItm 24 2 w1 gr u0 ((nextA g g_words sx k first after batch).1) ∧ (gr = 0 ∨ w0.heap.size < gr)) ∧ (∃ rb : Bool, rb = ((nextA g g_words sx k first after batch).2) ∧ u1 = .bool rb) ∧ Ext w0 w1) := by
  have hok2 := hok
  obtain ⟨hgs, ⟨es0, hna, hc⟩, hgood, hdeep, hnode, hsz, hel0⟩ := hok
  obtain ⟨hI, hgl, hel⟩ := hok2.edges
  have hgs2 : gnOf s = g := hgs.symm
  have hS0 := St.start0 w0
  refine calls_enter Try.func15 rfl Try.ntmps15 rfl ?_
  refine r_seq ?_
  refine r_region ?_
  refine OL.act rfl rfl (AW.box [.bool first] rfl rfl ?_)
  intro w1 b1 hm1 hb1 hz1 hk1
  have hS1 := hS0.ext hm1
  have hS2 : St (fun _ => False) (fun _ => False) w0 w1 [bkR b1 [.bool first] 4] := hS0.newBk hm1 hb1 hk1
  refine OL.act rfl rfl (AW.box [.int .i64 after.dist, strV after.word] rfl rfl ?_)
  intro w2 b2 hm2 hb2 hz2 hk2
  have hS3 := hS2.ext hm2
  have hS4 : St (fun _ => False) (fun _ => False) w0 w2 [bkR b1 [.bool first] 4, bkR b2 [.int .i64 after.dist, strV after.word] 24] := hS2.newBk hm2 hb2 hk2
  refine OL.act rfl rfl (AW.box [.int .i64 batch] rfl rfl ?_)
  intro w3 b3 hm3 hb3 hz3 hk3
  have hS5 := hS4.ext hm3
  have hS6 : St (fun _ => False) (fun _ => False) w0 w3 [bkR b1 [.bool first] 4, bkR b2 [.int .i64 after.dist, strV after.word] 24, bkR b3 [.int .i64 batch] 3] := hS4.newBk hm3 hb3 hk3
  refine OL.q (Q1.assign rfl) rfl rfl ?_
  refine OL.q (Q1.assign rfl) rfl rfl ?_
  refine OL.nil ?_
  refine r_seq ?_
  refine r_region ?_
  refine OL.q (Q1.move rfl) rfl rfl ?_
  refine OL.q (Q1.move rfl) rfl rfl ?_
  refine OL.q (Q1.move rfl) rfl rfl ?_
  have f1 := Gr.keepM h_g hS6.mod (fun _ _ _ h => h)
  refine OL.act rfl rfl (AW.callF cl35 rfl (wasked_c (w0 := w3)  sx (k) f1 (Nat.le_trans hhi_g hS6.mod.size) (by first | omega | assumption) (by first | assumption | omega)) ?_)
  rintro _ w4 ⟨v1, _, rfl, h1, ⟨b4, hb4, rfl⟩, hm4⟩
  have hS7 := hS6.ext hm4
  have hS8 : St (fun _ => False) (fun _ => False) w0 w4 [bkR b1 [.bool first] 4, bkR b2 [.int .i64 after.dist, strV after.word] 24, bkR b3 [.int .i64 batch] 3, slR encRn [(v1, (qM g sx k))]] := hS6.newSl hm4 h1
  have hle_1 := h1.le
  have := qM_len g sx k
  refine OL.q (Q1.move rfl) rfl rfl ?_
  refine OL.q (Q1.extract rfl rfl) rfl rfl ?_
  refine OL.q (Q1.extract rfl rfl) rfl rfl ?_
  refine OL.q (Q1.assign rfl) rfl rfl ?_
  refine OL.q (Q1.assign rfl) rfl rfl ?_
  refine OL.nil ?_
  refine r_seq ?_
  refine r_seq ?_
  refine r_region ?_
  refine OL.q (Q1.move rfl) rfl rfl ?_
  cases b4 with
  | true =>
    replace hb4 := hb4.symm
    refine OL.q (Q1.not rfl) rfl rfl ?_
    refine OL.nil ?_
    refine r_cond_f rfl ?_
    refine r_skip ?_
    refine r_seq ?_
    refine r_region ?_
    refine OL.act rfl rfl (AW.alloc ti31 ?_)
    intro w5 b5 hm5 hb5 hz4 hk4
    have hS9 := hS8.ext hm5
    have hS10 : St (fun _ => False) (fun _ => False) w0 w5 [bkR b1 [.bool first] 4, bkR b2 [.int .i64 after.dist, strV after.word] 24, bkR b3 [.int .i64 batch] 3, slR encRn [(v1, (qM g sx k))], bkR b5 [.slice none 0 0] 31] := hS8.newBk hm5 hb5 hk4
    refine OL.nil ?_
    refine r_seq ?_
    refine r_region ?_
    have f2 := hS10.bk (i := 2) rfl
    refine OL.q (Q1.load1 ti3 rfl (fun _ e => e ▸ (f2.cell 0 _ rfl))) rfl rfl ?_
    refine OL.q (Q1.max rfl rfl) rfl rfl ?_
    refine OL.act rfl rfl (AW.store ti3 rfl rfl rfl rfl rfl f2 (Nat.le_of_ble_eq_true rfl) ?_)
    intro w6 hm6 hz5 hk5
    have hS11 : St (fun _ => False) (fun _ => False) w0 w6 [bkR b1 [.bool first] 4, bkR b2 [.int .i64 after.dist, strV after.word] 24, bkR b3 [.int .i64 ((max batch 0))] 3, slR encRn [(v1, (qM g sx k))], bkR b5 [.slice none 0 0] 31] := hS10.bkK (i := 2) rfl hm6 hk5
    refine OL.nil ?_
    refine r_seq ?_
    refine r_region ?_
    refine OL.act rfl rfl (AW.alloc ti4 ?_)
    intro w7 b6 hm7 hb6 hz6 hk6
    have hS12 := hS11.ext hm7
    have hS13 : St (fun _ => False) (fun _ => False) w0 w7 [bkR b1 [.bool first] 4, bkR b2 [.int .i64 after.dist, strV after.word] 24, bkR b3 [.int .i64 ((max batch 0))] 3, slR encRn [(v1, (qM g sx k))], bkR b5 [.slice none 0 0] 31, bkR b6 [.bool false] 4] := hS11.newBk hm7 hb6 hk6
    have f3 := hS13.bk (i := 5) rfl
    refine OL.act rfl rfl (AW.store ti4 rfl rfl rfl rfl rfl f3 (Nat.le_of_ble_eq_true rfl) ?_)
    intro w8 hm8 hz7 hk7
    have hS14 : St (fun _ => False) (fun _ => False) w0 w8 [bkR b1 [.bool first] 4, bkR b2 [.int .i64 after.dist, strV after.word] 24, bkR b3 [.int .i64 ((max batch 0))] 3, slR encRn [(v1, (qM g sx k))], bkR b5 [.slice none 0 0] 31, bkR b6 [.bool false] 4] := hS13.bkK (i := 5) rfl hm8 hk7
    refine OL.nil ?_
    refine r_seq ?_
    refine r_seq ?_
    refine r_region ?_
    have hS15 : St (fun _ => False) (fun _ => False) w0 w8 [bkR b1 [.bool first] 4, bkR b2 [.int .i64 after.dist, strV after.word] 24, bkR b3 [.int .i64 ((max batch 0))] 3, slR encRn [(v1, (qM g sx k))], bkR b5 [.slice none 0 0] 31, bkR b6 [.bool false] 4, accR encItm 24 2 (.slice none 0 0) []] := hS14.newAcc (Mod.refl _ _) Acc.nil (.inl rfl)
    have hS16 : St (fun _ => False) (fun _ => False) w0 w8 [bkR b1 [.bool first] 4, bkR b2 [.int .i64 after.dist, strV after.word] 24, bkR b3 [.int .i64 ((max batch 0))] 3, slR encRn [(v1, (qM g sx k))], bkR b5 [.slice none 0 0] 31, accR encItm 24 2 (.slice none 0 0) [], bkR b6 [.bool false] 4] := hS15.sel [0, 1, 2, 3, 4, 6, 5] (by rfl) (by decide)
    have hS17 : St (fun _ => False) (fun _ => False) w0 w8 [bkR b1 [.bool first] 4, bkR b2 [.int .i64 after.dist, strV after.word] 24, bkR b3 [.int .i64 ((max batch 0))] 3, slR encRn [(v1, (qM g sx k))], boxR [bkR b5 [.slice none 0 0] 31, accR encItm 24 2 (.slice none 0 0) [], bkR b6 [.bool false] 4]] := St.close (L1 := [bkR b1 [.bool first] 4, bkR b2 [.int .i64 after.dist, strV after.word] 24, bkR b3 [.int .i64 ((max batch 0))] 3, slR encRn [(v1, (qM g sx k))]]) hS16
    have hS18 : St (fun _ => False) (fun _ => False) w0 w8 [bkR b1 [.bool first] 4, bkR b2 [.int .i64 after.dist, strV after.word] 24, bkR b3 [.int .i64 ((max batch 0))] 3, slR encRn [(v1, (qM g sx k))], nb0R 31 24 4 b5 b6 ((nextS g_words (qM g sx k) first after (max batch 0) 0))] := hS17.exi (.slice none 0 0) (i := 4) rfl
    have hmy : mayA g sx k = true := by assumption
    have hdk := (mayA_iff.1 hmy).2.1
    have hql := qM_len g sx k
    refine OL.q (Q1.move rfl) rfl rfl ?_
    refine OL.q (Q1.addI ((k + 1)) rfl rfl (by omega)) rfl rfl ?_
    refine OL.q (Q1.move rfl) rfl rfl ?_
    refine OL.nil ?_
    refine r_block ?_
    refine r_loop (I := fun m E W => ∃ (dd : Nat), E = [(0, v_g), (9, ptr b1 0), (10, ptr b2 0), (11, ptr b3 0), (14, v1), (16, ptr b5 0), (17, ptr b6 0), (31, .int .i64 ((k + 1))), (32, .int .i64 (((dd : Nat) : Int)))] ∧ m = (k + 1).toNat - dd ∧ St (fun _ => False) (fun _ => False) w0 W [bkR b1 [.bool first] 4, bkR b2 [.int .i64 after.dist, strV after.word] 24, bkR b3 [.int .i64 ((max batch 0))] 3, slR encRn [(v1, (qM g sx k))], nb0R 31 24 4 b5 b6 ((nextS g_words (qM g sx k) first after (max batch 0) dd))] ∧ (false = (nextS g_words (qM g sx k) first after (max batch 0) dd).2) ∧ ((dd : Int) ≤ k + 1)) ?_ ?_
    · refine ⟨_, _, ⟨(0 : Nat), rfl, rfl, hS18, (by rfl), (by omega)⟩, ⟨rfl, rfl, rfl, rfl, rfl, rfl, rfl, rfl, rfl, trivial⟩⟩
    · rintro _ _ w9 ⟨dd, rfl, rfl, hS19, hnm, hdl⟩ ih1
      refine r_seq ?_
      refine r_region ?_
      refine OL.qb (Q1.lt rfl rfl) rfl rfl ?_
      intro b7 hb7
      refine OL.nil ?_
      refine r_seq ?_
      cases b7 with
      | true =>
        replace hb7 := of_decide_eq_true hb7.symm
        refine r_cond_t rfl ?_
        refine r_skip ?_
        refine r_seq ?_
        refine r_block ?_
        refine r_seq ?_
        refine r_region ?_
        refine OL.q (Q1.move rfl) rfl rfl ?_
        refine OL.act rfl rfl (AW.alloc ti3 ?_)
        intro w10 b8 hm9 hb8 hz8 hk8
        have hS20 := hS19.ext hm9
        have hS21 : St (fun _ => False) (fun _ => False) w0 w10 [bkR b1 [.bool first] 4, bkR b2 [.int .i64 after.dist, strV after.word] 24, bkR b3 [.int .i64 ((max batch 0))] 3, slR encRn [(v1, (qM g sx k))], nb0R 31 24 4 b5 b6 ((nextS g_words (qM g sx k) first after (max batch 0) dd)), bkR b8 [.int .i64 0] 3] := hS19.newBk hm9 hb8 hk8
        have f4 := hS21.bk (i := 5) rfl
        refine OL.act rfl rfl (AW.store ti3 rfl rfl rfl rfl rfl f4 (Nat.le_of_ble_eq_true rfl) ?_)
        intro w11 hm10 hz9 hk9
        have hS22 : St (fun _ => False) (fun _ => False) w0 w11 [bkR b1 [.bool first] 4, bkR b2 [.int .i64 after.dist, strV after.word] 24, bkR b3 [.int .i64 ((max batch 0))] 3, slR encRn [(v1, (qM g sx k))], nb0R 31 24 4 b5 b6 ((nextS g_words (qM g sx k) first after (max batch 0) dd)), bkR b8 [.int .i64 (((dd : Nat) : Int))] 3] := hS21.bkK (i := 5) rfl hm10 hk9
        refine OL.nil ?_
        refine r_seq ?_
        refine r_region ?_
        refine OL.q (Q1.move rfl) rfl rfl ?_
        refine OL.q (Q1.move rfl) rfl rfl ?_
        have f5 := hS22.bk (i := 5) rfl
        refine OL.q (Q1.load1 ti3 rfl (fun _ e => e ▸ (f5.cell 0 _ rfl))) rfl rfl ?_
        refine OL.q (Q1.makeFunc (first := []) (cap := [ptr b8 0, ptr b1 0, ptr b2 0, ptr b5 0, ptr b3 0, ptr b6 0]) rfl rfl) rfl rfl ?_
        have hS23 : St (fun _ => False) (fun _ => False) w0 w11 [slR encRn [(v1, (qM g sx k))], nb0R 31 24 4 b5 b6 ((nextS g_words (qM g sx k) first after (max batch 0) dd)), bkR b8 [.int .i64 (((dd : Nat) : Int))] 3, bkR b1 [.bool first] 4, bkR b2 [.int .i64 after.dist, strV after.word] 24, bkR b3 [.int .i64 ((max batch 0))] 3] := hS22.sel [3, 4, 5, 0, 1, 2] (by rfl) (by decide)
        have hS24 : St (fun _ => False) (fun _ => False) w0 w11 [slR encRn [(v1, (qM g sx k))], boxR [nb0R 31 24 4 b5 b6 ((nextS g_words (qM g sx k) first after (max batch 0) dd)), bkR b8 [.int .i64 (((dd : Nat) : Int))] 3, bkR b1 [.bool first] 4, bkR b2 [.int .i64 after.dist, strV after.word] 24, bkR b3 [.int .i64 ((max batch 0))] 3]] := St.close (L1 := [slR encRn [(v1, (qM g sx k))]]) hS23
        have f6 := Gr.keepM h_g hS24.mod (fun _ _ _ h => h)
        obtain ⟨Fy1, Gq1, hAy1, hBq1, hGF1, hFy1, hGq1, hky1⟩ := hS24.act2 (i := 1) (j := 0) rfl rfl (by decide)
        have hnsl := nextS_len g_words (qM g sx k) first after (max batch 0) dd
        have hnsl2 : dd * g_words.length ≤ 5 * g_words.length := Nat.mul_le_mul_right _ (by omega)
        refine OL.act rfl rfl (AW.callF cl36 rfl (weach_c (s := s) (words := g_words) (w0 := w11) (((dd : Nat) : Int)) (nextS g_words (qM g sx k) first after (max batch 0) dd) (wnext_yield b5 b6 b8 b1 b2 b3 (((dd : Nat) : Int)) (max batch 0) first after (by omega) (by omega) had haw) hAy1 (fun b hb => (hFy1 b hb).2) (hgs ▸ f6) (Nat.le_trans hhi_g hS24.mod.size) (far_gr hFy1 (fun _ h => h) hhi_g) (slR_no hBq1) hGF1 hGq1 (by omega) (by omega) (hgs ▸ hna) hc hgood hdeep hnode hsz (hgs ▸ hel) (wgt_short hdeep hwl) (okAll_next first after (max batch 0) _ 1000000 _ _ (by have := distsM_len g_words (qM g sx k) (((dd : Nat) : Int)); omega))) ?_)
        rintro _ w12 ⟨rfl, hm11, F1, hB1, hF1⟩
        have hS25 : St (fun _ => False) (fun _ => False) w0 w12 [slR encRn [(v1, (qM g sx k))], boxR [nb0R 31 24 4 b5 b6 ((nextS g_words (qM g sx k) first after (max batch 0) (dd + 1))), bkR b8 [.int .i64 (((dd : Nat) : Int))] 3, bkR b1 [.bool first] 4, bkR b2 [.int .i64 after.dist, strV after.word] 24, bkR b3 [.int .i64 (max batch 0)] 3]] := hky1 _ _ _ hm11 (nextS_go hnm ▸ hB1) hF1
        clear hAy1 hBq1 hGF1 hFy1 hGq1 hky1
        have hS26 : St (fun _ => False) (fun _ => False) w0 w12 [slR encRn [(v1, (qM g sx k))], nb0R 31 24 4 b5 b6 ((nextS g_words (qM g sx k) first after (max batch 0) (dd + 1))), bkR b8 [.int .i64 (((dd : Nat) : Int))] 3, bkR b1 [.bool first] 4, bkR b2 [.int .i64 after.dist, strV after.word] 24, bkR b3 [.int .i64 (max batch 0)] 3] := St.open (L1 := [slR encRn [(v1, (qM g sx k))]]) hS25
        have hS27 : St (fun _ => False) (fun _ => False) w0 w12 [slR encRn [(v1, (qM g sx k))], nb0R 31 24 4 b5 b6 ((nextS g_words (qM g sx k) first after (max batch 0) (dd + 1))), bkR b8 [.int .i64 (((dd : Nat) : Int))] 3, bkR b1 [.bool first] 4, bkR b2 [.int .i64 after.dist, strV after.word] 24, bkR b3 [.int .i64 (max batch 0)] 3] := hS26
        refine OL.nil ?_
        refine r_seq ?_
        refine r_region ?_
        obtain ⟨b9, hb9⟩ : ∃ b, b = ((nextS g_words (qM g sx k) first after (max batch 0) (dd + 1))).2 := ⟨_, rfl⟩
        obtain ⟨vb1, hS28⟩ := hS27.exo (i := 1) rfl
        change St (fun _ => False) (fun _ => False) w0 w12 [slR encRn [(v1, (qM g sx k))], boxR [bkR b5 [vb1] 31, accR encItm 24 2 vb1 (((nextS g_words (qM g sx k) first after (max batch 0) (dd + 1))).1), bkR b6 [.bool ((nextS g_words (qM g sx k) first after (max batch 0) (dd + 1))).2] 4], bkR b8 [.int .i64 (((dd : Nat) : Int))] 3, bkR b1 [.bool first] 4, bkR b2 [.int .i64 after.dist, strV after.word] 24, bkR b3 [.int .i64 (max batch 0)] 3] at hS28
        rw [← hb9] at hS28
        have hS29 : St (fun _ => False) (fun _ => False) w0 w12 [slR encRn [(v1, (qM g sx k))], bkR b8 [.int .i64 (((dd : Nat) : Int))] 3, bkR b1 [.bool first] 4, bkR b2 [.int .i64 after.dist, strV after.word] 24, bkR b3 [.int .i64 (max batch 0)] 3, boxR [bkR b5 [vb1] 31, accR encItm 24 2 vb1 (((nextS g_words (qM g sx k) first after (max batch 0) (dd + 1))).1), bkR b6 [.bool b9] 4]] := hS28.sel [0, 2, 3, 4, 5, 1] (by rfl) (by decide)
        have hS30 : St (fun _ => False) (fun _ => False) w0 w12 [slR encRn [(v1, (qM g sx k))], bkR b8 [.int .i64 (((dd : Nat) : Int))] 3, bkR b1 [.bool first] 4, bkR b2 [.int .i64 after.dist, strV after.word] 24, bkR b3 [.int .i64 (max batch 0)] 3, boxR [bkR b5 [vb1] 31, accR encItm 24 2 vb1 (((nextS g_words (qM g sx k) first after (max batch 0) (dd + 1))).1), bkR b6 [.bool b9] 4]] := hS29
        have hS31 : St (fun _ => False) (fun _ => False) w0 w12 [slR encRn [(v1, (qM g sx k))], bkR b8 [.int .i64 (((dd : Nat) : Int))] 3, bkR b1 [.bool first] 4, bkR b2 [.int .i64 after.dist, strV after.word] 24, bkR b3 [.int .i64 (max batch 0)] 3, bkR b5 [vb1] 31, accR encItm 24 2 vb1 (((nextS g_words (qM g sx k) first after (max batch 0) (dd + 1))).1), bkR b6 [.bool b9] 4] := St.open (L1 := [slR encRn [(v1, (qM g sx k))], bkR b8 [.int .i64 (((dd : Nat) : Int))] 3, bkR b1 [.bool first] 4, bkR b2 [.int .i64 after.dist, strV after.word] 24, bkR b3 [.int .i64 (max batch 0)] 3]) hS30
        have hnl2 := nextS_len g_words (qM g sx k) first after (max batch 0) (dd + 1)
        have hnl3 : (dd + 1) * g_words.length ≤ 5 * g_words.length := Nat.mul_le_mul_right _ (by omega)
        have f7 := hS31.bk (i := 7) rfl
        refine OL.q (Q1.load1 ti4 rfl (fun _ e => e ▸ (f7.cell 0 _ rfl))) rfl rfl ?_
        refine OL.nil ?_
        cases b9 with
        | true =>
          replace hb9 := hb9.symm
          refine r_cond_t rfl ?_
          refine r_exit rfl ?_
          refine r_seq ?_
          refine r_draw1 (fun i => false) 5 (fun w' => Mod (Mg 0) w12 w') mixed (by kernel_rfl) ?_
          intro w13 hm12
          have hS32 := hS31.ext hm12
          have hCw13 : Mod (Mg 0) w12 w13 := Mod.ofExt hm12
          refine ⟨hCw13, ?_⟩
          rw [show List.range' 0 (Array.size _) = [0, 1, 2, 3, 4] from rfl]
          have f8 := hS31.bk (i := 5) rfl
          refine OD.q rfl rfl (Q1.load1 ti31 rfl (fun _ hc => (f8.cell 0 _ rfl).keepG hc (Nat.succ_ne_zero _))) rfl rfl ?_
          refine OD.q rfl rfl (Q1.load1 ti4 rfl (fun _ hc => (f7.cell 0 _ rfl).keepG hc (Nat.succ_ne_zero _))) rfl rfl ?_
          refine OD.q rfl rfl (Q1.not rfl) rfl rfl ?_
          refine OD.q rfl rfl (Q1.assign rfl) rfl rfl ?_
          refine OD.q rfl rfl (Q1.assign rfl) rfl rfl ?_
          refine OD.nil ?_
          refine r_ret2 Try.func15 rfl rfl rfl ?_
          obtain ⟨g1, ha1, hg1⟩ := hS32.accOut (i := 6) rfl
          exact Ret.mk ⟨_, _, rfl, ⟨_, Acc.cast ha1 (by first | (rw [nextA_no (by assumption)]; done) | (rw [nextA_no (by assumption)]) | exact nextA_end2 hmy (n := dd + 1) (.inl ⟨by assumption, by omega⟩) (by assumption) | exact nextA_end2 hmy (n := dd) (.inr (by omega)) (by assumption) | (rw [nextA_end hmy (n := dd + 1) (.inl ⟨by assumption, by omega⟩)]) | (rw [nextA_end hmy (n := dd) (.inr (by omega))]) | (exfalso; omega)), hg1⟩, ⟨_, (by first | (rw [nextA_no (by assumption)]; done) | (rw [nextA_no (by assumption)]) | exact nextA_end2 hmy (n := dd + 1) (.inl ⟨by assumption, by omega⟩) (by assumption) | exact nextA_end2 hmy (n := dd) (.inr (by omega)) (by assumption) | (rw [nextA_end hmy (n := dd + 1) (.inl ⟨by assumption, by omega⟩)]) | (rw [nextA_end hmy (n := dd) (.inr (by omega))]) | (exfalso; omega)), rfl⟩, hS32.mod⟩
        | false =>
          replace hb9 := hb9.symm
          refine r_cond_f rfl ?_
          refine r_skip ?_
          refine r_inBlock ?_
          refine r_region ?_
          have hS32 : St (fun _ => False) (fun _ => False) w0 w12 [slR encRn [(v1, (qM g sx k))], bkR b8 [.int .i64 (((dd : Nat) : Int))] 3, bkR b1 [.bool first] 4, bkR b2 [.int .i64 after.dist, strV after.word] 24, bkR b3 [.int .i64 (max batch 0)] 3, boxR [bkR b5 [vb1] 31, accR encItm 24 2 vb1 (((nextS g_words (qM g sx k) first after (max batch 0) (dd + 1))).1), bkR b6 [.bool false] 4]] := St.close (L1 := [slR encRn [(v1, (qM g sx k))], bkR b8 [.int .i64 (((dd : Nat) : Int))] 3, bkR b1 [.bool first] 4, bkR b2 [.int .i64 after.dist, strV after.word] 24, bkR b3 [.int .i64 (max batch 0)] 3]) hS31
          have hS33 : St (fun _ => False) (fun _ => False) w0 w12 [slR encRn [(v1, (qM g sx k))], bkR b8 [.int .i64 (((dd : Nat) : Int))] 3, bkR b1 [.bool first] 4, bkR b2 [.int .i64 after.dist, strV after.word] 24, bkR b3 [.int .i64 (max batch 0)] 3, nb0R 31 24 4 b5 b6 ((((nextS g_words (qM g sx k) first after (max batch 0) (dd + 1))).1, false))] := hS32.exi vb1 (i := 5) rfl
          have hS34 : St (fun _ => False) (fun _ => False) w0 w12 [slR encRn [(v1, (qM g sx k))], bkR b8 [.int .i64 (((dd : Nat) : Int))] 3, bkR b1 [.bool first] 4, bkR b2 [.int .i64 after.dist, strV after.word] 24, bkR b3 [.int .i64 (max batch 0)] 3, nb0R 31 24 4 b5 b6 ((nextS g_words (qM g sx k) first after (max batch 0) (dd + 1)))] := hS33.imp (i := 5) rfl (fun F_ h_ => by rw [show (nextS g_words (qM g sx k) first after (max batch 0) (dd + 1)) = ((nextS g_words (qM g sx k) first after (max batch 0) (dd + 1)).1, false) from Prod.ext rfl (by show _ = false; assumption)]; exact h_)
          refine OL.q (Q1.addI (((dd + 1 : Nat) : Int)) rfl rfl (by omega)) rfl rfl ?_
          refine OL.q (Q1.move rfl) rfl rfl ?_
          refine OL.nil ?_
          have hS35 : St (fun _ => False) (fun _ => False) w0 w12 [bkR b1 [.bool first] 4, bkR b2 [.int .i64 after.dist, strV after.word] 24, bkR b3 [.int .i64 (max batch 0)] 3, slR encRn [(v1, (qM g sx k))], nb0R 31 24 4 b5 b6 ((nextS g_words (qM g sx k) first after (max batch 0) (dd + 1)))] := hS34.sel [2, 3, 4, 0, 5] (by rfl) (by decide)
          exact (ih1 _ _ _ ⟨(dd + 1 : Nat), rfl, rfl, hS35, (by first | exact (by assumption : _ = (nextS g_words (qM g sx k) first after (max batch 0) (dd + 1)).2) | (symm; assumption) | (exfalso; omega)), (by first | omega | (exfalso; omega))⟩ (by omega)).sub ⟨rfl, rfl, rfl, rfl, rfl, rfl, rfl, rfl, rfl, trivial⟩
      | false =>
        replace hb7 := of_decide_eq_false hb7.symm
        refine r_cond_f rfl ?_
        refine r_exit rfl ?_
        refine r_seq ?_
        obtain ⟨b8, hb8⟩ : ∃ b, b = ((nextS g_words (qM g sx k) first after (max batch 0) dd)).2 := ⟨_, rfl⟩
        obtain ⟨vb1, hS20⟩ := hS19.exo (i := 4) rfl
        change St (fun _ => False) (fun _ => False) w0 w9 [bkR b1 [.bool first] 4, bkR b2 [.int .i64 after.dist, strV after.word] 24, bkR b3 [.int .i64 ((max batch 0))] 3, slR encRn [(v1, (qM g sx k))], boxR [bkR b5 [vb1] 31, accR encItm 24 2 vb1 (((nextS g_words (qM g sx k) first after (max batch 0) dd)).1), bkR b6 [.bool ((nextS g_words (qM g sx k) first after (max batch 0) dd)).2] 4]] at hS20
        rw [← hb8] at hS20
        have hS21 : St (fun _ => False) (fun _ => False) w0 w9 [bkR b1 [.bool first] 4, bkR b2 [.int .i64 after.dist, strV after.word] 24, bkR b3 [.int .i64 ((max batch 0))] 3, slR encRn [(v1, (qM g sx k))], bkR b5 [vb1] 31, accR encItm 24 2 vb1 (((nextS g_words (qM g sx k) first after (max batch 0) dd)).1), bkR b6 [.bool b8] 4] := St.open (L1 := [bkR b1 [.bool first] 4, bkR b2 [.int .i64 after.dist, strV after.word] 24, bkR b3 [.int .i64 ((max batch 0))] 3, slR encRn [(v1, (qM g sx k))]]) hS20
        have hnl2 := nextS_len g_words (qM g sx k) first after (max batch 0) dd
        have hnl3 : dd * g_words.length ≤ 5 * g_words.length := Nat.mul_le_mul_right _ (by omega)
        refine r_draw1 (fun i => false) 5 (fun w' => Mod (Mg 0) w9 w') mixed (by kernel_rfl) ?_
        intro w10 hm9
        have hS22 := hS21.ext hm9
        have hCw10 : Mod (Mg 0) w9 w10 := Mod.ofExt hm9
        refine ⟨hCw10, ?_⟩
        rw [show List.range' 0 (Array.size _) = [0, 1, 2, 3, 4] from rfl]
        have f4 := hS21.bk (i := 4) rfl
        refine OD.q rfl rfl (Q1.load1 ti31 rfl (fun _ hc => (f4.cell 0 _ rfl).keepG hc (Nat.succ_ne_zero _))) rfl rfl ?_
        have f5 := hS21.bk (i := 6) rfl
        refine OD.q rfl rfl (Q1.load1 ti4 rfl (fun _ hc => (f5.cell 0 _ rfl).keepG hc (Nat.succ_ne_zero _))) rfl rfl ?_
        cases b8 with
        | true =>
          replace hb8 := hb8.symm
          refine OD.q rfl rfl (Q1.not rfl) rfl rfl ?_
          refine OD.q rfl rfl (Q1.assign rfl) rfl rfl ?_
          refine OD.q rfl rfl (Q1.assign rfl) rfl rfl ?_
          refine OD.nil ?_
          refine r_ret2 Try.func15 rfl rfl rfl ?_
          obtain ⟨g1, ha1, hg1⟩ := hS22.accOut (i := 5) rfl
          exact Ret.mk ⟨_, _, rfl, ⟨_, Acc.cast ha1 (by first | (rw [nextA_no (by assumption)]; done) | (rw [nextA_no (by assumption)]) | exact nextA_end2 hmy (n := dd + 1) (.inl ⟨by assumption, by omega⟩) (by assumption) | exact nextA_end2 hmy (n := dd) (.inr (by omega)) (by assumption) | (rw [nextA_end hmy (n := dd + 1) (.inl ⟨by assumption, by omega⟩)]) | (rw [nextA_end hmy (n := dd) (.inr (by omega))]) | (exfalso; omega)), hg1⟩, ⟨_, (by first | (rw [nextA_no (by assumption)]; done) | (rw [nextA_no (by assumption)]) | exact nextA_end2 hmy (n := dd + 1) (.inl ⟨by assumption, by omega⟩) (by assumption) | exact nextA_end2 hmy (n := dd) (.inr (by omega)) (by assumption) | (rw [nextA_end hmy (n := dd + 1) (.inl ⟨by assumption, by omega⟩)]) | (rw [nextA_end hmy (n := dd) (.inr (by omega))]) | (exfalso; omega)), rfl⟩, hS22.mod⟩
        | false =>
          replace hb8 := hb8.symm
          refine OD.q rfl rfl (Q1.not rfl) rfl rfl ?_
          refine OD.q rfl rfl (Q1.assign rfl) rfl rfl ?_
          refine OD.q rfl rfl (Q1.assign rfl) rfl rfl ?_
          refine OD.nil ?_
          refine r_ret2 Try.func15 rfl rfl rfl ?_
          obtain ⟨g1, ha1, hg1⟩ := hS22.accOut (i := 5) rfl
          exact Ret.mk ⟨_, _, rfl, ⟨_, Acc.cast ha1 (by first | (rw [nextA_no (by assumption)]; done) | (rw [nextA_no (by assumption)]) | exact nextA_end2 hmy (n := dd + 1) (.inl ⟨by assumption, by omega⟩) (by assumption) | exact nextA_end2 hmy (n := dd) (.inr (by omega)) (by assumption) | (rw [nextA_end hmy (n := dd + 1) (.inl ⟨by assumption, by omega⟩)]) | (rw [nextA_end hmy (n := dd) (.inr (by omega))]) | (exfalso; omega)), hg1⟩, ⟨_, (by first | (rw [nextA_no (by assumption)]; done) | (rw [nextA_no (by assumption)]) | exact nextA_end2 hmy (n := dd + 1) (.inl ⟨by assumption, by omega⟩) (by assumption) | exact nextA_end2 hmy (n := dd) (.inr (by omega)) (by assumption) | (rw [nextA_end hmy (n := dd + 1) (.inl ⟨by assumption, by omega⟩)]) | (rw [nextA_end hmy (n := dd) (.inr (by omega))]) | (exfalso; omega)), rfl⟩, hS22.mod⟩
  | false =>
    replace hb4 := hb4.symm
    refine OL.q (Q1.not rfl) rfl rfl ?_
    refine OL.nil ?_
    refine r_cond_t rfl ?_
    refine r_seq ?_
    refine r_region ?_
    refine OL.q (Q1.assign rfl) rfl rfl ?_
    refine OL.q (Q1.assign rfl) rfl rfl ?_
    refine OL.nil ?_
    refine r_ret2 Try.func15 rfl rfl rfl ?_
    exact Ret.mk ⟨_, _, rfl, ⟨0, Acc.cast Acc.nil (by first | (rw [nextA_no (by assumption)]; done) | (rw [nextA_no (by assumption)]) | exact nextA_end2 hmy (n := dd + 1) (.inl ⟨by assumption, by omega⟩) (by assumption) | exact nextA_end2 hmy (n := dd) (.inr (by omega)) (by assumption) | (rw [nextA_end hmy (n := dd + 1) (.inl ⟨by assumption, by omega⟩)]) | (rw [nextA_end hmy (n := dd) (.inr (by omega))]) | (exfalso; omega)), .inl rfl⟩, ⟨_, (by first | (rw [nextA_no (by assumption)]; done) | (rw [nextA_no (by assumption)]) | exact nextA_end2 hmy (n := dd + 1) (.inl ⟨by assumption, by omega⟩) (by assumption) | exact nextA_end2 hmy (n := dd) (.inr (by omega)) (by assumption) | (rw [nextA_end hmy (n := dd + 1) (.inl ⟨by assumption, by omega⟩)]) | (rw [nextA_end hmy (n := dd) (.inr (by omega))]) | (exfalso; omega)), rfl⟩, hS8.mod⟩
end Go.Proofs
