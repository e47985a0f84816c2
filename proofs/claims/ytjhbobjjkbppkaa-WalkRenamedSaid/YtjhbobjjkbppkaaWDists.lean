/-
  Walks through walk.Dists.
-/
import Derived.Test.YtjhbobjjkbppkaaWEach
set_option linter.unusedVariables false
set_option linter.unusedSimpArgs false
namespace Go.Proofs
open Go.Ik Go.Ml
set_option maxRecDepth 20000 in
set_option maxHeartbeats 4000000 in
theorem wasked_c {w0 : World}  {v_g : Value} {lo_g hi_g : Nat} {g : List GN} (s : Str) (k : Int) (h_g : Gr 0 w0 lo_g hi_g v_g g) (hhi_g : hi_g ≤ w0.heap.size) (h_k : I64 k) (hs : s.length ≤ 1000000) :
    Calls Try.prog 35 #[v_g, strV s, .int .i64 k] w0 (Ret fun rv w1 => ∃ u0 u1, rv = .tuple #[u0, u1] ∧ Sl encRn w1 (Iv w0.heap.size w1.heap.size) u0 (qM g s k) ∧ (∃ rb : Bool, rb = (mayA g s k) ∧ u1 = .bool rb) ∧ Ext w0 w1) := by
  have hE0 : Ext w0 w0 := Mod.refl _ _
  refine calls_enter Try.func35 rfl Try.ntmps35 rfl ?_
  refine r_seq ?_
  refine r_region ?_
  refine OL.q (Q1.assign rfl) rfl rfl ?_
  refine OL.q (Q1.assign rfl) rfl rfl ?_
  refine OL.nil ?_
  refine r_seq ?_
  refine r_seq ?_
  refine r_region ?_
  refine OL.q (Q1.move rfl) rfl rfl ?_
  have hgr1 := h_g
  rcases h_g with ⟨hv1, hN1⟩ | ⟨b1, vn1, nds1, hv1, hN1, hrw1, hsl1, hrel1⟩
  · subst hv1
    try subst hN1
    refine OL.q (Q1.eqNil Try.underlying27 rfl rfl) rfl rfl ?_
    refine OL.q (Q1.move rfl) rfl rfl ?_
    refine OL.sk rfl rfl ?_
    refine OL.sk rfl rfl ?_
    refine OL.q (Q1.pick_t rfl rfl) rfl rfl ?_
    refine OL.q (Q1.move rfl) rfl rfl ?_
    refine OL.sk rfl rfl ?_
    refine OL.sk rfl rfl ?_
    refine OL.q (Q1.pick_t rfl rfl) rfl rfl ?_
    refine OL.q (Q1.move rfl) rfl rfl ?_
    refine OL.sk rfl rfl ?_
    refine OL.sk rfl rfl ?_
    refine OL.sk rfl rfl ?_
    refine OL.q (Q1.pick_t rfl rfl) rfl rfl ?_
    refine OL.nil ?_
    refine r_cond_t rfl ?_
    refine r_seq ?_
    refine r_region ?_
    refine OL.q (Q1.assign rfl) rfl rfl ?_
    refine OL.q (Q1.assign rfl) rfl rfl ?_
    refine OL.nil ?_
    refine r_ret2 Try.func35 rfl rfl rfl ?_
    exact Ret.mk ⟨_, _, rfl, (Sl.cast Sl.nil (by first | exact qM_no (by first | exact mayA_g | exact mayA_k (by omega) | exact mayA_s (by assumption)) | (symm; exact (by first | exact mayA_g | exact mayA_k (by omega) | exact mayA_s (by assumption))) | exact qM_yes (mayA_yes (by assumption) (by omega) (by assumption)) | (rw [(mayA_yes (by assumption) (by omega) (by assumption)), ← asked_fine (s := s) (by assumption)]; assumption) | (exfalso; omega))), ⟨_, (by first | exact qM_no (by first | exact mayA_g | exact mayA_k (by omega) | exact mayA_s (by assumption)) | (symm; exact (by first | exact mayA_g | exact mayA_k (by omega) | exact mayA_s (by assumption))) | exact qM_yes (mayA_yes (by assumption) (by omega) (by assumption)) | (rw [(mayA_yes (by assumption) (by omega) (by assumption)), ← asked_fine (s := s) (by assumption)]; assumption) | (exfalso; omega)), rfl⟩, hE0⟩
  · subst hv1
    have hnl1 := (All2.get hrel1).1
    refine OL.q (Q1.eqNil Try.underlying27 rfl rfl) rfl rfl ?_
    refine OL.q (Q1.move rfl) rfl rfl ?_
    refine OL.q (Q1.move rfl) rfl rfl ?_
    refine OL.qb (Q1.lt rfl rfl) rfl rfl ?_
    intro b2 hb1
    refine OL.q (Q1.pick_f rfl rfl) rfl rfl ?_
    refine OL.q (Q1.move rfl) rfl rfl ?_
    cases b2 with
    | true =>
      replace hb1 := of_decide_eq_true hb1.symm
      refine OL.sk rfl rfl ?_
      refine OL.sk rfl rfl ?_
      refine OL.q (Q1.pick_t rfl rfl) rfl rfl ?_
      refine OL.q (Q1.move rfl) rfl rfl ?_
      refine OL.sk rfl rfl ?_
      refine OL.sk rfl rfl ?_
      refine OL.sk rfl rfl ?_
      refine OL.q (Q1.pick_t rfl rfl) rfl rfl ?_
      refine OL.nil ?_
      refine r_cond_t rfl ?_
      refine r_seq ?_
      refine r_region ?_
      refine OL.q (Q1.assign rfl) rfl rfl ?_
      refine OL.q (Q1.assign rfl) rfl rfl ?_
      refine OL.nil ?_
      refine r_ret2 Try.func35 rfl rfl rfl ?_
      exact Ret.mk ⟨_, _, rfl, (Sl.cast Sl.nil (by first | exact qM_no (by first | exact mayA_g | exact mayA_k (by omega) | exact mayA_s (by assumption)) | (symm; exact (by first | exact mayA_g | exact mayA_k (by omega) | exact mayA_s (by assumption))) | exact qM_yes (mayA_yes (by assumption) (by omega) (by assumption)) | (rw [(mayA_yes (by assumption) (by omega) (by assumption)), ← asked_fine (s := s) (by assumption)]; assumption) | (exfalso; omega))), ⟨_, (by first | exact qM_no (by first | exact mayA_g | exact mayA_k (by omega) | exact mayA_s (by assumption)) | (symm; exact (by first | exact mayA_g | exact mayA_k (by omega) | exact mayA_s (by assumption))) | exact qM_yes (mayA_yes (by assumption) (by omega) (by assumption)) | (rw [(mayA_yes (by assumption) (by omega) (by assumption)), ← asked_fine (s := s) (by assumption)]; assumption) | (exfalso; omega)), rfl⟩, hE0⟩
    | false =>
      replace hb1 := of_decide_eq_false hb1.symm
      refine OL.q (Q1.move rfl) rfl rfl ?_
      refine OL.qb (Q1.gt rfl rfl) rfl rfl ?_
      intro b3 hb2
      refine OL.q (Q1.pick_f rfl rfl) rfl rfl ?_
      refine OL.q (Q1.move rfl) rfl rfl ?_
      cases b3 with
      | true =>
        replace hb2 := of_decide_eq_true hb2.symm
        refine OL.sk rfl rfl ?_
        refine OL.sk rfl rfl ?_
        refine OL.sk rfl rfl ?_
        refine OL.q (Q1.pick_t rfl rfl) rfl rfl ?_
        refine OL.nil ?_
        refine r_cond_t rfl ?_
        refine r_seq ?_
        refine r_region ?_
        refine OL.q (Q1.assign rfl) rfl rfl ?_
        refine OL.q (Q1.assign rfl) rfl rfl ?_
        refine OL.nil ?_
        refine r_ret2 Try.func35 rfl rfl rfl ?_
        exact Ret.mk ⟨_, _, rfl, (Sl.cast Sl.nil (by first | exact qM_no (by first | exact mayA_g | exact mayA_k (by omega) | exact mayA_s (by assumption)) | (symm; exact (by first | exact mayA_g | exact mayA_k (by omega) | exact mayA_s (by assumption))) | exact qM_yes (mayA_yes (by assumption) (by omega) (by assumption)) | (rw [(mayA_yes (by assumption) (by omega) (by assumption)), ← asked_fine (s := s) (by assumption)]; assumption) | (exfalso; omega))), ⟨_, (by first | exact qM_no (by first | exact mayA_g | exact mayA_k (by omega) | exact mayA_s (by assumption)) | (symm; exact (by first | exact mayA_g | exact mayA_k (by omega) | exact mayA_s (by assumption))) | exact qM_yes (mayA_yes (by assumption) (by omega) (by assumption)) | (rw [(mayA_yes (by assumption) (by omega) (by assumption)), ← asked_fine (s := s) (by assumption)]; assumption) | (exfalso; omega)), rfl⟩, hE0⟩
      | false =>
        replace hb2 := of_decide_eq_false hb2.symm
        refine OL.q (Q1.move rfl) rfl rfl ?_
        refine OL.act rfl rfl (AW.callF cl25 rfl (tasked_c (w0 := w0)  s (by first | assumption | omega)) ?_)
        rintro _ w1 ⟨⟨b4, hb3, rfl⟩, hm1⟩
        have f1 := hgr1.ext hm1
        have f2 := hrel1.ext hm1
        have f3 := hsl1.ext hm1
        have f4 := hrw1.ext hm1
        have hE1 := hE0.ext hm1
        have hs1 := hm1.size
        cases b4 with
        | true =>
          replace hb3 := hb3.symm
          refine OL.q (Q1.not rfl) rfl rfl ?_
          refine OL.q (Q1.pick_f rfl rfl) rfl rfl ?_
          refine OL.nil ?_
          refine r_cond_f rfl ?_
          refine r_skip ?_
          refine r_seq ?_
          refine r_region ?_
          refine OL.q (Q1.move rfl) rfl rfl ?_
          refine OL.act rfl rfl (AW.callF cl53 rfl (trunes_c (w0 := w1)  s (by first | assumption | omega | (simp; done))) ?_)
          rintro _ w2 ⟨v1, _, rfl, h1, ⟨b5, hb4, rfl⟩, hm2⟩
          have f5 := f1.ext hm2
          have f6 := f2.ext hm2
          have f7 := f3.ext hm2
          have f8 := f4.ext hm2
          have hE2 := hE1.ext hm2
          have hs2 := hm2.size
          have hle_1 := h1.le
          have := Ml.runesM_len s
          refine OL.q (Q1.extract rfl rfl) rfl rfl ?_
          refine OL.q (Q1.extract rfl rfl) rfl rfl ?_
          refine OL.q (Q1.assign rfl) rfl rfl ?_
          refine OL.q (Q1.assign rfl) rfl rfl ?_
          refine OL.nil ?_
          refine r_ret2 Try.func35 rfl rfl rfl ?_
          exact Ret.mk ⟨_, _, rfl, (Sl.cast (h1.iv (by omega) (by omega)) (by first | exact qM_no (by first | exact mayA_g | exact mayA_k (by omega) | exact mayA_s (by assumption)) | (symm; exact (by first | exact mayA_g | exact mayA_k (by omega) | exact mayA_s (by assumption))) | exact qM_yes (mayA_yes (by assumption) (by omega) (by assumption)) | (rw [(mayA_yes (by assumption) (by omega) (by assumption)), ← asked_fine (s := s) (by assumption)]; assumption) | (exfalso; omega))), ⟨_, (by first | exact qM_no (by first | exact mayA_g | exact mayA_k (by omega) | exact mayA_s (by assumption)) | (symm; exact (by first | exact mayA_g | exact mayA_k (by omega) | exact mayA_s (by assumption))) | exact qM_yes (mayA_yes (by assumption) (by omega) (by assumption)) | (rw [(mayA_yes (by assumption) (by omega) (by assumption)), ← asked_fine (s := s) (by assumption)]; assumption) | (exfalso; omega)), rfl⟩, hE2⟩
        | false =>
          replace hb3 := hb3.symm
          refine OL.q (Q1.not rfl) rfl rfl ?_
          refine OL.q (Q1.pick_f rfl rfl) rfl rfl ?_
          refine OL.nil ?_
          refine r_cond_t rfl ?_
          refine r_seq ?_
          refine r_region ?_
          refine OL.q (Q1.assign rfl) rfl rfl ?_
          refine OL.q (Q1.assign rfl) rfl rfl ?_
          refine OL.nil ?_
          refine r_ret2 Try.func35 rfl rfl rfl ?_
          exact Ret.mk ⟨_, _, rfl, (Sl.cast Sl.nil (by first | exact qM_no (by first | exact mayA_g | exact mayA_k (by omega) | exact mayA_s (by assumption)) | (symm; exact (by first | exact mayA_g | exact mayA_k (by omega) | exact mayA_s (by assumption))) | exact qM_yes (mayA_yes (by assumption) (by omega) (by assumption)) | (rw [(mayA_yes (by assumption) (by omega) (by assumption)), ← asked_fine (s := s) (by assumption)]; assumption) | (exfalso; omega))), ⟨_, (by first | exact qM_no (by first | exact mayA_g | exact mayA_k (by omega) | exact mayA_s (by assumption)) | (symm; exact (by first | exact mayA_g | exact mayA_k (by omega) | exact mayA_s (by assumption))) | exact qM_yes (mayA_yes (by assumption) (by omega) (by assumption)) | (rw [(mayA_yes (by assumption) (by omega) (by assumption)), ← asked_fine (s := s) (by assumption)]; assumption) | (exfalso; omega)), rfl⟩, hE1⟩
set_option maxRecDepth 20000 in
set_option maxHeartbeats 4000000 in
theorem wdists1_c {w0 : World} {F : Nat → Prop} {bl : Nat} {l : List Str} (x : Str) (hA : (tbR (R := fun _ => False) 22 9 1 encS bl l).p F w0) (hF : ∀ b, F b → b < w0.heap.size) (hln : l.length ≤ 1000000) :
    Calls Try.prog 42 #[strV x, ptr bl 0] w0 (Ret fun rv w1 => rv = .bool true ∧ Mod F w0 w1 ∧ ∃ F2, (tbR (R := fun _ => False) 22 9 1 encS bl ((l ++ [x]))).p F2 w1 ∧ ∀ b, F2 b → b < w1.heap.size ∧ (F b ∨ w0.heap.size ≤ b)) := by
  have hS00 := St.start1 hA (fun b hb => ⟨hF b hb, id⟩) (fun _ h => h.elim)
  obtain ⟨vb1, hS1⟩ := hS00.exo (i := 0) rfl
  change St (fun _ => False) F w0 w0 [boxR [bkR bl [vb1] 22, accR encS 9 1 vb1 l]] at hS1
  have hS2 : St (fun _ => False) F w0 w0 [bkR bl [vb1] 22, accR encS 9 1 vb1 l] := St.open (L1 := []) hS1
  refine calls_enter Try.func42 rfl Try.ntmps42 rfl ?_
  refine r_seq ?_
  refine r_region ?_
  refine OL.q (Q1.assign rfl) rfl rfl ?_
  refine OL.nil ?_
  refine r_seq ?_
  refine r_region ?_
  have f1 := hS2.bk (i := 0) rfl
  refine OL.q (Q1.load1 ti22 rfl (fun _ e => e ▸ (f1.cell 0 _ rfl))) rfl rfl ?_
  refine OL.q (Q1.move rfl) rfl rfl ?_
  refine OL.act rfl rfl (AW.buildSlice [strV x] Try.underlying22 ti9 rfl rfl rfl (by decide) ?_)
  intro w1 b1 hm1 hb1 hz1 hk1
  have hS3 := hS2.ext hm1
  have hl1 := Sl.of_blk (enc := encS) hk1 ([x] : List Str) 1 rfl rfl (by unfold maxLen; omega)
  have hS4 : St (fun _ => False) F w0 w1 [bkR bl [vb1] 22, accR encS 9 1 vb1 l, slR encS [((.slice (some ⟨b1, 0, none⟩) 1 1), [x])]] := hS2.newSlB hm1 hb1 hz1 hl1
  obtain ⟨g2, f2, hl2, k1⟩ := hS4.accK (i := 1) rfl
  have f3 := hS4.sl (i := 2) (k := 0) rfl rfl
  refine OL.act rfl rfl (AW.append f2 Try.underlying22 ti9 rfl encS_len encS_one rfl rfl (f3) (by first | omega | (simp only [List.length_append, List.length_cons, List.length_nil]; omega) | (simp; omega)) (by unfold maxLen; first | omega | (simp only [List.length_append, List.length_cons, List.length_nil]; omega) | (simp; omega)) ?_)
  intro v1 g1 w2 ha1 hm2 hg1 hz2
  have hS5 : St (fun _ => False) F w0 w2 [bkR bl [vb1] 22, accR encS 9 1 v1 ((l ++ [x])), slR encS [((.slice (some ⟨b1, 0, none⟩) 1 1), [x])]] := k1 _ _ _ _ hm2 ha1 hg1
  clear hg1
  obtain ⟨g3, f4, hl3, k2⟩ := hS5.accK (i := 1) rfl
  obtain ⟨ad1, cp1, hv1⟩ := f4.shape
  subst hv1
  have f5 := hS5.bk (i := 0) rfl
  refine OL.act rfl rfl (AW.store ti22 rfl rfl rfl rfl rfl f5 (Nat.le_of_ble_eq_true rfl) ?_)
  intro w3 hm3 hz3 hk2
  have hS6 : St (fun _ => False) F w0 w3 [bkR bl [(.slice ad1 ((l ++ [x])).length cp1)] 22, accR encS 9 1 ((.slice ad1 ((l ++ [x])).length cp1)) ((l ++ [x])), slR encS [((.slice (some ⟨b1, 0, none⟩) 1 1), [x])]] := hS5.bkK (i := 0) rfl hm3 hk2
  refine OL.nil ?_
  refine r_seq ?_
  refine r_region ?_
  refine OL.q (Q1.assign rfl) rfl rfl ?_
  refine OL.nil ?_
  refine r_ret1 Try.func42 rfl rfl ?_
  have hS7 : St (fun _ => False) F w0 w3 [slR encS [((.slice (some ⟨b1, 0, none⟩) 1 1), [x])], bkR bl [(.slice ad1 ((l ++ [x])).length cp1)] 22, accR encS 9 1 ((.slice ad1 ((l ++ [x])).length cp1)) ((l ++ [x]))] := hS6.sel [2, 0, 1] (by rfl) (by decide)
  have hS8 : St (fun _ => False) F w0 w3 [slR encS [((.slice (some ⟨b1, 0, none⟩) 1 1), [x])], boxR [bkR bl [(.slice ad1 ((l ++ [x])).length cp1)] 22, accR encS 9 1 ((.slice ad1 ((l ++ [x])).length cp1)) ((l ++ [x]))]] := St.close (L1 := [slR encS [((.slice (some ⟨b1, 0, none⟩) 1 1), [x])]]) hS7
  have hS9 : St (fun _ => False) F w0 w3 [slR encS [((.slice (some ⟨b1, 0, none⟩) 1 1), [x])], tbR 22 9 1 encS bl ((l ++ [x]))] := hS8.exi (.slice ad1 ((l ++ [x])).length cp1) (i := 1) rfl
  have hS10 : St (fun _ => False) F w0 w3 [tbR 22 9 1 encS bl ((l ++ [x]))] := hS9.sel [1] (by rfl) (by decide)
  obtain ⟨hmF, F2r, hAr, hFr⟩ := hS10.fin
  exact Ret.mk ⟨rfl, hmF, F2r, hAr, hFr⟩
theorem wdists_yield (bl : Nat) : YieldS Try.prog 42 [] [ptr bl 0] (fun l : List Str => tbR 22 9 1 encS bl l) (fun s _ => s.length ≤ 1000000) (fun (s : List Str) x => (s ++ [x], true)) where
  cl := by kernel_rfl
  call := fun s F w x h hF hok => wdists1_c x h hF hok
set_option maxRecDepth 20000 in
set_option maxHeartbeats 4000000 in
theorem wdists_c {w0 : World} {s : GS} {g_words : List Str} {v_g : Value} {lo_g hi_g : Nat} {g : List GN} (sx : Str) (d : Int) (h_g : Gr 0 w0 lo_g hi_g v_g g) (hhi_g : hi_g ≤ w0.heap.size) (h_d : I64 d) (hok : GOk g s g_words) (hwl : g_words.length ≤ 1000) (hs : sx.length ≤ 1000000) :
    Calls Try.prog 21 #[v_g, strV sx, .int .i64 d] w0 (Ret fun rv w1 => (∃ gr, Acc encS 9 1 w1 gr rv (distsA g g_words sx d) ∧ (gr = 0 ∨ w0.heap.size < gr)) ∧ Ext w0 w1) := by
  have hok2 := hok
  obtain ⟨hgs, ⟨es0, hna, hc⟩, hgood, hdeep, hnode, hsz, hel0⟩ := hok
  obtain ⟨hI, hgl, hel⟩ := hok2.edges
  have hgs2 : gnOf s = g := hgs.symm
  have hS0 := St.start0 w0
  refine calls_enter Try.func21 rfl Try.ntmps21 rfl ?_
  refine r_seq ?_
  refine r_region ?_
  refine OL.q (Q1.assign rfl) rfl rfl ?_
  refine OL.nil ?_
  refine r_seq ?_
  refine r_region ?_
  refine OL.q (Q1.move rfl) rfl rfl ?_
  refine OL.q (Q1.move rfl) rfl rfl ?_
  refine OL.q (Q1.move rfl) rfl rfl ?_
  refine OL.act rfl rfl (AW.callF cl35 rfl (wasked_c (w0 := w0)  sx (d) h_g (Nat.le_trans hhi_g hS0.mod.size) (by first | omega | assumption) (by first | assumption | omega)) ?_)
  rintro _ w1 ⟨v1, _, rfl, h1, ⟨b1, hb1, rfl⟩, hm1⟩
  have hS1 := hS0.ext hm1
  have hS2 : St (fun _ => False) (fun _ => False) w0 w1 [slR encRn [(v1, (qM g sx d))]] := hS0.newSl hm1 h1
  have hle_1 := h1.le
  have := qM_len g sx d
  refine OL.q (Q1.move rfl) rfl rfl ?_
  refine OL.q (Q1.extract rfl rfl) rfl rfl ?_
  refine OL.q (Q1.extract rfl rfl) rfl rfl ?_
  refine OL.q (Q1.assign rfl) rfl rfl ?_
  refine OL.q (Q1.assign rfl) rfl rfl ?_
  refine OL.nil ?_
  refine r_seq ?_
  refine r_seq ?_
  refine r_region ?_
  refine OL.q (Q1.move rfl) rfl rfl ?_
  cases b1 with
  | true =>
    replace hb1 := hb1.symm
    refine OL.q (Q1.not rfl) rfl rfl ?_
    refine OL.nil ?_
    refine r_cond_f rfl ?_
    refine r_skip ?_
    refine r_seq ?_
    refine r_region ?_
    refine OL.act rfl rfl (AW.alloc ti22 ?_)
    intro w2 b2 hm2 hb2 hz1 hk1
    have hS3 := hS2.ext hm2
    have hS4 : St (fun _ => False) (fun _ => False) w0 w2 [slR encRn [(v1, (qM g sx d))], bkR b2 [.slice none 0 0] 22] := hS2.newBk hm2 hb2 hk1
    refine OL.nil ?_
    refine r_seq ?_
    refine r_region ?_
    refine OL.q (Q1.move rfl) rfl rfl ?_
    refine OL.q (Q1.move rfl) rfl rfl ?_
    refine OL.q (Q1.move rfl) rfl rfl ?_
    refine OL.q (Q1.makeFunc (first := []) (cap := [ptr b2 0]) rfl rfl) rfl rfl ?_
    have hS5 : St (fun _ => False) (fun _ => False) w0 w2 [slR encRn [(v1, (qM g sx d))], bkR b2 [.slice none 0 0] 22, accR encS 9 1 (.slice none 0 0) []] := hS4.newAcc (Mod.refl _ _) Acc.nil (.inl rfl)
    have hS6 : St (fun _ => False) (fun _ => False) w0 w2 [slR encRn [(v1, (qM g sx d))], boxR [bkR b2 [.slice none 0 0] 22, accR encS 9 1 (.slice none 0 0) []]] := St.close (L1 := [slR encRn [(v1, (qM g sx d))]]) hS5
    have hS7 : St (fun _ => False) (fun _ => False) w0 w2 [slR encRn [(v1, (qM g sx d))], tbR 22 9 1 encS b2 (([] : List Str))] := hS6.exi (.slice none 0 0) (i := 1) rfl
    have f1 := Gr.keepM h_g hS7.mod (fun _ _ _ h => h)
    obtain ⟨Fy1, Gq1, hAy1, hBq1, hGF1, hFy1, hGq1, hky1⟩ := hS7.act2 (i := 1) (j := 0) rfl rfl (by decide)
    have hmy : mayA g sx d = true := by assumption
    have hdk := (mayA_iff.1 hmy).2.1
    have hql := qM_len g sx d
    refine OL.act rfl rfl (AW.callF cl36 rfl (weach_c (s := s) (words := g_words) (w0 := w2) (d) [] (wdists_yield b2) hAy1 (fun b hb => (hFy1 b hb).2) (hgs ▸ f1) (Nat.le_trans hhi_g hS7.mod.size) (far_gr hFy1 (fun _ h => h) hhi_g) (slR_no hBq1) hGF1 hGq1 (by omega) (by omega) (hgs ▸ hna) hc hgood hdeep hnode hsz (hgs ▸ hel) (wgt_short hdeep hwl) (okAll_all 1000000 _ _ (by have := distsM_len g_words (qM g sx d) d; simp only [List.length_nil]; omega))) ?_)
    rintro _ w3 ⟨rfl, hm3, F1, hB1, hF1⟩
    have hS8 : St (fun _ => False) (fun _ => False) w0 w3 [slR encRn [(v1, (qM g sx d))], tbR 22 9 1 encS b2 ((distsA g g_words sx d))] := hky1 _ _ _ hm3 (distsA_end hmy ▸ hB1) hF1
    clear hAy1 hBq1 hGF1 hFy1 hGq1 hky1
    obtain ⟨vb1, hS9⟩ := hS8.exo (i := 1) rfl
    change St (fun _ => False) (fun _ => False) w0 w3 [slR encRn [(v1, (qM g sx d))], boxR [bkR b2 [vb1] 22, accR encS 9 1 vb1 ((distsA g g_words sx d))]] at hS9
    have hS10 : St (fun _ => False) (fun _ => False) w0 w3 [slR encRn [(v1, (qM g sx d))], bkR b2 [vb1] 22, accR encS 9 1 vb1 ((distsA g g_words sx d))] := St.open (L1 := [slR encRn [(v1, (qM g sx d))]]) hS9
    refine OL.nil ?_
    refine r_seq ?_
    refine r_region ?_
    have f2 := hS10.bk (i := 1) rfl
    refine OL.q (Q1.load1 ti22 rfl (fun _ e => e ▸ (f2.cell 0 _ rfl))) rfl rfl ?_
    refine OL.q (Q1.assign rfl) rfl rfl ?_
    refine OL.nil ?_
    refine r_ret1 Try.func21 rfl rfl ?_
    obtain ⟨g1, ha1, hg1⟩ := hS10.accOut (i := 2) rfl
    exact Ret.mk ⟨⟨_, Acc.cast ha1 (by first | rfl | exact distsA_no (by assumption) | (exfalso; omega)), hg1⟩, hS10.mod⟩
  | false =>
    replace hb1 := hb1.symm
    refine OL.q (Q1.not rfl) rfl rfl ?_
    refine OL.nil ?_
    refine r_cond_t rfl ?_
    refine r_seq ?_
    refine r_region ?_
    refine OL.q (Q1.assign rfl) rfl rfl ?_
    refine OL.nil ?_
    refine r_ret1 Try.func21 rfl rfl ?_
    exact Ret.mk ⟨⟨0, Acc.cast Acc.nil (by first | rfl | exact distsA_no (by assumption) | (exfalso; omega)), .inl rfl⟩, hS2.mod⟩
end Go.Proofs
