/-
  Walks through a script's reader.
-/
import Derived.Test.YtnikbecfjbjbbaaDoorWSplit
set_option linter.unusedVariables false
set_option linter.unusedSimpArgs false
namespace Go.Proofs
open Go.Ik Go.Ml
set_option maxRecDepth 20000 in
set_option maxHeartbeats 4000000 in
theorem rword_c {w0 : World} {F : Nat → Prop} {b : Nat} {st : RdS} (hA : (scR (R := fun _ => False) 66 9 72 50 b st).p F w0) (hF : ∀ b, F b → b < w0.heap.size) (hG : GS w0) (hFg : ∀ b, b = gB ∨ b = gS ∨ b = gR → ¬ F b) (hB : RdB st 100000) {v_l : Value} {l : List Str} {G : Nat → Prop} (hl_ : Sl encS w0 G v_l l) (hFG : ∀ x, G x → ¬ F x) (hGl : ∀ x, G x → x < w0.heap.size) (hll : ∀ x ∈ l, x.length ≤ 100000) (hln : l.length ≤ 100000) :
    Calls Tryd.prog 45 #[ptr b 0, v_l] w0 (Ret fun rv w1 => ∃ rb, rb = (doWord st l).isSome ∧ rv = .bool rb ∧ Mod F w0 w1 ∧ ∃ F2, (scR (R := fun _ => False) 66 9 72 50 b ((doWord st l).getD st)).p F2 w1 ∧ ∀ b, F2 b → b < w1.heap.size ∧ (F b ∨ w0.heap.size ≤ b)) := by
  have hS00 := St.start1 (R := fun _ => False) hA (fun b hb => ⟨hF b hb, id⟩) (fun _ h => h.elim)
  obtain ⟨hB1, hB2, hB3⟩ := hB
  have hS1 : St (fun _ => False) F w0 w0 [scR 66 9 72 50 b st] := hS00
  obtain ⟨⟨va1, vb1, vc1⟩, hS2⟩ := hS1.exo (i := 0) rfl
  change St (fun _ => False) F w0 w0 [boxR [bkR b [va1, vb1, .int .i64 st.cfg.workers, .int .i64 st.cfg.copies, .int .i64 st.cfg.slots, .int .i64 st.cfg.batch, .int .i64 st.cfg.lease, .int .i64 st.cfg.hedge, .int .i64 st.cfg.first, .int .i64 st.cfg.cap, .int .i64 st.cfg.jitter, .int .i64 st.cfg.net, vc1] 66, accR encS 9 1 va1 st.cfg.words, accR encKey 72 2 vb1 st.cfg.cuts, accR encEvt 50 7 vc1 st.es]] at hS2
  have hS3 : St (fun _ => False) F w0 w0 [bkR b [va1, vb1, .int .i64 st.cfg.workers, .int .i64 st.cfg.copies, .int .i64 st.cfg.slots, .int .i64 st.cfg.batch, .int .i64 st.cfg.lease, .int .i64 st.cfg.hedge, .int .i64 st.cfg.first, .int .i64 st.cfg.cap, .int .i64 st.cfg.jitter, .int .i64 st.cfg.net, vc1] 66, accR encS 9 1 va1 st.cfg.words, accR encKey 72 2 vb1 st.cfg.cuts, accR encEvt 50 7 vc1 st.es] := St.open (L1 := []) hS2
  have hle_l := hl_.le
  refine calls_enter Tryd.func45 rfl Tryd.ntmps45 rfl ?_
  refine r_seq ?_
  refine r_region ?_
  refine OL.q (Q1.assign rfl) rfl rfl ?_
  refine OL.nil ?_
  refine r_seq ?_
  refine r_seq ?_
  refine r_region ?_
  refine OL.q (Q1.move rfl) rfl rfl ?_
  refine OL.q (Q1.lenSl Tryd.underlying27 (hl_) rfl) rfl rfl ?_
  refine OL.qb (Q1.ne rfl rfl) rfl rfl ?_
  intro b1 hb1
  refine OL.nil ?_
  cases b1 with
  | true =>
    replace hb1 := bne_iff_ne.1 hb1.symm
    refine r_cond_t rfl ?_
    refine r_seq ?_
    refine r_region ?_
    refine OL.q (Q1.assign rfl) rfl rfl ?_
    refine OL.nil ?_
    refine r_ret1 Tryd.func45 rfl rfl ?_
    have hS4 : St (fun _ => False) F w0 w0 [boxR [bkR b [va1, vb1, .int .i64 st.cfg.workers, .int .i64 st.cfg.copies, .int .i64 st.cfg.slots, .int .i64 st.cfg.batch, .int .i64 st.cfg.lease, .int .i64 st.cfg.hedge, .int .i64 st.cfg.first, .int .i64 st.cfg.cap, .int .i64 st.cfg.jitter, .int .i64 st.cfg.net, vc1] 66, accR encS 9 1 va1 st.cfg.words, accR encKey 72 2 vb1 st.cfg.cuts, accR encEvt 50 7 vc1 st.es]] := St.close (L1 := []) hS3
    have hS5 : St (fun _ => False) F w0 w0 [scR 66 9 72 50 b ((RdS.mk (Cfg.mk st.cfg.words st.cfg.cuts st.cfg.workers st.cfg.copies st.cfg.slots st.cfg.batch st.cfg.lease st.cfg.hedge st.cfg.first st.cfg.cap st.cfg.jitter st.cfg.net) st.es))] := hS4.exi (A := (fun v : Value × Value × Value => boxR [bkR b [v.1, v.2.1, .int .i64 st.cfg.workers, .int .i64 st.cfg.copies, .int .i64 st.cfg.slots, .int .i64 st.cfg.batch, .int .i64 st.cfg.lease, .int .i64 st.cfg.hedge, .int .i64 st.cfg.first, .int .i64 st.cfg.cap, .int .i64 st.cfg.jitter, .int .i64 st.cfg.net, v.2.2] 66, accR encS 9 1 v.1 st.cfg.words, accR encKey 72 2 v.2.1 st.cfg.cuts, accR encEvt 50 7 v.2.2 st.es])) (va1, vb1, vc1) (i := 0) rfl
    have hmm : doWord st l = none := by first | exact wd_no (by omega) | exact wd_bad (by omega) hx1 (by first | assumption | (symm; assumption)) | exact wd_yes (by omega) hx1 (by first | assumption | (symm; assumption)) | (exfalso; omega)
    obtain ⟨hmF, F2r, hAr, hFr⟩ := hS5.fin
    rw [hmm]
    exact Ret.mk ⟨_, rfl, rfl, hmF, F2r, hAr, hFr⟩
  | false =>
    replace hb1 := bne_eq_false_iff_eq.1 hb1.symm
    refine r_cond_f rfl ?_
    refine r_skip ?_
    refine r_seq ?_
    refine r_region ?_
    refine OL.q (Q1.move rfl) rfl rfl ?_
    obtain ⟨x1, b2, o1, hx1, hr1, hl1, hw1⟩ := Sl.atF (P := Tryd.prog) hl_ Tryd.underlying27 ti9 encS_len (k := .i64) (n := 0) (0) (by omega) (by first | assumption | omega)
    refine OL.q (Q1.indexAddr rfl rfl hr1) rfl rfl ?_
    refine OL.q (Q1.load1 ti9 rfl (fun _ e => e ▸ hw1)) rfl rfl ?_
    refine OL.act rfl rfl (AW.callF cl10 rfl (unquote_c (w0 := w0)  x1 (by exact Nat.le_trans (hll _ (List.mem_of_getElem? (by assumption))) (by decide))) ?_)
    rintro _ w1 ⟨_, _, rfl, rfl, ⟨b3, hb2, rfl⟩, hm1⟩
    have hS4 := hS3.ext hm1
    have := unqM_len x1
    refine OL.q (Q1.move rfl) rfl rfl ?_
    refine OL.q (Q1.extract rfl rfl) rfl rfl ?_
    refine OL.q (Q1.extract rfl rfl) rfl rfl ?_
    refine OL.q (Q1.assign rfl) rfl rfl ?_
    refine OL.q (Q1.assign rfl) rfl rfl ?_
    refine OL.nil ?_
    refine r_seq ?_
    refine r_seq ?_
    refine r_region ?_
    refine OL.q (Q1.move rfl) rfl rfl ?_
    refine OL.nil ?_
    cases b3 with
    | true =>
      replace hb2 := hb2.symm
      refine r_cond_t rfl ?_
      refine r_region ?_
      refine OL.q (Q1.move rfl) rfl rfl ?_
      refine OL.q (Q1.move rfl) rfl rfl ?_
      refine OL.q (Q1.nilCheckP rfl) rfl rfl ?_
      refine OL.q (Q1.fieldAddr fl66_0 rfl) rfl rfl ?_
      refine OL.q (Q1.fieldAddr fl30_0 rfl) rfl rfl ?_
      have f1 := hS4.bk (i := 0) rfl
      refine OL.q (Q1.load1 ti27 rfl (fun _ e => e ▸ (f1.cell 0 _ rfl))) rfl rfl ?_
      refine OL.q (Q1.move rfl) rfl rfl ?_
      refine OL.act rfl rfl (AW.buildSlice [strV (((unqM x1).getD []))] Tryd.underlying27 ti9 rfl rfl rfl (by decide) ?_)
      intro w2 b4 hm2 hb3 hz1 hk1
      have hS5 := hS4.ext hm2
      have hl2 := Sl.of_blk (enc := encS) hk1 ([((unqM x1).getD [])] : List Str) 1 rfl rfl (by unfold maxLen; omega)
      have hS6 : St (fun _ => False) F w0 w2 [bkR b [va1, vb1, .int .i64 st.cfg.workers, .int .i64 st.cfg.copies, .int .i64 st.cfg.slots, .int .i64 st.cfg.batch, .int .i64 st.cfg.lease, .int .i64 st.cfg.hedge, .int .i64 st.cfg.first, .int .i64 st.cfg.cap, .int .i64 st.cfg.jitter, .int .i64 st.cfg.net, vc1] 66, accR encS 9 1 va1 st.cfg.words, accR encKey 72 2 vb1 st.cfg.cuts, accR encEvt 50 7 vc1 st.es, slR encS [((.slice (some ⟨b4, 0, none⟩) 1 1), [((unqM x1).getD [])])]] := hS4.newSlB hm2 hb3 hz1 hl2
      obtain ⟨g2, f2, hl3, k1⟩ := hS6.accK (i := 1) rfl
      have f3 := hS6.sl (i := 4) (k := 0) rfl rfl
      refine OL.act rfl rfl (AW.append f2 Tryd.underlying27 ti9 rfl encS_len encS_one rfl rfl (f3) (by first | omega | (simp only [List.length_append, List.length_cons, List.length_nil]; omega) | (simp; omega)) (by unfold maxLen; first | omega | (simp only [List.length_append, List.length_cons, List.length_nil]; omega) | (simp; omega)) ?_)
      intro v1 g1 w3 ha1 hm3 hg1 hz2
      have hS7 : St (fun _ => False) F w0 w3 [bkR b [va1, vb1, .int .i64 st.cfg.workers, .int .i64 st.cfg.copies, .int .i64 st.cfg.slots, .int .i64 st.cfg.batch, .int .i64 st.cfg.lease, .int .i64 st.cfg.hedge, .int .i64 st.cfg.first, .int .i64 st.cfg.cap, .int .i64 st.cfg.jitter, .int .i64 st.cfg.net, vc1] 66, accR encS 9 1 v1 ((st.cfg.words ++ [((unqM x1).getD [])])), accR encKey 72 2 vb1 st.cfg.cuts, accR encEvt 50 7 vc1 st.es, slR encS [((.slice (some ⟨b4, 0, none⟩) 1 1), [((unqM x1).getD [])])]] := k1 _ _ _ _ hm3 ha1 hg1
      clear hg1
      refine OL.q (Q1.nilCheckP rfl) rfl rfl ?_
      refine OL.q (Q1.fieldAddr fl66_0 rfl) rfl rfl ?_
      refine OL.q (Q1.fieldAddr fl30_0 rfl) rfl rfl ?_
      obtain ⟨g3, f4, hl4, k2⟩ := hS7.accK (i := 1) rfl
      obtain ⟨ad1, cp1, hv1⟩ := f4.shape
      subst hv1
      have f5 := hS7.bk (i := 0) rfl
      refine OL.act rfl rfl (AW.store ti27 rfl rfl rfl rfl rfl f5 (Nat.le_of_ble_eq_true rfl) ?_)
      intro w4 hm4 hz3 hk2
      have hS8 : St (fun _ => False) F w0 w4 [bkR b [(.slice ad1 ((st.cfg.words ++ [((unqM x1).getD [])])).length cp1), vb1, .int .i64 st.cfg.workers, .int .i64 st.cfg.copies, .int .i64 st.cfg.slots, .int .i64 st.cfg.batch, .int .i64 st.cfg.lease, .int .i64 st.cfg.hedge, .int .i64 st.cfg.first, .int .i64 st.cfg.cap, .int .i64 st.cfg.jitter, .int .i64 st.cfg.net, vc1] 66, accR encS 9 1 ((.slice ad1 ((st.cfg.words ++ [((unqM x1).getD [])])).length cp1)) ((st.cfg.words ++ [((unqM x1).getD [])])), accR encKey 72 2 vb1 st.cfg.cuts, accR encEvt 50 7 vc1 st.es, slR encS [((.slice (some ⟨b4, 0, none⟩) 1 1), [((unqM x1).getD [])])]] := hS7.bkK (i := 0) rfl hm4 hk2
      refine OL.nil ?_
      refine r_seq ?_
      refine r_region ?_
      refine OL.q (Q1.move rfl) rfl rfl ?_
      refine OL.q (Q1.assign rfl) rfl rfl ?_
      refine OL.nil ?_
      refine r_ret1 Tryd.func45 rfl rfl ?_
      have hS9 : St (fun _ => False) F w0 w4 [slR encS [((.slice (some ⟨b4, 0, none⟩) 1 1), [((unqM x1).getD [])])], bkR b [(.slice ad1 ((st.cfg.words ++ [((unqM x1).getD [])])).length cp1), vb1, .int .i64 st.cfg.workers, .int .i64 st.cfg.copies, .int .i64 st.cfg.slots, .int .i64 st.cfg.batch, .int .i64 st.cfg.lease, .int .i64 st.cfg.hedge, .int .i64 st.cfg.first, .int .i64 st.cfg.cap, .int .i64 st.cfg.jitter, .int .i64 st.cfg.net, vc1] 66, accR encS 9 1 ((.slice ad1 ((st.cfg.words ++ [((unqM x1).getD [])])).length cp1)) ((st.cfg.words ++ [((unqM x1).getD [])])), accR encKey 72 2 vb1 st.cfg.cuts, accR encEvt 50 7 vc1 st.es] := hS8.sel [4, 0, 1, 2, 3] (by rfl) (by decide)
      have hS10 : St (fun _ => False) F w0 w4 [slR encS [((.slice (some ⟨b4, 0, none⟩) 1 1), [((unqM x1).getD [])])], boxR [bkR b [(.slice ad1 ((st.cfg.words ++ [((unqM x1).getD [])])).length cp1), vb1, .int .i64 st.cfg.workers, .int .i64 st.cfg.copies, .int .i64 st.cfg.slots, .int .i64 st.cfg.batch, .int .i64 st.cfg.lease, .int .i64 st.cfg.hedge, .int .i64 st.cfg.first, .int .i64 st.cfg.cap, .int .i64 st.cfg.jitter, .int .i64 st.cfg.net, vc1] 66, accR encS 9 1 ((.slice ad1 ((st.cfg.words ++ [((unqM x1).getD [])])).length cp1)) ((st.cfg.words ++ [((unqM x1).getD [])])), accR encKey 72 2 vb1 st.cfg.cuts, accR encEvt 50 7 vc1 st.es]] := St.close (L1 := [slR encS [((.slice (some ⟨b4, 0, none⟩) 1 1), [((unqM x1).getD [])])]]) hS9
      have hS11 : St (fun _ => False) F w0 w4 [slR encS [((.slice (some ⟨b4, 0, none⟩) 1 1), [((unqM x1).getD [])])], scR 66 9 72 50 b ((RdS.mk (Cfg.mk ((st.cfg.words ++ [((unqM x1).getD [])])) st.cfg.cuts st.cfg.workers st.cfg.copies st.cfg.slots st.cfg.batch st.cfg.lease st.cfg.hedge st.cfg.first st.cfg.cap st.cfg.jitter st.cfg.net) st.es))] := hS10.exi (A := (fun v : Value × Value × Value => boxR [bkR b [v.1, v.2.1, .int .i64 st.cfg.workers, .int .i64 st.cfg.copies, .int .i64 st.cfg.slots, .int .i64 st.cfg.batch, .int .i64 st.cfg.lease, .int .i64 st.cfg.hedge, .int .i64 st.cfg.first, .int .i64 st.cfg.cap, .int .i64 st.cfg.jitter, .int .i64 st.cfg.net, v.2.2] 66, accR encS 9 1 v.1 ((st.cfg.words ++ [((unqM x1).getD [])])), accR encKey 72 2 v.2.1 st.cfg.cuts, accR encEvt 50 7 v.2.2 st.es])) ((.slice ad1 ((st.cfg.words ++ [((unqM x1).getD [])])).length cp1), vb1, vc1) (i := 1) rfl
      have hmm : doWord st l = some (RdS.mk (Cfg.mk ((st.cfg.words ++ [((unqM x1).getD [])])) st.cfg.cuts st.cfg.workers st.cfg.copies st.cfg.slots st.cfg.batch st.cfg.lease st.cfg.hedge st.cfg.first st.cfg.cap st.cfg.jitter st.cfg.net) st.es) := by first | exact wd_no (by omega) | exact wd_bad (by omega) hx1 (by first | assumption | (symm; assumption)) | exact wd_yes (by omega) hx1 (by first | assumption | (symm; assumption)) | (exfalso; omega)
      have hS12 : St (fun _ => False) F w0 w4 [scR 66 9 72 50 b ((RdS.mk (Cfg.mk ((st.cfg.words ++ [((unqM x1).getD [])])) st.cfg.cuts st.cfg.workers st.cfg.copies st.cfg.slots st.cfg.batch st.cfg.lease st.cfg.hedge st.cfg.first st.cfg.cap st.cfg.jitter st.cfg.net) st.es))] := hS11.sel [1] (by rfl) (by decide)
      obtain ⟨hmF, F2r, hAr, hFr⟩ := hS12.fin
      rw [hmm]
      exact Ret.mk ⟨_, rfl, rfl, hmF, F2r, hAr, hFr⟩
    | false =>
      replace hb2 := hb2.symm
      refine r_cond_f rfl ?_
      refine r_skip ?_
      refine r_seq ?_
      refine r_region ?_
      refine OL.q (Q1.move rfl) rfl rfl ?_
      refine OL.q (Q1.assign rfl) rfl rfl ?_
      refine OL.nil ?_
      refine r_ret1 Tryd.func45 rfl rfl ?_
      have hS5 : St (fun _ => False) F w0 w1 [boxR [bkR b [va1, vb1, .int .i64 st.cfg.workers, .int .i64 st.cfg.copies, .int .i64 st.cfg.slots, .int .i64 st.cfg.batch, .int .i64 st.cfg.lease, .int .i64 st.cfg.hedge, .int .i64 st.cfg.first, .int .i64 st.cfg.cap, .int .i64 st.cfg.jitter, .int .i64 st.cfg.net, vc1] 66, accR encS 9 1 va1 st.cfg.words, accR encKey 72 2 vb1 st.cfg.cuts, accR encEvt 50 7 vc1 st.es]] := St.close (L1 := []) hS4
      have hS6 : St (fun _ => False) F w0 w1 [scR 66 9 72 50 b ((RdS.mk (Cfg.mk st.cfg.words st.cfg.cuts st.cfg.workers st.cfg.copies st.cfg.slots st.cfg.batch st.cfg.lease st.cfg.hedge st.cfg.first st.cfg.cap st.cfg.jitter st.cfg.net) st.es))] := hS5.exi (A := (fun v : Value × Value × Value => boxR [bkR b [v.1, v.2.1, .int .i64 st.cfg.workers, .int .i64 st.cfg.copies, .int .i64 st.cfg.slots, .int .i64 st.cfg.batch, .int .i64 st.cfg.lease, .int .i64 st.cfg.hedge, .int .i64 st.cfg.first, .int .i64 st.cfg.cap, .int .i64 st.cfg.jitter, .int .i64 st.cfg.net, v.2.2] 66, accR encS 9 1 v.1 st.cfg.words, accR encKey 72 2 v.2.1 st.cfg.cuts, accR encEvt 50 7 v.2.2 st.es])) (va1, vb1, vc1) (i := 0) rfl
      have hmm : doWord st l = none := by first | exact wd_no (by omega) | exact wd_bad (by omega) hx1 (by first | assumption | (symm; assumption)) | exact wd_yes (by omega) hx1 (by first | assumption | (symm; assumption)) | (exfalso; omega)
      obtain ⟨hmF, F2r, hAr, hFr⟩ := hS6.fin
      rw [hmm]
      exact Ret.mk ⟨_, rfl, rfl, hmF, F2r, hAr, hFr⟩
set_option maxRecDepth 20000 in
set_option maxHeartbeats 4000000 in
theorem rcut_c {w0 : World} {F : Nat → Prop} {b : Nat} {st : RdS} (hA : (scR (R := fun _ => False) 66 9 72 50 b st).p F w0) (hF : ∀ b, F b → b < w0.heap.size) (hG : GS w0) (hFg : ∀ b, b = gB ∨ b = gS ∨ b = gR → ¬ F b) (hB : RdB st 100000) {v_l : Value} {l : List Str} {G : Nat → Prop} (hl_ : Sl encS w0 G v_l l) (hFG : ∀ x, G x → ¬ F x) (hGl : ∀ x, G x → x < w0.heap.size) (hll : ∀ x ∈ l, x.length ≤ 100000) (hln : l.length ≤ 100000) :
    Calls Tryd.prog 46 #[ptr b 0, v_l] w0 (Ret fun rv w1 => ∃ rb, rb = (doCut st l).isSome ∧ rv = .bool rb ∧ Mod F w0 w1 ∧ ∃ F2, (scR (R := fun _ => False) 66 9 72 50 b ((doCut st l).getD st)).p F2 w1 ∧ ∀ b, F2 b → b < w1.heap.size ∧ (F b ∨ w0.heap.size ≤ b)) := by
  have hS00 := St.start1 (R := fun _ => False) hA (fun b hb => ⟨hF b hb, id⟩) (fun _ h => h.elim)
  obtain ⟨hB1, hB2, hB3⟩ := hB
  have hS1 : St (fun _ => False) F w0 w0 [scR 66 9 72 50 b st] := hS00
  obtain ⟨⟨va1, vb1, vc1⟩, hS2⟩ := hS1.exo (i := 0) rfl
  change St (fun _ => False) F w0 w0 [boxR [bkR b [va1, vb1, .int .i64 st.cfg.workers, .int .i64 st.cfg.copies, .int .i64 st.cfg.slots, .int .i64 st.cfg.batch, .int .i64 st.cfg.lease, .int .i64 st.cfg.hedge, .int .i64 st.cfg.first, .int .i64 st.cfg.cap, .int .i64 st.cfg.jitter, .int .i64 st.cfg.net, vc1] 66, accR encS 9 1 va1 st.cfg.words, accR encKey 72 2 vb1 st.cfg.cuts, accR encEvt 50 7 vc1 st.es]] at hS2
  have hS3 : St (fun _ => False) F w0 w0 [bkR b [va1, vb1, .int .i64 st.cfg.workers, .int .i64 st.cfg.copies, .int .i64 st.cfg.slots, .int .i64 st.cfg.batch, .int .i64 st.cfg.lease, .int .i64 st.cfg.hedge, .int .i64 st.cfg.first, .int .i64 st.cfg.cap, .int .i64 st.cfg.jitter, .int .i64 st.cfg.net, vc1] 66, accR encS 9 1 va1 st.cfg.words, accR encKey 72 2 vb1 st.cfg.cuts, accR encEvt 50 7 vc1 st.es] := St.open (L1 := []) hS2
  have hle_l := hl_.le
  refine calls_enter Tryd.func46 rfl Tryd.ntmps46 rfl ?_
  refine r_seq ?_
  refine r_region ?_
  refine OL.q (Q1.assign rfl) rfl rfl ?_
  refine OL.nil ?_
  refine r_seq ?_
  refine r_seq ?_
  refine r_region ?_
  refine OL.q (Q1.move rfl) rfl rfl ?_
  refine OL.q (Q1.lenSl Tryd.underlying27 (hl_) rfl) rfl rfl ?_
  refine OL.qb (Q1.ne rfl rfl) rfl rfl ?_
  intro b1 hb1
  refine OL.nil ?_
  cases b1 with
  | true =>
    replace hb1 := bne_iff_ne.1 hb1.symm
    refine r_cond_t rfl ?_
    refine r_seq ?_
    refine r_region ?_
    refine OL.q (Q1.assign rfl) rfl rfl ?_
    refine OL.nil ?_
    refine r_ret1 Tryd.func46 rfl rfl ?_
    have hS4 : St (fun _ => False) F w0 w0 [boxR [bkR b [va1, vb1, .int .i64 st.cfg.workers, .int .i64 st.cfg.copies, .int .i64 st.cfg.slots, .int .i64 st.cfg.batch, .int .i64 st.cfg.lease, .int .i64 st.cfg.hedge, .int .i64 st.cfg.first, .int .i64 st.cfg.cap, .int .i64 st.cfg.jitter, .int .i64 st.cfg.net, vc1] 66, accR encS 9 1 va1 st.cfg.words, accR encKey 72 2 vb1 st.cfg.cuts, accR encEvt 50 7 vc1 st.es]] := St.close (L1 := []) hS3
    have hS5 : St (fun _ => False) F w0 w0 [scR 66 9 72 50 b ((RdS.mk (Cfg.mk st.cfg.words st.cfg.cuts st.cfg.workers st.cfg.copies st.cfg.slots st.cfg.batch st.cfg.lease st.cfg.hedge st.cfg.first st.cfg.cap st.cfg.jitter st.cfg.net) st.es))] := hS4.exi (A := (fun v : Value × Value × Value => boxR [bkR b [v.1, v.2.1, .int .i64 st.cfg.workers, .int .i64 st.cfg.copies, .int .i64 st.cfg.slots, .int .i64 st.cfg.batch, .int .i64 st.cfg.lease, .int .i64 st.cfg.hedge, .int .i64 st.cfg.first, .int .i64 st.cfg.cap, .int .i64 st.cfg.jitter, .int .i64 st.cfg.net, v.2.2] 66, accR encS 9 1 v.1 st.cfg.words, accR encKey 72 2 v.2.1 st.cfg.cuts, accR encEvt 50 7 v.2.2 st.es])) (va1, vb1, vc1) (i := 0) rfl
    have hmm : doCut st l = none := by first | exact ct_no (by omega) | exact ct_bad (by omega) hx1 (by first | (left; first | assumption | (symm; assumption)) | (right; first | assumption | (symm; assumption))) | exact ct_yes (by omega) hx1 (by first | assumption | (symm; assumption)) (by first | assumption | (symm; assumption)) hx2 | (exfalso; omega)
    obtain ⟨hmF, F2r, hAr, hFr⟩ := hS5.fin
    rw [hmm]
    exact Ret.mk ⟨_, rfl, rfl, hmF, F2r, hAr, hFr⟩
  | false =>
    replace hb1 := bne_eq_false_iff_eq.1 hb1.symm
    refine r_cond_f rfl ?_
    refine r_skip ?_
    refine r_seq ?_
    refine r_region ?_
    refine OL.q (Q1.move rfl) rfl rfl ?_
    obtain ⟨v1, hr1, hl1⟩ := Sl.part (P := Tryd.prog) hl_ Tryd.underlying27 ti9 encS_len (0) (1) (.inl ⟨rfl, rfl⟩) (.inr ⟨.i64, 1, rfl, by omega⟩) (by omega) (by first | assumption | omega)
    replace hl1 : Sl encS w0 G v1 (l.take 1) := by simpa using hl1
    refine OL.q (Q1.sliceV rfl rfl rfl rfl hr1) rfl rfl ?_
    refine OL.act rfl rfl (AW.callF cl57 rfl (numbers_c (w0 := w0) (l := (l.take 1))  (hl1.mono (fun x hx => ⟨Nat.zero_le _, Nat.lt_of_lt_of_le (hGl x hx) hS3.mod.size⟩)) (by exact hG.keep hgp (hS3.mod) hFg) (by first | assumption | exact fun x hx => hll x (List.mem_of_mem_drop hx) | exact fun x hx => hll x (List.mem_of_mem_take hx)) (by first | assumption | omega | (simp; omega))) ?_)
    rintro _ w1 ⟨v2, _, rfl, ⟨gr1, h1, hg1⟩, ⟨b2, hb2, rfl⟩, hm1⟩
    have hS4 := hS3.ext hm1
    have hS5 : St (fun _ => False) F w0 w1 [bkR b [va1, vb1, .int .i64 st.cfg.workers, .int .i64 st.cfg.copies, .int .i64 st.cfg.slots, .int .i64 st.cfg.batch, .int .i64 st.cfg.lease, .int .i64 st.cfg.hedge, .int .i64 st.cfg.first, .int .i64 st.cfg.cap, .int .i64 st.cfg.jitter, .int .i64 st.cfg.net, vc1] 66, accR encS 9 1 va1 st.cfg.words, accR encKey 72 2 vb1 st.cfg.cuts, accR encEvt 50 7 vc1 st.es, accR Ik.encI 3 1 v2 (((numsM ((l.take 1))).getD []))] := hS3.newAcc hm1 h1 hg1
    clear hg1
    have hle_1 := h1.le
    refine OL.q (Q1.move rfl) rfl rfl ?_
    refine OL.q (Q1.extract rfl rfl) rfl rfl ?_
    refine OL.q (Q1.extract rfl rfl) rfl rfl ?_
    refine OL.q (Q1.assign rfl) rfl rfl ?_
    refine OL.q (Q1.assign rfl) rfl rfl ?_
    refine OL.nil ?_
    refine r_seq ?_
    refine r_region ?_
    refine OL.q (Q1.move rfl) rfl rfl ?_
    have f1 := hS5.out hl_ hFG
    obtain ⟨x1, b3, o1, hx1, hr2, hl2, hw1⟩ := Sl.atF (P := Tryd.prog) f1 Tryd.underlying27 ti9 encS_len (k := .i64) (n := 1) (1) (by omega) (by first | assumption | omega)
    refine OL.q (Q1.indexAddr rfl rfl hr2) rfl rfl ?_
    refine OL.q (Q1.load1 ti9 rfl (fun _ e => e ▸ hw1)) rfl rfl ?_
    refine OL.act rfl rfl (AW.callF cl10 rfl (unquote_c (w0 := w1)  x1 (by exact Nat.le_trans (hll _ (List.mem_of_getElem? (by assumption))) (by decide))) ?_)
    rintro _ w2 ⟨_, _, rfl, rfl, ⟨b4, hb3, rfl⟩, hm2⟩
    have hS6 := hS5.ext hm2
    have := unqM_len x1
    refine OL.q (Q1.move rfl) rfl rfl ?_
    refine OL.q (Q1.extract rfl rfl) rfl rfl ?_
    refine OL.q (Q1.extract rfl rfl) rfl rfl ?_
    refine OL.q (Q1.assign rfl) rfl rfl ?_
    refine OL.q (Q1.assign rfl) rfl rfl ?_
    refine OL.nil ?_
    refine r_seq ?_
    refine r_seq ?_
    refine r_region ?_
    refine OL.q (Q1.move rfl) rfl rfl ?_
    refine OL.q (Q1.move rfl) rfl rfl ?_
    cases b2 with
    | true =>
      replace hb2 := hb2.symm
      refine OL.q (Q1.move rfl) rfl rfl ?_
      refine OL.q (Q1.pick_t rfl rfl) rfl rfl ?_
      refine OL.nil ?_
      cases b4 with
      | true =>
        replace hb3 := hb3.symm
        refine r_cond_t rfl ?_
        obtain ⟨hnq, hnl, hnr⟩ := nums_getD (by first | assumption | (symm; assumption))
        try rw [List.length_take] at hnl
        obtain ⟨g1, f2, hl3, k1⟩ := hS6.accK (i := 4) rfl
        obtain ⟨x2, b5, o2, hx2, hr3, hl4, hw2⟩ := Sl.atF (P := Tryd.prog) f2.sl Tryd.underlying82 ti3 Ik.encI_len (k := .i64) (n := 0) (0) (by omega) (by first | assumption | omega)
        refine r_draw1 (fun i => Nat.beq i 11 || Nat.beq i 12 || Nat.beq i 16) 16 (fun w' => Bk w' b [va1, vb1, .int .i64 st.cfg.workers, .int .i64 st.cfg.copies, .int .i64 st.cfg.slots, .int .i64 st.cfg.batch, .int .i64 st.cfg.lease, .int .i64 st.cfg.hedge, .int .i64 st.cfg.first, .int .i64 st.cfg.cap, .int .i64 st.cfg.jitter, .int .i64 st.cfg.net, vc1] 66 ∧ Row w' b5 o2 (Ik.encI x2)) mixed (by kernel_rfl) ?_
        intro w3 hm3
        have hS7 := hS6.ext hm3
        have f3 := hS7.bk (i := 0) rfl
        obtain ⟨g2, f4, hl5, k2⟩ := hS7.accK (i := 4) rfl
        refine ⟨⟨f3, (Sl.rowAt f4.sl Tryd.underlying82 ti3 Ik.encI_len 0 (by omega) hx2 hr3)⟩, ?_⟩
        rw [show List.range' 0 (Array.size _) = [0, 1, 2, 3, 4, 5, 6, 7, 8, 9, 10, 11, 12, 13, 14, 15, 16] from rfl]
        refine OD.q rfl rfl (Q1.move rfl) rfl rfl ?_
        refine OD.q rfl rfl (Q1.move rfl) rfl rfl ?_
        refine OD.q rfl rfl (Q1.nilCheckP rfl) rfl rfl ?_
        refine OD.q rfl rfl (Q1.fieldAddr fl66_0 rfl) rfl rfl ?_
        refine OD.q rfl rfl (Q1.fieldAddr fl30_1 rfl) rfl rfl ?_
        have f5 := hS6.bk (i := 0) rfl
        refine OD.q rfl rfl (Q1.load1 ti28 rfl (fun _ hc => (hc.1.cell 1 _ rfl))) rfl rfl ?_
        refine OD.q rfl rfl (Q1.move rfl) rfl rfl ?_
        refine OD.q rfl rfl (Q1.indexAddr rfl rfl hr3) rfl rfl ?_
        refine OD.q rfl rfl (Q1.load1 ti3 rfl (fun _ hc => hc.2)) rfl rfl ?_
        refine OD.q rfl rfl (Q1.move rfl) rfl rfl ?_
        refine OD.q rfl rfl (Q1.build (vs := #[(0, (.int .i64 x2 : Value)), (1, strV (((unqM x1).getD [])))]) (v := .agg #[.int .i64 x2, strV (((unqM x1).getD []))]) rfl (fun _ => by kernel_rfl)) rfl rfl ?_
        refine OD.act rfl rfl rfl rfl (AW.buildSlice [(.agg #[.int .i64 x2, strV (((unqM x1).getD []))] : Value)] Tryd.underlying28 ti72 rfl rfl rfl (by decide) ?_)
        intro w4 b6 hm4 hb4 hz1 hk1
        have hS8 := hS7.ext hm4
        have hl6 := Sl.of_blk (enc := encKey) hk1 ([(Key.mk x2 (((unqM x1).getD [])))] : List Key) 1 rfl rfl (by unfold maxLen; omega)
        have hS9 : St (fun _ => False) F w0 w4 [bkR b [va1, vb1, .int .i64 st.cfg.workers, .int .i64 st.cfg.copies, .int .i64 st.cfg.slots, .int .i64 st.cfg.batch, .int .i64 st.cfg.lease, .int .i64 st.cfg.hedge, .int .i64 st.cfg.first, .int .i64 st.cfg.cap, .int .i64 st.cfg.jitter, .int .i64 st.cfg.net, vc1] 66, accR encS 9 1 va1 st.cfg.words, accR encKey 72 2 vb1 st.cfg.cuts, accR encEvt 50 7 vc1 st.es, accR Ik.encI 3 1 v2 (((numsM ((l.take 1))).getD [])), slR encKey [((.slice (some ⟨b6, 0, none⟩) 1 1), [(Key.mk x2 (((unqM x1).getD [])))])]] := hS7.newSlB hm4 hb4 hz1 hl6
        have f6 := hS9.bk (i := 0) rfl
        obtain ⟨g3, f7, hl7, k3⟩ := hS9.accK (i := 4) rfl
        refine ⟨.inr ⟨f6, (Sl.rowAt f7.sl Tryd.underlying82 ti3 Ik.encI_len 0 (by omega) hx2 hr3)⟩, ?_⟩
        obtain ⟨g5, f8, hl8, k4⟩ := hS9.accK (i := 2) rfl
        have f9 := hS9.sl (i := 5) (k := 0) rfl rfl
        refine OD.act rfl rfl rfl rfl (AW.append f8 Tryd.underlying28 ti72 rfl encKey_len encKey_one rfl rfl (f9) (by first | omega | (simp only [List.length_append, List.length_cons, List.length_nil]; omega) | (simp; omega)) (by unfold maxLen; first | omega | (simp only [List.length_append, List.length_cons, List.length_nil]; omega) | (simp; omega)) ?_)
        intro v3 g4 w5 ha1 hm5 hg2 hz2
        have hS10 : St (fun _ => False) F w0 w5 [bkR b [va1, vb1, .int .i64 st.cfg.workers, .int .i64 st.cfg.copies, .int .i64 st.cfg.slots, .int .i64 st.cfg.batch, .int .i64 st.cfg.lease, .int .i64 st.cfg.hedge, .int .i64 st.cfg.first, .int .i64 st.cfg.cap, .int .i64 st.cfg.jitter, .int .i64 st.cfg.net, vc1] 66, accR encS 9 1 va1 st.cfg.words, accR encKey 72 2 v3 ((st.cfg.cuts ++ [(Key.mk x2 (((unqM x1).getD [])))])), accR encEvt 50 7 vc1 st.es, accR Ik.encI 3 1 v2 (((numsM ((l.take 1))).getD [])), slR encKey [((.slice (some ⟨b6, 0, none⟩) 1 1), [(Key.mk x2 (((unqM x1).getD [])))])]] := k4 _ _ _ _ hm5 ha1 hg2
        have f10 := hS10.bk (i := 0) rfl
        obtain ⟨g6, f11, hl9, k5⟩ := hS10.accK (i := 4) rfl
        refine ⟨.inr ⟨f10, (Sl.rowAt f11.sl Tryd.underlying82 ti3 Ik.encI_len 0 (by omega) hx2 hr3)⟩, ?_⟩
        clear hg2
        refine OD.q rfl rfl (Q1.nilCheckP rfl) rfl rfl ?_
        refine OD.q rfl rfl (Q1.fieldAddr fl66_0 rfl) rfl rfl ?_
        refine OD.q rfl rfl (Q1.fieldAddr fl30_1 rfl) rfl rfl ?_
        obtain ⟨g7, f12, hl10, k6⟩ := hS10.accK (i := 2) rfl
        obtain ⟨ad1, cp1, hv1⟩ := f12.shape
        subst hv1
        refine OD.act rfl rfl rfl rfl (AW.store ti28 rfl rfl rfl rfl rfl f10 (Nat.le_of_ble_eq_true rfl) ?_)
        intro w6 hm6 hz3 hk2
        have hS11 : St (fun _ => False) F w0 w6 [bkR b [va1, (.slice ad1 ((st.cfg.cuts ++ [(Key.mk x2 (((unqM x1).getD [])))])).length cp1), .int .i64 st.cfg.workers, .int .i64 st.cfg.copies, .int .i64 st.cfg.slots, .int .i64 st.cfg.batch, .int .i64 st.cfg.lease, .int .i64 st.cfg.hedge, .int .i64 st.cfg.first, .int .i64 st.cfg.cap, .int .i64 st.cfg.jitter, .int .i64 st.cfg.net, vc1] 66, accR encS 9 1 va1 st.cfg.words, accR encKey 72 2 ((.slice ad1 ((st.cfg.cuts ++ [(Key.mk x2 (((unqM x1).getD [])))])).length cp1)) ((st.cfg.cuts ++ [(Key.mk x2 (((unqM x1).getD [])))])), accR encEvt 50 7 vc1 st.es, accR Ik.encI 3 1 v2 (((numsM ((l.take 1))).getD [])), slR encKey [((.slice (some ⟨b6, 0, none⟩) 1 1), [(Key.mk x2 (((unqM x1).getD [])))])]] := hS10.bkK (i := 0) rfl hm6 hk2
        refine ⟨.inl rfl, ?_⟩
        refine OD.nil ?_
        refine r_seq ?_
        refine r_region ?_
        refine OL.q (Q1.move rfl) rfl rfl ?_
        refine OL.q (Q1.move rfl) rfl rfl ?_
        refine OL.q (Q1.move rfl) rfl rfl ?_
        refine OL.q (Q1.pick_t rfl rfl) rfl rfl ?_
        refine OL.q (Q1.assign rfl) rfl rfl ?_
        refine OL.nil ?_
        refine r_ret1 Tryd.func46 rfl rfl ?_
        have hS12 : St (fun _ => False) F w0 w6 [accR Ik.encI 3 1 v2 (((numsM ((l.take 1))).getD [])), slR encKey [((.slice (some ⟨b6, 0, none⟩) 1 1), [(Key.mk x2 (((unqM x1).getD [])))])], bkR b [va1, (.slice ad1 ((st.cfg.cuts ++ [(Key.mk x2 (((unqM x1).getD [])))])).length cp1), .int .i64 st.cfg.workers, .int .i64 st.cfg.copies, .int .i64 st.cfg.slots, .int .i64 st.cfg.batch, .int .i64 st.cfg.lease, .int .i64 st.cfg.hedge, .int .i64 st.cfg.first, .int .i64 st.cfg.cap, .int .i64 st.cfg.jitter, .int .i64 st.cfg.net, vc1] 66, accR encS 9 1 va1 st.cfg.words, accR encKey 72 2 ((.slice ad1 ((st.cfg.cuts ++ [(Key.mk x2 (((unqM x1).getD [])))])).length cp1)) ((st.cfg.cuts ++ [(Key.mk x2 (((unqM x1).getD [])))])), accR encEvt 50 7 vc1 st.es] := hS11.sel [4, 5, 0, 1, 2, 3] (by rfl) (by decide)
        have hS13 : St (fun _ => False) F w0 w6 [accR Ik.encI 3 1 v2 (((numsM ((l.take 1))).getD [])), slR encKey [((.slice (some ⟨b6, 0, none⟩) 1 1), [(Key.mk x2 (((unqM x1).getD [])))])], boxR [bkR b [va1, (.slice ad1 ((st.cfg.cuts ++ [(Key.mk x2 (((unqM x1).getD [])))])).length cp1), .int .i64 st.cfg.workers, .int .i64 st.cfg.copies, .int .i64 st.cfg.slots, .int .i64 st.cfg.batch, .int .i64 st.cfg.lease, .int .i64 st.cfg.hedge, .int .i64 st.cfg.first, .int .i64 st.cfg.cap, .int .i64 st.cfg.jitter, .int .i64 st.cfg.net, vc1] 66, accR encS 9 1 va1 st.cfg.words, accR encKey 72 2 ((.slice ad1 ((st.cfg.cuts ++ [(Key.mk x2 (((unqM x1).getD [])))])).length cp1)) ((st.cfg.cuts ++ [(Key.mk x2 (((unqM x1).getD [])))])), accR encEvt 50 7 vc1 st.es]] := St.close (L1 := [accR Ik.encI 3 1 v2 (((numsM ((l.take 1))).getD [])), slR encKey [((.slice (some ⟨b6, 0, none⟩) 1 1), [(Key.mk x2 (((unqM x1).getD [])))])]]) hS12
        have hS14 : St (fun _ => False) F w0 w6 [accR Ik.encI 3 1 v2 (((numsM ((l.take 1))).getD [])), slR encKey [((.slice (some ⟨b6, 0, none⟩) 1 1), [(Key.mk x2 (((unqM x1).getD [])))])], scR 66 9 72 50 b ((RdS.mk (Cfg.mk st.cfg.words ((st.cfg.cuts ++ [(Key.mk x2 (((unqM x1).getD [])))])) st.cfg.workers st.cfg.copies st.cfg.slots st.cfg.batch st.cfg.lease st.cfg.hedge st.cfg.first st.cfg.cap st.cfg.jitter st.cfg.net) st.es))] := hS13.exi (A := (fun v : Value × Value × Value => boxR [bkR b [v.1, v.2.1, .int .i64 st.cfg.workers, .int .i64 st.cfg.copies, .int .i64 st.cfg.slots, .int .i64 st.cfg.batch, .int .i64 st.cfg.lease, .int .i64 st.cfg.hedge, .int .i64 st.cfg.first, .int .i64 st.cfg.cap, .int .i64 st.cfg.jitter, .int .i64 st.cfg.net, v.2.2] 66, accR encS 9 1 v.1 st.cfg.words, accR encKey 72 2 v.2.1 ((st.cfg.cuts ++ [(Key.mk x2 (((unqM x1).getD [])))])), accR encEvt 50 7 v.2.2 st.es])) (va1, (.slice ad1 ((st.cfg.cuts ++ [(Key.mk x2 (((unqM x1).getD [])))])).length cp1), vc1) (i := 2) rfl
        have hmm : doCut st l = some (RdS.mk (Cfg.mk st.cfg.words ((st.cfg.cuts ++ [(Key.mk x2 (((unqM x1).getD [])))])) st.cfg.workers st.cfg.copies st.cfg.slots st.cfg.batch st.cfg.lease st.cfg.hedge st.cfg.first st.cfg.cap st.cfg.jitter st.cfg.net) st.es) := by first | exact ct_no (by omega) | exact ct_bad (by omega) hx1 (by first | (left; first | assumption | (symm; assumption)) | (right; first | assumption | (symm; assumption))) | exact ct_yes (by omega) hx1 (by first | assumption | (symm; assumption)) (by first | assumption | (symm; assumption)) hx2 | (exfalso; omega)
        have hS15 : St (fun _ => False) F w0 w6 [scR 66 9 72 50 b ((RdS.mk (Cfg.mk st.cfg.words ((st.cfg.cuts ++ [(Key.mk x2 (((unqM x1).getD [])))])) st.cfg.workers st.cfg.copies st.cfg.slots st.cfg.batch st.cfg.lease st.cfg.hedge st.cfg.first st.cfg.cap st.cfg.jitter st.cfg.net) st.es))] := hS14.sel [2] (by rfl) (by decide)
        obtain ⟨hmF, F2r, hAr, hFr⟩ := hS15.fin
        rw [hmm]
        exact Ret.mk ⟨_, rfl, rfl, hmF, F2r, hAr, hFr⟩
      | false =>
        replace hb3 := hb3.symm
        refine r_cond_f rfl ?_
        refine r_skip ?_
        refine r_seq ?_
        refine r_region ?_
        refine OL.q (Q1.move rfl) rfl rfl ?_
        refine OL.q (Q1.move rfl) rfl rfl ?_
        refine OL.q (Q1.move rfl) rfl rfl ?_
        refine OL.q (Q1.pick_t rfl rfl) rfl rfl ?_
        refine OL.q (Q1.assign rfl) rfl rfl ?_
        refine OL.nil ?_
        refine r_ret1 Tryd.func46 rfl rfl ?_
        have hS7 : St (fun _ => False) F w0 w2 [accR Ik.encI 3 1 v2 (((numsM ((l.take 1))).getD [])), bkR b [va1, vb1, .int .i64 st.cfg.workers, .int .i64 st.cfg.copies, .int .i64 st.cfg.slots, .int .i64 st.cfg.batch, .int .i64 st.cfg.lease, .int .i64 st.cfg.hedge, .int .i64 st.cfg.first, .int .i64 st.cfg.cap, .int .i64 st.cfg.jitter, .int .i64 st.cfg.net, vc1] 66, accR encS 9 1 va1 st.cfg.words, accR encKey 72 2 vb1 st.cfg.cuts, accR encEvt 50 7 vc1 st.es] := hS6.sel [4, 0, 1, 2, 3] (by rfl) (by decide)
        have hS8 : St (fun _ => False) F w0 w2 [accR Ik.encI 3 1 v2 (((numsM ((l.take 1))).getD [])), boxR [bkR b [va1, vb1, .int .i64 st.cfg.workers, .int .i64 st.cfg.copies, .int .i64 st.cfg.slots, .int .i64 st.cfg.batch, .int .i64 st.cfg.lease, .int .i64 st.cfg.hedge, .int .i64 st.cfg.first, .int .i64 st.cfg.cap, .int .i64 st.cfg.jitter, .int .i64 st.cfg.net, vc1] 66, accR encS 9 1 va1 st.cfg.words, accR encKey 72 2 vb1 st.cfg.cuts, accR encEvt 50 7 vc1 st.es]] := St.close (L1 := [accR Ik.encI 3 1 v2 (((numsM ((l.take 1))).getD []))]) hS7
        have hS9 : St (fun _ => False) F w0 w2 [accR Ik.encI 3 1 v2 (((numsM ((l.take 1))).getD [])), scR 66 9 72 50 b ((RdS.mk (Cfg.mk st.cfg.words st.cfg.cuts st.cfg.workers st.cfg.copies st.cfg.slots st.cfg.batch st.cfg.lease st.cfg.hedge st.cfg.first st.cfg.cap st.cfg.jitter st.cfg.net) st.es))] := hS8.exi (A := (fun v : Value × Value × Value => boxR [bkR b [v.1, v.2.1, .int .i64 st.cfg.workers, .int .i64 st.cfg.copies, .int .i64 st.cfg.slots, .int .i64 st.cfg.batch, .int .i64 st.cfg.lease, .int .i64 st.cfg.hedge, .int .i64 st.cfg.first, .int .i64 st.cfg.cap, .int .i64 st.cfg.jitter, .int .i64 st.cfg.net, v.2.2] 66, accR encS 9 1 v.1 st.cfg.words, accR encKey 72 2 v.2.1 st.cfg.cuts, accR encEvt 50 7 v.2.2 st.es])) (va1, vb1, vc1) (i := 1) rfl
        have hmm : doCut st l = none := by first | exact ct_no (by omega) | exact ct_bad (by omega) hx1 (by first | (left; first | assumption | (symm; assumption)) | (right; first | assumption | (symm; assumption))) | exact ct_yes (by omega) hx1 (by first | assumption | (symm; assumption)) (by first | assumption | (symm; assumption)) hx2 | (exfalso; omega)
        have hS10 : St (fun _ => False) F w0 w2 [scR 66 9 72 50 b ((RdS.mk (Cfg.mk st.cfg.words st.cfg.cuts st.cfg.workers st.cfg.copies st.cfg.slots st.cfg.batch st.cfg.lease st.cfg.hedge st.cfg.first st.cfg.cap st.cfg.jitter st.cfg.net) st.es))] := hS9.sel [1] (by rfl) (by decide)
        obtain ⟨hmF, F2r, hAr, hFr⟩ := hS10.fin
        rw [hmm]
        exact Ret.mk ⟨_, rfl, rfl, hmF, F2r, hAr, hFr⟩
    | false =>
      replace hb2 := hb2.symm
      refine OL.sk rfl rfl ?_
      refine OL.q (Q1.pick_f rfl rfl) rfl rfl ?_
      refine OL.nil ?_
      refine r_cond_f rfl ?_
      refine r_skip ?_
      refine r_seq ?_
      refine r_region ?_
      refine OL.q (Q1.move rfl) rfl rfl ?_
      refine OL.q (Q1.move rfl) rfl rfl ?_
      refine OL.sk rfl rfl ?_
      refine OL.q (Q1.pick_f rfl rfl) rfl rfl ?_
      refine OL.q (Q1.assign rfl) rfl rfl ?_
      refine OL.nil ?_
      refine r_ret1 Tryd.func46 rfl rfl ?_
      have hS7 : St (fun _ => False) F w0 w2 [accR Ik.encI 3 1 v2 (((numsM ((l.take 1))).getD [])), bkR b [va1, vb1, .int .i64 st.cfg.workers, .int .i64 st.cfg.copies, .int .i64 st.cfg.slots, .int .i64 st.cfg.batch, .int .i64 st.cfg.lease, .int .i64 st.cfg.hedge, .int .i64 st.cfg.first, .int .i64 st.cfg.cap, .int .i64 st.cfg.jitter, .int .i64 st.cfg.net, vc1] 66, accR encS 9 1 va1 st.cfg.words, accR encKey 72 2 vb1 st.cfg.cuts, accR encEvt 50 7 vc1 st.es] := hS6.sel [4, 0, 1, 2, 3] (by rfl) (by decide)
      have hS8 : St (fun _ => False) F w0 w2 [accR Ik.encI 3 1 v2 (((numsM ((l.take 1))).getD [])), boxR [bkR b [va1, vb1, .int .i64 st.cfg.workers, .int .i64 st.cfg.copies, .int .i64 st.cfg.slots, .int .i64 st.cfg.batch, .int .i64 st.cfg.lease, .int .i64 st.cfg.hedge, .int .i64 st.cfg.first, .int .i64 st.cfg.cap, .int .i64 st.cfg.jitter, .int .i64 st.cfg.net, vc1] 66, accR encS 9 1 va1 st.cfg.words, accR encKey 72 2 vb1 st.cfg.cuts, accR encEvt 50 7 vc1 st.es]] := St.close (L1 := [accR Ik.encI 3 1 v2 (((numsM ((l.take 1))).getD []))]) hS7
      have hS9 : St (fun _ => False) F w0 w2 [accR Ik.encI 3 1 v2 (((numsM ((l.take 1))).getD [])), scR 66 9 72 50 b ((RdS.mk (Cfg.mk st.cfg.words st.cfg.cuts st.cfg.workers st.cfg.copies st.cfg.slots st.cfg.batch st.cfg.lease st.cfg.hedge st.cfg.first st.cfg.cap st.cfg.jitter st.cfg.net) st.es))] := hS8.exi (A := (fun v : Value × Value × Value => boxR [bkR b [v.1, v.2.1, .int .i64 st.cfg.workers, .int .i64 st.cfg.copies, .int .i64 st.cfg.slots, .int .i64 st.cfg.batch, .int .i64 st.cfg.lease, .int .i64 st.cfg.hedge, .int .i64 st.cfg.first, .int .i64 st.cfg.cap, .int .i64 st.cfg.jitter, .int .i64 st.cfg.net, v.2.2] 66, accR encS 9 1 v.1 st.cfg.words, accR encKey 72 2 v.2.1 st.cfg.cuts, accR encEvt 50 7 v.2.2 st.es])) (va1, vb1, vc1) (i := 1) rfl
      have hmm : doCut st l = none := by first | exact ct_no (by omega) | exact ct_bad (by omega) hx1 (by first | (left; first | assumption | (symm; assumption)) | (right; first | assumption | (symm; assumption))) | exact ct_yes (by omega) hx1 (by first | assumption | (symm; assumption)) (by first | assumption | (symm; assumption)) hx2 | (exfalso; omega)
      have hS10 : St (fun _ => False) F w0 w2 [scR 66 9 72 50 b ((RdS.mk (Cfg.mk st.cfg.words st.cfg.cuts st.cfg.workers st.cfg.copies st.cfg.slots st.cfg.batch st.cfg.lease st.cfg.hedge st.cfg.first st.cfg.cap st.cfg.jitter st.cfg.net) st.es))] := hS9.sel [1] (by rfl) (by decide)
      obtain ⟨hmF, F2r, hAr, hFr⟩ := hS10.fin
      rw [hmm]
      exact Ret.mk ⟨_, rfl, rfl, hmF, F2r, hAr, hFr⟩
set_option maxRecDepth 20000 in
set_option maxHeartbeats 4000000 in
theorem rset_c {w0 : World} {F : Nat → Prop} {b : Nat} {st : RdS} (hA : (scR (R := fun _ => False) 66 9 72 50 b st).p F w0) (hF : ∀ b, F b → b < w0.heap.size) (hG : GS w0) (hFg : ∀ b, b = gB ∨ b = gS ∨ b = gR → ¬ F b) (hB : RdB st 100000) {v_l : Value} {l : List Str} {G : Nat → Prop} (hl_ : Sl encS w0 G v_l l) (hFG : ∀ x, G x → ¬ F x) (hGl : ∀ x, G x → x < w0.heap.size) (hll : ∀ x ∈ l, x.length ≤ 100000) (hln : l.length ≤ 100000) :
    Calls Tryd.prog 47 #[ptr b 0, v_l] w0 (Ret fun rv w1 => ∃ rb, rb = (doSet st l).isSome ∧ rv = .bool rb ∧ Mod F w0 w1 ∧ ∃ F2, (scR (R := fun _ => False) 66 9 72 50 b ((doSet st l).getD st)).p F2 w1 ∧ ∀ b, F2 b → b < w1.heap.size ∧ (F b ∨ w0.heap.size ≤ b)) := by
  have hS00 := St.start1 (R := fun _ => False) hA (fun b hb => ⟨hF b hb, id⟩) (fun _ h => h.elim)
  obtain ⟨hB1, hB2, hB3⟩ := hB
  have hS1 : St (fun _ => False) F w0 w0 [scR 66 9 72 50 b st] := hS00
  obtain ⟨⟨va1, vb1, vc1⟩, hS2⟩ := hS1.exo (i := 0) rfl
  change St (fun _ => False) F w0 w0 [boxR [bkR b [va1, vb1, .int .i64 st.cfg.workers, .int .i64 st.cfg.copies, .int .i64 st.cfg.slots, .int .i64 st.cfg.batch, .int .i64 st.cfg.lease, .int .i64 st.cfg.hedge, .int .i64 st.cfg.first, .int .i64 st.cfg.cap, .int .i64 st.cfg.jitter, .int .i64 st.cfg.net, vc1] 66, accR encS 9 1 va1 st.cfg.words, accR encKey 72 2 vb1 st.cfg.cuts, accR encEvt 50 7 vc1 st.es]] at hS2
  have hS3 : St (fun _ => False) F w0 w0 [bkR b [va1, vb1, .int .i64 st.cfg.workers, .int .i64 st.cfg.copies, .int .i64 st.cfg.slots, .int .i64 st.cfg.batch, .int .i64 st.cfg.lease, .int .i64 st.cfg.hedge, .int .i64 st.cfg.first, .int .i64 st.cfg.cap, .int .i64 st.cfg.jitter, .int .i64 st.cfg.net, vc1] 66, accR encS 9 1 va1 st.cfg.words, accR encKey 72 2 vb1 st.cfg.cuts, accR encEvt 50 7 vc1 st.es] := St.open (L1 := []) hS2
  have hle_l := hl_.le
  refine calls_enter Tryd.func47 rfl Tryd.ntmps47 rfl ?_
  refine r_seq ?_
  refine r_region ?_
  refine OL.q (Q1.assign rfl) rfl rfl ?_
  refine OL.nil ?_
  refine r_seq ?_
  refine r_region ?_
  refine OL.q (Q1.move rfl) rfl rfl ?_
  refine OL.act rfl rfl (AW.callF cl57 rfl (numbers_c (w0 := w0) (l := l)  (hl_.mono (fun x hx => ⟨Nat.zero_le _, Nat.lt_of_lt_of_le (hGl x hx) hS3.mod.size⟩)) (by exact hG.keep hgp (hS3.mod) hFg) (by first | assumption | exact fun x hx => hll x (List.mem_of_mem_drop hx) | exact fun x hx => hll x (List.mem_of_mem_take hx)) (by first | assumption | omega | (simp; omega))) ?_)
  rintro _ w1 ⟨v1, _, rfl, ⟨gr1, h1, hg1⟩, ⟨b1, hb1, rfl⟩, hm1⟩
  have hS4 := hS3.ext hm1
  have hS5 : St (fun _ => False) F w0 w1 [bkR b [va1, vb1, .int .i64 st.cfg.workers, .int .i64 st.cfg.copies, .int .i64 st.cfg.slots, .int .i64 st.cfg.batch, .int .i64 st.cfg.lease, .int .i64 st.cfg.hedge, .int .i64 st.cfg.first, .int .i64 st.cfg.cap, .int .i64 st.cfg.jitter, .int .i64 st.cfg.net, vc1] 66, accR encS 9 1 va1 st.cfg.words, accR encKey 72 2 vb1 st.cfg.cuts, accR encEvt 50 7 vc1 st.es, accR Ik.encI 3 1 v1 (((numsM l).getD []))] := hS3.newAcc hm1 h1 hg1
  clear hg1
  have hle_1 := h1.le
  refine OL.q (Q1.move rfl) rfl rfl ?_
  refine OL.q (Q1.extract rfl rfl) rfl rfl ?_
  refine OL.q (Q1.extract rfl rfl) rfl rfl ?_
  refine OL.q (Q1.assign rfl) rfl rfl ?_
  refine OL.q (Q1.assign rfl) rfl rfl ?_
  refine OL.nil ?_
  refine r_seq ?_
  refine r_seq ?_
  refine r_region ?_
  refine OL.q (Q1.move rfl) rfl rfl ?_
  cases b1 with
  | true =>
    replace hb1 := hb1.symm
    refine OL.q (Q1.not rfl) rfl rfl ?_
    refine OL.q (Q1.move rfl) rfl rfl ?_
    refine OL.q (Q1.move rfl) rfl rfl ?_
    obtain ⟨g1, f1, hl1, k1⟩ := hS5.accK (i := 4) rfl
    refine OL.q (Q1.lenSl Tryd.underlying82 (f1.sl) rfl) rfl rfl ?_
    refine OL.qb (Q1.ne rfl rfl) rfl rfl ?_
    intro b2 hb2
    refine OL.q (Q1.pick_f rfl rfl) rfl rfl ?_
    refine OL.nil ?_
    cases b2 with
    | true =>
      replace hb2 := bne_iff_ne.1 hb2.symm
      refine r_cond_t rfl ?_
      refine r_seq ?_
      refine r_region ?_
      refine OL.q (Q1.assign rfl) rfl rfl ?_
      refine OL.nil ?_
      refine r_ret1 Tryd.func47 rfl rfl ?_
      have hS6 : St (fun _ => False) F w0 w1 [accR Ik.encI 3 1 v1 (((numsM l).getD [])), bkR b [va1, vb1, .int .i64 st.cfg.workers, .int .i64 st.cfg.copies, .int .i64 st.cfg.slots, .int .i64 st.cfg.batch, .int .i64 st.cfg.lease, .int .i64 st.cfg.hedge, .int .i64 st.cfg.first, .int .i64 st.cfg.cap, .int .i64 st.cfg.jitter, .int .i64 st.cfg.net, vc1] 66, accR encS 9 1 va1 st.cfg.words, accR encKey 72 2 vb1 st.cfg.cuts, accR encEvt 50 7 vc1 st.es] := hS5.sel [4, 0, 1, 2, 3] (by rfl) (by decide)
      have hS7 : St (fun _ => False) F w0 w1 [accR Ik.encI 3 1 v1 (((numsM l).getD [])), boxR [bkR b [va1, vb1, .int .i64 st.cfg.workers, .int .i64 st.cfg.copies, .int .i64 st.cfg.slots, .int .i64 st.cfg.batch, .int .i64 st.cfg.lease, .int .i64 st.cfg.hedge, .int .i64 st.cfg.first, .int .i64 st.cfg.cap, .int .i64 st.cfg.jitter, .int .i64 st.cfg.net, vc1] 66, accR encS 9 1 va1 st.cfg.words, accR encKey 72 2 vb1 st.cfg.cuts, accR encEvt 50 7 vc1 st.es]] := St.close (L1 := [accR Ik.encI 3 1 v1 (((numsM l).getD []))]) hS6
      have hS8 : St (fun _ => False) F w0 w1 [accR Ik.encI 3 1 v1 (((numsM l).getD [])), scR 66 9 72 50 b ((RdS.mk (Cfg.mk st.cfg.words st.cfg.cuts st.cfg.workers st.cfg.copies st.cfg.slots st.cfg.batch st.cfg.lease st.cfg.hedge st.cfg.first st.cfg.cap st.cfg.jitter st.cfg.net) st.es))] := hS7.exi (A := (fun v : Value × Value × Value => boxR [bkR b [v.1, v.2.1, .int .i64 st.cfg.workers, .int .i64 st.cfg.copies, .int .i64 st.cfg.slots, .int .i64 st.cfg.batch, .int .i64 st.cfg.lease, .int .i64 st.cfg.hedge, .int .i64 st.cfg.first, .int .i64 st.cfg.cap, .int .i64 st.cfg.jitter, .int .i64 st.cfg.net, v.2.2] 66, accR encS 9 1 v.1 st.cfg.words, accR encKey 72 2 v.2.1 st.cfg.cuts, accR encEvt 50 7 v.2.2 st.es])) (va1, vb1, vc1) (i := 1) rfl
      have hmm : doSet st l = none := by first | exact st_bad (by first | (left; first | assumption | (symm; assumption)) | (right; omega)) | exact st_yes (by first | assumption | (symm; assumption)) (by omega) hx1 hx2 hx3 hx4 hx5 hx6 hx7 hx8 hx9 hx10 | (exfalso; omega)
      have hS9 : St (fun _ => False) F w0 w1 [scR 66 9 72 50 b ((RdS.mk (Cfg.mk st.cfg.words st.cfg.cuts st.cfg.workers st.cfg.copies st.cfg.slots st.cfg.batch st.cfg.lease st.cfg.hedge st.cfg.first st.cfg.cap st.cfg.jitter st.cfg.net) st.es))] := hS8.sel [1] (by rfl) (by decide)
      obtain ⟨hmF, F2r, hAr, hFr⟩ := hS9.fin
      rw [hmm]
      exact Ret.mk ⟨_, rfl, rfl, hmF, F2r, hAr, hFr⟩
    | false =>
      replace hb2 := bne_eq_false_iff_eq.1 hb2.symm
      refine r_cond_f rfl ?_
      refine r_skip ?_
      refine r_seq ?_
      refine r_region ?_
      refine OL.q (Q1.move rfl) rfl rfl ?_
      refine OL.q (Q1.nilCheckP rfl) rfl rfl ?_
      refine OL.q (Q1.fieldAddr fl66_0 rfl) rfl rfl ?_
      refine OL.q (Q1.assign rfl) rfl rfl ?_
      refine OL.nil ?_
      refine r_seq ?_
      obtain ⟨x1, b3, o1, hx1, hr1, hl2, hw1⟩ := Sl.atF (P := Tryd.prog) f1.sl Tryd.underlying82 ti3 Ik.encI_len (k := .i64) (n := 0) (0) (by omega) (by first | assumption | omega)
      obtain ⟨x2, b4, o2, hx2, hr2, hl3, hw2⟩ := Sl.atF (P := Tryd.prog) f1.sl Tryd.underlying82 ti3 Ik.encI_len (k := .i64) (n := 1) (1) (by omega) (by first | assumption | omega)
      obtain ⟨x3, b5, o3, hx3, hr3, hl4, hw3⟩ := Sl.atF (P := Tryd.prog) f1.sl Tryd.underlying82 ti3 Ik.encI_len (k := .i64) (n := 2) (2) (by omega) (by first | assumption | omega)
      obtain ⟨x4, b6, o4, hx4, hr4, hl5, hw4⟩ := Sl.atF (P := Tryd.prog) f1.sl Tryd.underlying82 ti3 Ik.encI_len (k := .i64) (n := 3) (3) (by omega) (by first | assumption | omega)
      obtain ⟨x5, b7, o5, hx5, hr5, hl6, hw5⟩ := Sl.atF (P := Tryd.prog) f1.sl Tryd.underlying82 ti3 Ik.encI_len (k := .i64) (n := 4) (4) (by omega) (by first | assumption | omega)
      refine r_draw1 (fun i => Nat.beq i 22 || Nat.beq i 25 || Nat.beq i 28 || Nat.beq i 31 || Nat.beq i 34) 34 (fun w' => Row w' b3 o1 (Ik.encI x1) ∧ Row w' b4 o2 (Ik.encI x2) ∧ Row w' b5 o3 (Ik.encI x3) ∧ Row w' b6 o4 (Ik.encI x4) ∧ Row w' b7 o5 (Ik.encI x5)) mixed (by kernel_rfl) ?_
      intro w2 hm2
      have hS6 := hS5.ext hm2
      obtain ⟨g2, f2, hl7, k2⟩ := hS6.accK (i := 4) rfl
      refine ⟨⟨(Sl.rowAt f2.sl Tryd.underlying82 ti3 Ik.encI_len 0 (by omega) hx1 hr1), (Sl.rowAt f2.sl Tryd.underlying82 ti3 Ik.encI_len 1 (by omega) hx2 hr2), (Sl.rowAt f2.sl Tryd.underlying82 ti3 Ik.encI_len 2 (by omega) hx3 hr3), (Sl.rowAt f2.sl Tryd.underlying82 ti3 Ik.encI_len 3 (by omega) hx4 hr4), (Sl.rowAt f2.sl Tryd.underlying82 ti3 Ik.encI_len 4 (by omega) hx5 hr5)⟩, ?_⟩
      rw [show List.range' 0 (Array.size _) = [0, 1, 2, 3, 4, 5, 6, 7, 8, 9, 10, 11, 12, 13, 14, 15, 16, 17, 18, 19, 20, 21, 22, 23, 24, 25, 26, 27, 28, 29, 30, 31, 32, 33, 34] from rfl]
      refine OD.q rfl rfl (Q1.move rfl) rfl rfl ?_
      refine OD.q rfl rfl (Q1.move rfl) rfl rfl ?_
      refine OD.q rfl rfl (Q1.move rfl) rfl rfl ?_
      refine OD.q rfl rfl (Q1.move rfl) rfl rfl ?_
      refine OD.q rfl rfl (Q1.move rfl) rfl rfl ?_
      refine OD.q rfl rfl (Q1.move rfl) rfl rfl ?_
      refine OD.q rfl rfl (Q1.indexAddr rfl rfl hr1) rfl rfl ?_
      refine OD.q rfl rfl (Q1.load1 ti3 rfl (fun _ hc => hc.1)) rfl rfl ?_
      refine OD.q rfl rfl (Q1.move rfl) rfl rfl ?_
      refine OD.q rfl rfl (Q1.indexAddr rfl rfl hr2) rfl rfl ?_
      refine OD.q rfl rfl (Q1.load1 ti3 rfl (fun _ hc => hc.2.1)) rfl rfl ?_
      refine OD.q rfl rfl (Q1.move rfl) rfl rfl ?_
      refine OD.q rfl rfl (Q1.indexAddr rfl rfl hr3) rfl rfl ?_
      refine OD.q rfl rfl (Q1.load1 ti3 rfl (fun _ hc => hc.2.2.1)) rfl rfl ?_
      refine OD.q rfl rfl (Q1.move rfl) rfl rfl ?_
      refine OD.q rfl rfl (Q1.indexAddr rfl rfl hr4) rfl rfl ?_
      refine OD.q rfl rfl (Q1.load1 ti3 rfl (fun _ hc => hc.2.2.2.1)) rfl rfl ?_
      refine OD.q rfl rfl (Q1.move rfl) rfl rfl ?_
      refine OD.q rfl rfl (Q1.indexAddr rfl rfl hr5) rfl rfl ?_
      refine OD.q rfl rfl (Q1.load1 ti3 rfl (fun _ hc => hc.2.2.2.2)) rfl rfl ?_
      refine OD.q rfl rfl (Q1.nilCheckP rfl) rfl rfl ?_
      refine OD.q rfl rfl (Q1.fieldAddr fl30_2 rfl) rfl rfl ?_
      have f3 := hS6.bk (i := 0) rfl
      refine OD.act rfl rfl rfl rfl (AW.store ti3 rfl rfl rfl rfl rfl f3 (Nat.le_of_ble_eq_true rfl) ?_)
      intro w3 hm3 hz1 hk1
      have hS7 : St (fun _ => False) F w0 w3 [bkR b [va1, vb1, .int .i64 x1, .int .i64 st.cfg.copies, .int .i64 st.cfg.slots, .int .i64 st.cfg.batch, .int .i64 st.cfg.lease, .int .i64 st.cfg.hedge, .int .i64 st.cfg.first, .int .i64 st.cfg.cap, .int .i64 st.cfg.jitter, .int .i64 st.cfg.net, vc1] 66, accR encS 9 1 va1 st.cfg.words, accR encKey 72 2 vb1 st.cfg.cuts, accR encEvt 50 7 vc1 st.es, accR Ik.encI 3 1 v1 (((numsM l).getD []))] := hS6.bkK (i := 0) rfl hm3 hk1
      obtain ⟨g3, f4, hl8, k3⟩ := hS7.accK (i := 4) rfl
      refine ⟨.inr ⟨(Sl.rowAt f4.sl Tryd.underlying82 ti3 Ik.encI_len 0 (by omega) hx1 hr1), (Sl.rowAt f4.sl Tryd.underlying82 ti3 Ik.encI_len 1 (by omega) hx2 hr2), (Sl.rowAt f4.sl Tryd.underlying82 ti3 Ik.encI_len 2 (by omega) hx3 hr3), (Sl.rowAt f4.sl Tryd.underlying82 ti3 Ik.encI_len 3 (by omega) hx4 hr4), (Sl.rowAt f4.sl Tryd.underlying82 ti3 Ik.encI_len 4 (by omega) hx5 hr5)⟩, ?_⟩
      refine OD.q rfl rfl (Q1.nilCheckP rfl) rfl rfl ?_
      refine OD.q rfl rfl (Q1.fieldAddr fl30_3 rfl) rfl rfl ?_
      have f5 := hS7.bk (i := 0) rfl
      refine OD.act rfl rfl rfl rfl (AW.store ti3 rfl rfl rfl rfl rfl f5 (Nat.le_of_ble_eq_true rfl) ?_)
      intro w4 hm4 hz2 hk2
      have hS8 : St (fun _ => False) F w0 w4 [bkR b [va1, vb1, .int .i64 x1, .int .i64 x2, .int .i64 st.cfg.slots, .int .i64 st.cfg.batch, .int .i64 st.cfg.lease, .int .i64 st.cfg.hedge, .int .i64 st.cfg.first, .int .i64 st.cfg.cap, .int .i64 st.cfg.jitter, .int .i64 st.cfg.net, vc1] 66, accR encS 9 1 va1 st.cfg.words, accR encKey 72 2 vb1 st.cfg.cuts, accR encEvt 50 7 vc1 st.es, accR Ik.encI 3 1 v1 (((numsM l).getD []))] := hS7.bkK (i := 0) rfl hm4 hk2
      obtain ⟨g4, f6, hl9, k4⟩ := hS8.accK (i := 4) rfl
      refine ⟨.inr ⟨(Sl.rowAt f6.sl Tryd.underlying82 ti3 Ik.encI_len 0 (by omega) hx1 hr1), (Sl.rowAt f6.sl Tryd.underlying82 ti3 Ik.encI_len 1 (by omega) hx2 hr2), (Sl.rowAt f6.sl Tryd.underlying82 ti3 Ik.encI_len 2 (by omega) hx3 hr3), (Sl.rowAt f6.sl Tryd.underlying82 ti3 Ik.encI_len 3 (by omega) hx4 hr4), (Sl.rowAt f6.sl Tryd.underlying82 ti3 Ik.encI_len 4 (by omega) hx5 hr5)⟩, ?_⟩
      refine OD.q rfl rfl (Q1.nilCheckP rfl) rfl rfl ?_
      refine OD.q rfl rfl (Q1.fieldAddr fl30_4 rfl) rfl rfl ?_
      have f7 := hS8.bk (i := 0) rfl
      refine OD.act rfl rfl rfl rfl (AW.store ti3 rfl rfl rfl rfl rfl f7 (Nat.le_of_ble_eq_true rfl) ?_)
      intro w5 hm5 hz3 hk3
      have hS9 : St (fun _ => False) F w0 w5 [bkR b [va1, vb1, .int .i64 x1, .int .i64 x2, .int .i64 x3, .int .i64 st.cfg.batch, .int .i64 st.cfg.lease, .int .i64 st.cfg.hedge, .int .i64 st.cfg.first, .int .i64 st.cfg.cap, .int .i64 st.cfg.jitter, .int .i64 st.cfg.net, vc1] 66, accR encS 9 1 va1 st.cfg.words, accR encKey 72 2 vb1 st.cfg.cuts, accR encEvt 50 7 vc1 st.es, accR Ik.encI 3 1 v1 (((numsM l).getD []))] := hS8.bkK (i := 0) rfl hm5 hk3
      obtain ⟨g5, f8, hl10, k5⟩ := hS9.accK (i := 4) rfl
      refine ⟨.inr ⟨(Sl.rowAt f8.sl Tryd.underlying82 ti3 Ik.encI_len 0 (by omega) hx1 hr1), (Sl.rowAt f8.sl Tryd.underlying82 ti3 Ik.encI_len 1 (by omega) hx2 hr2), (Sl.rowAt f8.sl Tryd.underlying82 ti3 Ik.encI_len 2 (by omega) hx3 hr3), (Sl.rowAt f8.sl Tryd.underlying82 ti3 Ik.encI_len 3 (by omega) hx4 hr4), (Sl.rowAt f8.sl Tryd.underlying82 ti3 Ik.encI_len 4 (by omega) hx5 hr5)⟩, ?_⟩
      refine OD.q rfl rfl (Q1.nilCheckP rfl) rfl rfl ?_
      refine OD.q rfl rfl (Q1.fieldAddr fl30_5 rfl) rfl rfl ?_
      have f9 := hS9.bk (i := 0) rfl
      refine OD.act rfl rfl rfl rfl (AW.store ti3 rfl rfl rfl rfl rfl f9 (Nat.le_of_ble_eq_true rfl) ?_)
      intro w6 hm6 hz4 hk4
      have hS10 : St (fun _ => False) F w0 w6 [bkR b [va1, vb1, .int .i64 x1, .int .i64 x2, .int .i64 x3, .int .i64 x4, .int .i64 st.cfg.lease, .int .i64 st.cfg.hedge, .int .i64 st.cfg.first, .int .i64 st.cfg.cap, .int .i64 st.cfg.jitter, .int .i64 st.cfg.net, vc1] 66, accR encS 9 1 va1 st.cfg.words, accR encKey 72 2 vb1 st.cfg.cuts, accR encEvt 50 7 vc1 st.es, accR Ik.encI 3 1 v1 (((numsM l).getD []))] := hS9.bkK (i := 0) rfl hm6 hk4
      obtain ⟨g6, f10, hl11, k6⟩ := hS10.accK (i := 4) rfl
      refine ⟨.inr ⟨(Sl.rowAt f10.sl Tryd.underlying82 ti3 Ik.encI_len 0 (by omega) hx1 hr1), (Sl.rowAt f10.sl Tryd.underlying82 ti3 Ik.encI_len 1 (by omega) hx2 hr2), (Sl.rowAt f10.sl Tryd.underlying82 ti3 Ik.encI_len 2 (by omega) hx3 hr3), (Sl.rowAt f10.sl Tryd.underlying82 ti3 Ik.encI_len 3 (by omega) hx4 hr4), (Sl.rowAt f10.sl Tryd.underlying82 ti3 Ik.encI_len 4 (by omega) hx5 hr5)⟩, ?_⟩
      refine OD.q rfl rfl (Q1.nilCheckP rfl) rfl rfl ?_
      refine OD.q rfl rfl (Q1.fieldAddr fl30_6 rfl) rfl rfl ?_
      have f11 := hS10.bk (i := 0) rfl
      refine OD.act rfl rfl rfl rfl (AW.store ti3 rfl rfl rfl rfl rfl f11 (Nat.le_of_ble_eq_true rfl) ?_)
      intro w7 hm7 hz5 hk5
      have hS11 : St (fun _ => False) F w0 w7 [bkR b [va1, vb1, .int .i64 x1, .int .i64 x2, .int .i64 x3, .int .i64 x4, .int .i64 x5, .int .i64 st.cfg.hedge, .int .i64 st.cfg.first, .int .i64 st.cfg.cap, .int .i64 st.cfg.jitter, .int .i64 st.cfg.net, vc1] 66, accR encS 9 1 va1 st.cfg.words, accR encKey 72 2 vb1 st.cfg.cuts, accR encEvt 50 7 vc1 st.es, accR Ik.encI 3 1 v1 (((numsM l).getD []))] := hS10.bkK (i := 0) rfl hm7 hk5
      refine ⟨.inl rfl, ?_⟩
      refine OD.nil ?_
      refine r_seq ?_
      obtain ⟨g7, f12, hl12, k7⟩ := hS11.accK (i := 4) rfl
      obtain ⟨x6, b8, o6, hx6, hr6, hl13, hw6⟩ := Sl.atF (P := Tryd.prog) f12.sl Tryd.underlying82 ti3 Ik.encI_len (k := .i64) (n := 5) (5) (by omega) (by first | assumption | omega)
      obtain ⟨x7, b9, o7, hx7, hr7, hl14, hw7⟩ := Sl.atF (P := Tryd.prog) f12.sl Tryd.underlying82 ti3 Ik.encI_len (k := .i64) (n := 6) (6) (by omega) (by first | assumption | omega)
      obtain ⟨x8, b10, o8, hx8, hr8, hl15, hw8⟩ := Sl.atF (P := Tryd.prog) f12.sl Tryd.underlying82 ti3 Ik.encI_len (k := .i64) (n := 7) (7) (by omega) (by first | assumption | omega)
      obtain ⟨x9, b11, o9, hx9, hr9, hl16, hw9⟩ := Sl.atF (P := Tryd.prog) f12.sl Tryd.underlying82 ti3 Ik.encI_len (k := .i64) (n := 8) (8) (by omega) (by first | assumption | omega)
      obtain ⟨x10, b12, o10, hx10, hr10, hl17, hw10⟩ := Sl.atF (P := Tryd.prog) f12.sl Tryd.underlying82 ti3 Ik.encI_len (k := .i64) (n := 9) (9) (by omega) (by first | assumption | omega)
      refine r_draw1 (fun i => Nat.beq i 22 || Nat.beq i 25 || Nat.beq i 28 || Nat.beq i 31 || Nat.beq i 34) 34 (fun w' => Row w' b8 o6 (Ik.encI x6) ∧ Row w' b9 o7 (Ik.encI x7) ∧ Row w' b10 o8 (Ik.encI x8) ∧ Row w' b11 o9 (Ik.encI x9) ∧ Row w' b12 o10 (Ik.encI x10)) mixed (by kernel_rfl) ?_
      intro w8 hm8
      have hS12 := hS11.ext hm8
      obtain ⟨g8, f13, hl18, k8⟩ := hS12.accK (i := 4) rfl
      refine ⟨⟨(Sl.rowAt f13.sl Tryd.underlying82 ti3 Ik.encI_len 5 (by omega) hx6 hr6), (Sl.rowAt f13.sl Tryd.underlying82 ti3 Ik.encI_len 6 (by omega) hx7 hr7), (Sl.rowAt f13.sl Tryd.underlying82 ti3 Ik.encI_len 7 (by omega) hx8 hr8), (Sl.rowAt f13.sl Tryd.underlying82 ti3 Ik.encI_len 8 (by omega) hx9 hr9), (Sl.rowAt f13.sl Tryd.underlying82 ti3 Ik.encI_len 9 (by omega) hx10 hr10)⟩, ?_⟩
      rw [show List.range' 0 (Array.size _) = [0, 1, 2, 3, 4, 5, 6, 7, 8, 9, 10, 11, 12, 13, 14, 15, 16, 17, 18, 19, 20, 21, 22, 23, 24, 25, 26, 27, 28, 29, 30, 31, 32, 33, 34] from rfl]
      refine OD.q rfl rfl (Q1.move rfl) rfl rfl ?_
      refine OD.q rfl rfl (Q1.move rfl) rfl rfl ?_
      refine OD.q rfl rfl (Q1.move rfl) rfl rfl ?_
      refine OD.q rfl rfl (Q1.move rfl) rfl rfl ?_
      refine OD.q rfl rfl (Q1.move rfl) rfl rfl ?_
      refine OD.q rfl rfl (Q1.move rfl) rfl rfl ?_
      refine OD.q rfl rfl (Q1.indexAddr rfl rfl hr6) rfl rfl ?_
      refine OD.q rfl rfl (Q1.load1 ti3 rfl (fun _ hc => hc.1)) rfl rfl ?_
      refine OD.q rfl rfl (Q1.move rfl) rfl rfl ?_
      refine OD.q rfl rfl (Q1.indexAddr rfl rfl hr7) rfl rfl ?_
      refine OD.q rfl rfl (Q1.load1 ti3 rfl (fun _ hc => hc.2.1)) rfl rfl ?_
      refine OD.q rfl rfl (Q1.move rfl) rfl rfl ?_
      refine OD.q rfl rfl (Q1.indexAddr rfl rfl hr8) rfl rfl ?_
      refine OD.q rfl rfl (Q1.load1 ti3 rfl (fun _ hc => hc.2.2.1)) rfl rfl ?_
      refine OD.q rfl rfl (Q1.move rfl) rfl rfl ?_
      refine OD.q rfl rfl (Q1.indexAddr rfl rfl hr9) rfl rfl ?_
      refine OD.q rfl rfl (Q1.load1 ti3 rfl (fun _ hc => hc.2.2.2.1)) rfl rfl ?_
      refine OD.q rfl rfl (Q1.move rfl) rfl rfl ?_
      refine OD.q rfl rfl (Q1.indexAddr rfl rfl hr10) rfl rfl ?_
      refine OD.q rfl rfl (Q1.load1 ti3 rfl (fun _ hc => hc.2.2.2.2)) rfl rfl ?_
      refine OD.q rfl rfl (Q1.nilCheckP rfl) rfl rfl ?_
      refine OD.q rfl rfl (Q1.fieldAddr fl30_7 rfl) rfl rfl ?_
      have f14 := hS12.bk (i := 0) rfl
      refine OD.act rfl rfl rfl rfl (AW.store ti3 rfl rfl rfl rfl rfl f14 (Nat.le_of_ble_eq_true rfl) ?_)
      intro w9 hm9 hz6 hk6
      have hS13 : St (fun _ => False) F w0 w9 [bkR b [va1, vb1, .int .i64 x1, .int .i64 x2, .int .i64 x3, .int .i64 x4, .int .i64 x5, .int .i64 x6, .int .i64 st.cfg.first, .int .i64 st.cfg.cap, .int .i64 st.cfg.jitter, .int .i64 st.cfg.net, vc1] 66, accR encS 9 1 va1 st.cfg.words, accR encKey 72 2 vb1 st.cfg.cuts, accR encEvt 50 7 vc1 st.es, accR Ik.encI 3 1 v1 (((numsM l).getD []))] := hS12.bkK (i := 0) rfl hm9 hk6
      obtain ⟨g9, f15, hl19, k9⟩ := hS13.accK (i := 4) rfl
      refine ⟨.inr ⟨(Sl.rowAt f15.sl Tryd.underlying82 ti3 Ik.encI_len 5 (by omega) hx6 hr6), (Sl.rowAt f15.sl Tryd.underlying82 ti3 Ik.encI_len 6 (by omega) hx7 hr7), (Sl.rowAt f15.sl Tryd.underlying82 ti3 Ik.encI_len 7 (by omega) hx8 hr8), (Sl.rowAt f15.sl Tryd.underlying82 ti3 Ik.encI_len 8 (by omega) hx9 hr9), (Sl.rowAt f15.sl Tryd.underlying82 ti3 Ik.encI_len 9 (by omega) hx10 hr10)⟩, ?_⟩
      refine OD.q rfl rfl (Q1.nilCheckP rfl) rfl rfl ?_
      refine OD.q rfl rfl (Q1.fieldAddr fl30_8 rfl) rfl rfl ?_
      have f16 := hS13.bk (i := 0) rfl
      refine OD.act rfl rfl rfl rfl (AW.store ti3 rfl rfl rfl rfl rfl f16 (Nat.le_of_ble_eq_true rfl) ?_)
      intro w10 hm10 hz7 hk7
      have hS14 : St (fun _ => False) F w0 w10 [bkR b [va1, vb1, .int .i64 x1, .int .i64 x2, .int .i64 x3, .int .i64 x4, .int .i64 x5, .int .i64 x6, .int .i64 x7, .int .i64 st.cfg.cap, .int .i64 st.cfg.jitter, .int .i64 st.cfg.net, vc1] 66, accR encS 9 1 va1 st.cfg.words, accR encKey 72 2 vb1 st.cfg.cuts, accR encEvt 50 7 vc1 st.es, accR Ik.encI 3 1 v1 (((numsM l).getD []))] := hS13.bkK (i := 0) rfl hm10 hk7
      obtain ⟨g10, f17, hl20, k10⟩ := hS14.accK (i := 4) rfl
      refine ⟨.inr ⟨(Sl.rowAt f17.sl Tryd.underlying82 ti3 Ik.encI_len 5 (by omega) hx6 hr6), (Sl.rowAt f17.sl Tryd.underlying82 ti3 Ik.encI_len 6 (by omega) hx7 hr7), (Sl.rowAt f17.sl Tryd.underlying82 ti3 Ik.encI_len 7 (by omega) hx8 hr8), (Sl.rowAt f17.sl Tryd.underlying82 ti3 Ik.encI_len 8 (by omega) hx9 hr9), (Sl.rowAt f17.sl Tryd.underlying82 ti3 Ik.encI_len 9 (by omega) hx10 hr10)⟩, ?_⟩
      refine OD.q rfl rfl (Q1.nilCheckP rfl) rfl rfl ?_
      refine OD.q rfl rfl (Q1.fieldAddr fl30_9 rfl) rfl rfl ?_
      have f18 := hS14.bk (i := 0) rfl
      refine OD.act rfl rfl rfl rfl (AW.store ti3 rfl rfl rfl rfl rfl f18 (Nat.le_of_ble_eq_true rfl) ?_)
      intro w11 hm11 hz8 hk8
      have hS15 : St (fun _ => False) F w0 w11 [bkR b [va1, vb1, .int .i64 x1, .int .i64 x2, .int .i64 x3, .int .i64 x4, .int .i64 x5, .int .i64 x6, .int .i64 x7, .int .i64 x8, .int .i64 st.cfg.jitter, .int .i64 st.cfg.net, vc1] 66, accR encS 9 1 va1 st.cfg.words, accR encKey 72 2 vb1 st.cfg.cuts, accR encEvt 50 7 vc1 st.es, accR Ik.encI 3 1 v1 (((numsM l).getD []))] := hS14.bkK (i := 0) rfl hm11 hk8
      obtain ⟨g11, f19, hl21, k11⟩ := hS15.accK (i := 4) rfl
      refine ⟨.inr ⟨(Sl.rowAt f19.sl Tryd.underlying82 ti3 Ik.encI_len 5 (by omega) hx6 hr6), (Sl.rowAt f19.sl Tryd.underlying82 ti3 Ik.encI_len 6 (by omega) hx7 hr7), (Sl.rowAt f19.sl Tryd.underlying82 ti3 Ik.encI_len 7 (by omega) hx8 hr8), (Sl.rowAt f19.sl Tryd.underlying82 ti3 Ik.encI_len 8 (by omega) hx9 hr9), (Sl.rowAt f19.sl Tryd.underlying82 ti3 Ik.encI_len 9 (by omega) hx10 hr10)⟩, ?_⟩
      refine OD.q rfl rfl (Q1.nilCheckP rfl) rfl rfl ?_
      refine OD.q rfl rfl (Q1.fieldAddr fl30_10 rfl) rfl rfl ?_
      have f20 := hS15.bk (i := 0) rfl
      refine OD.act rfl rfl rfl rfl (AW.store ti3 rfl rfl rfl rfl rfl f20 (Nat.le_of_ble_eq_true rfl) ?_)
      intro w12 hm12 hz9 hk9
      have hS16 : St (fun _ => False) F w0 w12 [bkR b [va1, vb1, .int .i64 x1, .int .i64 x2, .int .i64 x3, .int .i64 x4, .int .i64 x5, .int .i64 x6, .int .i64 x7, .int .i64 x8, .int .i64 x9, .int .i64 st.cfg.net, vc1] 66, accR encS 9 1 va1 st.cfg.words, accR encKey 72 2 vb1 st.cfg.cuts, accR encEvt 50 7 vc1 st.es, accR Ik.encI 3 1 v1 (((numsM l).getD []))] := hS15.bkK (i := 0) rfl hm12 hk9
      obtain ⟨g12, f21, hl22, k12⟩ := hS16.accK (i := 4) rfl
      refine ⟨.inr ⟨(Sl.rowAt f21.sl Tryd.underlying82 ti3 Ik.encI_len 5 (by omega) hx6 hr6), (Sl.rowAt f21.sl Tryd.underlying82 ti3 Ik.encI_len 6 (by omega) hx7 hr7), (Sl.rowAt f21.sl Tryd.underlying82 ti3 Ik.encI_len 7 (by omega) hx8 hr8), (Sl.rowAt f21.sl Tryd.underlying82 ti3 Ik.encI_len 8 (by omega) hx9 hr9), (Sl.rowAt f21.sl Tryd.underlying82 ti3 Ik.encI_len 9 (by omega) hx10 hr10)⟩, ?_⟩
      refine OD.q rfl rfl (Q1.nilCheckP rfl) rfl rfl ?_
      refine OD.q rfl rfl (Q1.fieldAddr fl30_11 rfl) rfl rfl ?_
      have f22 := hS16.bk (i := 0) rfl
      refine OD.act rfl rfl rfl rfl (AW.store ti3 rfl rfl rfl rfl rfl f22 (Nat.le_of_ble_eq_true rfl) ?_)
      intro w13 hm13 hz10 hk10
      have hS17 : St (fun _ => False) F w0 w13 [bkR b [va1, vb1, .int .i64 x1, .int .i64 x2, .int .i64 x3, .int .i64 x4, .int .i64 x5, .int .i64 x6, .int .i64 x7, .int .i64 x8, .int .i64 x9, .int .i64 x10, vc1] 66, accR encS 9 1 va1 st.cfg.words, accR encKey 72 2 vb1 st.cfg.cuts, accR encEvt 50 7 vc1 st.es, accR Ik.encI 3 1 v1 (((numsM l).getD []))] := hS16.bkK (i := 0) rfl hm13 hk10
      refine ⟨.inl rfl, ?_⟩
      refine OD.nil ?_
      refine r_seq ?_
      refine r_region ?_
      refine OL.q (Q1.assign rfl) rfl rfl ?_
      refine OL.nil ?_
      refine r_ret1 Tryd.func47 rfl rfl ?_
      have hS18 : St (fun _ => False) F w0 w13 [accR Ik.encI 3 1 v1 (((numsM l).getD [])), bkR b [va1, vb1, .int .i64 x1, .int .i64 x2, .int .i64 x3, .int .i64 x4, .int .i64 x5, .int .i64 x6, .int .i64 x7, .int .i64 x8, .int .i64 x9, .int .i64 x10, vc1] 66, accR encS 9 1 va1 st.cfg.words, accR encKey 72 2 vb1 st.cfg.cuts, accR encEvt 50 7 vc1 st.es] := hS17.sel [4, 0, 1, 2, 3] (by rfl) (by decide)
      have hS19 : St (fun _ => False) F w0 w13 [accR Ik.encI 3 1 v1 (((numsM l).getD [])), boxR [bkR b [va1, vb1, .int .i64 x1, .int .i64 x2, .int .i64 x3, .int .i64 x4, .int .i64 x5, .int .i64 x6, .int .i64 x7, .int .i64 x8, .int .i64 x9, .int .i64 x10, vc1] 66, accR encS 9 1 va1 st.cfg.words, accR encKey 72 2 vb1 st.cfg.cuts, accR encEvt 50 7 vc1 st.es]] := St.close (L1 := [accR Ik.encI 3 1 v1 (((numsM l).getD []))]) hS18
      have hS20 : St (fun _ => False) F w0 w13 [accR Ik.encI 3 1 v1 (((numsM l).getD [])), scR 66 9 72 50 b ((RdS.mk (Cfg.mk st.cfg.words st.cfg.cuts x1 x2 x3 x4 x5 x6 x7 x8 x9 x10) st.es))] := hS19.exi (A := (fun v : Value × Value × Value => boxR [bkR b [v.1, v.2.1, .int .i64 x1, .int .i64 x2, .int .i64 x3, .int .i64 x4, .int .i64 x5, .int .i64 x6, .int .i64 x7, .int .i64 x8, .int .i64 x9, .int .i64 x10, v.2.2] 66, accR encS 9 1 v.1 st.cfg.words, accR encKey 72 2 v.2.1 st.cfg.cuts, accR encEvt 50 7 v.2.2 st.es])) (va1, vb1, vc1) (i := 1) rfl
      have hmm : doSet st l = some (RdS.mk (Cfg.mk st.cfg.words st.cfg.cuts x1 x2 x3 x4 x5 x6 x7 x8 x9 x10) st.es) := by first | exact st_bad (by first | (left; first | assumption | (symm; assumption)) | (right; omega)) | exact st_yes (by first | assumption | (symm; assumption)) (by omega) hx1 hx2 hx3 hx4 hx5 hx6 hx7 hx8 hx9 hx10 | (exfalso; omega)
      have hS21 : St (fun _ => False) F w0 w13 [scR 66 9 72 50 b ((RdS.mk (Cfg.mk st.cfg.words st.cfg.cuts x1 x2 x3 x4 x5 x6 x7 x8 x9 x10) st.es))] := hS20.sel [1] (by rfl) (by decide)
      obtain ⟨hmF, F2r, hAr, hFr⟩ := hS21.fin
      rw [hmm]
      exact Ret.mk ⟨_, rfl, rfl, hmF, F2r, hAr, hFr⟩
  | false =>
    replace hb1 := hb1.symm
    refine OL.q (Q1.not rfl) rfl rfl ?_
    refine OL.q (Q1.move rfl) rfl rfl ?_
    refine OL.sk rfl rfl ?_
    refine OL.sk rfl rfl ?_
    refine OL.sk rfl rfl ?_
    refine OL.q (Q1.pick_t rfl rfl) rfl rfl ?_
    refine OL.nil ?_
    refine r_cond_t rfl ?_
    refine r_seq ?_
    refine r_region ?_
    refine OL.q (Q1.assign rfl) rfl rfl ?_
    refine OL.nil ?_
    refine r_ret1 Tryd.func47 rfl rfl ?_
    have hS6 : St (fun _ => False) F w0 w1 [accR Ik.encI 3 1 v1 (((numsM l).getD [])), bkR b [va1, vb1, .int .i64 st.cfg.workers, .int .i64 st.cfg.copies, .int .i64 st.cfg.slots, .int .i64 st.cfg.batch, .int .i64 st.cfg.lease, .int .i64 st.cfg.hedge, .int .i64 st.cfg.first, .int .i64 st.cfg.cap, .int .i64 st.cfg.jitter, .int .i64 st.cfg.net, vc1] 66, accR encS 9 1 va1 st.cfg.words, accR encKey 72 2 vb1 st.cfg.cuts, accR encEvt 50 7 vc1 st.es] := hS5.sel [4, 0, 1, 2, 3] (by rfl) (by decide)
    have hS7 : St (fun _ => False) F w0 w1 [accR Ik.encI 3 1 v1 (((numsM l).getD [])), boxR [bkR b [va1, vb1, .int .i64 st.cfg.workers, .int .i64 st.cfg.copies, .int .i64 st.cfg.slots, .int .i64 st.cfg.batch, .int .i64 st.cfg.lease, .int .i64 st.cfg.hedge, .int .i64 st.cfg.first, .int .i64 st.cfg.cap, .int .i64 st.cfg.jitter, .int .i64 st.cfg.net, vc1] 66, accR encS 9 1 va1 st.cfg.words, accR encKey 72 2 vb1 st.cfg.cuts, accR encEvt 50 7 vc1 st.es]] := St.close (L1 := [accR Ik.encI 3 1 v1 (((numsM l).getD []))]) hS6
    have hS8 : St (fun _ => False) F w0 w1 [accR Ik.encI 3 1 v1 (((numsM l).getD [])), scR 66 9 72 50 b ((RdS.mk (Cfg.mk st.cfg.words st.cfg.cuts st.cfg.workers st.cfg.copies st.cfg.slots st.cfg.batch st.cfg.lease st.cfg.hedge st.cfg.first st.cfg.cap st.cfg.jitter st.cfg.net) st.es))] := hS7.exi (A := (fun v : Value × Value × Value => boxR [bkR b [v.1, v.2.1, .int .i64 st.cfg.workers, .int .i64 st.cfg.copies, .int .i64 st.cfg.slots, .int .i64 st.cfg.batch, .int .i64 st.cfg.lease, .int .i64 st.cfg.hedge, .int .i64 st.cfg.first, .int .i64 st.cfg.cap, .int .i64 st.cfg.jitter, .int .i64 st.cfg.net, v.2.2] 66, accR encS 9 1 v.1 st.cfg.words, accR encKey 72 2 v.2.1 st.cfg.cuts, accR encEvt 50 7 v.2.2 st.es])) (va1, vb1, vc1) (i := 1) rfl
    have hmm : doSet st l = none := by first | exact st_bad (by first | (left; first | assumption | (symm; assumption)) | (right; omega)) | exact st_yes (by first | assumption | (symm; assumption)) (by omega) hx1 hx2 hx3 hx4 hx5 hx6 hx7 hx8 hx9 hx10 | (exfalso; omega)
    have hS9 : St (fun _ => False) F w0 w1 [scR 66 9 72 50 b ((RdS.mk (Cfg.mk st.cfg.words st.cfg.cuts st.cfg.workers st.cfg.copies st.cfg.slots st.cfg.batch st.cfg.lease st.cfg.hedge st.cfg.first st.cfg.cap st.cfg.jitter st.cfg.net) st.es))] := hS8.sel [1] (by rfl) (by decide)
    obtain ⟨hmF, F2r, hAr, hFr⟩ := hS9.fin
    rw [hmm]
    exact Ret.mk ⟨_, rfl, rfl, hmF, F2r, hAr, hFr⟩
set_option maxRecDepth 20000 in
set_option maxHeartbeats 4000000 in
theorem revent_c {w0 : World} {F : Nat → Prop} {b : Nat} {st : RdS} (hA : (scR (R := fun _ => False) 66 9 72 50 b st).p F w0) (hF : ∀ b, F b → b < w0.heap.size) (hG : GS w0) (hFg : ∀ b, b = gB ∨ b = gS ∨ b = gR → ¬ F b) (hB : RdB st 100000) {v_l : Value} {l : List Str} {G : Nat → Prop} (hl_ : Sl encS w0 G v_l l) (hFG : ∀ x, G x → ¬ F x) (hGl : ∀ x, G x → x < w0.heap.size) (hll : ∀ x ∈ l, x.length ≤ 100000) (hln : l.length ≤ 100000) :
    Calls Tryd.prog 48 #[ptr b 0, v_l] w0 (Ret fun rv w1 => ∃ rb, rb = (doEv st l).isSome ∧ rv = .bool rb ∧ Mod F w0 w1 ∧ ∃ F2, (scR (R := fun _ => False) 66 9 72 50 b ((doEv st l).getD st)).p F2 w1 ∧ ∀ b, F2 b → b < w1.heap.size ∧ (F b ∨ w0.heap.size ≤ b)) := by
  have hS00 := St.start1 (R := fun _ => False) hA (fun b hb => ⟨hF b hb, id⟩) (fun _ h => h.elim)
  obtain ⟨hB1, hB2, hB3⟩ := hB
  have hS1 : St (fun _ => False) F w0 w0 [scR 66 9 72 50 b st] := hS00
  obtain ⟨⟨va1, vb1, vc1⟩, hS2⟩ := hS1.exo (i := 0) rfl
  change St (fun _ => False) F w0 w0 [boxR [bkR b [va1, vb1, .int .i64 st.cfg.workers, .int .i64 st.cfg.copies, .int .i64 st.cfg.slots, .int .i64 st.cfg.batch, .int .i64 st.cfg.lease, .int .i64 st.cfg.hedge, .int .i64 st.cfg.first, .int .i64 st.cfg.cap, .int .i64 st.cfg.jitter, .int .i64 st.cfg.net, vc1] 66, accR encS 9 1 va1 st.cfg.words, accR encKey 72 2 vb1 st.cfg.cuts, accR encEvt 50 7 vc1 st.es]] at hS2
  have hS3 : St (fun _ => False) F w0 w0 [bkR b [va1, vb1, .int .i64 st.cfg.workers, .int .i64 st.cfg.copies, .int .i64 st.cfg.slots, .int .i64 st.cfg.batch, .int .i64 st.cfg.lease, .int .i64 st.cfg.hedge, .int .i64 st.cfg.first, .int .i64 st.cfg.cap, .int .i64 st.cfg.jitter, .int .i64 st.cfg.net, vc1] 66, accR encS 9 1 va1 st.cfg.words, accR encKey 72 2 vb1 st.cfg.cuts, accR encEvt 50 7 vc1 st.es] := St.open (L1 := []) hS2
  have hle_l := hl_.le
  refine calls_enter Tryd.func48 rfl Tryd.ntmps48 rfl ?_
  refine r_seq ?_
  refine r_region ?_
  refine OL.q (Q1.assign rfl) rfl rfl ?_
  refine OL.nil ?_
  refine r_seq ?_
  refine r_region ?_
  refine OL.q (Q1.move rfl) rfl rfl ?_
  refine OL.act rfl rfl (AW.callF cl57 rfl (numbers_c (w0 := w0) (l := l)  (hl_.mono (fun x hx => ⟨Nat.zero_le _, Nat.lt_of_lt_of_le (hGl x hx) hS3.mod.size⟩)) (by exact hG.keep hgp (hS3.mod) hFg) (by first | assumption | exact fun x hx => hll x (List.mem_of_mem_drop hx) | exact fun x hx => hll x (List.mem_of_mem_take hx)) (by first | assumption | omega | (simp; omega))) ?_)
  rintro _ w1 ⟨v1, _, rfl, ⟨gr1, h1, hg1⟩, ⟨b1, hb1, rfl⟩, hm1⟩
  have hS4 := hS3.ext hm1
  have hS5 : St (fun _ => False) F w0 w1 [bkR b [va1, vb1, .int .i64 st.cfg.workers, .int .i64 st.cfg.copies, .int .i64 st.cfg.slots, .int .i64 st.cfg.batch, .int .i64 st.cfg.lease, .int .i64 st.cfg.hedge, .int .i64 st.cfg.first, .int .i64 st.cfg.cap, .int .i64 st.cfg.jitter, .int .i64 st.cfg.net, vc1] 66, accR encS 9 1 va1 st.cfg.words, accR encKey 72 2 vb1 st.cfg.cuts, accR encEvt 50 7 vc1 st.es, accR Ik.encI 3 1 v1 (((numsM l).getD []))] := hS3.newAcc hm1 h1 hg1
  clear hg1
  have hle_1 := h1.le
  refine OL.q (Q1.move rfl) rfl rfl ?_
  refine OL.q (Q1.extract rfl rfl) rfl rfl ?_
  refine OL.q (Q1.extract rfl rfl) rfl rfl ?_
  refine OL.q (Q1.assign rfl) rfl rfl ?_
  refine OL.q (Q1.assign rfl) rfl rfl ?_
  refine OL.nil ?_
  refine r_seq ?_
  refine r_seq ?_
  refine r_region ?_
  refine OL.q (Q1.move rfl) rfl rfl ?_
  cases b1 with
  | true =>
    replace hb1 := hb1.symm
    refine OL.q (Q1.not rfl) rfl rfl ?_
    refine OL.q (Q1.move rfl) rfl rfl ?_
    refine OL.q (Q1.move rfl) rfl rfl ?_
    obtain ⟨g1, f1, hl1, k1⟩ := hS5.accK (i := 4) rfl
    refine OL.q (Q1.lenSl Tryd.underlying82 (f1.sl) rfl) rfl rfl ?_
    refine OL.qb (Q1.ne rfl rfl) rfl rfl ?_
    intro b2 hb2
    refine OL.q (Q1.pick_f rfl rfl) rfl rfl ?_
    refine OL.q (Q1.move rfl) rfl rfl ?_
    cases b2 with
    | true =>
      replace hb2 := bne_iff_ne.1 hb2.symm
      refine OL.sk rfl rfl ?_
      refine OL.sk rfl rfl ?_
      refine OL.sk rfl rfl ?_
      refine OL.sk rfl rfl ?_
      refine OL.q (Q1.pick_t rfl rfl) rfl rfl ?_
      refine OL.nil ?_
      refine r_cond_t rfl ?_
      refine r_seq ?_
      refine r_region ?_
      refine OL.q (Q1.assign rfl) rfl rfl ?_
      refine OL.nil ?_
      refine r_ret1 Tryd.func48 rfl rfl ?_
      have hS6 : St (fun _ => False) F w0 w1 [accR Ik.encI 3 1 v1 (((numsM l).getD [])), bkR b [va1, vb1, .int .i64 st.cfg.workers, .int .i64 st.cfg.copies, .int .i64 st.cfg.slots, .int .i64 st.cfg.batch, .int .i64 st.cfg.lease, .int .i64 st.cfg.hedge, .int .i64 st.cfg.first, .int .i64 st.cfg.cap, .int .i64 st.cfg.jitter, .int .i64 st.cfg.net, vc1] 66, accR encS 9 1 va1 st.cfg.words, accR encKey 72 2 vb1 st.cfg.cuts, accR encEvt 50 7 vc1 st.es] := hS5.sel [4, 0, 1, 2, 3] (by rfl) (by decide)
      have hS7 : St (fun _ => False) F w0 w1 [accR Ik.encI 3 1 v1 (((numsM l).getD [])), boxR [bkR b [va1, vb1, .int .i64 st.cfg.workers, .int .i64 st.cfg.copies, .int .i64 st.cfg.slots, .int .i64 st.cfg.batch, .int .i64 st.cfg.lease, .int .i64 st.cfg.hedge, .int .i64 st.cfg.first, .int .i64 st.cfg.cap, .int .i64 st.cfg.jitter, .int .i64 st.cfg.net, vc1] 66, accR encS 9 1 va1 st.cfg.words, accR encKey 72 2 vb1 st.cfg.cuts, accR encEvt 50 7 vc1 st.es]] := St.close (L1 := [accR Ik.encI 3 1 v1 (((numsM l).getD []))]) hS6
      have hS8 : St (fun _ => False) F w0 w1 [accR Ik.encI 3 1 v1 (((numsM l).getD [])), scR 66 9 72 50 b ((RdS.mk (Cfg.mk st.cfg.words st.cfg.cuts st.cfg.workers st.cfg.copies st.cfg.slots st.cfg.batch st.cfg.lease st.cfg.hedge st.cfg.first st.cfg.cap st.cfg.jitter st.cfg.net) st.es))] := hS7.exi (A := (fun v : Value × Value × Value => boxR [bkR b [v.1, v.2.1, .int .i64 st.cfg.workers, .int .i64 st.cfg.copies, .int .i64 st.cfg.slots, .int .i64 st.cfg.batch, .int .i64 st.cfg.lease, .int .i64 st.cfg.hedge, .int .i64 st.cfg.first, .int .i64 st.cfg.cap, .int .i64 st.cfg.jitter, .int .i64 st.cfg.net, v.2.2] 66, accR encS 9 1 v.1 st.cfg.words, accR encKey 72 2 v.2.1 st.cfg.cuts, accR encEvt 50 7 v.2.2 st.es])) (va1, vb1, vc1) (i := 1) rfl
      have hmm : doEv st l = none := by first | exact ev_bad (by first | (left; first | assumption | (symm; assumption)) | (right; left; omega) | (right; right; rw [hx1]; congr 1)) | exact ev_yes (by first | assumption | (symm; assumption)) (by omega) hx1 hx3 hx4 hx5 (by assumption) | (exfalso; omega)
      have hS9 : St (fun _ => False) F w0 w1 [scR 66 9 72 50 b ((RdS.mk (Cfg.mk st.cfg.words st.cfg.cuts st.cfg.workers st.cfg.copies st.cfg.slots st.cfg.batch st.cfg.lease st.cfg.hedge st.cfg.first st.cfg.cap st.cfg.jitter st.cfg.net) st.es))] := hS8.sel [1] (by rfl) (by decide)
      obtain ⟨hmF, F2r, hAr, hFr⟩ := hS9.fin
      rw [hmm]
      exact Ret.mk ⟨_, rfl, rfl, hmF, F2r, hAr, hFr⟩
    | false =>
      replace hb2 := bne_eq_false_iff_eq.1 hb2.symm
      refine OL.q (Q1.move rfl) rfl rfl ?_
      obtain ⟨x1, b3, o1, hx1, hr1, hl2, hw1⟩ := Sl.atF (P := Tryd.prog) f1.sl Tryd.underlying82 ti3 Ik.encI_len (k := .i64) (n := 0) (0) (by omega) (by first | assumption | omega)
      refine OL.q (Q1.indexAddr rfl rfl hr1) rfl rfl ?_
      refine OL.q (Q1.load1 ti3 rfl (fun _ e => e ▸ hw1)) rfl rfl ?_
      refine OL.qb (Q1.eq rfl rfl) rfl rfl ?_
      intro b4 hb3
      refine OL.q (Q1.pick_f rfl rfl) rfl rfl ?_
      refine OL.nil ?_
      cases b4 with
      | true =>
        replace hb3 := eq_of_beq hb3.symm
        refine r_cond_t rfl ?_
        refine r_seq ?_
        refine r_region ?_
        refine OL.q (Q1.assign rfl) rfl rfl ?_
        refine OL.nil ?_
        refine r_ret1 Tryd.func48 rfl rfl ?_
        have hS6 : St (fun _ => False) F w0 w1 [accR Ik.encI 3 1 v1 (((numsM l).getD [])), bkR b [va1, vb1, .int .i64 st.cfg.workers, .int .i64 st.cfg.copies, .int .i64 st.cfg.slots, .int .i64 st.cfg.batch, .int .i64 st.cfg.lease, .int .i64 st.cfg.hedge, .int .i64 st.cfg.first, .int .i64 st.cfg.cap, .int .i64 st.cfg.jitter, .int .i64 st.cfg.net, vc1] 66, accR encS 9 1 va1 st.cfg.words, accR encKey 72 2 vb1 st.cfg.cuts, accR encEvt 50 7 vc1 st.es] := hS5.sel [4, 0, 1, 2, 3] (by rfl) (by decide)
        have hS7 : St (fun _ => False) F w0 w1 [accR Ik.encI 3 1 v1 (((numsM l).getD [])), boxR [bkR b [va1, vb1, .int .i64 st.cfg.workers, .int .i64 st.cfg.copies, .int .i64 st.cfg.slots, .int .i64 st.cfg.batch, .int .i64 st.cfg.lease, .int .i64 st.cfg.hedge, .int .i64 st.cfg.first, .int .i64 st.cfg.cap, .int .i64 st.cfg.jitter, .int .i64 st.cfg.net, vc1] 66, accR encS 9 1 va1 st.cfg.words, accR encKey 72 2 vb1 st.cfg.cuts, accR encEvt 50 7 vc1 st.es]] := St.close (L1 := [accR Ik.encI 3 1 v1 (((numsM l).getD []))]) hS6
        have hS8 : St (fun _ => False) F w0 w1 [accR Ik.encI 3 1 v1 (((numsM l).getD [])), scR 66 9 72 50 b ((RdS.mk (Cfg.mk st.cfg.words st.cfg.cuts st.cfg.workers st.cfg.copies st.cfg.slots st.cfg.batch st.cfg.lease st.cfg.hedge st.cfg.first st.cfg.cap st.cfg.jitter st.cfg.net) st.es))] := hS7.exi (A := (fun v : Value × Value × Value => boxR [bkR b [v.1, v.2.1, .int .i64 st.cfg.workers, .int .i64 st.cfg.copies, .int .i64 st.cfg.slots, .int .i64 st.cfg.batch, .int .i64 st.cfg.lease, .int .i64 st.cfg.hedge, .int .i64 st.cfg.first, .int .i64 st.cfg.cap, .int .i64 st.cfg.jitter, .int .i64 st.cfg.net, v.2.2] 66, accR encS 9 1 v.1 st.cfg.words, accR encKey 72 2 v.2.1 st.cfg.cuts, accR encEvt 50 7 v.2.2 st.es])) (va1, vb1, vc1) (i := 1) rfl
        have hmm : doEv st l = none := by first | exact ev_bad (by first | (left; first | assumption | (symm; assumption)) | (right; left; omega) | (right; right; rw [hx1]; congr 1)) | exact ev_yes (by first | assumption | (symm; assumption)) (by omega) hx1 hx3 hx4 hx5 (by assumption) | (exfalso; omega)
        have hS9 : St (fun _ => False) F w0 w1 [scR 66 9 72 50 b ((RdS.mk (Cfg.mk st.cfg.words st.cfg.cuts st.cfg.workers st.cfg.copies st.cfg.slots st.cfg.batch st.cfg.lease st.cfg.hedge st.cfg.first st.cfg.cap st.cfg.jitter st.cfg.net) st.es))] := hS8.sel [1] (by rfl) (by decide)
        obtain ⟨hmF, F2r, hAr, hFr⟩ := hS9.fin
        rw [hmm]
        exact Ret.mk ⟨_, rfl, rfl, hmF, F2r, hAr, hFr⟩
      | false =>
        replace hb3 := ne_of_beq_false hb3.symm
        refine r_cond_f rfl ?_
        refine r_skip ?_
        refine r_seq ?_
        obtain ⟨x2, b5, o2, hx2, hr2, hl3, hw2⟩ := Sl.atF (P := Tryd.prog) f1.sl Tryd.underlying82 ti3 Ik.encI_len (k := .i64) (n := 0) (0) (by omega) (by first | assumption | omega)
        obtain rfl : x1 = x2 := Option.some.inj (hx1.symm.trans hx2)
        obtain ⟨x3, b6, o3, hx3, hr3, hl4, hw3⟩ := Sl.atF (P := Tryd.prog) f1.sl Tryd.underlying82 ti3 Ik.encI_len (k := .i64) (n := 1) (1) (by omega) (by first | assumption | omega)
        obtain ⟨x4, b7, o4, hx4, hr4, hl5, hw4⟩ := Sl.atF (P := Tryd.prog) f1.sl Tryd.underlying82 ti3 Ik.encI_len (k := .i64) (n := 2) (2) (by omega) (by first | assumption | omega)
        obtain ⟨x5, b8, o5, hx5, hr5, hl6, hw5⟩ := Sl.atF (P := Tryd.prog) f1.sl Tryd.underlying82 ti3 Ik.encI_len (k := .i64) (n := 3) (3) (by omega) (by first | assumption | omega)
        refine r_draw1 (fun i => Nat.beq i 18 || Nat.beq i 19 || Nat.beq i 22) 22 (fun w' => Bk w' b [va1, vb1, .int .i64 st.cfg.workers, .int .i64 st.cfg.copies, .int .i64 st.cfg.slots, .int .i64 st.cfg.batch, .int .i64 st.cfg.lease, .int .i64 st.cfg.hedge, .int .i64 st.cfg.first, .int .i64 st.cfg.cap, .int .i64 st.cfg.jitter, .int .i64 st.cfg.net, vc1] 66 ∧ Row w' b5 o2 (Ik.encI x1) ∧ Row w' b6 o3 (Ik.encI x3) ∧ Row w' b7 o4 (Ik.encI x4) ∧ Row w' b8 o5 (Ik.encI x5)) mixed (by kernel_rfl) ?_
        intro w2 hm2
        have hS6 := hS5.ext hm2
        have f2 := hS6.bk (i := 0) rfl
        obtain ⟨g2, f3, hl7, k2⟩ := hS6.accK (i := 4) rfl
        refine ⟨⟨f2, (Sl.rowAt f3.sl Tryd.underlying82 ti3 Ik.encI_len 0 (by omega) hx2 hr2), (Sl.rowAt f3.sl Tryd.underlying82 ti3 Ik.encI_len 1 (by omega) hx3 hr3), (Sl.rowAt f3.sl Tryd.underlying82 ti3 Ik.encI_len 2 (by omega) hx4 hr4), (Sl.rowAt f3.sl Tryd.underlying82 ti3 Ik.encI_len 3 (by omega) hx5 hr5)⟩, ?_⟩
        rw [show List.range' 0 (Array.size _) = [0, 1, 2, 3, 4, 5, 6, 7, 8, 9, 10, 11, 12, 13, 14, 15, 16, 17, 18, 19, 20, 21, 22] from rfl]
        refine OD.q rfl rfl (Q1.move rfl) rfl rfl ?_
        refine OD.q rfl rfl (Q1.move rfl) rfl rfl ?_
        refine OD.q rfl rfl (Q1.nilCheckP rfl) rfl rfl ?_
        refine OD.q rfl rfl (Q1.fieldAddr fl66_1 rfl) rfl rfl ?_
        have f4 := hS5.bk (i := 0) rfl
        refine OD.q rfl rfl (Q1.load1 ti31 rfl (fun _ hc => (hc.1.cell 12 _ rfl))) rfl rfl ?_
        refine OD.q rfl rfl (Q1.move rfl) rfl rfl ?_
        refine OD.q rfl rfl (Q1.indexAddr rfl rfl hr2) rfl rfl ?_
        refine OD.q rfl rfl (Q1.load1 ti3 rfl (fun _ hc => hc.2.1)) rfl rfl ?_
        refine OD.q rfl rfl (Q1.move rfl) rfl rfl ?_
        refine OD.q rfl rfl (Q1.indexAddr rfl rfl hr3) rfl rfl ?_
        refine OD.q rfl rfl (Q1.load1 ti3 rfl (fun _ hc => hc.2.2.1)) rfl rfl ?_
        refine OD.q rfl rfl (Q1.move rfl) rfl rfl ?_
        refine OD.q rfl rfl (Q1.indexAddr rfl rfl hr4) rfl rfl ?_
        refine OD.q rfl rfl (Q1.load1 ti3 rfl (fun _ hc => hc.2.2.2.1)) rfl rfl ?_
        refine OD.q rfl rfl (Q1.move rfl) rfl rfl ?_
        refine OD.q rfl rfl (Q1.indexAddr rfl rfl hr5) rfl rfl ?_
        refine OD.q rfl rfl (Q1.load1 ti3 rfl (fun _ hc => hc.2.2.2.2)) rfl rfl ?_
        refine OD.q rfl rfl (Q1.build (vs := #[(0, (.int .i64 x1 : Value)), (1, (.int .i64 x3 : Value)), (2, (.int .i64 x4 : Value)), (3, (.int .i64 x5 : Value))]) (v := .agg #[.int .i64 x1, .int .i64 x3, .int .i64 x4, .int .i64 x5, strV [], .int .i64 0, .int .i64 0]) rfl (fun _ => by kernel_rfl)) rfl rfl ?_
        refine OD.act rfl rfl rfl rfl (AW.buildSlice [(.agg #[.int .i64 x1, .int .i64 x3, .int .i64 x4, .int .i64 x5, strV [], .int .i64 0, .int .i64 0] : Value)] Tryd.underlying31 ti50 rfl rfl rfl (by decide) ?_)
        intro w3 b9 hm3 hb4 hz1 hk1
        have hS7 := hS6.ext hm3
        have hl8 := Sl.of_blk (enc := encEvt) hk1 ([(evt7 x1 x3 x4 x5 [] 0 0)] : List Evt) 1 rfl rfl (by unfold maxLen; omega)
        have hS8 : St (fun _ => False) F w0 w3 [bkR b [va1, vb1, .int .i64 st.cfg.workers, .int .i64 st.cfg.copies, .int .i64 st.cfg.slots, .int .i64 st.cfg.batch, .int .i64 st.cfg.lease, .int .i64 st.cfg.hedge, .int .i64 st.cfg.first, .int .i64 st.cfg.cap, .int .i64 st.cfg.jitter, .int .i64 st.cfg.net, vc1] 66, accR encS 9 1 va1 st.cfg.words, accR encKey 72 2 vb1 st.cfg.cuts, accR encEvt 50 7 vc1 st.es, accR Ik.encI 3 1 v1 (((numsM l).getD [])), slR encEvt [((.slice (some ⟨b9, 0, none⟩) 1 1), [(evt7 x1 x3 x4 x5 [] 0 0)])]] := hS6.newSlB hm3 hb4 hz1 hl8
        have f5 := hS8.bk (i := 0) rfl
        obtain ⟨g3, f6, hl9, k3⟩ := hS8.accK (i := 4) rfl
        refine ⟨.inr ⟨f5, (Sl.rowAt f6.sl Tryd.underlying82 ti3 Ik.encI_len 0 (by omega) hx2 hr2), (Sl.rowAt f6.sl Tryd.underlying82 ti3 Ik.encI_len 1 (by omega) hx3 hr3), (Sl.rowAt f6.sl Tryd.underlying82 ti3 Ik.encI_len 2 (by omega) hx4 hr4), (Sl.rowAt f6.sl Tryd.underlying82 ti3 Ik.encI_len 3 (by omega) hx5 hr5)⟩, ?_⟩
        obtain ⟨g5, f7, hl10, k4⟩ := hS8.accK (i := 3) rfl
        have f8 := hS8.sl (i := 5) (k := 0) rfl rfl
        refine OD.act rfl rfl rfl rfl (AW.append f7 Tryd.underlying31 ti50 rfl encEvt_len encEvt_one rfl rfl (f8) (by first | omega | (simp only [List.length_append, List.length_cons, List.length_nil]; omega) | (simp; omega)) (by unfold maxLen; first | omega | (simp only [List.length_append, List.length_cons, List.length_nil]; omega) | (simp; omega)) ?_)
        intro v2 g4 w4 ha1 hm4 hg2 hz2
        have hS9 : St (fun _ => False) F w0 w4 [bkR b [va1, vb1, .int .i64 st.cfg.workers, .int .i64 st.cfg.copies, .int .i64 st.cfg.slots, .int .i64 st.cfg.batch, .int .i64 st.cfg.lease, .int .i64 st.cfg.hedge, .int .i64 st.cfg.first, .int .i64 st.cfg.cap, .int .i64 st.cfg.jitter, .int .i64 st.cfg.net, vc1] 66, accR encS 9 1 va1 st.cfg.words, accR encKey 72 2 vb1 st.cfg.cuts, accR encEvt 50 7 v2 ((st.es ++ [(evt7 x1 x3 x4 x5 [] 0 0)])), accR Ik.encI 3 1 v1 (((numsM l).getD [])), slR encEvt [((.slice (some ⟨b9, 0, none⟩) 1 1), [(evt7 x1 x3 x4 x5 [] 0 0)])]] := k4 _ _ _ _ hm4 ha1 hg2
        have f9 := hS9.bk (i := 0) rfl
        obtain ⟨g6, f10, hl11, k5⟩ := hS9.accK (i := 4) rfl
        refine ⟨.inr ⟨f9, (Sl.rowAt f10.sl Tryd.underlying82 ti3 Ik.encI_len 0 (by omega) hx2 hr2), (Sl.rowAt f10.sl Tryd.underlying82 ti3 Ik.encI_len 1 (by omega) hx3 hr3), (Sl.rowAt f10.sl Tryd.underlying82 ti3 Ik.encI_len 2 (by omega) hx4 hr4), (Sl.rowAt f10.sl Tryd.underlying82 ti3 Ik.encI_len 3 (by omega) hx5 hr5)⟩, ?_⟩
        clear hg2
        refine OD.q rfl rfl (Q1.nilCheckP rfl) rfl rfl ?_
        refine OD.q rfl rfl (Q1.fieldAddr fl66_1 rfl) rfl rfl ?_
        obtain ⟨g7, f11, hl12, k6⟩ := hS9.accK (i := 3) rfl
        obtain ⟨ad1, cp1, hv1⟩ := f11.shape
        subst hv1
        refine OD.act rfl rfl rfl rfl (AW.store ti31 rfl rfl rfl rfl rfl f9 (Nat.le_of_ble_eq_true rfl) ?_)
        intro w5 hm5 hz3 hk2
        have hS10 : St (fun _ => False) F w0 w5 [bkR b [va1, vb1, .int .i64 st.cfg.workers, .int .i64 st.cfg.copies, .int .i64 st.cfg.slots, .int .i64 st.cfg.batch, .int .i64 st.cfg.lease, .int .i64 st.cfg.hedge, .int .i64 st.cfg.first, .int .i64 st.cfg.cap, .int .i64 st.cfg.jitter, .int .i64 st.cfg.net, (.slice ad1 ((st.es ++ [(evt7 x1 x3 x4 x5 [] 0 0)])).length cp1)] 66, accR encS 9 1 va1 st.cfg.words, accR encKey 72 2 vb1 st.cfg.cuts, accR encEvt 50 7 ((.slice ad1 ((st.es ++ [(evt7 x1 x3 x4 x5 [] 0 0)])).length cp1)) ((st.es ++ [(evt7 x1 x3 x4 x5 [] 0 0)])), accR Ik.encI 3 1 v1 (((numsM l).getD [])), slR encEvt [((.slice (some ⟨b9, 0, none⟩) 1 1), [(evt7 x1 x3 x4 x5 [] 0 0)])]] := hS9.bkK (i := 0) rfl hm5 hk2
        refine ⟨.inl rfl, ?_⟩
        refine OD.nil ?_
        refine r_seq ?_
        refine r_region ?_
        refine OL.q (Q1.assign rfl) rfl rfl ?_
        refine OL.nil ?_
        refine r_ret1 Tryd.func48 rfl rfl ?_
        have hS11 : St (fun _ => False) F w0 w5 [accR Ik.encI 3 1 v1 (((numsM l).getD [])), slR encEvt [((.slice (some ⟨b9, 0, none⟩) 1 1), [(evt7 x1 x3 x4 x5 [] 0 0)])], bkR b [va1, vb1, .int .i64 st.cfg.workers, .int .i64 st.cfg.copies, .int .i64 st.cfg.slots, .int .i64 st.cfg.batch, .int .i64 st.cfg.lease, .int .i64 st.cfg.hedge, .int .i64 st.cfg.first, .int .i64 st.cfg.cap, .int .i64 st.cfg.jitter, .int .i64 st.cfg.net, (.slice ad1 ((st.es ++ [(evt7 x1 x3 x4 x5 [] 0 0)])).length cp1)] 66, accR encS 9 1 va1 st.cfg.words, accR encKey 72 2 vb1 st.cfg.cuts, accR encEvt 50 7 ((.slice ad1 ((st.es ++ [(evt7 x1 x3 x4 x5 [] 0 0)])).length cp1)) ((st.es ++ [(evt7 x1 x3 x4 x5 [] 0 0)]))] := hS10.sel [4, 5, 0, 1, 2, 3] (by rfl) (by decide)
        have hS12 : St (fun _ => False) F w0 w5 [accR Ik.encI 3 1 v1 (((numsM l).getD [])), slR encEvt [((.slice (some ⟨b9, 0, none⟩) 1 1), [(evt7 x1 x3 x4 x5 [] 0 0)])], boxR [bkR b [va1, vb1, .int .i64 st.cfg.workers, .int .i64 st.cfg.copies, .int .i64 st.cfg.slots, .int .i64 st.cfg.batch, .int .i64 st.cfg.lease, .int .i64 st.cfg.hedge, .int .i64 st.cfg.first, .int .i64 st.cfg.cap, .int .i64 st.cfg.jitter, .int .i64 st.cfg.net, (.slice ad1 ((st.es ++ [(evt7 x1 x3 x4 x5 [] 0 0)])).length cp1)] 66, accR encS 9 1 va1 st.cfg.words, accR encKey 72 2 vb1 st.cfg.cuts, accR encEvt 50 7 ((.slice ad1 ((st.es ++ [(evt7 x1 x3 x4 x5 [] 0 0)])).length cp1)) ((st.es ++ [(evt7 x1 x3 x4 x5 [] 0 0)]))]] := St.close (L1 := [accR Ik.encI 3 1 v1 (((numsM l).getD [])), slR encEvt [((.slice (some ⟨b9, 0, none⟩) 1 1), [(evt7 x1 x3 x4 x5 [] 0 0)])]]) hS11
        have hS13 : St (fun _ => False) F w0 w5 [accR Ik.encI 3 1 v1 (((numsM l).getD [])), slR encEvt [((.slice (some ⟨b9, 0, none⟩) 1 1), [(evt7 x1 x3 x4 x5 [] 0 0)])], scR 66 9 72 50 b ((RdS.mk (Cfg.mk st.cfg.words st.cfg.cuts st.cfg.workers st.cfg.copies st.cfg.slots st.cfg.batch st.cfg.lease st.cfg.hedge st.cfg.first st.cfg.cap st.cfg.jitter st.cfg.net) ((st.es ++ [(evt7 x1 x3 x4 x5 [] 0 0)]))))] := hS12.exi (A := (fun v : Value × Value × Value => boxR [bkR b [v.1, v.2.1, .int .i64 st.cfg.workers, .int .i64 st.cfg.copies, .int .i64 st.cfg.slots, .int .i64 st.cfg.batch, .int .i64 st.cfg.lease, .int .i64 st.cfg.hedge, .int .i64 st.cfg.first, .int .i64 st.cfg.cap, .int .i64 st.cfg.jitter, .int .i64 st.cfg.net, v.2.2] 66, accR encS 9 1 v.1 st.cfg.words, accR encKey 72 2 v.2.1 st.cfg.cuts, accR encEvt 50 7 v.2.2 ((st.es ++ [(evt7 x1 x3 x4 x5 [] 0 0)]))])) (va1, vb1, (.slice ad1 ((st.es ++ [(evt7 x1 x3 x4 x5 [] 0 0)])).length cp1)) (i := 2) rfl
        have hmm : doEv st l = some (RdS.mk (Cfg.mk st.cfg.words st.cfg.cuts st.cfg.workers st.cfg.copies st.cfg.slots st.cfg.batch st.cfg.lease st.cfg.hedge st.cfg.first st.cfg.cap st.cfg.jitter st.cfg.net) ((st.es ++ [(evt7 x1 x3 x4 x5 [] 0 0)]))) := by first | exact ev_bad (by first | (left; first | assumption | (symm; assumption)) | (right; left; omega) | (right; right; rw [hx1]; congr 1)) | exact ev_yes (by first | assumption | (symm; assumption)) (by omega) hx1 hx3 hx4 hx5 (by assumption) | (exfalso; omega)
        have hS14 : St (fun _ => False) F w0 w5 [scR 66 9 72 50 b ((RdS.mk (Cfg.mk st.cfg.words st.cfg.cuts st.cfg.workers st.cfg.copies st.cfg.slots st.cfg.batch st.cfg.lease st.cfg.hedge st.cfg.first st.cfg.cap st.cfg.jitter st.cfg.net) ((st.es ++ [(evt7 x1 x3 x4 x5 [] 0 0)]))))] := hS13.sel [2] (by rfl) (by decide)
        obtain ⟨hmF, F2r, hAr, hFr⟩ := hS14.fin
        rw [hmm]
        exact Ret.mk ⟨_, rfl, rfl, hmF, F2r, hAr, hFr⟩
  | false =>
    replace hb1 := hb1.symm
    refine OL.q (Q1.not rfl) rfl rfl ?_
    refine OL.q (Q1.move rfl) rfl rfl ?_
    refine OL.sk rfl rfl ?_
    refine OL.sk rfl rfl ?_
    refine OL.sk rfl rfl ?_
    refine OL.q (Q1.pick_t rfl rfl) rfl rfl ?_
    refine OL.q (Q1.move rfl) rfl rfl ?_
    refine OL.sk rfl rfl ?_
    refine OL.sk rfl rfl ?_
    refine OL.sk rfl rfl ?_
    refine OL.sk rfl rfl ?_
    refine OL.q (Q1.pick_t rfl rfl) rfl rfl ?_
    refine OL.nil ?_
    refine r_cond_t rfl ?_
    refine r_seq ?_
    refine r_region ?_
    refine OL.q (Q1.assign rfl) rfl rfl ?_
    refine OL.nil ?_
    refine r_ret1 Tryd.func48 rfl rfl ?_
    have hS6 : St (fun _ => False) F w0 w1 [accR Ik.encI 3 1 v1 (((numsM l).getD [])), bkR b [va1, vb1, .int .i64 st.cfg.workers, .int .i64 st.cfg.copies, .int .i64 st.cfg.slots, .int .i64 st.cfg.batch, .int .i64 st.cfg.lease, .int .i64 st.cfg.hedge, .int .i64 st.cfg.first, .int .i64 st.cfg.cap, .int .i64 st.cfg.jitter, .int .i64 st.cfg.net, vc1] 66, accR encS 9 1 va1 st.cfg.words, accR encKey 72 2 vb1 st.cfg.cuts, accR encEvt 50 7 vc1 st.es] := hS5.sel [4, 0, 1, 2, 3] (by rfl) (by decide)
    have hS7 : St (fun _ => False) F w0 w1 [accR Ik.encI 3 1 v1 (((numsM l).getD [])), boxR [bkR b [va1, vb1, .int .i64 st.cfg.workers, .int .i64 st.cfg.copies, .int .i64 st.cfg.slots, .int .i64 st.cfg.batch, .int .i64 st.cfg.lease, .int .i64 st.cfg.hedge, .int .i64 st.cfg.first, .int .i64 st.cfg.cap, .int .i64 st.cfg.jitter, .int .i64 st.cfg.net, vc1] 66, accR encS 9 1 va1 st.cfg.words, accR encKey 72 2 vb1 st.cfg.cuts, accR encEvt 50 7 vc1 st.es]] := St.close (L1 := [accR Ik.encI 3 1 v1 (((numsM l).getD []))]) hS6
    have hS8 : St (fun _ => False) F w0 w1 [accR Ik.encI 3 1 v1 (((numsM l).getD [])), scR 66 9 72 50 b ((RdS.mk (Cfg.mk st.cfg.words st.cfg.cuts st.cfg.workers st.cfg.copies st.cfg.slots st.cfg.batch st.cfg.lease st.cfg.hedge st.cfg.first st.cfg.cap st.cfg.jitter st.cfg.net) st.es))] := hS7.exi (A := (fun v : Value × Value × Value => boxR [bkR b [v.1, v.2.1, .int .i64 st.cfg.workers, .int .i64 st.cfg.copies, .int .i64 st.cfg.slots, .int .i64 st.cfg.batch, .int .i64 st.cfg.lease, .int .i64 st.cfg.hedge, .int .i64 st.cfg.first, .int .i64 st.cfg.cap, .int .i64 st.cfg.jitter, .int .i64 st.cfg.net, v.2.2] 66, accR encS 9 1 v.1 st.cfg.words, accR encKey 72 2 v.2.1 st.cfg.cuts, accR encEvt 50 7 v.2.2 st.es])) (va1, vb1, vc1) (i := 1) rfl
    have hmm : doEv st l = none := by first | exact ev_bad (by first | (left; first | assumption | (symm; assumption)) | (right; left; omega) | (right; right; rw [hx1]; congr 1)) | exact ev_yes (by first | assumption | (symm; assumption)) (by omega) hx1 hx3 hx4 hx5 (by assumption) | (exfalso; omega)
    have hS9 : St (fun _ => False) F w0 w1 [scR 66 9 72 50 b ((RdS.mk (Cfg.mk st.cfg.words st.cfg.cuts st.cfg.workers st.cfg.copies st.cfg.slots st.cfg.batch st.cfg.lease st.cfg.hedge st.cfg.first st.cfg.cap st.cfg.jitter st.cfg.net) st.es))] := hS8.sel [1] (by rfl) (by decide)
    obtain ⟨hmF, F2r, hAr, hFr⟩ := hS9.fin
    rw [hmm]
    exact Ret.mk ⟨_, rfl, rfl, hmF, F2r, hAr, hFr⟩
set_option maxRecDepth 20000 in
set_option maxHeartbeats 4000000 in
theorem rask_c {w0 : World} {F : Nat → Prop} {b : Nat} {st : RdS} (hA : (scR (R := fun _ => False) 66 9 72 50 b st).p F w0) (hF : ∀ b, F b → b < w0.heap.size) (hG : GS w0) (hFg : ∀ b, b = gB ∨ b = gS ∨ b = gR → ¬ F b) (hB : RdB st 100000) {v_l : Value} {l : List Str} {G : Nat → Prop} (hl_ : Sl encS w0 G v_l l) (hFG : ∀ x, G x → ¬ F x) (hGl : ∀ x, G x → x < w0.heap.size) (hll : ∀ x ∈ l, x.length ≤ 100000) (hln : l.length ≤ 100000) :
    Calls Tryd.prog 49 #[ptr b 0, v_l] w0 (Ret fun rv w1 => ∃ rb, rb = (doAsk st l).isSome ∧ rv = .bool rb ∧ Mod F w0 w1 ∧ ∃ F2, (scR (R := fun _ => False) 66 9 72 50 b ((doAsk st l).getD st)).p F2 w1 ∧ ∀ b, F2 b → b < w1.heap.size ∧ (F b ∨ w0.heap.size ≤ b)) := by
  have hS00 := St.start1 (R := fun _ => False) hA (fun b hb => ⟨hF b hb, id⟩) (fun _ h => h.elim)
  obtain ⟨hB1, hB2, hB3⟩ := hB
  have hS1 : St (fun _ => False) F w0 w0 [scR 66 9 72 50 b st] := hS00
  obtain ⟨⟨va1, vb1, vc1⟩, hS2⟩ := hS1.exo (i := 0) rfl
  change St (fun _ => False) F w0 w0 [boxR [bkR b [va1, vb1, .int .i64 st.cfg.workers, .int .i64 st.cfg.copies, .int .i64 st.cfg.slots, .int .i64 st.cfg.batch, .int .i64 st.cfg.lease, .int .i64 st.cfg.hedge, .int .i64 st.cfg.first, .int .i64 st.cfg.cap, .int .i64 st.cfg.jitter, .int .i64 st.cfg.net, vc1] 66, accR encS 9 1 va1 st.cfg.words, accR encKey 72 2 vb1 st.cfg.cuts, accR encEvt 50 7 vc1 st.es]] at hS2
  have hS3 : St (fun _ => False) F w0 w0 [bkR b [va1, vb1, .int .i64 st.cfg.workers, .int .i64 st.cfg.copies, .int .i64 st.cfg.slots, .int .i64 st.cfg.batch, .int .i64 st.cfg.lease, .int .i64 st.cfg.hedge, .int .i64 st.cfg.first, .int .i64 st.cfg.cap, .int .i64 st.cfg.jitter, .int .i64 st.cfg.net, vc1] 66, accR encS 9 1 va1 st.cfg.words, accR encKey 72 2 vb1 st.cfg.cuts, accR encEvt 50 7 vc1 st.es] := St.open (L1 := []) hS2
  have hle_l := hl_.le
  refine calls_enter Tryd.func49 rfl Tryd.ntmps49 rfl ?_
  refine r_seq ?_
  refine r_region ?_
  refine OL.q (Q1.assign rfl) rfl rfl ?_
  refine OL.nil ?_
  refine r_seq ?_
  refine r_region ?_
  refine OL.q (Q1.move rfl) rfl rfl ?_
  refine OL.act rfl rfl (AW.callF cl58 rfl (asked_c (w0 := w0) (l := l)  (hl_.mono (fun x hx => ⟨Nat.zero_le _, Nat.lt_of_lt_of_le (hGl x hx) hS3.mod.size⟩)) (by exact hG.keep hgp (hS3.mod) hFg) (by first | assumption | exact fun x hx => hll x (List.mem_of_mem_drop hx) | exact fun x hx => hll x (List.mem_of_mem_take hx))) ?_)
  rintro _ w1 ⟨_, _, rfl, rfl, ⟨b1, hb1, rfl⟩, hm1⟩
  have hS4 := hS3.ext hm1
  refine OL.q (Q1.move rfl) rfl rfl ?_
  refine OL.q (Q1.extract rfl rfl) rfl rfl ?_
  refine OL.q (Q1.extract rfl rfl) rfl rfl ?_
  refine OL.act rfl rfl (AW.alloc ti48 ?_)
  intro w2 b2 hm2 hb2 hz1 hk1
  have hS5 := hS4.ext hm2
  have hS6 : St (fun _ => False) F w0 w2 [bkR b [va1, vb1, .int .i64 st.cfg.workers, .int .i64 st.cfg.copies, .int .i64 st.cfg.slots, .int .i64 st.cfg.batch, .int .i64 st.cfg.lease, .int .i64 st.cfg.hedge, .int .i64 st.cfg.first, .int .i64 st.cfg.cap, .int .i64 st.cfg.jitter, .int .i64 st.cfg.net, vc1] 66, accR encS 9 1 va1 st.cfg.words, accR encKey 72 2 vb1 st.cfg.cuts, accR encEvt 50 7 vc1 st.es, bkR b2 [strV [], .int .i64 0, .int .i64 0] 48] := hS4.newBk hm2 hb2 hk1
  have f1 := hS6.bk (i := 4) rfl
  refine OL.act rfl rfl (AW.store ti48 rfl rfl rfl rfl rfl f1 (Nat.le_of_ble_eq_true rfl) ?_)
  intro w3 hm3 hz2 hk2
  have hS7 : St (fun _ => False) F w0 w3 [bkR b [va1, vb1, .int .i64 st.cfg.workers, .int .i64 st.cfg.copies, .int .i64 st.cfg.slots, .int .i64 st.cfg.batch, .int .i64 st.cfg.lease, .int .i64 st.cfg.hedge, .int .i64 st.cfg.first, .int .i64 st.cfg.cap, .int .i64 st.cfg.jitter, .int .i64 st.cfg.net, vc1] 66, accR encS 9 1 va1 st.cfg.words, accR encKey 72 2 vb1 st.cfg.cuts, accR encEvt 50 7 vc1 st.es, bkR b2 [strV (((askM l).getD zeroQ).text), .int .i64 (((askM l).getD zeroQ).k), .int .i64 (((askM l).getD zeroQ).n)] 48] := hS6.bkK (i := 4) rfl hm3 hk2
  refine OL.q (Q1.assign rfl) rfl rfl ?_
  refine OL.nil ?_
  refine r_seq ?_
  refine r_seq ?_
  refine r_region ?_
  refine OL.q (Q1.move rfl) rfl rfl ?_
  refine OL.nil ?_
  cases b1 with
  | true =>
    replace hb1 := hb1.symm
    refine r_cond_t rfl ?_
    refine r_draw1 (fun i => Nat.beq i 7 || Nat.beq i 8 || Nat.beq i 11) 11 (fun w' => Bk w' b [va1, vb1, .int .i64 st.cfg.workers, .int .i64 st.cfg.copies, .int .i64 st.cfg.slots, .int .i64 st.cfg.batch, .int .i64 st.cfg.lease, .int .i64 st.cfg.hedge, .int .i64 st.cfg.first, .int .i64 st.cfg.cap, .int .i64 st.cfg.jitter, .int .i64 st.cfg.net, vc1] 66 ∧ Bk w' b2 [strV (((askM l).getD zeroQ).text), .int .i64 (((askM l).getD zeroQ).k), .int .i64 (((askM l).getD zeroQ).n)] 48) mixed (by kernel_rfl) ?_
    intro w4 hm4
    have hS8 := hS7.ext hm4
    have f2 := hS8.bk (i := 0) rfl
    have f3 := hS8.bk (i := 4) rfl
    refine ⟨⟨f2, f3⟩, ?_⟩
    rw [show List.range' 0 (Array.size _) = [0, 1, 2, 3, 4, 5, 6, 7, 8, 9, 10, 11] from rfl]
    refine OD.q rfl rfl (Q1.move rfl) rfl rfl ?_
    refine OD.q rfl rfl (Q1.move rfl) rfl rfl ?_
    refine OD.q rfl rfl (Q1.nilCheckP rfl) rfl rfl ?_
    refine OD.q rfl rfl (Q1.fieldAddr fl66_1 rfl) rfl rfl ?_
    have f4 := hS7.bk (i := 0) rfl
    refine OD.q rfl rfl (Q1.load1 ti31 rfl (fun _ hc => (hc.1.cell 12 _ rfl))) rfl rfl ?_
    have f5 := hS7.bk (i := 4) rfl
    refine OD.q rfl rfl (Q1.loadN ti48 rfl (fun _ hc => hc.2.row) rfl) rfl rfl ?_
    refine OD.q rfl rfl (Q1.build (vs := #[(0, (.int .i64 1 : Value)), (4, (.agg #[strV (((askM l).getD zeroQ).text), .int .i64 (((askM l).getD zeroQ).k), .int .i64 (((askM l).getD zeroQ).n)] : Value))]) (v := .agg #[.int .i64 1, .int .i64 0, .int .i64 0, .int .i64 0, strV (((askM l).getD zeroQ).text), .int .i64 (((askM l).getD zeroQ).k), .int .i64 (((askM l).getD zeroQ).n)]) rfl (fun _ => by kernel_rfl)) rfl rfl ?_
    refine OD.act rfl rfl rfl rfl (AW.buildSlice [(.agg #[.int .i64 1, .int .i64 0, .int .i64 0, .int .i64 0, strV (((askM l).getD zeroQ).text), .int .i64 (((askM l).getD zeroQ).k), .int .i64 (((askM l).getD zeroQ).n)] : Value)] Tryd.underlying31 ti50 rfl rfl rfl (by decide) ?_)
    intro w5 b3 hm5 hb3 hz3 hk3
    have hS9 := hS8.ext hm5
    have hl1 := Sl.of_blk (enc := encEvt) hk3 ([(evt7 1 0 0 0 (((askM l).getD zeroQ).text) (((askM l).getD zeroQ).k) (((askM l).getD zeroQ).n))] : List Evt) 1 rfl rfl (by unfold maxLen; omega)
    have hS10 : St (fun _ => False) F w0 w5 [bkR b [va1, vb1, .int .i64 st.cfg.workers, .int .i64 st.cfg.copies, .int .i64 st.cfg.slots, .int .i64 st.cfg.batch, .int .i64 st.cfg.lease, .int .i64 st.cfg.hedge, .int .i64 st.cfg.first, .int .i64 st.cfg.cap, .int .i64 st.cfg.jitter, .int .i64 st.cfg.net, vc1] 66, accR encS 9 1 va1 st.cfg.words, accR encKey 72 2 vb1 st.cfg.cuts, accR encEvt 50 7 vc1 st.es, bkR b2 [strV (((askM l).getD zeroQ).text), .int .i64 (((askM l).getD zeroQ).k), .int .i64 (((askM l).getD zeroQ).n)] 48, slR encEvt [((.slice (some ⟨b3, 0, none⟩) 1 1), [(evt7 1 0 0 0 (((askM l).getD zeroQ).text) (((askM l).getD zeroQ).k) (((askM l).getD zeroQ).n))])]] := hS8.newSlB hm5 hb3 hz3 hl1
    have f6 := hS10.bk (i := 0) rfl
    have f7 := hS10.bk (i := 4) rfl
    refine ⟨.inr ⟨f6, f7⟩, ?_⟩
    obtain ⟨g2, f8, hl2, k1⟩ := hS10.accK (i := 3) rfl
    have f9 := hS10.sl (i := 5) (k := 0) rfl rfl
    refine OD.act rfl rfl rfl rfl (AW.append f8 Tryd.underlying31 ti50 rfl encEvt_len encEvt_one rfl rfl (f9) (by first | omega | (simp only [List.length_append, List.length_cons, List.length_nil]; omega) | (simp; omega)) (by unfold maxLen; first | omega | (simp only [List.length_append, List.length_cons, List.length_nil]; omega) | (simp; omega)) ?_)
    intro v1 g1 w6 ha1 hm6 hg1 hz4
    have hS11 : St (fun _ => False) F w0 w6 [bkR b [va1, vb1, .int .i64 st.cfg.workers, .int .i64 st.cfg.copies, .int .i64 st.cfg.slots, .int .i64 st.cfg.batch, .int .i64 st.cfg.lease, .int .i64 st.cfg.hedge, .int .i64 st.cfg.first, .int .i64 st.cfg.cap, .int .i64 st.cfg.jitter, .int .i64 st.cfg.net, vc1] 66, accR encS 9 1 va1 st.cfg.words, accR encKey 72 2 vb1 st.cfg.cuts, accR encEvt 50 7 v1 ((st.es ++ [(evt7 1 0 0 0 (((askM l).getD zeroQ).text) (((askM l).getD zeroQ).k) (((askM l).getD zeroQ).n))])), bkR b2 [strV (((askM l).getD zeroQ).text), .int .i64 (((askM l).getD zeroQ).k), .int .i64 (((askM l).getD zeroQ).n)] 48, slR encEvt [((.slice (some ⟨b3, 0, none⟩) 1 1), [(evt7 1 0 0 0 (((askM l).getD zeroQ).text) (((askM l).getD zeroQ).k) (((askM l).getD zeroQ).n))])]] := k1 _ _ _ _ hm6 ha1 hg1
    have f10 := hS11.bk (i := 0) rfl
    have f11 := hS11.bk (i := 4) rfl
    refine ⟨.inr ⟨f10, f11⟩, ?_⟩
    clear hg1
    refine OD.q rfl rfl (Q1.nilCheckP rfl) rfl rfl ?_
    refine OD.q rfl rfl (Q1.fieldAddr fl66_1 rfl) rfl rfl ?_
    obtain ⟨g3, f12, hl3, k2⟩ := hS11.accK (i := 3) rfl
    obtain ⟨ad1, cp1, hv1⟩ := f12.shape
    subst hv1
    refine OD.act rfl rfl rfl rfl (AW.store ti31 rfl rfl rfl rfl rfl f10 (Nat.le_of_ble_eq_true rfl) ?_)
    intro w7 hm7 hz5 hk4
    have hS12 : St (fun _ => False) F w0 w7 [bkR b [va1, vb1, .int .i64 st.cfg.workers, .int .i64 st.cfg.copies, .int .i64 st.cfg.slots, .int .i64 st.cfg.batch, .int .i64 st.cfg.lease, .int .i64 st.cfg.hedge, .int .i64 st.cfg.first, .int .i64 st.cfg.cap, .int .i64 st.cfg.jitter, .int .i64 st.cfg.net, (.slice ad1 ((st.es ++ [(evt7 1 0 0 0 (((askM l).getD zeroQ).text) (((askM l).getD zeroQ).k) (((askM l).getD zeroQ).n))])).length cp1)] 66, accR encS 9 1 va1 st.cfg.words, accR encKey 72 2 vb1 st.cfg.cuts, accR encEvt 50 7 ((.slice ad1 ((st.es ++ [(evt7 1 0 0 0 (((askM l).getD zeroQ).text) (((askM l).getD zeroQ).k) (((askM l).getD zeroQ).n))])).length cp1)) ((st.es ++ [(evt7 1 0 0 0 (((askM l).getD zeroQ).text) (((askM l).getD zeroQ).k) (((askM l).getD zeroQ).n))])), bkR b2 [strV (((askM l).getD zeroQ).text), .int .i64 (((askM l).getD zeroQ).k), .int .i64 (((askM l).getD zeroQ).n)] 48, slR encEvt [((.slice (some ⟨b3, 0, none⟩) 1 1), [(evt7 1 0 0 0 (((askM l).getD zeroQ).text) (((askM l).getD zeroQ).k) (((askM l).getD zeroQ).n))])]] := hS11.bkK (i := 0) rfl hm7 hk4
    refine ⟨.inl rfl, ?_⟩
    refine OD.nil ?_
    refine r_seq ?_
    refine r_region ?_
    refine OL.q (Q1.move rfl) rfl rfl ?_
    refine OL.q (Q1.assign rfl) rfl rfl ?_
    refine OL.nil ?_
    refine r_ret1 Tryd.func49 rfl rfl ?_
    have hS13 : St (fun _ => False) F w0 w7 [bkR b2 [strV (((askM l).getD zeroQ).text), .int .i64 (((askM l).getD zeroQ).k), .int .i64 (((askM l).getD zeroQ).n)] 48, slR encEvt [((.slice (some ⟨b3, 0, none⟩) 1 1), [(evt7 1 0 0 0 (((askM l).getD zeroQ).text) (((askM l).getD zeroQ).k) (((askM l).getD zeroQ).n))])], bkR b [va1, vb1, .int .i64 st.cfg.workers, .int .i64 st.cfg.copies, .int .i64 st.cfg.slots, .int .i64 st.cfg.batch, .int .i64 st.cfg.lease, .int .i64 st.cfg.hedge, .int .i64 st.cfg.first, .int .i64 st.cfg.cap, .int .i64 st.cfg.jitter, .int .i64 st.cfg.net, (.slice ad1 ((st.es ++ [(evt7 1 0 0 0 (((askM l).getD zeroQ).text) (((askM l).getD zeroQ).k) (((askM l).getD zeroQ).n))])).length cp1)] 66, accR encS 9 1 va1 st.cfg.words, accR encKey 72 2 vb1 st.cfg.cuts, accR encEvt 50 7 ((.slice ad1 ((st.es ++ [(evt7 1 0 0 0 (((askM l).getD zeroQ).text) (((askM l).getD zeroQ).k) (((askM l).getD zeroQ).n))])).length cp1)) ((st.es ++ [(evt7 1 0 0 0 (((askM l).getD zeroQ).text) (((askM l).getD zeroQ).k) (((askM l).getD zeroQ).n))]))] := hS12.sel [4, 5, 0, 1, 2, 3] (by rfl) (by decide)
    have hS14 : St (fun _ => False) F w0 w7 [bkR b2 [strV (((askM l).getD zeroQ).text), .int .i64 (((askM l).getD zeroQ).k), .int .i64 (((askM l).getD zeroQ).n)] 48, slR encEvt [((.slice (some ⟨b3, 0, none⟩) 1 1), [(evt7 1 0 0 0 (((askM l).getD zeroQ).text) (((askM l).getD zeroQ).k) (((askM l).getD zeroQ).n))])], boxR [bkR b [va1, vb1, .int .i64 st.cfg.workers, .int .i64 st.cfg.copies, .int .i64 st.cfg.slots, .int .i64 st.cfg.batch, .int .i64 st.cfg.lease, .int .i64 st.cfg.hedge, .int .i64 st.cfg.first, .int .i64 st.cfg.cap, .int .i64 st.cfg.jitter, .int .i64 st.cfg.net, (.slice ad1 ((st.es ++ [(evt7 1 0 0 0 (((askM l).getD zeroQ).text) (((askM l).getD zeroQ).k) (((askM l).getD zeroQ).n))])).length cp1)] 66, accR encS 9 1 va1 st.cfg.words, accR encKey 72 2 vb1 st.cfg.cuts, accR encEvt 50 7 ((.slice ad1 ((st.es ++ [(evt7 1 0 0 0 (((askM l).getD zeroQ).text) (((askM l).getD zeroQ).k) (((askM l).getD zeroQ).n))])).length cp1)) ((st.es ++ [(evt7 1 0 0 0 (((askM l).getD zeroQ).text) (((askM l).getD zeroQ).k) (((askM l).getD zeroQ).n))]))]] := St.close (L1 := [bkR b2 [strV (((askM l).getD zeroQ).text), .int .i64 (((askM l).getD zeroQ).k), .int .i64 (((askM l).getD zeroQ).n)] 48, slR encEvt [((.slice (some ⟨b3, 0, none⟩) 1 1), [(evt7 1 0 0 0 (((askM l).getD zeroQ).text) (((askM l).getD zeroQ).k) (((askM l).getD zeroQ).n))])]]) hS13
    have hS15 : St (fun _ => False) F w0 w7 [bkR b2 [strV (((askM l).getD zeroQ).text), .int .i64 (((askM l).getD zeroQ).k), .int .i64 (((askM l).getD zeroQ).n)] 48, slR encEvt [((.slice (some ⟨b3, 0, none⟩) 1 1), [(evt7 1 0 0 0 (((askM l).getD zeroQ).text) (((askM l).getD zeroQ).k) (((askM l).getD zeroQ).n))])], scR 66 9 72 50 b ((RdS.mk (Cfg.mk st.cfg.words st.cfg.cuts st.cfg.workers st.cfg.copies st.cfg.slots st.cfg.batch st.cfg.lease st.cfg.hedge st.cfg.first st.cfg.cap st.cfg.jitter st.cfg.net) ((st.es ++ [(evt7 1 0 0 0 (((askM l).getD zeroQ).text) (((askM l).getD zeroQ).k) (((askM l).getD zeroQ).n))]))))] := hS14.exi (A := (fun v : Value × Value × Value => boxR [bkR b [v.1, v.2.1, .int .i64 st.cfg.workers, .int .i64 st.cfg.copies, .int .i64 st.cfg.slots, .int .i64 st.cfg.batch, .int .i64 st.cfg.lease, .int .i64 st.cfg.hedge, .int .i64 st.cfg.first, .int .i64 st.cfg.cap, .int .i64 st.cfg.jitter, .int .i64 st.cfg.net, v.2.2] 66, accR encS 9 1 v.1 st.cfg.words, accR encKey 72 2 v.2.1 st.cfg.cuts, accR encEvt 50 7 v.2.2 ((st.es ++ [(evt7 1 0 0 0 (((askM l).getD zeroQ).text) (((askM l).getD zeroQ).k) (((askM l).getD zeroQ).n))]))])) (va1, vb1, (.slice ad1 ((st.es ++ [(evt7 1 0 0 0 (((askM l).getD zeroQ).text) (((askM l).getD zeroQ).k) (((askM l).getD zeroQ).n))])).length cp1)) (i := 2) rfl
    have hmm : doAsk st l = some (RdS.mk (Cfg.mk st.cfg.words st.cfg.cuts st.cfg.workers st.cfg.copies st.cfg.slots st.cfg.batch st.cfg.lease st.cfg.hedge st.cfg.first st.cfg.cap st.cfg.jitter st.cfg.net) ((st.es ++ [(evt7 1 0 0 0 (((askM l).getD zeroQ).text) (((askM l).getD zeroQ).k) (((askM l).getD zeroQ).n))]))) := by first | exact ak_bad (by first | assumption | (symm; assumption)) | exact ak_yes (by first | assumption | (symm; assumption)) | (exfalso; omega)
    have hS16 : St (fun _ => False) F w0 w7 [scR 66 9 72 50 b ((RdS.mk (Cfg.mk st.cfg.words st.cfg.cuts st.cfg.workers st.cfg.copies st.cfg.slots st.cfg.batch st.cfg.lease st.cfg.hedge st.cfg.first st.cfg.cap st.cfg.jitter st.cfg.net) ((st.es ++ [(evt7 1 0 0 0 (((askM l).getD zeroQ).text) (((askM l).getD zeroQ).k) (((askM l).getD zeroQ).n))]))))] := hS15.sel [2] (by rfl) (by decide)
    obtain ⟨hmF, F2r, hAr, hFr⟩ := hS16.fin
    rw [hmm]
    exact Ret.mk ⟨_, rfl, rfl, hmF, F2r, hAr, hFr⟩
  | false =>
    replace hb1 := hb1.symm
    refine r_cond_f rfl ?_
    refine r_skip ?_
    refine r_seq ?_
    refine r_region ?_
    refine OL.q (Q1.move rfl) rfl rfl ?_
    refine OL.q (Q1.assign rfl) rfl rfl ?_
    refine OL.nil ?_
    refine r_ret1 Tryd.func49 rfl rfl ?_
    have hS8 : St (fun _ => False) F w0 w3 [bkR b2 [strV (((askM l).getD zeroQ).text), .int .i64 (((askM l).getD zeroQ).k), .int .i64 (((askM l).getD zeroQ).n)] 48, bkR b [va1, vb1, .int .i64 st.cfg.workers, .int .i64 st.cfg.copies, .int .i64 st.cfg.slots, .int .i64 st.cfg.batch, .int .i64 st.cfg.lease, .int .i64 st.cfg.hedge, .int .i64 st.cfg.first, .int .i64 st.cfg.cap, .int .i64 st.cfg.jitter, .int .i64 st.cfg.net, vc1] 66, accR encS 9 1 va1 st.cfg.words, accR encKey 72 2 vb1 st.cfg.cuts, accR encEvt 50 7 vc1 st.es] := hS7.sel [4, 0, 1, 2, 3] (by rfl) (by decide)
    have hS9 : St (fun _ => False) F w0 w3 [bkR b2 [strV (((askM l).getD zeroQ).text), .int .i64 (((askM l).getD zeroQ).k), .int .i64 (((askM l).getD zeroQ).n)] 48, boxR [bkR b [va1, vb1, .int .i64 st.cfg.workers, .int .i64 st.cfg.copies, .int .i64 st.cfg.slots, .int .i64 st.cfg.batch, .int .i64 st.cfg.lease, .int .i64 st.cfg.hedge, .int .i64 st.cfg.first, .int .i64 st.cfg.cap, .int .i64 st.cfg.jitter, .int .i64 st.cfg.net, vc1] 66, accR encS 9 1 va1 st.cfg.words, accR encKey 72 2 vb1 st.cfg.cuts, accR encEvt 50 7 vc1 st.es]] := St.close (L1 := [bkR b2 [strV (((askM l).getD zeroQ).text), .int .i64 (((askM l).getD zeroQ).k), .int .i64 (((askM l).getD zeroQ).n)] 48]) hS8
    have hS10 : St (fun _ => False) F w0 w3 [bkR b2 [strV (((askM l).getD zeroQ).text), .int .i64 (((askM l).getD zeroQ).k), .int .i64 (((askM l).getD zeroQ).n)] 48, scR 66 9 72 50 b ((RdS.mk (Cfg.mk st.cfg.words st.cfg.cuts st.cfg.workers st.cfg.copies st.cfg.slots st.cfg.batch st.cfg.lease st.cfg.hedge st.cfg.first st.cfg.cap st.cfg.jitter st.cfg.net) st.es))] := hS9.exi (A := (fun v : Value × Value × Value => boxR [bkR b [v.1, v.2.1, .int .i64 st.cfg.workers, .int .i64 st.cfg.copies, .int .i64 st.cfg.slots, .int .i64 st.cfg.batch, .int .i64 st.cfg.lease, .int .i64 st.cfg.hedge, .int .i64 st.cfg.first, .int .i64 st.cfg.cap, .int .i64 st.cfg.jitter, .int .i64 st.cfg.net, v.2.2] 66, accR encS 9 1 v.1 st.cfg.words, accR encKey 72 2 v.2.1 st.cfg.cuts, accR encEvt 50 7 v.2.2 st.es])) (va1, vb1, vc1) (i := 1) rfl
    have hmm : doAsk st l = none := by first | exact ak_bad (by first | assumption | (symm; assumption)) | exact ak_yes (by first | assumption | (symm; assumption)) | (exfalso; omega)
    have hS11 : St (fun _ => False) F w0 w3 [scR 66 9 72 50 b ((RdS.mk (Cfg.mk st.cfg.words st.cfg.cuts st.cfg.workers st.cfg.copies st.cfg.slots st.cfg.batch st.cfg.lease st.cfg.hedge st.cfg.first st.cfg.cap st.cfg.jitter st.cfg.net) st.es))] := hS10.sel [1] (by rfl) (by decide)
    obtain ⟨hmF, F2r, hAr, hFr⟩ := hS11.fin
    rw [hmm]
    exact Ret.mk ⟨_, rfl, rfl, hmF, F2r, hAr, hFr⟩
set_option maxRecDepth 20000 in
set_option maxHeartbeats 4000000 in
theorem rline_c {w0 : World} {F : Nat → Prop} {b : Nat} {st : RdS} (s : Str) (hA : (scR (R := fun _ => False) 66 9 72 50 b st).p F w0) (hF : ∀ b, F b → b < w0.heap.size) (hG : GS w0) (hFg : ∀ b, b = gB ∨ b = gS ∨ b = gR → ¬ F b) (hB : RdB st 100000) (hs : s.length ≤ 65536) :
    Calls Tryd.prog 29 #[ptr b 0, strV s] w0 (Ret fun rv w1 => ∃ rb, rb = (lineM st s).isSome ∧ rv = .bool rb ∧ Mod F w0 w1 ∧ ∃ F2, (scR (R := fun _ => False) 66 9 72 50 b ((lineM st s).getD st)).p F2 w1 ∧ ∀ b, F2 b → b < w1.heap.size ∧ (F b ∨ w0.heap.size ≤ b)) := by
  have hS00 := St.start1 (R := fun _ => False) hA (fun b hb => ⟨hF b hb, id⟩) (fun _ h => h.elim)
  obtain ⟨hB1, hB2, hB3⟩ := hB
  have hS1 : St (fun _ => False) F w0 w0 [scR 66 9 72 50 b st] := hS00
  refine calls_enter Tryd.func29 rfl Tryd.ntmps29 rfl ?_
  refine r_seq ?_
  refine r_region ?_
  refine OL.q (Q1.assign rfl) rfl rfl ?_
  refine OL.nil ?_
  refine r_seq ?_
  refine r_region ?_
  refine OL.q (Q1.move rfl) rfl rfl ?_
  refine OL.act rfl rfl (AW.callF cl44 rfl (spl_c (w0 := w0)  s (32 : UInt8) (by first | assumption | omega)) ?_)
  rintro v1 w1 ⟨h1, hm1⟩
  have hS2 := hS1.ext hm1
  have hS3 : St (fun _ => False) F w0 w1 [scR 66 9 72 50 b st, slR encS [(v1, (splitM ((32 : UInt8)) s))]] := hS1.newSl hm1 h1
  have hle_1 := h1.le
  have hsl := split_len 32 s
  have hcl : s.count 32 ≤ s.length := List.count_le_length
  refine OL.q (Q1.assign rfl) rfl rfl ?_
  refine OL.nil ?_
  refine r_seq ?_
  refine r_seq ?_
  refine r_region ?_
  refine OL.q (Q1.move rfl) rfl rfl ?_
  have f1 := hS3.sl (i := 1) (k := 0) rfl rfl
  obtain ⟨x1, b1, o1, hx1, hr1, hl1, hw1⟩ := Sl.atF (P := Tryd.prog) f1 Tryd.underlying27 ti9 encS_len (k := .i64) (n := 0) (0) (by omega) (by first | assumption | omega)
  refine OL.q (Q1.indexAddr rfl rfl hr1) rfl rfl ?_
  refine OL.q (Q1.load1 ti9 rfl (fun _ e => e ▸ hw1)) rfl rfl ?_
  refine OL.nil ?_
  refine r_block ?_
  refine r_seq ?_
  refine r_region ?_
  refine OL.qb (Q1.eqS rfl rfl) rfl rfl ?_
  intro b2 hb1
  refine OL.q (Q1.assign rfl) rfl rfl ?_
  refine OL.nil ?_
  cases b2 with
  | true =>
    replace hb1 := eq_of_beq hb1.symm
    refine r_cond_t rfl ?_
    refine r_seq ?_
    refine r_region ?_
    refine OL.q (Q1.move rfl) rfl rfl ?_
    refine OL.q (Q1.move rfl) rfl rfl ?_
    obtain ⟨Fp1, f2, k1⟩ := hS3.slK (i := 1) (k := 0) rfl rfl
    obtain ⟨v2, hr2, hl2⟩ := Sl.part (P := Tryd.prog) f2 Tryd.underlying27 ti9 encS_len (1) (((splitM ((32 : UInt8)) s)).length) (.inr ⟨.i64, 1, rfl, by omega⟩) (.inl ⟨rfl, rfl⟩) (by omega) (by first | assumption | omega)
    replace hl2 : Sl encS w1 Fp1 v2 (((splitM ((32 : UInt8)) s)).drop 1) := by simpa using hl2
    refine OL.q (Q1.sliceV rfl rfl rfl rfl hr2) rfl rfl ?_
    have hS4 : St (fun _ => False) F w0 w1 [scR 66 9 72 50 b st, slR encS [(v1, (splitM ((32 : UInt8)) s)), (v2, (((splitM ((32 : UInt8)) s)).drop 1))]] := k1 _ _ hl2
    have hS5 : St (fun _ => False) F w0 w1 [scR 66 9 72 50 b st, slR encS [(v2, (((splitM ((32 : UInt8)) s)).drop 1))]] := hS4.view1 (i := 1) (k := 1) rfl rfl
    obtain ⟨Fy1, Gy1, hAy1, hGy1, hap1, hFy1, hGl1, hky1⟩ := hS5.act2 (i := 0) (j := 1) rfl rfl (by decide)
    have hsl1 := slR_one hGy1
    refine OL.act rfl rfl (AW.callF cl45 rfl (rword_c (w0 := w1) hAy1 (fun b hb => (hFy1 b hb).2) (hG.keep hgp hS5.mod hFg) (glob_no hG hgp hFg hFy1) ⟨hB1, hB2, hB3⟩ hsl1 (fun b hb => hb.elim (hap1 b) (fun h => h.elim)) (fun b hb => hb.elim (hGl1 b) (fun h => h.elim)) (fun x hx => Nat.le_trans (split_mem (List.mem_of_mem_drop hx)) (by omega)) (by simp only [List.length_drop, split_len]; omega)) ?_)
    rintro _ w2 ⟨rb1, hrb1, rfl, hm2, F1, hA1, hF1⟩
    have hS6 : St (fun _ => False) F w0 w2 [scR 66 9 72 50 b (((doWord st ((((splitM ((32 : UInt8)) s)).drop 1))).getD st)), slR encS [(v2, (((splitM ((32 : UInt8)) s)).drop 1))]] := hky1 _ _ _ hm2 hA1 hF1
    clear hky1 hA1
    refine OL.q (Q1.assign rfl) rfl rfl ?_
    refine OL.nil ?_
    refine r_ret1 Tryd.func29 rfl rfl ?_
    have hmm : lineM st s = doWord st ((((splitM ((32 : UInt8)) s)).drop 1)) := by rw [line_is hx1]; unfold lineW wWord wCut wSet wEv wAsk; first | rw [if_pos (by assumption)] | rw [if_neg (by assumption), if_pos (by assumption)] | rw [if_neg (by assumption), if_neg (by assumption), if_pos (by assumption)] | rw [if_neg (by assumption), if_neg (by assumption), if_neg (by assumption), if_pos (by assumption)] | rw [if_neg (by assumption), if_neg (by assumption), if_neg (by assumption), if_neg (by assumption), if_pos (by assumption)] | rw [if_neg (by assumption), if_neg (by assumption), if_neg (by assumption), if_neg (by assumption), if_neg (by assumption)]
    have hS7 : St (fun _ => False) F w0 w2 [scR 66 9 72 50 b (((doWord st ((((splitM ((32 : UInt8)) s)).drop 1))).getD st))] := hS6.sel [0] (by rfl) (by decide)
    obtain ⟨hmF, F2r, hAr, hFr⟩ := hS7.fin
    rw [hmm]
    exact Ret.mk ⟨_, hrb1, rfl, hmF, F2r, hAr, hFr⟩
  | false =>
    replace hb1 := ne_of_beq_false hb1.symm
    refine r_cond_f rfl ?_
    refine r_seq ?_
    refine r_region ?_
    refine OL.qb (Q1.eqS rfl rfl) rfl rfl ?_
    intro b3 hb2
    refine OL.q (Q1.assign rfl) rfl rfl ?_
    refine OL.nil ?_
    cases b3 with
    | true =>
      replace hb2 := eq_of_beq hb2.symm
      refine r_cond_t rfl ?_
      refine r_seq ?_
      refine r_region ?_
      refine OL.q (Q1.move rfl) rfl rfl ?_
      refine OL.q (Q1.move rfl) rfl rfl ?_
      obtain ⟨Fp1, f2, k1⟩ := hS3.slK (i := 1) (k := 0) rfl rfl
      obtain ⟨v2, hr2, hl2⟩ := Sl.part (P := Tryd.prog) f2 Tryd.underlying27 ti9 encS_len (1) (((splitM ((32 : UInt8)) s)).length) (.inr ⟨.i64, 1, rfl, by omega⟩) (.inl ⟨rfl, rfl⟩) (by omega) (by first | assumption | omega)
      replace hl2 : Sl encS w1 Fp1 v2 (((splitM ((32 : UInt8)) s)).drop 1) := by simpa using hl2
      refine OL.q (Q1.sliceV rfl rfl rfl rfl hr2) rfl rfl ?_
      have hS4 : St (fun _ => False) F w0 w1 [scR 66 9 72 50 b st, slR encS [(v1, (splitM ((32 : UInt8)) s)), (v2, (((splitM ((32 : UInt8)) s)).drop 1))]] := k1 _ _ hl2
      have hS5 : St (fun _ => False) F w0 w1 [scR 66 9 72 50 b st, slR encS [(v2, (((splitM ((32 : UInt8)) s)).drop 1))]] := hS4.view1 (i := 1) (k := 1) rfl rfl
      obtain ⟨Fy1, Gy1, hAy1, hGy1, hap1, hFy1, hGl1, hky1⟩ := hS5.act2 (i := 0) (j := 1) rfl rfl (by decide)
      have hsl1 := slR_one hGy1
      refine OL.act rfl rfl (AW.callF cl46 rfl (rcut_c (w0 := w1) hAy1 (fun b hb => (hFy1 b hb).2) (hG.keep hgp hS5.mod hFg) (glob_no hG hgp hFg hFy1) ⟨hB1, hB2, hB3⟩ hsl1 (fun b hb => hb.elim (hap1 b) (fun h => h.elim)) (fun b hb => hb.elim (hGl1 b) (fun h => h.elim)) (fun x hx => Nat.le_trans (split_mem (List.mem_of_mem_drop hx)) (by omega)) (by simp only [List.length_drop, split_len]; omega)) ?_)
      rintro _ w2 ⟨rb1, hrb1, rfl, hm2, F1, hA1, hF1⟩
      have hS6 : St (fun _ => False) F w0 w2 [scR 66 9 72 50 b (((doCut st ((((splitM ((32 : UInt8)) s)).drop 1))).getD st)), slR encS [(v2, (((splitM ((32 : UInt8)) s)).drop 1))]] := hky1 _ _ _ hm2 hA1 hF1
      clear hky1 hA1
      refine OL.q (Q1.assign rfl) rfl rfl ?_
      refine OL.nil ?_
      refine r_ret1 Tryd.func29 rfl rfl ?_
      have hmm : lineM st s = doCut st ((((splitM ((32 : UInt8)) s)).drop 1)) := by rw [line_is hx1]; unfold lineW wWord wCut wSet wEv wAsk; first | rw [if_pos (by assumption)] | rw [if_neg (by assumption), if_pos (by assumption)] | rw [if_neg (by assumption), if_neg (by assumption), if_pos (by assumption)] | rw [if_neg (by assumption), if_neg (by assumption), if_neg (by assumption), if_pos (by assumption)] | rw [if_neg (by assumption), if_neg (by assumption), if_neg (by assumption), if_neg (by assumption), if_pos (by assumption)] | rw [if_neg (by assumption), if_neg (by assumption), if_neg (by assumption), if_neg (by assumption), if_neg (by assumption)]
      have hS7 : St (fun _ => False) F w0 w2 [scR 66 9 72 50 b (((doCut st ((((splitM ((32 : UInt8)) s)).drop 1))).getD st))] := hS6.sel [0] (by rfl) (by decide)
      obtain ⟨hmF, F2r, hAr, hFr⟩ := hS7.fin
      rw [hmm]
      exact Ret.mk ⟨_, hrb1, rfl, hmF, F2r, hAr, hFr⟩
    | false =>
      replace hb2 := ne_of_beq_false hb2.symm
      refine r_cond_f rfl ?_
      refine r_seq ?_
      refine r_region ?_
      refine OL.qb (Q1.eqS rfl rfl) rfl rfl ?_
      intro b4 hb3
      refine OL.q (Q1.assign rfl) rfl rfl ?_
      refine OL.nil ?_
      cases b4 with
      | true =>
        replace hb3 := eq_of_beq hb3.symm
        refine r_cond_t rfl ?_
        refine r_seq ?_
        refine r_region ?_
        refine OL.q (Q1.move rfl) rfl rfl ?_
        refine OL.q (Q1.move rfl) rfl rfl ?_
        obtain ⟨Fp1, f2, k1⟩ := hS3.slK (i := 1) (k := 0) rfl rfl
        obtain ⟨v2, hr2, hl2⟩ := Sl.part (P := Tryd.prog) f2 Tryd.underlying27 ti9 encS_len (1) (((splitM ((32 : UInt8)) s)).length) (.inr ⟨.i64, 1, rfl, by omega⟩) (.inl ⟨rfl, rfl⟩) (by omega) (by first | assumption | omega)
        replace hl2 : Sl encS w1 Fp1 v2 (((splitM ((32 : UInt8)) s)).drop 1) := by simpa using hl2
        refine OL.q (Q1.sliceV rfl rfl rfl rfl hr2) rfl rfl ?_
        have hS4 : St (fun _ => False) F w0 w1 [scR 66 9 72 50 b st, slR encS [(v1, (splitM ((32 : UInt8)) s)), (v2, (((splitM ((32 : UInt8)) s)).drop 1))]] := k1 _ _ hl2
        have hS5 : St (fun _ => False) F w0 w1 [scR 66 9 72 50 b st, slR encS [(v2, (((splitM ((32 : UInt8)) s)).drop 1))]] := hS4.view1 (i := 1) (k := 1) rfl rfl
        obtain ⟨Fy1, Gy1, hAy1, hGy1, hap1, hFy1, hGl1, hky1⟩ := hS5.act2 (i := 0) (j := 1) rfl rfl (by decide)
        have hsl1 := slR_one hGy1
        refine OL.act rfl rfl (AW.callF cl47 rfl (rset_c (w0 := w1) hAy1 (fun b hb => (hFy1 b hb).2) (hG.keep hgp hS5.mod hFg) (glob_no hG hgp hFg hFy1) ⟨hB1, hB2, hB3⟩ hsl1 (fun b hb => hb.elim (hap1 b) (fun h => h.elim)) (fun b hb => hb.elim (hGl1 b) (fun h => h.elim)) (fun x hx => Nat.le_trans (split_mem (List.mem_of_mem_drop hx)) (by omega)) (by simp only [List.length_drop, split_len]; omega)) ?_)
        rintro _ w2 ⟨rb1, hrb1, rfl, hm2, F1, hA1, hF1⟩
        have hS6 : St (fun _ => False) F w0 w2 [scR 66 9 72 50 b (((doSet st ((((splitM ((32 : UInt8)) s)).drop 1))).getD st)), slR encS [(v2, (((splitM ((32 : UInt8)) s)).drop 1))]] := hky1 _ _ _ hm2 hA1 hF1
        clear hky1 hA1
        refine OL.q (Q1.assign rfl) rfl rfl ?_
        refine OL.nil ?_
        refine r_ret1 Tryd.func29 rfl rfl ?_
        have hmm : lineM st s = doSet st ((((splitM ((32 : UInt8)) s)).drop 1)) := by rw [line_is hx1]; unfold lineW wWord wCut wSet wEv wAsk; first | rw [if_pos (by assumption)] | rw [if_neg (by assumption), if_pos (by assumption)] | rw [if_neg (by assumption), if_neg (by assumption), if_pos (by assumption)] | rw [if_neg (by assumption), if_neg (by assumption), if_neg (by assumption), if_pos (by assumption)] | rw [if_neg (by assumption), if_neg (by assumption), if_neg (by assumption), if_neg (by assumption), if_pos (by assumption)] | rw [if_neg (by assumption), if_neg (by assumption), if_neg (by assumption), if_neg (by assumption), if_neg (by assumption)]
        have hS7 : St (fun _ => False) F w0 w2 [scR 66 9 72 50 b (((doSet st ((((splitM ((32 : UInt8)) s)).drop 1))).getD st))] := hS6.sel [0] (by rfl) (by decide)
        obtain ⟨hmF, F2r, hAr, hFr⟩ := hS7.fin
        rw [hmm]
        exact Ret.mk ⟨_, hrb1, rfl, hmF, F2r, hAr, hFr⟩
      | false =>
        replace hb3 := ne_of_beq_false hb3.symm
        refine r_cond_f rfl ?_
        refine r_seq ?_
        refine r_region ?_
        refine OL.qb (Q1.eqS rfl rfl) rfl rfl ?_
        intro b5 hb4
        refine OL.q (Q1.assign rfl) rfl rfl ?_
        refine OL.nil ?_
        cases b5 with
        | true =>
          replace hb4 := eq_of_beq hb4.symm
          refine r_cond_t rfl ?_
          refine r_seq ?_
          refine r_region ?_
          refine OL.q (Q1.move rfl) rfl rfl ?_
          refine OL.q (Q1.move rfl) rfl rfl ?_
          obtain ⟨Fp1, f2, k1⟩ := hS3.slK (i := 1) (k := 0) rfl rfl
          obtain ⟨v2, hr2, hl2⟩ := Sl.part (P := Tryd.prog) f2 Tryd.underlying27 ti9 encS_len (1) (((splitM ((32 : UInt8)) s)).length) (.inr ⟨.i64, 1, rfl, by omega⟩) (.inl ⟨rfl, rfl⟩) (by omega) (by first | assumption | omega)
          replace hl2 : Sl encS w1 Fp1 v2 (((splitM ((32 : UInt8)) s)).drop 1) := by simpa using hl2
          refine OL.q (Q1.sliceV rfl rfl rfl rfl hr2) rfl rfl ?_
          have hS4 : St (fun _ => False) F w0 w1 [scR 66 9 72 50 b st, slR encS [(v1, (splitM ((32 : UInt8)) s)), (v2, (((splitM ((32 : UInt8)) s)).drop 1))]] := k1 _ _ hl2
          have hS5 : St (fun _ => False) F w0 w1 [scR 66 9 72 50 b st, slR encS [(v2, (((splitM ((32 : UInt8)) s)).drop 1))]] := hS4.view1 (i := 1) (k := 1) rfl rfl
          obtain ⟨Fy1, Gy1, hAy1, hGy1, hap1, hFy1, hGl1, hky1⟩ := hS5.act2 (i := 0) (j := 1) rfl rfl (by decide)
          have hsl1 := slR_one hGy1
          refine OL.act rfl rfl (AW.callF cl48 rfl (revent_c (w0 := w1) hAy1 (fun b hb => (hFy1 b hb).2) (hG.keep hgp hS5.mod hFg) (glob_no hG hgp hFg hFy1) ⟨hB1, hB2, hB3⟩ hsl1 (fun b hb => hb.elim (hap1 b) (fun h => h.elim)) (fun b hb => hb.elim (hGl1 b) (fun h => h.elim)) (fun x hx => Nat.le_trans (split_mem (List.mem_of_mem_drop hx)) (by omega)) (by simp only [List.length_drop, split_len]; omega)) ?_)
          rintro _ w2 ⟨rb1, hrb1, rfl, hm2, F1, hA1, hF1⟩
          have hS6 : St (fun _ => False) F w0 w2 [scR 66 9 72 50 b (((doEv st ((((splitM ((32 : UInt8)) s)).drop 1))).getD st)), slR encS [(v2, (((splitM ((32 : UInt8)) s)).drop 1))]] := hky1 _ _ _ hm2 hA1 hF1
          clear hky1 hA1
          refine OL.q (Q1.assign rfl) rfl rfl ?_
          refine OL.nil ?_
          refine r_ret1 Tryd.func29 rfl rfl ?_
          have hmm : lineM st s = doEv st ((((splitM ((32 : UInt8)) s)).drop 1)) := by rw [line_is hx1]; unfold lineW wWord wCut wSet wEv wAsk; first | rw [if_pos (by assumption)] | rw [if_neg (by assumption), if_pos (by assumption)] | rw [if_neg (by assumption), if_neg (by assumption), if_pos (by assumption)] | rw [if_neg (by assumption), if_neg (by assumption), if_neg (by assumption), if_pos (by assumption)] | rw [if_neg (by assumption), if_neg (by assumption), if_neg (by assumption), if_neg (by assumption), if_pos (by assumption)] | rw [if_neg (by assumption), if_neg (by assumption), if_neg (by assumption), if_neg (by assumption), if_neg (by assumption)]
          have hS7 : St (fun _ => False) F w0 w2 [scR 66 9 72 50 b (((doEv st ((((splitM ((32 : UInt8)) s)).drop 1))).getD st))] := hS6.sel [0] (by rfl) (by decide)
          obtain ⟨hmF, F2r, hAr, hFr⟩ := hS7.fin
          rw [hmm]
          exact Ret.mk ⟨_, hrb1, rfl, hmF, F2r, hAr, hFr⟩
        | false =>
          replace hb4 := ne_of_beq_false hb4.symm
          refine r_cond_f rfl ?_
          refine r_seq ?_
          refine r_region ?_
          refine OL.qb (Q1.eqS rfl rfl) rfl rfl ?_
          intro b6 hb5
          refine OL.q (Q1.assign rfl) rfl rfl ?_
          refine OL.nil ?_
          cases b6 with
          | true =>
            replace hb5 := eq_of_beq hb5.symm
            refine r_cond_t rfl ?_
            refine r_seq ?_
            refine r_region ?_
            refine OL.q (Q1.move rfl) rfl rfl ?_
            refine OL.q (Q1.move rfl) rfl rfl ?_
            obtain ⟨Fp1, f2, k1⟩ := hS3.slK (i := 1) (k := 0) rfl rfl
            obtain ⟨v2, hr2, hl2⟩ := Sl.part (P := Tryd.prog) f2 Tryd.underlying27 ti9 encS_len (1) (((splitM ((32 : UInt8)) s)).length) (.inr ⟨.i64, 1, rfl, by omega⟩) (.inl ⟨rfl, rfl⟩) (by omega) (by first | assumption | omega)
            replace hl2 : Sl encS w1 Fp1 v2 (((splitM ((32 : UInt8)) s)).drop 1) := by simpa using hl2
            refine OL.q (Q1.sliceV rfl rfl rfl rfl hr2) rfl rfl ?_
            have hS4 : St (fun _ => False) F w0 w1 [scR 66 9 72 50 b st, slR encS [(v1, (splitM ((32 : UInt8)) s)), (v2, (((splitM ((32 : UInt8)) s)).drop 1))]] := k1 _ _ hl2
            have hS5 : St (fun _ => False) F w0 w1 [scR 66 9 72 50 b st, slR encS [(v2, (((splitM ((32 : UInt8)) s)).drop 1))]] := hS4.view1 (i := 1) (k := 1) rfl rfl
            obtain ⟨Fy1, Gy1, hAy1, hGy1, hap1, hFy1, hGl1, hky1⟩ := hS5.act2 (i := 0) (j := 1) rfl rfl (by decide)
            have hsl1 := slR_one hGy1
            refine OL.act rfl rfl (AW.callF cl49 rfl (rask_c (w0 := w1) hAy1 (fun b hb => (hFy1 b hb).2) (hG.keep hgp hS5.mod hFg) (glob_no hG hgp hFg hFy1) ⟨hB1, hB2, hB3⟩ hsl1 (fun b hb => hb.elim (hap1 b) (fun h => h.elim)) (fun b hb => hb.elim (hGl1 b) (fun h => h.elim)) (fun x hx => Nat.le_trans (split_mem (List.mem_of_mem_drop hx)) (by omega)) (by simp only [List.length_drop, split_len]; omega)) ?_)
            rintro _ w2 ⟨rb1, hrb1, rfl, hm2, F1, hA1, hF1⟩
            have hS6 : St (fun _ => False) F w0 w2 [scR 66 9 72 50 b (((doAsk st ((((splitM ((32 : UInt8)) s)).drop 1))).getD st)), slR encS [(v2, (((splitM ((32 : UInt8)) s)).drop 1))]] := hky1 _ _ _ hm2 hA1 hF1
            clear hky1 hA1
            refine OL.q (Q1.assign rfl) rfl rfl ?_
            refine OL.nil ?_
            refine r_ret1 Tryd.func29 rfl rfl ?_
            have hmm : lineM st s = doAsk st ((((splitM ((32 : UInt8)) s)).drop 1)) := by rw [line_is hx1]; unfold lineW wWord wCut wSet wEv wAsk; first | rw [if_pos (by assumption)] | rw [if_neg (by assumption), if_pos (by assumption)] | rw [if_neg (by assumption), if_neg (by assumption), if_pos (by assumption)] | rw [if_neg (by assumption), if_neg (by assumption), if_neg (by assumption), if_pos (by assumption)] | rw [if_neg (by assumption), if_neg (by assumption), if_neg (by assumption), if_neg (by assumption), if_pos (by assumption)] | rw [if_neg (by assumption), if_neg (by assumption), if_neg (by assumption), if_neg (by assumption), if_neg (by assumption)]
            have hS7 : St (fun _ => False) F w0 w2 [scR 66 9 72 50 b (((doAsk st ((((splitM ((32 : UInt8)) s)).drop 1))).getD st))] := hS6.sel [0] (by rfl) (by decide)
            obtain ⟨hmF, F2r, hAr, hFr⟩ := hS7.fin
            rw [hmm]
            exact Ret.mk ⟨_, hrb1, rfl, hmF, F2r, hAr, hFr⟩
          | false =>
            replace hb5 := ne_of_beq_false hb5.symm
            refine r_cond_f rfl ?_
            refine r_skip ?_
            refine r_inBlock ?_
            refine r_seq ?_
            refine r_region ?_
            refine OL.q (Q1.assign rfl) rfl rfl ?_
            refine OL.nil ?_
            refine r_ret1 Tryd.func29 rfl rfl ?_
            have hmm : lineM st s = none := by first | rw [line_is hx1]; unfold lineW wWord wCut wSet wEv wAsk; first | rw [if_pos (by assumption)] | rw [if_neg (by assumption), if_pos (by assumption)] | rw [if_neg (by assumption), if_neg (by assumption), if_pos (by assumption)] | rw [if_neg (by assumption), if_neg (by assumption), if_neg (by assumption), if_pos (by assumption)] | rw [if_neg (by assumption), if_neg (by assumption), if_neg (by assumption), if_neg (by assumption), if_pos (by assumption)] | rw [if_neg (by assumption), if_neg (by assumption), if_neg (by assumption), if_neg (by assumption), if_neg (by assumption)] | (exfalso; omega)
            have hS4 : St (fun _ => False) F w0 w1 [scR 66 9 72 50 b st] := hS3.sel [0] (by rfl) (by decide)
            obtain ⟨hmF, F2r, hAr, hFr⟩ := hS4.fin
            rw [hmm]
            exact Ret.mk ⟨_, rfl, rfl, hmF, F2r, hAr, hFr⟩
end Go.Proofs
