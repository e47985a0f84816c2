/-
  The walks through text.Text and the law's own from.
-/
import Derived.Test.YtpdmkdhnppbllaaWRef1
import Derived.Test.YtpdmkdhnppbllaaWBuild
import Derived.Test.YtpdmkdhnppbllaaLwLeast
set_option linter.unusedVariables false
set_option linter.unusedSimpArgs false
namespace Go.Proofs
open Go.Ik Go.Ml
set_option maxRecDepth 20000 in
set_option maxHeartbeats 4000000 in
theorem ttext_c {w0 : World}  {v_rs : Value} {rs : List Int} (h_rs : Sl encRn w0 (Iv 0 w0.heap.size) v_rs rs) (hI : ∀ x ∈ rs, -2147483648 ≤ x ∧ x ≤ 2147483647) (hn : rs.length ≤ 1000000) :
    Calls Try.prog 45 #[v_rs] w0 (Ret fun rv w1 => ∃ u0 u1, rv = .tuple #[u0, u1] ∧ u0 = strV (Ml.rtext rs) ∧ (∃ rb : Bool, rb = (rs.all Ml.goodR) ∧ u1 = .bool rb) ∧ Ext w0 w1) := by
  have hE0 : Ext w0 w0 := Mod.refl _ _
  have hle1 := h_rs.le
  refine calls_enter Try.func45 rfl Try.ntmps45 rfl ?_
  refine r_seq ?_
  refine r_region ?_
  refine OL.q (Q1.assign rfl) rfl rfl ?_
  refine OL.q (Q1.assign rfl) rfl rfl ?_
  refine OL.nil ?_
  refine r_seq ?_
  refine r_seq ?_
  refine r_region ?_
  refine OL.q (Q1.move rfl) rfl rfl ?_
  refine OL.q (Q1.lenSl Try.underlying45 (h_rs) rfl) rfl rfl ?_
  refine OL.q (Q1.move rfl) rfl rfl ?_
  refine OL.nil ?_
  refine r_block ?_
  refine r_loop (I := fun m E W => ∃ (k : Nat), E = [(0, v_rs), (6, v_rs), (7, .int .i64 (((rs.length : Nat) : Int))), (8, .int .i64 (((k : Nat) : Int)))] ∧ m = rs.length - k ∧ Ext w0 W ∧ w0.heap.size ≤ W.heap.size ∧ Sl encRn W (Iv 0 w0.heap.size) v_rs rs ∧ ((rs.take k).all Ml.goodR = true)) ?_ ?_
  · refine ⟨_, _, ⟨(0 : Nat), rfl, rfl, hE0, Nat.le_refl _, h_rs, (by rfl)⟩, ⟨rfl, rfl, rfl, rfl, trivial⟩⟩
  · rintro _ _ w1 ⟨k, rfl, rfl, hE1, hs1, f1, ha⟩ ih1
    refine r_seq ?_
    refine r_region ?_
    refine OL.qb (Q1.lt rfl rfl) rfl rfl ?_
    intro b1 hb1
    refine OL.nil ?_
    refine r_seq ?_
    cases b1 with
    | true =>
      replace hb1 := of_decide_eq_true hb1.symm
      refine r_cond_t rfl ?_
      refine r_skip ?_
      refine r_seq ?_
      refine r_block ?_
      refine r_seq ?_
      refine r_region ?_
      obtain ⟨x1, b2, o1, hx1, hr1, hl1, hu1, hw1⟩ := Sl.at' (P := Try.prog) f1 Try.underlying45 ti21 encRn_len (k := .i64) (n := ((k : Nat) : Int)) (k) (by omega) (by first | assumption | omega)
      refine OL.q (Q1.indexAddr rfl rfl hr1) rfl rfl ?_
      refine OL.q (Q1.load1 ti21 rfl (fun _ e => e ▸ hw1)) rfl rfl ?_
      have hxr := hI _ (List.mem_of_getElem? hx1)
      refine OL.q (Q1.assign rfl) rfl rfl ?_
      refine OL.nil ?_
      refine r_seq ?_
      refine r_region ?_
      refine OL.q (Q1.move rfl) rfl rfl ?_
      refine OL.qb (Q1.lt rfl rfl) rfl rfl ?_
      intro b3 hb2
      refine OL.q (Q1.move rfl) rfl rfl ?_
      cases b3 with
      | true =>
        replace hb2 := of_decide_eq_true hb2.symm
        refine OL.sk rfl rfl ?_
        refine OL.sk rfl rfl ?_
        refine OL.q (Q1.pick_t rfl rfl) rfl rfl ?_
        refine OL.q (Q1.move rfl) rfl rfl ?_
        refine OL.sk rfl rfl ?_
        refine OL.sk rfl rfl ?_
        refine OL.sk rfl rfl ?_
        refine OL.sk rfl rfl ?_
        refine OL.sk rfl rfl ?_
        refine OL.sk rfl rfl ?_
        refine OL.q (Q1.pick_t rfl rfl) rfl rfl ?_
        refine OL.q (Q1.move rfl) rfl rfl ?_
        refine OL.sk rfl rfl ?_
        refine OL.sk rfl rfl ?_
        refine OL.q (Q1.pick_t rfl rfl) rfl rfl ?_
        refine OL.nil ?_
        refine r_cond_t rfl ?_
        refine r_seq ?_
        refine r_region ?_
        refine OL.q (Q1.assign rfl) rfl rfl ?_
        refine OL.q (Q1.assign rfl) rfl rfl ?_
        refine OL.nil ?_
        refine r_ret2 Try.func45 rfl rfl rfl ?_
        exact Ret.mk ⟨_, _, rfl, (congrArg strV (by first | (with_reducible exact (Ml.rtext_no hx1 (by rw [Ml.good_d]; exact decide_eq_false (by omega))).1) | (with_reducible exact (Ml.rtext_no hx1 (by rw [Ml.good_d]; exact decide_eq_false (by omega))).2) | exact Ml.runes_enc (Ml.all_of_take ha (by omega)) | exact (Ml.all_of_take ha (by omega)).symm | (exfalso; omega))), ⟨_, (by first | (with_reducible exact (Ml.rtext_no hx1 (by rw [Ml.good_d]; exact decide_eq_false (by omega))).1) | (with_reducible exact (Ml.rtext_no hx1 (by rw [Ml.good_d]; exact decide_eq_false (by omega))).2) | exact Ml.runes_enc (Ml.all_of_take ha (by omega)) | exact (Ml.all_of_take ha (by omega)).symm | (exfalso; omega)), rfl⟩, hE1⟩
      | false =>
        replace hb2 := of_decide_eq_false hb2.symm
        refine OL.q (Q1.move rfl) rfl rfl ?_
        refine OL.qb (Q1.gt rfl rfl) rfl rfl ?_
        intro b4 hb3
        refine OL.q (Q1.pick_f rfl rfl) rfl rfl ?_
        refine OL.q (Q1.move rfl) rfl rfl ?_
        cases b4 with
        | true =>
          replace hb3 := of_decide_eq_true hb3.symm
          refine OL.sk rfl rfl ?_
          refine OL.sk rfl rfl ?_
          refine OL.sk rfl rfl ?_
          refine OL.sk rfl rfl ?_
          refine OL.sk rfl rfl ?_
          refine OL.sk rfl rfl ?_
          refine OL.q (Q1.pick_t rfl rfl) rfl rfl ?_
          refine OL.q (Q1.move rfl) rfl rfl ?_
          refine OL.sk rfl rfl ?_
          refine OL.sk rfl rfl ?_
          refine OL.q (Q1.pick_t rfl rfl) rfl rfl ?_
          refine OL.nil ?_
          refine r_cond_t rfl ?_
          refine r_seq ?_
          refine r_region ?_
          refine OL.q (Q1.assign rfl) rfl rfl ?_
          refine OL.q (Q1.assign rfl) rfl rfl ?_
          refine OL.nil ?_
          refine r_ret2 Try.func45 rfl rfl rfl ?_
          exact Ret.mk ⟨_, _, rfl, (congrArg strV (by first | (with_reducible exact (Ml.rtext_no hx1 (by rw [Ml.good_d]; exact decide_eq_false (by omega))).1) | (with_reducible exact (Ml.rtext_no hx1 (by rw [Ml.good_d]; exact decide_eq_false (by omega))).2) | exact Ml.runes_enc (Ml.all_of_take ha (by omega)) | exact (Ml.all_of_take ha (by omega)).symm | (exfalso; omega))), ⟨_, (by first | (with_reducible exact (Ml.rtext_no hx1 (by rw [Ml.good_d]; exact decide_eq_false (by omega))).1) | (with_reducible exact (Ml.rtext_no hx1 (by rw [Ml.good_d]; exact decide_eq_false (by omega))).2) | exact Ml.runes_enc (Ml.all_of_take ha (by omega)) | exact (Ml.all_of_take ha (by omega)).symm | (exfalso; omega)), rfl⟩, hE1⟩
        | false =>
          replace hb3 := of_decide_eq_false hb3.symm
          refine OL.q (Q1.move rfl) rfl rfl ?_
          refine OL.qb (Q1.ge rfl rfl) rfl rfl ?_
          intro b5 hb4
          refine OL.q (Q1.move rfl) rfl rfl ?_
          cases b5 with
          | true =>
            replace hb4 := of_decide_eq_true hb4.symm
            refine OL.q (Q1.move rfl) rfl rfl ?_
            refine OL.qb (Q1.le rfl rfl) rfl rfl ?_
            intro b6 hb5
            refine OL.q (Q1.pick_t rfl rfl) rfl rfl ?_
            refine OL.q (Q1.pick_f rfl rfl) rfl rfl ?_
            refine OL.q (Q1.move rfl) rfl rfl ?_
            cases b6 with
            | true =>
              replace hb5 := of_decide_eq_true hb5.symm
              refine OL.sk rfl rfl ?_
              refine OL.sk rfl rfl ?_
              refine OL.q (Q1.pick_t rfl rfl) rfl rfl ?_
              refine OL.nil ?_
              refine r_cond_t rfl ?_
              refine r_seq ?_
              refine r_region ?_
              refine OL.q (Q1.assign rfl) rfl rfl ?_
              refine OL.q (Q1.assign rfl) rfl rfl ?_
              refine OL.nil ?_
              refine r_ret2 Try.func45 rfl rfl rfl ?_
              exact Ret.mk ⟨_, _, rfl, (congrArg strV (by first | (with_reducible exact (Ml.rtext_no hx1 (by rw [Ml.good_d]; exact decide_eq_false (by omega))).1) | (with_reducible exact (Ml.rtext_no hx1 (by rw [Ml.good_d]; exact decide_eq_false (by omega))).2) | exact Ml.runes_enc (Ml.all_of_take ha (by omega)) | exact (Ml.all_of_take ha (by omega)).symm | (exfalso; omega))), ⟨_, (by first | (with_reducible exact (Ml.rtext_no hx1 (by rw [Ml.good_d]; exact decide_eq_false (by omega))).1) | (with_reducible exact (Ml.rtext_no hx1 (by rw [Ml.good_d]; exact decide_eq_false (by omega))).2) | exact Ml.runes_enc (Ml.all_of_take ha (by omega)) | exact (Ml.all_of_take ha (by omega)).symm | (exfalso; omega)), rfl⟩, hE1⟩
            | false =>
              replace hb5 := of_decide_eq_false hb5.symm
              refine OL.q (Q1.move rfl) rfl rfl ?_
              refine OL.qb (Q1.eq rfl rfl) rfl rfl ?_
              intro b7 hb6
              refine OL.q (Q1.pick_f rfl rfl) rfl rfl ?_
              refine OL.nil ?_
              cases b7 with
              | true =>
                replace hb6 := eq_of_beq hb6.symm
                refine r_cond_t rfl ?_
                refine r_seq ?_
                refine r_region ?_
                refine OL.q (Q1.assign rfl) rfl rfl ?_
                refine OL.q (Q1.assign rfl) rfl rfl ?_
                refine OL.nil ?_
                refine r_ret2 Try.func45 rfl rfl rfl ?_
                exact Ret.mk ⟨_, _, rfl, (congrArg strV (by first | (with_reducible exact (Ml.rtext_no hx1 (by rw [Ml.good_d]; exact decide_eq_false (by omega))).1) | (with_reducible exact (Ml.rtext_no hx1 (by rw [Ml.good_d]; exact decide_eq_false (by omega))).2) | exact Ml.runes_enc (Ml.all_of_take ha (by omega)) | exact (Ml.all_of_take ha (by omega)).symm | (exfalso; omega))), ⟨_, (by first | (with_reducible exact (Ml.rtext_no hx1 (by rw [Ml.good_d]; exact decide_eq_false (by omega))).1) | (with_reducible exact (Ml.rtext_no hx1 (by rw [Ml.good_d]; exact decide_eq_false (by omega))).2) | exact Ml.runes_enc (Ml.all_of_take ha (by omega)) | exact (Ml.all_of_take ha (by omega)).symm | (exfalso; omega)), rfl⟩, hE1⟩
              | false =>
                replace hb6 := ne_of_beq_false hb6.symm
                refine r_cond_f rfl ?_
                refine r_skip ?_
                refine r_inBlock ?_
                refine r_region ?_
                refine OL.q (Q1.addI (((k + 1 : Nat) : Int)) rfl rfl (by omega)) rfl rfl ?_
                refine OL.q (Q1.move rfl) rfl rfl ?_
                refine OL.nil ?_
                exact (ih1 _ _ _ ⟨(k + 1 : Nat), rfl, rfl, hE1, (by omega), f1, (by first | exact Ml.all_take_succ ha hx1 (by rw [Ml.good_d]; exact decide_eq_true (by omega)) | (exfalso; omega))⟩ (by omega)).sub ⟨rfl, rfl, rfl, rfl, trivial⟩
          | false =>
            replace hb4 := of_decide_eq_false hb4.symm
            refine OL.sk rfl rfl ?_
            refine OL.sk rfl rfl ?_
            refine OL.q (Q1.pick_f rfl rfl) rfl rfl ?_
            refine OL.q (Q1.pick_f rfl rfl) rfl rfl ?_
            refine OL.q (Q1.move rfl) rfl rfl ?_
            refine OL.q (Q1.move rfl) rfl rfl ?_
            refine OL.qb (Q1.eq rfl rfl) rfl rfl ?_
            intro b6 hb5
            refine OL.q (Q1.pick_f rfl rfl) rfl rfl ?_
            refine OL.nil ?_
            cases b6 with
            | true =>
              replace hb5 := eq_of_beq hb5.symm
              refine r_cond_t rfl ?_
              refine r_seq ?_
              refine r_region ?_
              refine OL.q (Q1.assign rfl) rfl rfl ?_
              refine OL.q (Q1.assign rfl) rfl rfl ?_
              refine OL.nil ?_
              refine r_ret2 Try.func45 rfl rfl rfl ?_
              exact Ret.mk ⟨_, _, rfl, (congrArg strV (by first | (with_reducible exact (Ml.rtext_no hx1 (by rw [Ml.good_d]; exact decide_eq_false (by omega))).1) | (with_reducible exact (Ml.rtext_no hx1 (by rw [Ml.good_d]; exact decide_eq_false (by omega))).2) | exact Ml.runes_enc (Ml.all_of_take ha (by omega)) | exact (Ml.all_of_take ha (by omega)).symm | (exfalso; omega))), ⟨_, (by first | (with_reducible exact (Ml.rtext_no hx1 (by rw [Ml.good_d]; exact decide_eq_false (by omega))).1) | (with_reducible exact (Ml.rtext_no hx1 (by rw [Ml.good_d]; exact decide_eq_false (by omega))).2) | exact Ml.runes_enc (Ml.all_of_take ha (by omega)) | exact (Ml.all_of_take ha (by omega)).symm | (exfalso; omega)), rfl⟩, hE1⟩
            | false =>
              replace hb5 := ne_of_beq_false hb5.symm
              refine r_cond_f rfl ?_
              refine r_skip ?_
              refine r_inBlock ?_
              refine r_region ?_
              refine OL.q (Q1.addI (((k + 1 : Nat) : Int)) rfl rfl (by omega)) rfl rfl ?_
              refine OL.q (Q1.move rfl) rfl rfl ?_
              refine OL.nil ?_
              exact (ih1 _ _ _ ⟨(k + 1 : Nat), rfl, rfl, hE1, (by omega), f1, (by first | exact Ml.all_take_succ ha hx1 (by rw [Ml.good_d]; exact decide_eq_true (by omega)) | (exfalso; omega))⟩ (by omega)).sub ⟨rfl, rfl, rfl, rfl, trivial⟩
    | false =>
      replace hb1 := of_decide_eq_false hb1.symm
      refine r_cond_f rfl ?_
      refine r_exit rfl ?_
      refine r_seq ?_
      refine r_region ?_
      refine OL.q (Q1.move rfl) rfl rfl ?_
      refine OL.act rfl rfl (AW.runesStr Try.underlying45 Try.underlying21 Try.underlying9 rfl (f1) ?_)
      refine OL.q (Q1.assign rfl) rfl rfl ?_
      refine OL.q (Q1.assign rfl) rfl rfl ?_
      refine OL.nil ?_
      refine r_ret2 Try.func45 rfl rfl rfl ?_
      exact Ret.mk ⟨_, _, rfl, (congrArg strV (by first | (with_reducible exact (Ml.rtext_no hx1 (by rw [Ml.good_d]; exact decide_eq_false (by omega))).1) | (with_reducible exact (Ml.rtext_no hx1 (by rw [Ml.good_d]; exact decide_eq_false (by omega))).2) | exact Ml.runes_enc (Ml.all_of_take ha (by omega)) | exact (Ml.all_of_take ha (by omega)).symm | (exfalso; omega))), ⟨_, (by first | (with_reducible exact (Ml.rtext_no hx1 (by rw [Ml.good_d]; exact decide_eq_false (by omega))).1) | (with_reducible exact (Ml.rtext_no hx1 (by rw [Ml.good_d]; exact decide_eq_false (by omega))).2) | exact Ml.runes_enc (Ml.all_of_take ha (by omega)) | exact (Ml.all_of_take ha (by omega)).symm | (exfalso; omega)), rfl⟩, hE1⟩
set_option maxRecDepth 20000 in
set_option maxHeartbeats 8000000 in
theorem from8_c : ∀ (d : Nat) {w0 : World} {v_g : Value} {lo hi : Nat} {s : GS} (n deep : Int) (x : List Str × List Ed) (hgr : Gr 0 w0 lo hi v_g (gnOf s)) (hhi : hi ≤ w0.heap.size) (hnode : ∀ y ∈ s, Corr s y ∧ GoodR y.1 ∧ Deep 12 y.1) (hshort : ∀ y ∈ s, y.1.length ≤ 1000) (hgl : (gnOf s).length ≤ 1000000) (hel : ∀ y ∈ gnOf s, y.2.length ≤ 1000000) (hn : I64 n) (hdp : deep = (d : Int)) (hd12 : d ≤ 1000) (hna : nodeAt (gnOf s) n = (finB x.1, x.2)) (hc : Corr s x) (hg : GoodR x.1) (hd : Deep d x.1) (hxl : x.1.length ≤ 1000),
    Calls Try.prog 27 #[v_g, .int .i64 n, .int .i64 deep] w0 (Ret fun rv w1 => (∃ gr, Acc encS 9 1 w1 gr rv x.1 ∧ (gr = 0 ∨ w0.heap.size < gr)) ∧ Ext w0 w1) := by
  intro d
  induction d using Nat.strongRecOn with
  | _ d ih0 =>
  intro w0 v_g lo hi s n deep x hgr hhi hnode hshort hgl hel hn hdp hd12 hna hc hg hd hxl
  have hS0 := St.start0 w0
  have hcl := (All2.get hc).1
  have hgc := groups_count _ (dropE x.1) (Nat.le_refl _)
  have hdl := dropE_len x.1
  have hdlen := deep_len hg hd
  refine calls_enter Try.func27 rfl Try.ntmps27 rfl ?_
  refine r_seq ?_
  refine r_region ?_
  refine OL.q (Q1.assign rfl) rfl rfl ?_
  refine OL.nil ?_
  refine r_seq ?_
  refine r_region ?_
  refine OL.q (Q1.assign rfl) rfl rfl ?_
  refine OL.nil ?_
  refine r_seq ?_
  refine r_seq ?_
  refine r_region ?_
  refine OL.q (Q1.move rfl) rfl rfl ?_
  refine OL.q (Q1.move rfl) rfl rfl ?_
  refine OL.act rfl rfl (AW.callF cl20 rfl (final_c (w0 := w0)  (n) hgr (Nat.le_trans hhi hS0.mod.size) (by first | omega | assumption) (by first | assumption | omega | (simp; done))) ?_)
  rintro _ w1 ⟨⟨b1, hb1, rfl⟩, hm1⟩
  have hS1 := hS0.ext hm1
  refine OL.nil ?_
  cases b1 with
  | true =>
    replace hb1 := hb1.symm
    refine r_cond_t rfl ?_
    refine r_region ?_
    refine OL.q (Q1.move rfl) rfl rfl ?_
    refine OL.act rfl rfl (AW.buildSlice [strV (([] : Str))] Try.underlying22 ti9 rfl rfl rfl (by decide) ?_)
    intro w2 b2 hm2 hb2 hz1 hk1
    have hS2 := hS1.ext hm2
    have hl1 := Sl.of_blk (enc := encS) hk1 ([([] : Str)] : List Str) 1 rfl rfl (by unfold maxLen; omega)
    have hS3 : St (fun _ => False) (fun _ => False) w0 w2 [slR encS [((.slice (some ⟨b2, 0, none⟩) 1 1), [([] : Str)])]] := hS1.newSlB hm2 hb2 hz1 hl1
    have f1 := hS3.sl (i := 0) (k := 0) rfl rfl
    refine OL.act rfl rfl (AW.append (Acc.nil (enc := encS) (e := 9) (sz := 1) (w := w2)) Try.underlying22 ti9 rfl encS_len encS_one rfl rfl (f1) (by first | omega | (simp only [List.length_append, List.length_cons, List.length_nil]; omega) | (simp; omega)) (by unfold maxLen; first | omega | (simp only [List.length_append, List.length_cons, List.length_nil]; omega) | (simp; omega)) ?_)
    intro v1 g1 w3 ha1 hm3 hg1 hz2
    have hS4 := hS3.ext hm3.toExt
    have hS5 : St (fun _ => False) (fun _ => False) w0 w3 [slR encS [((.slice (some ⟨b2, 0, none⟩) 1 1), [([] : Str)])], accR encS 9 1 v1 (([] ++ [([] : Str)]))] := hS3.newAcc hm3.toExt ha1 hg1
    clear hg1
    refine OL.q (Q1.assign rfl) rfl rfl ?_
    refine OL.nil ?_
    refine r_seq ?_
    refine r_region ?_
    refine OL.q (Q1.move rfl) rfl rfl ?_
    refine OL.q (Q1.move rfl) rfl rfl ?_
    have f2 := hgr.ext hS5.mod
    refine OL.act rfl rfl (AW.callF cl19 rfl (edges_c (w0 := w3)  (n) f2 (Nat.le_trans hhi hS5.mod.size) (by first | omega | assumption) (by first | assumption | omega | (simp; done)) (by first | assumption | (simp; done))) ?_)
    rintro v2 w4 ⟨⟨gr1, h1, hg2⟩, hm4⟩
    have hS6 := hS5.ext hm4
    have hS7 : St (fun _ => False) (fun _ => False) w0 w4 [slR encS [((.slice (some ⟨b2, 0, none⟩) 1 1), [([] : Str)])], accR encS 9 1 v1 (([] ++ [([] : Str)])), accR encE 49 2 v2 (((nodeAt ((gnOf s)) n).2))] := hS5.newAcc hm4 h1 hg2
    clear hg2
    have hle_1 := h1.le
    refine OL.q (Q1.assign rfl) rfl rfl ?_
    refine OL.nil ?_
    refine r_seq ?_
    refine r_seq ?_
    refine r_region ?_
    refine OL.q (Q1.assign rfl) rfl rfl ?_
    refine OL.nil ?_
    refine r_block ?_
    have hS9 : St (fun _ => False) (fun _ => False) w0 w4 [accR encS 9 1 v1 (([] ++ [([] : Str)])), accR encE 49 2 v2 (((nodeAt ((gnOf s)) n).2))] := hS7.sel [1, 2] (by rfl) (by decide)
    refine r_loop (I := fun m E W => ∃ (v_o : Value) (o : List Str) (i : Nat), E = [(0, v_g), (2, .int .i64 deep), (7, v_o), (8, v2), (9, .int .i64 (((i : Nat) : Int)))] ∧ m = (nodeAt (gnOf s) n).2.length - i ∧ St (fun _ => False) (fun _ => False) w0 W [accR encS 9 1 v_o o, accR encE 49 2 v2 (((nodeAt ((gnOf s)) n).2))] ∧ (o ++ restL [] x.1 i = x.1)) ?_ ?_
    · refine ⟨_, _, ⟨(v1 : Value), (([] ++ [([] : Str)]) : List Str), (0 : Nat), rfl, rfl, hS9, (by first | exact rest_start_t hg (by rw [← show (nodeAt (gnOf s) n).1 = finB x.1 from by rw [hna]]; assumption) | exact rest_start_f hg (by rw [← show (nodeAt (gnOf s) n).1 = finB x.1 from by rw [hna]]; assumption))⟩, ⟨rfl, rfl, rfl, rfl, rfl, trivial⟩⟩
    · rintro _ _ w5 ⟨v_o, o, i, rfl, rfl, hS8, hO⟩ ih1
      refine r_seq ?_
      refine r_seq ?_
      refine r_region ?_
      refine OL.q (Q1.move rfl) rfl rfl ?_
      refine OL.q (Q1.move rfl) rfl rfl ?_
      obtain ⟨g2, f3, hl2, k1⟩ := hS8.accK (i := 1) rfl
      refine OL.q (Q1.lenSl Try.underlying39 (f3.sl) rfl) rfl rfl ?_
      refine OL.qb (Q1.lt rfl rfl) rfl rfl ?_
      intro b3 hb3
      refine OL.q (Q1.move rfl) rfl rfl ?_
      cases b3 with
      | true =>
        replace hb3 := of_decide_eq_true hb3.symm
        refine OL.q (Q1.move rfl) rfl rfl ?_
        refine OL.qb (Q1.gt rfl rfl) rfl rfl ?_
        intro b4 hb4
        refine OL.q (Q1.pick_t rfl rfl) rfl rfl ?_
        refine OL.nil ?_
        cases b4 with
        | true =>
          replace hb4 := of_decide_eq_true hb4.symm
          refine r_cond_t rfl ?_
          refine r_skip ?_
          refine r_seq ?_
          refine r_block ?_
          refine r_seq ?_
          refine r_region ?_
          refine OL.q (Q1.move rfl) rfl rfl ?_
          refine OL.q (Q1.move rfl) rfl rfl ?_
          obtain ⟨x1, b5, o1, hx1, hr1, hl3, hw1⟩ := Sl.atF (P := Try.prog) f3.sl Try.underlying39 ti49 encE_len (k := .i64) (n := ((i : Nat) : Int)) (i) (by omega) (by first | assumption | omega)
          refine OL.q (Q1.indexAddr rfl rfl hr1) rfl rfl ?_
          have hx1b : x.2[i]? = some x1 := by rw [hna] at hx1; exact hx1
          obtain ⟨gg, jn, es1, hgk, hru, hto, hjs, hgd, hgne⟩ := edge_at hc hg hx1b
          obtain ⟨de, rfl, hde⟩ := deep_edge hg hd hgk
          have hjlt := (List.getElem?_eq_some_iff.1 hjs).1
          rw [gnOf_len] at hgl
          have hglx := hgl
          rw [← gnOf_len] at hgl
          have hhd : rtext [x1.rune] = encL gg.1 := by rw [hru]; exact rtext_one hgd
          have hgd1 := hgd.1
          have hl4 := encL_len4 gg.1
          have hdeep := deep_len (hnode _ (List.mem_of_getElem? hjs)).2.1 hde
          refine OL.q (Q1.fieldAddr fl49_0 rfl) rfl rfl ?_
          have hr2 := hw1.sub 0 1 (Nat.le_of_ble_eq_true rfl)
          refine OL.q (Q1.load1 ti21 rfl (fun _ e => e ▸ hr2)) rfl rfl ?_
          refine OL.act rfl rfl (AW.buildSlice [(.int .i32 x1.rune : Value)] Try.underlying45 ti21 rfl rfl rfl (by decide) ?_)
          intro w6 b6 hm5 hb5 hz3 hk2
          have hS10 := hS8.ext hm5
          have hl4 := Sl.of_blk (enc := encRn) hk2 ([x1.rune] : List Int) 1 rfl rfl (by unfold maxLen; omega)
          have hS11 : St (fun _ => False) (fun _ => False) w0 w6 [accR encS 9 1 v_o o, accR encE 49 2 v2 (((nodeAt ((gnOf s)) n).2)), slR encRn [((.slice (some ⟨b6, 0, none⟩) 1 1), [x1.rune])]] := hS8.newSlB hm5 hb5 hz3 hl4
          have f4 := hS11.sl (i := 2) (k := 0) rfl rfl
          refine OL.act rfl rfl (AW.callF cl45 rfl (ttext_c (w0 := w6) (rs := [x1.rune])  f4 (by (intro y hy; simp only [List.mem_singleton] at hy; subst hy; omega)) (by simp)) ?_)
          rintro _ w7 ⟨_, _, rfl, rfl, ⟨b7, hb6, rfl⟩, hm6⟩
          have hS12 := hS11.ext hm6
          rw [hhd]
          refine OL.q (Q1.move rfl) rfl rfl ?_
          refine OL.q (Q1.extract rfl rfl) rfl rfl ?_
          refine OL.q (Q1.extract rfl rfl) rfl rfl ?_
          refine OL.q (Q1.assign rfl) rfl rfl ?_
          refine OL.q (Q1.assign rfl) rfl rfl ?_
          refine OL.nil ?_
          refine r_seq ?_
          refine r_region ?_
          refine OL.q (Q1.move rfl) rfl rfl ?_
          refine OL.q (Q1.move rfl) rfl rfl ?_
          refine OL.q (Q1.move rfl) rfl rfl ?_
          obtain ⟨g3, f5, hl5, k2⟩ := hS12.accK (i := 1) rfl
          obtain ⟨x2, b8, o2, hx2, hr3, hl6, hw2⟩ := Sl.atF (P := Try.prog) f5.sl Try.underlying39 ti49 encE_len (k := .i64) (n := ((i : Nat) : Int)) (i) (by omega) (by first | assumption | omega)
          obtain rfl : x1 = x2 := Option.some.inj (hx1.symm.trans hx2)
          refine OL.q (Q1.indexAddr rfl rfl hr3) rfl rfl ?_
          refine OL.q (Q1.fieldAddr fl49_1 rfl) rfl rfl ?_
          have hr4 := hw2.sub 1 1 (Nat.le_of_ble_eq_true rfl)
          refine OL.q (Q1.load1 ti3 rfl (fun _ e => e ▸ hr4)) rfl rfl ?_
          refine OL.q (Q1.move rfl) rfl rfl ?_
          refine OL.q (Q1.subI ((deep - 1)) rfl rfl (by omega)) rfl rfl ?_
          have f6 := hgr.ext hS12.mod
          refine OL.act rfl rfl (AW.callF cl27 rfl (ih0 de (by omega) (x1.to) (deep - 1) (gg.2, es1) f6 (Nat.le_trans hhi hS12.mod.size) hnode hshort hgl hel (by omega) (by omega) (by omega) (by rw [hto]; exact gnOf_at hjs) (hnode _ (List.mem_of_getElem? hjs)).1 (hnode _ (List.mem_of_getElem? hjs)).2.1 hde (hshort _ (List.mem_of_getElem? hjs))) ?_)
          rintro v3 w8 ⟨⟨gr2, ha2, hg3⟩, hm7⟩
          have hS13 := hS12.ext hm7
          have hS14 : St (fun _ => False) (fun _ => False) w0 w8 [accR encS 9 1 v_o o, accR encE 49 2 v2 (((nodeAt ((gnOf s)) n).2)), slR encRn [((.slice (some ⟨b6, 0, none⟩) 1 1), [x1.rune])], accR encS 9 1 v3 gg.2] := hS12.newAcc hm7 ha2 hg3
          clear hg3
          have hmore : gg.2.length ≤ 1000 := hshort _ (List.mem_of_getElem? hjs)
          refine OL.q (Q1.assign rfl) rfl rfl ?_
          refine OL.nil ?_
          refine r_seq ?_
          refine r_region ?_
          refine OL.q (Q1.assign rfl) rfl rfl ?_
          refine OL.nil ?_
          refine r_block ?_
          have hS16 : St (fun _ => False) (fun _ => False) w0 w8 [accR encS 9 1 v_o o, accR encE 49 2 v2 (((nodeAt ((gnOf s)) n).2)), accR encS 9 1 v3 gg.2] := hS14.sel [0, 1, 3] (by rfl) (by decide)
          refine r_loop (I := fun m E W => ∃ (v_o2 : Value) (o2 : List Str) (k : Nat), E = [(0, v_g), (2, .int .i64 deep), (7, v_o2), (8, v2), (9, .int .i64 (((i : Nat) : Int))), (10, strV ((encL gg.1))), (12, v3), (13, .int .i64 (((k : Nat) : Int)))] ∧ m = gg.2.length - k ∧ St (fun _ => False) (fun _ => False) w0 W [accR encS 9 1 v_o2 o2, accR encE 49 2 v2 (((nodeAt ((gnOf s)) n).2)), accR encS 9 1 v3 gg.2] ∧ (o2 ++ ((gg.2.drop k).map (encL gg.1 ++ ·) ++ restL [] x.1 (i + 1)) = x.1)) ?_ ?_
          · refine ⟨_, _, ⟨(v_o : Value), (o : List Str), (0 : Nat), rfl, rfl, hS16, (by exact rest_in hO hgk)⟩, ⟨rfl, rfl, rfl, rfl, rfl, rfl, rfl, rfl, trivial⟩⟩
          · rintro _ _ w9 ⟨v_o2, o2, k, rfl, rfl, hS15, hQ⟩ ih2
            have hol := rest_len hQ
            refine r_seq ?_
            refine r_seq ?_
            refine r_region ?_
            refine OL.q (Q1.move rfl) rfl rfl ?_
            refine OL.q (Q1.move rfl) rfl rfl ?_
            obtain ⟨g4, f7, hl7, k3⟩ := hS15.accK (i := 2) rfl
            refine OL.q (Q1.lenSl Try.underlying22 (f7.sl) rfl) rfl rfl ?_
            refine OL.qb (Q1.lt rfl rfl) rfl rfl ?_
            intro b9 hb7
            refine OL.nil ?_
            cases b9 with
            | true =>
              replace hb7 := of_decide_eq_true hb7.symm
              refine r_cond_t rfl ?_
              refine r_skip ?_
              refine r_seq ?_
              refine r_block ?_
              refine r_region ?_
              refine OL.q (Q1.move rfl) rfl rfl ?_
              refine OL.q (Q1.move rfl) rfl rfl ?_
              refine OL.q (Q1.move rfl) rfl rfl ?_
              refine OL.q (Q1.move rfl) rfl rfl ?_
              obtain ⟨x3, b10, o3, hx3, hr5, hl8, hw3⟩ := Sl.atF (P := Try.prog) f7.sl Try.underlying22 ti9 encS_len (k := .i64) (n := ((k : Nat) : Int)) (k) (by omega) (by first | assumption | omega)
              refine OL.q (Q1.indexAddr rfl rfl hr5) rfl rfl ?_
              have hyl := hdeep _ (List.mem_of_getElem? hx3)
              refine OL.q (Q1.load1 ti9 rfl (fun _ e => e ▸ hw3)) rfl rfl ?_
              refine OL.q (Q1.catS rfl rfl (by first | omega | (simp only [List.length_append]; omega))) rfl rfl ?_
              refine OL.act rfl rfl (AW.buildSlice [strV (((encL gg.1) ++ x3))] Try.underlying22 ti9 rfl rfl rfl (by decide) ?_)
              intro w10 b11 hm8 hb8 hz4 hk3
              have hS17 := hS15.ext hm8
              have hl9 := Sl.of_blk (enc := encS) hk3 ([((encL gg.1) ++ x3)] : List Str) 1 rfl rfl (by unfold maxLen; omega)
              have hS18 : St (fun _ => False) (fun _ => False) w0 w10 [accR encS 9 1 v_o2 o2, accR encE 49 2 v2 (((nodeAt ((gnOf s)) n).2)), accR encS 9 1 v3 gg.2, slR encS [((.slice (some ⟨b11, 0, none⟩) 1 1), [((encL gg.1) ++ x3)])]] := hS15.newSlB hm8 hb8 hz4 hl9
              obtain ⟨g6, f8, hl10, k4⟩ := hS18.accK (i := 0) rfl
              have f9 := hS18.sl (i := 3) (k := 0) rfl rfl
              refine OL.act rfl rfl (AW.append f8 Try.underlying22 ti9 rfl encS_len encS_one rfl rfl (f9) (by first | omega | (simp only [List.length_append, List.length_cons, List.length_nil]; omega) | (simp; omega)) (by unfold maxLen; first | omega | (simp only [List.length_append, List.length_cons, List.length_nil]; omega) | (simp; omega)) ?_)
              intro v4 g5 w11 ha3 hm9 hg4 hz5
              have hS19 : St (fun _ => False) (fun _ => False) w0 w11 [accR encS 9 1 v4 ((o2 ++ [((encL gg.1) ++ x3)])), accR encE 49 2 v2 (((nodeAt ((gnOf s)) n).2)), accR encS 9 1 v3 gg.2, slR encS [((.slice (some ⟨b11, 0, none⟩) 1 1), [((encL gg.1) ++ x3)])]] := k4 _ _ _ _ hm9 ha3 hg4
              clear hg4
              refine OL.q (Q1.assign rfl) rfl rfl ?_
              refine OL.nil ?_
              refine r_inBlock ?_
              refine r_region ?_
              refine OL.q (Q1.move rfl) rfl rfl ?_
              refine OL.q (Q1.addI (((k + 1 : Nat) : Int)) rfl rfl (by omega)) rfl rfl ?_
              refine OL.q (Q1.assign rfl) rfl rfl ?_
              refine OL.nil ?_
              have hS20 : St (fun _ => False) (fun _ => False) w0 w11 [accR encS 9 1 v4 ((o2 ++ [((encL gg.1) ++ x3)])), accR encE 49 2 v2 (((nodeAt ((gnOf s)) n).2)), accR encS 9 1 v3 gg.2] := hS19.sel [0, 1, 2] (by rfl) (by decide)
              exact (ih2 _ _ _ ⟨(v4 : Value), ((o2 ++ [((encL gg.1) ++ x3)]) : List Str), (k + 1 : Nat), rfl, rfl, hS20, (by first | exact rest_go hQ hx3 | (exfalso; omega))⟩ (by omega)).sub ⟨rfl, rfl, rfl, rfl, rfl, rfl, rfl, rfl, trivial⟩
            | false =>
              replace hb7 := of_decide_eq_false hb7.symm
              refine r_cond_f rfl ?_
              refine r_exit rfl ?_
              refine r_inBlock ?_
              refine r_region ?_
              refine OL.q (Q1.move rfl) rfl rfl ?_
              refine OL.q (Q1.addI (((i + 1 : Nat) : Int)) rfl rfl (by omega)) rfl rfl ?_
              refine OL.q (Q1.assign rfl) rfl rfl ?_
              refine OL.nil ?_
              have hS17 : St (fun _ => False) (fun _ => False) w0 w9 [accR encS 9 1 v_o2 o2, accR encE 49 2 v2 (((nodeAt ((gnOf s)) n).2))] := hS15.sel [0, 1] (by rfl) (by decide)
              exact (ih1 _ _ _ ⟨(v_o2 : Value), (o2 : List Str), (i + 1 : Nat), rfl, rfl, hS17, (by first | exact rest_out hQ (by omega) | (exfalso; omega))⟩ (by omega)).sub ⟨rfl, rfl, rfl, rfl, rfl, trivial⟩
        | false =>
          replace hb4 := of_decide_eq_false hb4.symm
          refine r_cond_f rfl ?_
          refine r_exit rfl ?_
          refine r_seq ?_
          refine r_region ?_
          refine OL.q (Q1.move rfl) rfl rfl ?_
          refine OL.q (Q1.assign rfl) rfl rfl ?_
          refine OL.nil ?_
          refine r_ret1 Try.func27 rfl rfl ?_
          have hel2 : (nodeAt (gnOf s) n).2.length = x.2.length := by rw [hna]
          have hgi : (groups (dropE x.1)).length ≤ i := fin_idx hc hg hd hdp (by omega)
          obtain ⟨gz, hz, hgz⟩ := hS8.accOut (i := 0) rfl
          exact Ret.mk ⟨⟨gz, Acc.cast hz (rest_fin hO hgi), hgz⟩, hS8.mod⟩
      | false =>
        replace hb3 := of_decide_eq_false hb3.symm
        refine OL.sk rfl rfl ?_
        refine OL.sk rfl rfl ?_
        refine OL.q (Q1.pick_f rfl rfl) rfl rfl ?_
        refine OL.nil ?_
        refine r_cond_f rfl ?_
        refine r_exit rfl ?_
        refine r_seq ?_
        refine r_region ?_
        refine OL.q (Q1.move rfl) rfl rfl ?_
        refine OL.q (Q1.assign rfl) rfl rfl ?_
        refine OL.nil ?_
        refine r_ret1 Try.func27 rfl rfl ?_
        have hel2 : (nodeAt (gnOf s) n).2.length = x.2.length := by rw [hna]
        have hgi : (groups (dropE x.1)).length ≤ i := fin_idx hc hg hd hdp (by omega)
        obtain ⟨gz, hz, hgz⟩ := hS8.accOut (i := 0) rfl
        exact Ret.mk ⟨⟨gz, Acc.cast hz (rest_fin hO hgi), hgz⟩, hS8.mod⟩
  | false =>
    replace hb1 := hb1.symm
    refine r_cond_f rfl ?_
    refine r_skip ?_
    refine r_seq ?_
    refine r_region ?_
    refine OL.q (Q1.move rfl) rfl rfl ?_
    refine OL.q (Q1.move rfl) rfl rfl ?_
    have f1 := hgr.ext hS1.mod
    refine OL.act rfl rfl (AW.callF cl19 rfl (edges_c (w0 := w1)  (n) f1 (Nat.le_trans hhi hS1.mod.size) (by first | omega | assumption) (by first | assumption | omega | (simp; done)) (by first | assumption | (simp; done))) ?_)
    rintro v1 w2 ⟨⟨gr1, h1, hg1⟩, hm2⟩
    have hS2 := hS1.ext hm2
    have hS3 : St (fun _ => False) (fun _ => False) w0 w2 [accR encE 49 2 v1 (((nodeAt ((gnOf s)) n).2))] := hS1.newAcc hm2 h1 hg1
    clear hg1
    have hle_1 := h1.le
    refine OL.q (Q1.assign rfl) rfl rfl ?_
    refine OL.nil ?_
    refine r_seq ?_
    refine r_seq ?_
    refine r_region ?_
    refine OL.q (Q1.assign rfl) rfl rfl ?_
    refine OL.nil ?_
    refine r_block ?_
    have hS5 : St (fun _ => False) (fun _ => False) w0 w2 [accR encE 49 2 v1 (((nodeAt ((gnOf s)) n).2)), accR encS 9 1 (.slice none 0 0) []] := hS3.newAcc (Mod.refl _ _) Acc.nil (.inl rfl)
    have hS6 : St (fun _ => False) (fun _ => False) w0 w2 [accR encS 9 1 (.slice none 0 0) [], accR encE 49 2 v1 (((nodeAt ((gnOf s)) n).2))] := hS5.sel [1, 0] (by rfl) (by decide)
    refine r_loop (I := fun m E W => ∃ (v_o : Value) (o : List Str) (i : Nat), E = [(0, v_g), (2, .int .i64 deep), (7, v_o), (8, v1), (9, .int .i64 (((i : Nat) : Int)))] ∧ m = (nodeAt (gnOf s) n).2.length - i ∧ St (fun _ => False) (fun _ => False) w0 W [accR encS 9 1 v_o o, accR encE 49 2 v1 (((nodeAt ((gnOf s)) n).2))] ∧ (o ++ restL [] x.1 i = x.1)) ?_ ?_
    · refine ⟨_, _, ⟨(.slice none 0 0 : Value), ([] : List Str), (0 : Nat), rfl, rfl, hS6, (by first | exact rest_start_t hg (by rw [← show (nodeAt (gnOf s) n).1 = finB x.1 from by rw [hna]]; assumption) | exact rest_start_f hg (by rw [← show (nodeAt (gnOf s) n).1 = finB x.1 from by rw [hna]]; assumption))⟩, ⟨rfl, rfl, rfl, rfl, rfl, trivial⟩⟩
    · rintro _ _ w3 ⟨v_o, o, i, rfl, rfl, hS4, hO⟩ ih1
      refine r_seq ?_
      refine r_seq ?_
      refine r_region ?_
      refine OL.q (Q1.move rfl) rfl rfl ?_
      refine OL.q (Q1.move rfl) rfl rfl ?_
      obtain ⟨g1, f2, hl1, k1⟩ := hS4.accK (i := 1) rfl
      refine OL.q (Q1.lenSl Try.underlying39 (f2.sl) rfl) rfl rfl ?_
      refine OL.qb (Q1.lt rfl rfl) rfl rfl ?_
      intro b2 hb2
      refine OL.q (Q1.move rfl) rfl rfl ?_
      cases b2 with
      | true =>
        replace hb2 := of_decide_eq_true hb2.symm
        refine OL.q (Q1.move rfl) rfl rfl ?_
        refine OL.qb (Q1.gt rfl rfl) rfl rfl ?_
        intro b3 hb3
        refine OL.q (Q1.pick_t rfl rfl) rfl rfl ?_
        refine OL.nil ?_
        cases b3 with
        | true =>
          replace hb3 := of_decide_eq_true hb3.symm
          refine r_cond_t rfl ?_
          refine r_skip ?_
          refine r_seq ?_
          refine r_block ?_
          refine r_seq ?_
          refine r_region ?_
          refine OL.q (Q1.move rfl) rfl rfl ?_
          refine OL.q (Q1.move rfl) rfl rfl ?_
          obtain ⟨x1, b4, o1, hx1, hr1, hl2, hw1⟩ := Sl.atF (P := Try.prog) f2.sl Try.underlying39 ti49 encE_len (k := .i64) (n := ((i : Nat) : Int)) (i) (by omega) (by first | assumption | omega)
          refine OL.q (Q1.indexAddr rfl rfl hr1) rfl rfl ?_
          have hx1b : x.2[i]? = some x1 := by rw [hna] at hx1; exact hx1
          obtain ⟨gg, jn, es1, hgk, hru, hto, hjs, hgd, hgne⟩ := edge_at hc hg hx1b
          obtain ⟨de, rfl, hde⟩ := deep_edge hg hd hgk
          have hjlt := (List.getElem?_eq_some_iff.1 hjs).1
          rw [gnOf_len] at hgl
          have hglx := hgl
          rw [← gnOf_len] at hgl
          have hhd : rtext [x1.rune] = encL gg.1 := by rw [hru]; exact rtext_one hgd
          have hgd1 := hgd.1
          have hl4 := encL_len4 gg.1
          have hdeep := deep_len (hnode _ (List.mem_of_getElem? hjs)).2.1 hde
          refine OL.q (Q1.fieldAddr fl49_0 rfl) rfl rfl ?_
          have hr2 := hw1.sub 0 1 (Nat.le_of_ble_eq_true rfl)
          refine OL.q (Q1.load1 ti21 rfl (fun _ e => e ▸ hr2)) rfl rfl ?_
          refine OL.act rfl rfl (AW.buildSlice [(.int .i32 x1.rune : Value)] Try.underlying45 ti21 rfl rfl rfl (by decide) ?_)
          intro w4 b5 hm3 hb4 hz1 hk1
          have hS7 := hS4.ext hm3
          have hl3 := Sl.of_blk (enc := encRn) hk1 ([x1.rune] : List Int) 1 rfl rfl (by unfold maxLen; omega)
          have hS8 : St (fun _ => False) (fun _ => False) w0 w4 [accR encS 9 1 v_o o, accR encE 49 2 v1 (((nodeAt ((gnOf s)) n).2)), slR encRn [((.slice (some ⟨b5, 0, none⟩) 1 1), [x1.rune])]] := hS4.newSlB hm3 hb4 hz1 hl3
          have f3 := hS8.sl (i := 2) (k := 0) rfl rfl
          refine OL.act rfl rfl (AW.callF cl45 rfl (ttext_c (w0 := w4) (rs := [x1.rune])  f3 (by (intro y hy; simp only [List.mem_singleton] at hy; subst hy; omega)) (by simp)) ?_)
          rintro _ w5 ⟨_, _, rfl, rfl, ⟨b6, hb5, rfl⟩, hm4⟩
          have hS9 := hS8.ext hm4
          rw [hhd]
          refine OL.q (Q1.move rfl) rfl rfl ?_
          refine OL.q (Q1.extract rfl rfl) rfl rfl ?_
          refine OL.q (Q1.extract rfl rfl) rfl rfl ?_
          refine OL.q (Q1.assign rfl) rfl rfl ?_
          refine OL.q (Q1.assign rfl) rfl rfl ?_
          refine OL.nil ?_
          refine r_seq ?_
          refine r_region ?_
          refine OL.q (Q1.move rfl) rfl rfl ?_
          refine OL.q (Q1.move rfl) rfl rfl ?_
          refine OL.q (Q1.move rfl) rfl rfl ?_
          obtain ⟨g2, f4, hl4, k2⟩ := hS9.accK (i := 1) rfl
          obtain ⟨x2, b7, o2, hx2, hr3, hl5, hw2⟩ := Sl.atF (P := Try.prog) f4.sl Try.underlying39 ti49 encE_len (k := .i64) (n := ((i : Nat) : Int)) (i) (by omega) (by first | assumption | omega)
          obtain rfl : x1 = x2 := Option.some.inj (hx1.symm.trans hx2)
          refine OL.q (Q1.indexAddr rfl rfl hr3) rfl rfl ?_
          refine OL.q (Q1.fieldAddr fl49_1 rfl) rfl rfl ?_
          have hr4 := hw2.sub 1 1 (Nat.le_of_ble_eq_true rfl)
          refine OL.q (Q1.load1 ti3 rfl (fun _ e => e ▸ hr4)) rfl rfl ?_
          refine OL.q (Q1.move rfl) rfl rfl ?_
          refine OL.q (Q1.subI ((deep - 1)) rfl rfl (by omega)) rfl rfl ?_
          have f5 := hgr.ext hS9.mod
          refine OL.act rfl rfl (AW.callF cl27 rfl (ih0 de (by omega) (x1.to) (deep - 1) (gg.2, es1) f5 (Nat.le_trans hhi hS9.mod.size) hnode hshort hgl hel (by omega) (by omega) (by omega) (by rw [hto]; exact gnOf_at hjs) (hnode _ (List.mem_of_getElem? hjs)).1 (hnode _ (List.mem_of_getElem? hjs)).2.1 hde (hshort _ (List.mem_of_getElem? hjs))) ?_)
          rintro v2 w6 ⟨⟨gr2, ha1, hg2⟩, hm5⟩
          have hS10 := hS9.ext hm5
          have hS11 : St (fun _ => False) (fun _ => False) w0 w6 [accR encS 9 1 v_o o, accR encE 49 2 v1 (((nodeAt ((gnOf s)) n).2)), slR encRn [((.slice (some ⟨b5, 0, none⟩) 1 1), [x1.rune])], accR encS 9 1 v2 gg.2] := hS9.newAcc hm5 ha1 hg2
          clear hg2
          have hmore : gg.2.length ≤ 1000 := hshort _ (List.mem_of_getElem? hjs)
          refine OL.q (Q1.assign rfl) rfl rfl ?_
          refine OL.nil ?_
          refine r_seq ?_
          refine r_region ?_
          refine OL.q (Q1.assign rfl) rfl rfl ?_
          refine OL.nil ?_
          refine r_block ?_
          have hS13 : St (fun _ => False) (fun _ => False) w0 w6 [accR encS 9 1 v_o o, accR encE 49 2 v1 (((nodeAt ((gnOf s)) n).2)), accR encS 9 1 v2 gg.2] := hS11.sel [0, 1, 3] (by rfl) (by decide)
          refine r_loop (I := fun m E W => ∃ (v_o2 : Value) (o2 : List Str) (k : Nat), E = [(0, v_g), (2, .int .i64 deep), (7, v_o2), (8, v1), (9, .int .i64 (((i : Nat) : Int))), (10, strV ((encL gg.1))), (12, v2), (13, .int .i64 (((k : Nat) : Int)))] ∧ m = gg.2.length - k ∧ St (fun _ => False) (fun _ => False) w0 W [accR encS 9 1 v_o2 o2, accR encE 49 2 v1 (((nodeAt ((gnOf s)) n).2)), accR encS 9 1 v2 gg.2] ∧ (o2 ++ ((gg.2.drop k).map (encL gg.1 ++ ·) ++ restL [] x.1 (i + 1)) = x.1)) ?_ ?_
          · refine ⟨_, _, ⟨(v_o : Value), (o : List Str), (0 : Nat), rfl, rfl, hS13, (by exact rest_in hO hgk)⟩, ⟨rfl, rfl, rfl, rfl, rfl, rfl, rfl, rfl, trivial⟩⟩
          · rintro _ _ w7 ⟨v_o2, o2, k, rfl, rfl, hS12, hQ⟩ ih2
            have hol := rest_len hQ
            refine r_seq ?_
            refine r_seq ?_
            refine r_region ?_
            refine OL.q (Q1.move rfl) rfl rfl ?_
            refine OL.q (Q1.move rfl) rfl rfl ?_
            obtain ⟨g3, f6, hl6, k3⟩ := hS12.accK (i := 2) rfl
            refine OL.q (Q1.lenSl Try.underlying22 (f6.sl) rfl) rfl rfl ?_
            refine OL.qb (Q1.lt rfl rfl) rfl rfl ?_
            intro b8 hb6
            refine OL.nil ?_
            cases b8 with
            | true =>
              replace hb6 := of_decide_eq_true hb6.symm
              refine r_cond_t rfl ?_
              refine r_skip ?_
              refine r_seq ?_
              refine r_block ?_
              refine r_region ?_
              refine OL.q (Q1.move rfl) rfl rfl ?_
              refine OL.q (Q1.move rfl) rfl rfl ?_
              refine OL.q (Q1.move rfl) rfl rfl ?_
              refine OL.q (Q1.move rfl) rfl rfl ?_
              obtain ⟨x3, b9, o3, hx3, hr5, hl7, hw3⟩ := Sl.atF (P := Try.prog) f6.sl Try.underlying22 ti9 encS_len (k := .i64) (n := ((k : Nat) : Int)) (k) (by omega) (by first | assumption | omega)
              refine OL.q (Q1.indexAddr rfl rfl hr5) rfl rfl ?_
              have hyl := hdeep _ (List.mem_of_getElem? hx3)
              refine OL.q (Q1.load1 ti9 rfl (fun _ e => e ▸ hw3)) rfl rfl ?_
              refine OL.q (Q1.catS rfl rfl (by first | omega | (simp only [List.length_append]; omega))) rfl rfl ?_
              refine OL.act rfl rfl (AW.buildSlice [strV (((encL gg.1) ++ x3))] Try.underlying22 ti9 rfl rfl rfl (by decide) ?_)
              intro w8 b10 hm6 hb7 hz2 hk2
              have hS14 := hS12.ext hm6
              have hl8 := Sl.of_blk (enc := encS) hk2 ([((encL gg.1) ++ x3)] : List Str) 1 rfl rfl (by unfold maxLen; omega)
              have hS15 : St (fun _ => False) (fun _ => False) w0 w8 [accR encS 9 1 v_o2 o2, accR encE 49 2 v1 (((nodeAt ((gnOf s)) n).2)), accR encS 9 1 v2 gg.2, slR encS [((.slice (some ⟨b10, 0, none⟩) 1 1), [((encL gg.1) ++ x3)])]] := hS12.newSlB hm6 hb7 hz2 hl8
              obtain ⟨g5, f7, hl9, k4⟩ := hS15.accK (i := 0) rfl
              have f8 := hS15.sl (i := 3) (k := 0) rfl rfl
              refine OL.act rfl rfl (AW.append f7 Try.underlying22 ti9 rfl encS_len encS_one rfl rfl (f8) (by first | omega | (simp only [List.length_append, List.length_cons, List.length_nil]; omega) | (simp; omega)) (by unfold maxLen; first | omega | (simp only [List.length_append, List.length_cons, List.length_nil]; omega) | (simp; omega)) ?_)
              intro v3 g4 w9 ha2 hm7 hg3 hz3
              have hS16 : St (fun _ => False) (fun _ => False) w0 w9 [accR encS 9 1 v3 ((o2 ++ [((encL gg.1) ++ x3)])), accR encE 49 2 v1 (((nodeAt ((gnOf s)) n).2)), accR encS 9 1 v2 gg.2, slR encS [((.slice (some ⟨b10, 0, none⟩) 1 1), [((encL gg.1) ++ x3)])]] := k4 _ _ _ _ hm7 ha2 hg3
              clear hg3
              refine OL.q (Q1.assign rfl) rfl rfl ?_
              refine OL.nil ?_
              refine r_inBlock ?_
              refine r_region ?_
              refine OL.q (Q1.move rfl) rfl rfl ?_
              refine OL.q (Q1.addI (((k + 1 : Nat) : Int)) rfl rfl (by omega)) rfl rfl ?_
              refine OL.q (Q1.assign rfl) rfl rfl ?_
              refine OL.nil ?_
              have hS17 : St (fun _ => False) (fun _ => False) w0 w9 [accR encS 9 1 v3 ((o2 ++ [((encL gg.1) ++ x3)])), accR encE 49 2 v1 (((nodeAt ((gnOf s)) n).2)), accR encS 9 1 v2 gg.2] := hS16.sel [0, 1, 2] (by rfl) (by decide)
              exact (ih2 _ _ _ ⟨(v3 : Value), ((o2 ++ [((encL gg.1) ++ x3)]) : List Str), (k + 1 : Nat), rfl, rfl, hS17, (by first | exact rest_go hQ hx3 | (exfalso; omega))⟩ (by omega)).sub ⟨rfl, rfl, rfl, rfl, rfl, rfl, rfl, rfl, trivial⟩
            | false =>
              replace hb6 := of_decide_eq_false hb6.symm
              refine r_cond_f rfl ?_
              refine r_exit rfl ?_
              refine r_inBlock ?_
              refine r_region ?_
              refine OL.q (Q1.move rfl) rfl rfl ?_
              refine OL.q (Q1.addI (((i + 1 : Nat) : Int)) rfl rfl (by omega)) rfl rfl ?_
              refine OL.q (Q1.assign rfl) rfl rfl ?_
              refine OL.nil ?_
              have hS14 : St (fun _ => False) (fun _ => False) w0 w7 [accR encS 9 1 v_o2 o2, accR encE 49 2 v1 (((nodeAt ((gnOf s)) n).2))] := hS12.sel [0, 1] (by rfl) (by decide)
              exact (ih1 _ _ _ ⟨(v_o2 : Value), (o2 : List Str), (i + 1 : Nat), rfl, rfl, hS14, (by first | exact rest_out hQ (by omega) | (exfalso; omega))⟩ (by omega)).sub ⟨rfl, rfl, rfl, rfl, rfl, trivial⟩
        | false =>
          replace hb3 := of_decide_eq_false hb3.symm
          refine r_cond_f rfl ?_
          refine r_exit rfl ?_
          refine r_seq ?_
          refine r_region ?_
          refine OL.q (Q1.move rfl) rfl rfl ?_
          refine OL.q (Q1.assign rfl) rfl rfl ?_
          refine OL.nil ?_
          refine r_ret1 Try.func27 rfl rfl ?_
          have hel2 : (nodeAt (gnOf s) n).2.length = x.2.length := by rw [hna]
          have hgi : (groups (dropE x.1)).length ≤ i := fin_idx hc hg hd hdp (by omega)
          obtain ⟨gz, hz, hgz⟩ := hS4.accOut (i := 0) rfl
          exact Ret.mk ⟨⟨gz, Acc.cast hz (rest_fin hO hgi), hgz⟩, hS4.mod⟩
      | false =>
        replace hb2 := of_decide_eq_false hb2.symm
        refine OL.sk rfl rfl ?_
        refine OL.sk rfl rfl ?_
        refine OL.q (Q1.pick_f rfl rfl) rfl rfl ?_
        refine OL.nil ?_
        refine r_cond_f rfl ?_
        refine r_exit rfl ?_
        refine r_seq ?_
        refine r_region ?_
        refine OL.q (Q1.move rfl) rfl rfl ?_
        refine OL.q (Q1.assign rfl) rfl rfl ?_
        refine OL.nil ?_
        refine r_ret1 Try.func27 rfl rfl ?_
        have hel2 : (nodeAt (gnOf s) n).2.length = x.2.length := by rw [hna]
        have hgi : (groups (dropE x.1)).length ≤ i := fin_idx hc hg hd hdp (by omega)
        obtain ⟨gz, hz, hgz⟩ := hS4.accOut (i := 0) rfl
        exact Ret.mk ⟨⟨gz, Acc.cast hz (rest_fin hO hgi), hgz⟩, hS4.mod⟩
end Go.Proofs
