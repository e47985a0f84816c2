/-
  The walks through ScriptLines, ScriptBack.
-/
import Derived.Test.YtnikbecfjbjbbaaDoorWPrint
set_option linter.unusedVariables false
set_option linter.unusedSimpArgs false
namespace Go.Proofs
open Go.Ik Go.Ml
set_option maxRecDepth 20000 in
set_option maxHeartbeats 4000000 in
theorem ScriptLines_c {w0 : World}  {c : Cfg} {v_c_words : Value} {v_c_cuts : Value} {v_es : Value} {es : List Evt} (h_c_words : Sl encS w0 (Iv 0 w0.heap.size) v_c_words c.words) (h_c_cuts : Sl encKey w0 (Iv 0 w0.heap.size) v_c_cuts c.cuts) (h_es : Sl encEvt w0 (Iv 0 w0.heap.size) v_es es) (hG : GS w0) (h_c : Cfg.Ok c) (h_e : ∀ e ∈ es, Evt.Ok e) :
    Calls Tryd.prog 7 #[.agg #[v_c_words, v_c_cuts, .int .i64 c.workers, .int .i64 c.copies, .int .i64 c.slots, .int .i64 c.batch, .int .i64 c.lease, .int .i64 c.hedge, .int .i64 c.first, .int .i64 c.cap, .int .i64 c.jitter, .int .i64 c.net], v_es] w0 (Ret fun rv w1 => (∃ rb : Bool, rb = true ∧ rv = .bool rb) ∧ Ext w0 w1) := by
  have hle_c_words := h_c_words.le
  have hle_c_cuts := h_c_cuts.le
  have hle_es := h_es.le
  have hFg : ∀ b, b = gB ∨ b = gS ∨ b = gR → ¬ (fun _ : Nat => False) b := fun _ _ h => h
  have hS0 := St.start0 w0
  refine calls_enter Tryd.func7 rfl Tryd.ntmps7 rfl ?_
  refine r_seq ?_
  refine r_region ?_
  refine OL.act rfl rfl (AW.box [v_c_words, v_c_cuts, .int .i64 c.workers, .int .i64 c.copies, .int .i64 c.slots, .int .i64 c.batch, .int .i64 c.lease, .int .i64 c.hedge, .int .i64 c.first, .int .i64 c.cap, .int .i64 c.jitter, .int .i64 c.net] rfl rfl ?_)
  intro w1 b1 hm1 hb1 hz1 hk1
  have hS1 := hS0.ext hm1
  have hS2 : St (fun _ => False) (fun _ => False) w0 w1 [bkR b1 [v_c_words, v_c_cuts, .int .i64 c.workers, .int .i64 c.copies, .int .i64 c.slots, .int .i64 c.batch, .int .i64 c.lease, .int .i64 c.hedge, .int .i64 c.first, .int .i64 c.cap, .int .i64 c.jitter, .int .i64 c.net] 30] := hS0.newBk hm1 hb1 hk1
  refine OL.q (Q1.assign rfl) rfl rfl ?_
  refine OL.nil ?_
  refine r_seq ?_
  refine r_seq ?_
  refine r_region ?_
  have f1 := hS2.bk (i := 0) rfl
  refine OL.q (Q1.loadN ti30 rfl (fun _ e => e ▸ f1.row) rfl) rfl rfl ?_
  have f2 := hS2.out h_c_words (fun _ _ h => h)
  have f3 := hS2.out h_c_cuts (fun _ _ h => h)
  refine OL.act rfl rfl (AW.callF cl15 rfl (greatC_c (w0 := w1) (c := c)  (f2.iv (Nat.zero_le _) hS2.mod.size) (f3.iv (Nat.zero_le _) hS2.mod.size)) ?_)
  rintro _ w2 ⟨⟨b2, hb2, rfl⟩, hm2⟩
  have hS3 := hS2.ext hm2
  refine OL.q (Q1.move rfl) rfl rfl ?_
  cases b2 with
  | true =>
    replace hb2 := hb2.symm
    refine OL.sk rfl rfl ?_
    refine OL.sk rfl rfl ?_
    refine OL.q (Q1.pick_t rfl rfl) rfl rfl ?_
    refine OL.nil ?_
    refine r_cond_t rfl ?_
    refine r_seq ?_
    refine r_region ?_
    refine OL.act rfl rfl (AW.callF cl8 rfl (awake29_c (w0 := w2)   (by exact hG.keep hgp (hS3.mod) hFg)) ?_)
    rintro _ w3 ⟨⟨_, rfl, rfl⟩, hm3⟩
    have hS4 := hS3.ext hm3
    refine OL.q (Q1.assign rfl) rfl rfl ?_
    refine OL.nil ?_
    refine r_ret1 Tryd.func7 rfl rfl ?_
    exact Ret.mk ⟨⟨_, (by rfl), rfl⟩, hS4.mod⟩
  | false =>
    replace hb2 := hb2.symm
    refine OL.q (Q1.move rfl) rfl rfl ?_
    have f4 := hS3.out h_es (fun _ _ h => h)
    refine OL.act rfl rfl (AW.callF cl16 rfl (greatE_c (w0 := w2) (es := es) (300) (f4.iv (Nat.zero_le _) hS3.mod.size) (by first | omega | assumption)) ?_)
    rintro _ w3 ⟨⟨b3, hb3, rfl⟩, hm3⟩
    have hS4 := hS3.ext hm3
    refine OL.q (Q1.pick_f rfl rfl) rfl rfl ?_
    refine OL.nil ?_
    cases b3 with
    | true =>
      replace hb3 := hb3.symm
      refine r_cond_t rfl ?_
      refine r_seq ?_
      refine r_region ?_
      refine OL.act rfl rfl (AW.callF cl8 rfl (awake29_c (w0 := w3)   (by exact hG.keep hgp (hS4.mod) hFg)) ?_)
      rintro _ w4 ⟨⟨_, rfl, rfl⟩, hm4⟩
      have hS5 := hS4.ext hm4
      refine OL.q (Q1.assign rfl) rfl rfl ?_
      refine OL.nil ?_
      refine r_ret1 Tryd.func7 rfl rfl ?_
      exact Ret.mk ⟨⟨_, (by rfl), rfl⟩, hS5.mod⟩
    | false =>
      replace hb3 := hb3.symm
      refine r_cond_f rfl ?_
      refine r_skip ?_
      refine r_seq ?_
      refine r_region ?_
      have f5 := hS4.bk (i := 0) rfl
      refine OL.q (Q1.loadN ti30 rfl (fun _ e => e ▸ f5.row) rfl) rfl rfl ?_
      have hpr : PrOk c es := prok h_c h_e (by assumption) (by assumption)
      have hpl := print_len c es
      have hws := hpr.wl
      have hcs := hpr.cl
      have hes := hpr.el
      refine OL.q (Q1.move rfl) rfl rfl ?_
      have f6 := hS4.out h_c_words (fun _ _ h => h)
      have f7 := hS4.out h_c_cuts (fun _ _ h => h)
      have f8 := hS4.out h_es (fun _ _ h => h)
      refine OL.act rfl rfl (AW.callF cl17 rfl (print_c (w0 := w3) (c := c) (es := es)  (f6.iv (Nat.zero_le _) hS4.mod.size) (f7.iv (Nat.zero_le _) hS4.mod.size) (f8.iv (Nat.zero_le _) hS4.mod.size) (by exact hG.keep hgp (hS4.mod) hFg) (by assumption)) ?_)
      rintro _ w4 ⟨_, _, rfl, rfl, rfl, hm4⟩
      have hS5 := hS4.ext hm4
      refine OL.q (Q1.move rfl) rfl rfl ?_
      refine OL.q (Q1.extract rfl rfl) rfl rfl ?_
      refine OL.q (Q1.extract rfl rfl) rfl rfl ?_
      refine OL.q (Q1.assign rfl) rfl rfl ?_
      refine OL.q (Q1.assign rfl) rfl rfl ?_
      refine OL.nil ?_
      refine r_seq ?_
      refine r_seq ?_
      refine r_region ?_
      refine OL.q (Q1.move rfl) rfl rfl ?_
      refine OL.qb (Q1.ne rfl rfl) rfl rfl ?_
      intro b4 hb4
      refine OL.nil ?_
      cases b4 with
      | true =>
        replace hb4 := bne_iff_ne.1 hb4.symm
        refine r_cond_t rfl ?_
        refine r_seq ?_
        refine r_region ?_
        refine OL.q (Q1.move rfl) rfl rfl ?_
        refine OL.qb (Q1.eqS rfl rfl) rfl rfl ?_
        intro b5 hb5
        obtain rfl : b5 = true := hb5.trans (by rw [print_no (by assumption)]; rfl)
        refine OL.q (Q1.move rfl) rfl rfl ?_
        refine OL.act rfl rfl (AW.callF cl8 rfl (awake29_c (w0 := w4)   (by exact hG.keep hgp (hS5.mod) hFg)) ?_)
        rintro _ w5 ⟨⟨_, rfl, rfl⟩, hm5⟩
        have hS6 := hS5.ext hm5
        refine OL.q (Q1.pick_t rfl rfl) rfl rfl ?_
        refine OL.q (Q1.assign rfl) rfl rfl ?_
        refine OL.nil ?_
        refine r_ret1 Tryd.func7 rfl rfl ?_
        exact Ret.mk ⟨⟨_, (by rfl), rfl⟩, hS6.mod⟩
      | false =>
        replace hb4 := bne_eq_false_iff_eq.1 hb4.symm
        refine r_cond_f rfl ?_
        refine r_skip ?_
        refine r_seq ?_
        refine r_region ?_
        refine OL.q (Q1.assign rfl) rfl rfl ?_
        obtain ⟨hpt, hpb⟩ := print_yes (c := c) (es := es) (by assumption)
        have hpn := print_lines hpb
        have hlb := last_bt (print_last c es)
        have hpp := List.length_pos_iff.2 (printT_ne c es)
        rw [← hpt] at hpn hlb hpp
        refine OL.nil ?_
        refine r_seq ?_
        refine r_seq ?_
        refine r_region ?_
        refine OL.q (Q1.assign rfl) rfl rfl ?_
        refine OL.nil ?_
        refine r_block ?_
        refine r_loop (I := fun m E W => ∃ (n : Nat) (i : Nat), E = [(1, v_es), (2, ptr b1 0), (5, strV (((printM c es).1))), (7, .int .i64 (((n : Nat) : Int))), (8, .int .i64 (((i : Nat) : Int)))] ∧ m = (printM c es).1.length - i ∧ St (fun _ => False) (fun _ => False) w0 W [bkR b1 [v_c_words, v_c_cuts, .int .i64 c.workers, .int .i64 c.copies, .int .i64 c.slots, .int .i64 c.batch, .int .i64 c.lease, .int .i64 c.hedge, .int .i64 c.first, .int .i64 c.cap, .int .i64 c.jitter, .int .i64 c.net] 30] ∧ (n = ((printM c es).1.take i).count 10) ∧ (n ≤ i)) ?_ ?_
        · refine ⟨_, _, ⟨(0 : Nat), (0 : Nat), rfl, rfl, hS5, (by rfl), (by omega)⟩, ⟨rfl, rfl, rfl, rfl, rfl, trivial⟩⟩
        · rintro _ _ w5 ⟨n, i, rfl, rfl, hS6, hn, hni⟩ ih1
          refine r_seq ?_
          refine r_seq ?_
          refine r_region ?_
          refine OL.q (Q1.move rfl) rfl rfl ?_
          refine OL.q (Q1.move rfl) rfl rfl ?_
          refine OL.q (Q1.lenS Tryd.underlying9 rfl) rfl rfl ?_
          refine OL.qb (Q1.lt rfl rfl) rfl rfl ?_
          intro b5 hb5
          refine OL.nil ?_
          cases b5 with
          | true =>
            replace hb5 := of_decide_eq_true hb5.symm
            refine r_cond_t rfl ?_
            refine r_skip ?_
            refine r_seq ?_
            refine r_block ?_
            refine r_seq ?_
            refine r_region ?_
            refine OL.q (Q1.move rfl) rfl rfl ?_
            refine OL.q (Q1.move rfl) rfl rfl ?_
            refine OL.q (Q1.indexBt (i) Tryd.underlying9 rfl rfl (by omega) (by first | assumption | omega | (simp; done) | (simp; omega))) rfl rfl ?_
            refine OL.qb (Q1.eq rfl rfl) rfl rfl ?_
            intro b6 hb6
            refine OL.nil ?_
            cases b6 with
            | true =>
              replace hb6 := eq_of_beq hb6.symm
              refine r_cond_t rfl ?_
              refine r_region ?_
              refine OL.q (Q1.move rfl) rfl rfl ?_
              refine OL.q (Q1.addI (((n + 1 : Nat) : Int)) rfl rfl (by omega)) rfl rfl ?_
              refine OL.q (Q1.assign rfl) rfl rfl ?_
              refine OL.nil ?_
              refine r_inBlock ?_
              refine r_region ?_
              refine OL.q (Q1.move rfl) rfl rfl ?_
              refine OL.q (Q1.addI (((i + 1 : Nat) : Int)) rfl rfl (by omega)) rfl rfl ?_
              refine OL.q (Q1.assign rfl) rfl rfl ?_
              refine OL.nil ?_
              exact (ih1 _ _ _ ⟨(n + 1 : Nat), (i + 1 : Nat), rfl, rfl, hS6, (by first | (rw [count_step (by omega), if_pos (UInt8.toNat_inj.1 (by show _ = 10; omega)), ← hn]) | (rw [count_step (by omega), if_neg (fun e => by have h10 : (btAt (printM c es).1 i).toNat = 10 := (by rw [e]; rfl); omega), ← hn]; rfl) | (exfalso; omega)), (by first | omega | (exfalso; omega))⟩ (by omega)).sub ⟨rfl, rfl, rfl, rfl, rfl, trivial⟩
            | false =>
              replace hb6 := ne_of_beq_false hb6.symm
              refine r_cond_f rfl ?_
              refine r_skip ?_
              refine r_inBlock ?_
              refine r_region ?_
              refine OL.q (Q1.move rfl) rfl rfl ?_
              refine OL.q (Q1.addI (((i + 1 : Nat) : Int)) rfl rfl (by omega)) rfl rfl ?_
              refine OL.q (Q1.assign rfl) rfl rfl ?_
              refine OL.nil ?_
              exact (ih1 _ _ _ ⟨(n : Nat), (i + 1 : Nat), rfl, rfl, hS6, (by first | (rw [count_step (by omega), if_pos (UInt8.toNat_inj.1 (by show _ = 10; omega)), ← hn]) | (rw [count_step (by omega), if_neg (fun e => by have h10 : (btAt (printM c es).1 i).toNat = 10 := (by rw [e]; rfl); omega), ← hn]; rfl) | (exfalso; omega)), (by first | omega | (exfalso; omega))⟩ (by omega)).sub ⟨rfl, rfl, rfl, rfl, rfl, trivial⟩
          | false =>
            replace hb5 := of_decide_eq_false hb5.symm
            refine r_cond_f rfl ?_
            refine r_exit rfl ?_
            refine r_seq ?_
            refine r_region ?_
            refine OL.q (Q1.move rfl) rfl rfl ?_
            rw [List.take_of_length_le (by omega)] at hn
            refine OL.q (Q1.fieldAddr fl30_0 rfl) rfl rfl ?_
            have f9 := hS6.bk (i := 0) rfl
            refine OL.q (Q1.load1 ti27 rfl (fun _ e => e ▸ (f9.cell 0 _ rfl))) rfl rfl ?_
            have f10 := hS6.out h_c_words (fun _ _ h => h)
            refine OL.q (Q1.lenSl Tryd.underlying27 (f10) rfl) rfl rfl ?_
            refine OL.q (Q1.fieldAddr fl30_1 rfl) rfl rfl ?_
            refine OL.q (Q1.load1 ti28 rfl (fun _ e => e ▸ (f9.cell 1 _ rfl))) rfl rfl ?_
            have f11 := hS6.out h_c_cuts (fun _ _ h => h)
            refine OL.q (Q1.lenSl Tryd.underlying28 (f11) rfl) rfl rfl ?_
            refine OL.q (Q1.addI (((c.words.length + c.cuts.length : Nat) : Int)) rfl rfl (by omega)) rfl rfl ?_
            refine OL.q (Q1.addI ((((c.words.length + c.cuts.length) + 1 : Nat) : Int)) rfl rfl (by omega)) rfl rfl ?_
            refine OL.q (Q1.move rfl) rfl rfl ?_
            have f12 := hS6.out h_es (fun _ _ h => h)
            refine OL.q (Q1.lenSl Tryd.underlying31 (f12) rfl) rfl rfl ?_
            refine OL.q (Q1.addI (((((c.words.length + c.cuts.length) + 1) + es.length : Nat) : Int)) rfl rfl (by omega)) rfl rfl ?_
            refine OL.qb (Q1.eq rfl rfl) rfl rfl ?_
            intro b6 hb6
            obtain rfl : b6 = true := hb6.trans (by exact beq_iff_eq.2 (by omega))
            refine OL.q (Q1.move rfl) rfl rfl ?_
            refine OL.q (Q1.move rfl) rfl rfl ?_
            refine OL.q (Q1.move rfl) rfl rfl ?_
            refine OL.q (Q1.lenS Tryd.underlying9 rfl) rfl rfl ?_
            refine OL.q (Q1.subI (((((((printM c es).1)).length : Nat) : Int) - 1)) rfl rfl (by omega)) rfl rfl ?_
            refine OL.q (Q1.indexBt (((((printM c es).1)).length - 1)) Tryd.underlying9 rfl rfl (by omega) (by first | assumption | omega | (simp; done) | (simp; omega))) rfl rfl ?_
            refine OL.qb (Q1.eq rfl rfl) rfl rfl ?_
            intro b7 hb7
            obtain rfl : b7 = true := hb7.trans (by rw [hlb]; rfl)
            refine OL.q (Q1.pick_t rfl rfl) rfl rfl ?_
            refine OL.q (Q1.move rfl) rfl rfl ?_
            refine OL.act rfl rfl (AW.callF cl8 rfl (awake29_c (w0 := w5)   (by exact hG.keep hgp (hS6.mod) hFg)) ?_)
            rintro _ w6 ⟨⟨_, rfl, rfl⟩, hm5⟩
            have hS7 := hS6.ext hm5
            refine OL.q (Q1.pick_t rfl rfl) rfl rfl ?_
            refine OL.q (Q1.assign rfl) rfl rfl ?_
            refine OL.nil ?_
            refine r_ret1 Tryd.func7 rfl rfl ?_
            exact Ret.mk ⟨⟨_, (by rfl), rfl⟩, hS7.mod⟩
set_option maxRecDepth 20000 in
set_option maxHeartbeats 4000000 in
theorem ScriptBack_c {w0 : World}  {c : Cfg} {v_c_words : Value} {v_c_cuts : Value} {v_es : Value} {es : List Evt} (s : Str) (h_c_words : Sl encS w0 (Iv 0 w0.heap.size) v_c_words c.words) (h_c_cuts : Sl encKey w0 (Iv 0 w0.heap.size) v_c_cuts c.cuts) (h_es : Sl encEvt w0 (Iv 0 w0.heap.size) v_es es) (hG : GS w0) (h_c : Cfg.Ok c) (h_e : ∀ e ∈ es, Evt.Ok e) :
    Calls Tryd.prog 6 #[.agg #[v_c_words, v_c_cuts, .int .i64 c.workers, .int .i64 c.copies, .int .i64 c.slots, .int .i64 c.batch, .int .i64 c.lease, .int .i64 c.hedge, .int .i64 c.first, .int .i64 c.cap, .int .i64 c.jitter, .int .i64 c.net], v_es, strV s] w0 (Ret fun rv w1 => (∃ rb : Bool, rb = true ∧ rv = .bool rb) ∧ Ext w0 w1) := by
  have hle_c_words := h_c_words.le
  have hle_c_cuts := h_c_cuts.le
  have hle_es := h_es.le
  have hFg : ∀ b, b = gB ∨ b = gS ∨ b = gR → ¬ (fun _ : Nat => False) b := fun _ _ h => h
  have hS0 := St.start0 w0
  refine calls_enter Tryd.func6 rfl Tryd.ntmps6 rfl ?_
  refine r_seq ?_
  refine r_region ?_
  refine OL.act rfl rfl (AW.box [v_c_words, v_c_cuts, .int .i64 c.workers, .int .i64 c.copies, .int .i64 c.slots, .int .i64 c.batch, .int .i64 c.lease, .int .i64 c.hedge, .int .i64 c.first, .int .i64 c.cap, .int .i64 c.jitter, .int .i64 c.net] rfl rfl ?_)
  intro w1 b1 hm1 hb1 hz1 hk1
  have hS1 := hS0.ext hm1
  have hS2 : St (fun _ => False) (fun _ => False) w0 w1 [bkR b1 [v_c_words, v_c_cuts, .int .i64 c.workers, .int .i64 c.copies, .int .i64 c.slots, .int .i64 c.batch, .int .i64 c.lease, .int .i64 c.hedge, .int .i64 c.first, .int .i64 c.cap, .int .i64 c.jitter, .int .i64 c.net] 30] := hS0.newBk hm1 hb1 hk1
  refine OL.q (Q1.assign rfl) rfl rfl ?_
  refine OL.nil ?_
  refine r_seq ?_
  refine r_seq ?_
  refine r_region ?_
  have f1 := hS2.bk (i := 0) rfl
  refine OL.q (Q1.loadN ti30 rfl (fun _ e => e ▸ f1.row) rfl) rfl rfl ?_
  have f2 := hS2.out h_c_words (fun _ _ h => h)
  have f3 := hS2.out h_c_cuts (fun _ _ h => h)
  refine OL.act rfl rfl (AW.callF cl15 rfl (greatC_c (w0 := w1) (c := c)  (f2.iv (Nat.zero_le _) hS2.mod.size) (f3.iv (Nat.zero_le _) hS2.mod.size)) ?_)
  rintro _ w2 ⟨⟨b2, hb2, rfl⟩, hm2⟩
  have hS3 := hS2.ext hm2
  refine OL.q (Q1.move rfl) rfl rfl ?_
  cases b2 with
  | true =>
    replace hb2 := hb2.symm
    refine OL.sk rfl rfl ?_
    refine OL.sk rfl rfl ?_
    refine OL.q (Q1.pick_t rfl rfl) rfl rfl ?_
    refine OL.q (Q1.move rfl) rfl rfl ?_
    refine OL.sk rfl rfl ?_
    refine OL.sk rfl rfl ?_
    refine OL.sk rfl rfl ?_
    refine OL.q (Q1.pick_t rfl rfl) rfl rfl ?_
    refine OL.nil ?_
    refine r_cond_t rfl ?_
    refine r_seq ?_
    refine r_region ?_
    refine OL.act rfl rfl (AW.callF cl8 rfl (awake29_c (w0 := w2)   (by exact hG.keep hgp (hS3.mod) hFg)) ?_)
    rintro _ w3 ⟨⟨_, rfl, rfl⟩, hm3⟩
    have hS4 := hS3.ext hm3
    refine OL.q (Q1.assign rfl) rfl rfl ?_
    refine OL.nil ?_
    refine r_ret1 Tryd.func6 rfl rfl ?_
    exact Ret.mk ⟨⟨_, (by rfl), rfl⟩, hS4.mod⟩
  | false =>
    replace hb2 := hb2.symm
    refine OL.q (Q1.move rfl) rfl rfl ?_
    have f4 := hS3.out h_es (fun _ _ h => h)
    refine OL.act rfl rfl (AW.callF cl16 rfl (greatE_c (w0 := w2) (es := es) (300) (f4.iv (Nat.zero_le _) hS3.mod.size) (by first | omega | assumption)) ?_)
    rintro _ w3 ⟨⟨b3, hb3, rfl⟩, hm3⟩
    have hS4 := hS3.ext hm3
    refine OL.q (Q1.pick_f rfl rfl) rfl rfl ?_
    refine OL.q (Q1.move rfl) rfl rfl ?_
    cases b3 with
    | true =>
      replace hb3 := hb3.symm
      refine OL.sk rfl rfl ?_
      refine OL.sk rfl rfl ?_
      refine OL.sk rfl rfl ?_
      refine OL.q (Q1.pick_t rfl rfl) rfl rfl ?_
      refine OL.nil ?_
      refine r_cond_t rfl ?_
      refine r_seq ?_
      refine r_region ?_
      refine OL.act rfl rfl (AW.callF cl8 rfl (awake29_c (w0 := w3)   (by exact hG.keep hgp (hS4.mod) hFg)) ?_)
      rintro _ w4 ⟨⟨_, rfl, rfl⟩, hm4⟩
      have hS5 := hS4.ext hm4
      refine OL.q (Q1.assign rfl) rfl rfl ?_
      refine OL.nil ?_
      refine r_ret1 Tryd.func6 rfl rfl ?_
      exact Ret.mk ⟨⟨_, (by rfl), rfl⟩, hS5.mod⟩
    | false =>
      replace hb3 := hb3.symm
      refine OL.q (Q1.move rfl) rfl rfl ?_
      refine OL.q (Q1.lenS Tryd.underlying9 rfl) rfl rfl ?_
      refine OL.qb (Q1.gt rfl rfl) rfl rfl ?_
      intro b4 hb4
      refine OL.q (Q1.pick_f rfl rfl) rfl rfl ?_
      refine OL.nil ?_
      cases b4 with
      | true =>
        replace hb4 := of_decide_eq_true hb4.symm
        refine r_cond_t rfl ?_
        refine r_seq ?_
        refine r_region ?_
        refine OL.act rfl rfl (AW.callF cl8 rfl (awake29_c (w0 := w3)   (by exact hG.keep hgp (hS4.mod) hFg)) ?_)
        rintro _ w4 ⟨⟨_, rfl, rfl⟩, hm4⟩
        have hS5 := hS4.ext hm4
        refine OL.q (Q1.assign rfl) rfl rfl ?_
        refine OL.nil ?_
        refine r_ret1 Tryd.func6 rfl rfl ?_
        exact Ret.mk ⟨⟨_, (by rfl), rfl⟩, hS5.mod⟩
      | false =>
        replace hb4 := of_decide_eq_false hb4.symm
        refine r_cond_f rfl ?_
        refine r_skip ?_
        refine r_seq ?_
        refine r_region ?_
        have f5 := hS4.bk (i := 0) rfl
        refine OL.q (Q1.loadN ti30 rfl (fun _ e => e ▸ f5.row) rfl) rfl rfl ?_
        have hpr : PrOk c es := prok h_c h_e (by assumption) (by assumption)
        have hpl := print_len c es
        refine OL.q (Q1.move rfl) rfl rfl ?_
        have f6 := hS4.out h_c_words (fun _ _ h => h)
        have f7 := hS4.out h_c_cuts (fun _ _ h => h)
        have f8 := hS4.out h_es (fun _ _ h => h)
        refine OL.act rfl rfl (AW.callF cl17 rfl (print_c (w0 := w3) (c := c) (es := es)  (f6.iv (Nat.zero_le _) hS4.mod.size) (f7.iv (Nat.zero_le _) hS4.mod.size) (f8.iv (Nat.zero_le _) hS4.mod.size) (by exact hG.keep hgp (hS4.mod) hFg) (by assumption)) ?_)
        rintro _ w4 ⟨_, _, rfl, rfl, rfl, hm4⟩
        have hS5 := hS4.ext hm4
        refine OL.q (Q1.move rfl) rfl rfl ?_
        refine OL.q (Q1.extract rfl rfl) rfl rfl ?_
        refine OL.q (Q1.extract rfl rfl) rfl rfl ?_
        refine OL.q (Q1.assign rfl) rfl rfl ?_
        refine OL.q (Q1.assign rfl) rfl rfl ?_
        refine OL.nil ?_
        refine r_seq ?_
        refine r_seq ?_
        refine r_region ?_
        refine OL.q (Q1.move rfl) rfl rfl ?_
        refine OL.qb (Q1.eq rfl rfl) rfl rfl ?_
        intro b5 hb5
        refine OL.nil ?_
        cases b5 with
        | true =>
          replace hb5 := eq_of_beq hb5.symm
          refine r_cond_t rfl ?_
          refine r_seq ?_
          refine r_region ?_
          refine OL.q (Q1.move rfl) rfl rfl ?_
          have hpb : parseM (printM c es).1 = ⟨c, es, 0, 0⟩ := print_back (Prod.ext rfl (by assumption))
          refine OL.act rfl rfl (AW.callF cl13 rfl (parse_c (w0 := w4) (((printM c es).1)) (by first | omega | (simp only [List.length_append, List.length_cons, List.length_nil]; omega) | decide) (hG.keep hgp hS5.mod hFg)) ?_)
          rintro _ w5 ⟨va1, vb1, vc1, rfl, hm5, F1, hA1, hF1⟩
          have hS6 := hS5.ext hm5
          have hS7 : St (fun _ => False) (fun _ => False) w0 w5 [bkR b1 [v_c_words, v_c_cuts, .int .i64 c.workers, .int .i64 c.copies, .int .i64 c.slots, .int .i64 c.batch, .int .i64 c.lease, .int .i64 c.hedge, .int .i64 c.first, .int .i64 c.cap, .int .i64 c.jitter, .int .i64 c.net] 30, boxR (R := fun _ => False) [accR encS 9 1 va1 (parseM (((printM c es).1))).cfg.words, accR encKey 72 2 vb1 (parseM (((printM c es).1))).cfg.cuts, accR encEvt 50 7 vc1 (parseM (((printM c es).1))).es]] := hS5.new hm5 hA1 hF1
          have hS8 : St (fun _ => False) (fun _ => False) w0 w5 [bkR b1 [v_c_words, v_c_cuts, .int .i64 c.workers, .int .i64 c.copies, .int .i64 c.slots, .int .i64 c.batch, .int .i64 c.lease, .int .i64 c.hedge, .int .i64 c.first, .int .i64 c.cap, .int .i64 c.jitter, .int .i64 c.net] 30, accR encS 9 1 va1 ((parseM (((printM c es).1))).cfg.words), accR encKey 72 2 vb1 ((parseM (((printM c es).1))).cfg.cuts), accR encEvt 50 7 vc1 ((parseM (((printM c es).1))).es)] := St.open (L1 := [bkR b1 [v_c_words, v_c_cuts, .int .i64 c.workers, .int .i64 c.copies, .int .i64 c.slots, .int .i64 c.batch, .int .i64 c.lease, .int .i64 c.hedge, .int .i64 c.first, .int .i64 c.cap, .int .i64 c.jitter, .int .i64 c.net] 30]) hS7
          obtain ⟨g1, f9, hl1, k1⟩ := hS8.accK (i := 1) rfl
          obtain ⟨ad1, cp1, hv1⟩ := f9.shape
          subst hv1
          obtain ⟨g2, f10, hl2, k2⟩ := hS8.accK (i := 2) rfl
          obtain ⟨ad2, cp2, hv2⟩ := f10.shape
          subst hv2
          refine OL.q (Q1.move rfl) rfl rfl ?_
          refine OL.q (Q1.extract rfl rfl) rfl rfl ?_
          refine OL.q (Q1.extract rfl rfl) rfl rfl ?_
          refine OL.q (Q1.extract rfl rfl) rfl rfl ?_
          refine OL.q (Q1.extract rfl rfl) rfl rfl ?_
          refine OL.act rfl rfl (AW.alloc ti30 ?_)
          intro w6 b6 hm6 hb6 hz2 hk2
          have hS9 := hS8.ext hm6
          have hS10 : St (fun _ => False) (fun _ => False) w0 w6 [bkR b1 [v_c_words, v_c_cuts, .int .i64 c.workers, .int .i64 c.copies, .int .i64 c.slots, .int .i64 c.batch, .int .i64 c.lease, .int .i64 c.hedge, .int .i64 c.first, .int .i64 c.cap, .int .i64 c.jitter, .int .i64 c.net] 30, accR encS 9 1 ((.slice ad1 ((parseM (((printM c es).1))).cfg.words).length cp1)) ((parseM (((printM c es).1))).cfg.words), accR encKey 72 2 ((.slice ad2 ((parseM (((printM c es).1))).cfg.cuts).length cp2)) ((parseM (((printM c es).1))).cfg.cuts), accR encEvt 50 7 vc1 ((parseM (((printM c es).1))).es), bkR b6 [.slice none 0 0, .slice none 0 0, .int .i64 0, .int .i64 0, .int .i64 0, .int .i64 0, .int .i64 0, .int .i64 0, .int .i64 0, .int .i64 0, .int .i64 0, .int .i64 0] 30] := hS8.newBk hm6 hb6 hk2
          have f11 := hS10.bk (i := 4) rfl
          refine OL.act rfl rfl (AW.store ti30 rfl rfl rfl rfl rfl f11 (Nat.le_of_ble_eq_true rfl) ?_)
          intro w7 hm7 hz3 hk3
          have hS11 : St (fun _ => False) (fun _ => False) w0 w7 [bkR b1 [v_c_words, v_c_cuts, .int .i64 c.workers, .int .i64 c.copies, .int .i64 c.slots, .int .i64 c.batch, .int .i64 c.lease, .int .i64 c.hedge, .int .i64 c.first, .int .i64 c.cap, .int .i64 c.jitter, .int .i64 c.net] 30, accR encS 9 1 ((.slice ad1 ((parseM (((printM c es).1))).cfg.words).length cp1)) ((parseM (((printM c es).1))).cfg.words), accR encKey 72 2 ((.slice ad2 ((parseM (((printM c es).1))).cfg.cuts).length cp2)) ((parseM (((printM c es).1))).cfg.cuts), accR encEvt 50 7 vc1 ((parseM (((printM c es).1))).es), bkR b6 [(.slice ad1 ((parseM (((printM c es).1))).cfg.words).length cp1), (.slice ad2 ((parseM (((printM c es).1))).cfg.cuts).length cp2), .int .i64 ((parseM (((printM c es).1))).cfg.workers), .int .i64 ((parseM (((printM c es).1))).cfg.copies), .int .i64 ((parseM (((printM c es).1))).cfg.slots), .int .i64 ((parseM (((printM c es).1))).cfg.batch), .int .i64 ((parseM (((printM c es).1))).cfg.lease), .int .i64 ((parseM (((printM c es).1))).cfg.hedge), .int .i64 ((parseM (((printM c es).1))).cfg.first), .int .i64 ((parseM (((printM c es).1))).cfg.cap), .int .i64 ((parseM (((printM c es).1))).cfg.jitter), .int .i64 ((parseM (((printM c es).1))).cfg.net)] 30] := hS10.bkK (i := 4) rfl hm7 hk3
          refine OL.q (Q1.assign rfl) rfl rfl ?_
          refine OL.q (Q1.assign rfl) rfl rfl ?_
          refine OL.q (Q1.assign rfl) rfl rfl ?_
          refine OL.nil ?_
          refine r_seq ?_
          refine r_region ?_
          refine OL.q (Q1.move rfl) rfl rfl ?_
          refine OL.qb (Q1.ne rfl rfl) rfl rfl ?_
          intro b7 hb7
          obtain rfl : b7 = false := hb7.trans (by rw [hpb]; rfl)
          refine OL.q (Q1.move rfl) rfl rfl ?_
          refine OL.q (Q1.move rfl) rfl rfl ?_
          refine OL.qb (Q1.ne rfl rfl) rfl rfl ?_
          intro b8 hb8
          obtain rfl : b8 = false := hb8.trans (by rw [hpb]; rfl)
          refine OL.q (Q1.pick_f rfl rfl) rfl rfl ?_
          refine OL.q (Q1.move rfl) rfl rfl ?_
          have f12 := hS11.bk (i := 0) rfl
          refine OL.q (Q1.loadN ti30 rfl (fun _ e => e ▸ f12.row) rfl) rfl rfl ?_
          have f13 := hS11.bk (i := 4) rfl
          refine OL.q (Q1.loadN ti30 rfl (fun _ e => e ▸ f13.row) rfl) rfl rfl ?_
          have f14 := hS11.out h_c_words (fun _ _ h => h)
          have f15 := hS11.out h_c_cuts (fun _ _ h => h)
          obtain ⟨g3, f16, hl3, k3⟩ := hS11.accK (i := 1) rfl
          obtain ⟨g4, f17, hl4, k4⟩ := hS11.accK (i := 2) rfl
          refine OL.act rfl rfl (AW.callF cl14 rfl (sameC_c (w0 := w7) (c := c) (d := (parseM (((printM c es).1))).cfg)  (f14.iv (Nat.zero_le _) hS11.mod.size) (f15.iv (Nat.zero_le _) hS11.mod.size) (f16.sl.iv (Nat.zero_le _) f16.lt) (f17.sl.iv (Nat.zero_le _) f17.lt)) ?_)
          rintro _ w8 ⟨⟨b9, hb9, rfl⟩, hm8⟩
          have hS12 := hS11.ext hm8
          obtain rfl : b9 = true := hb9.trans (by rw [hpb]; exact decide_eq_true rfl)
          refine OL.q (Q1.not rfl) rfl rfl ?_
          refine OL.q (Q1.pick_f rfl rfl) rfl rfl ?_
          refine OL.q (Q1.move rfl) rfl rfl ?_
          refine OL.q (Q1.move rfl) rfl rfl ?_
          refine OL.q (Q1.move rfl) rfl rfl ?_
          have f18 := hS12.out h_es (fun _ _ h => h)
          obtain ⟨g5, f19, hl5, k5⟩ := hS12.accK (i := 3) rfl
          refine OL.act rfl rfl (AW.callF cl20 rfl (sameE_c (w0 := w8) (a := es) (b := (parseM (((printM c es).1))).es)  (f18.iv (Nat.zero_le _) hS12.mod.size) (f19.sl.iv (Nat.zero_le _) f19.lt)) ?_)
          rintro _ w9 ⟨⟨b10, hb10, rfl⟩, hm9⟩
          have hS13 := hS12.ext hm9
          obtain rfl : b10 = true := hb10.trans (by rw [hpb]; exact decide_eq_true rfl)
          refine OL.q (Q1.not rfl) rfl rfl ?_
          refine OL.q (Q1.pick_f rfl rfl) rfl rfl ?_
          refine OL.nil ?_
          refine r_cond_f rfl ?_
          refine r_skip ?_
          refine r_seq ?_
          refine r_region ?_
          refine OL.q (Q1.move rfl) rfl rfl ?_
          refine OL.act rfl rfl (AW.callF cl13 rfl (parse_c (w0 := w9) s (by first | omega | (simp only [List.length_append, List.length_cons, List.length_nil]; omega) | decide) (hG.keep hgp hS13.mod hFg)) ?_)
          rintro _ w10 ⟨va2, vb2, vc2, rfl, hm10, F2, hA2, hF2⟩
          have hS14 := hS13.ext hm10
          have hS15 : St (fun _ => False) (fun _ => False) w0 w10 [bkR b1 [v_c_words, v_c_cuts, .int .i64 c.workers, .int .i64 c.copies, .int .i64 c.slots, .int .i64 c.batch, .int .i64 c.lease, .int .i64 c.hedge, .int .i64 c.first, .int .i64 c.cap, .int .i64 c.jitter, .int .i64 c.net] 30, accR encS 9 1 ((.slice ad1 ((parseM (((printM c es).1))).cfg.words).length cp1)) ((parseM (((printM c es).1))).cfg.words), accR encKey 72 2 ((.slice ad2 ((parseM (((printM c es).1))).cfg.cuts).length cp2)) ((parseM (((printM c es).1))).cfg.cuts), accR encEvt 50 7 vc1 ((parseM (((printM c es).1))).es), bkR b6 [(.slice ad1 ((parseM (((printM c es).1))).cfg.words).length cp1), (.slice ad2 ((parseM (((printM c es).1))).cfg.cuts).length cp2), .int .i64 ((parseM (((printM c es).1))).cfg.workers), .int .i64 ((parseM (((printM c es).1))).cfg.copies), .int .i64 ((parseM (((printM c es).1))).cfg.slots), .int .i64 ((parseM (((printM c es).1))).cfg.batch), .int .i64 ((parseM (((printM c es).1))).cfg.lease), .int .i64 ((parseM (((printM c es).1))).cfg.hedge), .int .i64 ((parseM (((printM c es).1))).cfg.first), .int .i64 ((parseM (((printM c es).1))).cfg.cap), .int .i64 ((parseM (((printM c es).1))).cfg.jitter), .int .i64 ((parseM (((printM c es).1))).cfg.net)] 30, boxR (R := fun _ => False) [accR encS 9 1 va2 (parseM s).cfg.words, accR encKey 72 2 vb2 (parseM s).cfg.cuts, accR encEvt 50 7 vc2 (parseM s).es]] := hS13.new hm10 hA2 hF2
          have hS16 : St (fun _ => False) (fun _ => False) w0 w10 [bkR b1 [v_c_words, v_c_cuts, .int .i64 c.workers, .int .i64 c.copies, .int .i64 c.slots, .int .i64 c.batch, .int .i64 c.lease, .int .i64 c.hedge, .int .i64 c.first, .int .i64 c.cap, .int .i64 c.jitter, .int .i64 c.net] 30, accR encS 9 1 ((.slice ad1 ((parseM (((printM c es).1))).cfg.words).length cp1)) ((parseM (((printM c es).1))).cfg.words), accR encKey 72 2 ((.slice ad2 ((parseM (((printM c es).1))).cfg.cuts).length cp2)) ((parseM (((printM c es).1))).cfg.cuts), accR encEvt 50 7 vc1 ((parseM (((printM c es).1))).es), bkR b6 [(.slice ad1 ((parseM (((printM c es).1))).cfg.words).length cp1), (.slice ad2 ((parseM (((printM c es).1))).cfg.cuts).length cp2), .int .i64 ((parseM (((printM c es).1))).cfg.workers), .int .i64 ((parseM (((printM c es).1))).cfg.copies), .int .i64 ((parseM (((printM c es).1))).cfg.slots), .int .i64 ((parseM (((printM c es).1))).cfg.batch), .int .i64 ((parseM (((printM c es).1))).cfg.lease), .int .i64 ((parseM (((printM c es).1))).cfg.hedge), .int .i64 ((parseM (((printM c es).1))).cfg.first), .int .i64 ((parseM (((printM c es).1))).cfg.cap), .int .i64 ((parseM (((printM c es).1))).cfg.jitter), .int .i64 ((parseM (((printM c es).1))).cfg.net)] 30, accR encS 9 1 va2 ((parseM s).cfg.words), accR encKey 72 2 vb2 ((parseM s).cfg.cuts), accR encEvt 50 7 vc2 ((parseM s).es)] := St.open (L1 := [bkR b1 [v_c_words, v_c_cuts, .int .i64 c.workers, .int .i64 c.copies, .int .i64 c.slots, .int .i64 c.batch, .int .i64 c.lease, .int .i64 c.hedge, .int .i64 c.first, .int .i64 c.cap, .int .i64 c.jitter, .int .i64 c.net] 30, accR encS 9 1 ((.slice ad1 ((parseM (((printM c es).1))).cfg.words).length cp1)) ((parseM (((printM c es).1))).cfg.words), accR encKey 72 2 ((.slice ad2 ((parseM (((printM c es).1))).cfg.cuts).length cp2)) ((parseM (((printM c es).1))).cfg.cuts), accR encEvt 50 7 vc1 ((parseM (((printM c es).1))).es), bkR b6 [(.slice ad1 ((parseM (((printM c es).1))).cfg.words).length cp1), (.slice ad2 ((parseM (((printM c es).1))).cfg.cuts).length cp2), .int .i64 ((parseM (((printM c es).1))).cfg.workers), .int .i64 ((parseM (((printM c es).1))).cfg.copies), .int .i64 ((parseM (((printM c es).1))).cfg.slots), .int .i64 ((parseM (((printM c es).1))).cfg.batch), .int .i64 ((parseM (((printM c es).1))).cfg.lease), .int .i64 ((parseM (((printM c es).1))).cfg.hedge), .int .i64 ((parseM (((printM c es).1))).cfg.first), .int .i64 ((parseM (((printM c es).1))).cfg.cap), .int .i64 ((parseM (((printM c es).1))).cfg.jitter), .int .i64 ((parseM (((printM c es).1))).cfg.net)] 30]) hS15
          obtain ⟨g6, f20, hl6, k6⟩ := hS16.accK (i := 5) rfl
          obtain ⟨ad3, cp3, hv3⟩ := f20.shape
          subst hv3
          obtain ⟨g7, f21, hl7, k7⟩ := hS16.accK (i := 6) rfl
          obtain ⟨ad4, cp4, hv4⟩ := f21.shape
          subst hv4
          refine OL.q (Q1.move rfl) rfl rfl ?_
          refine OL.q (Q1.extract rfl rfl) rfl rfl ?_
          refine OL.q (Q1.extract rfl rfl) rfl rfl ?_
          refine OL.q (Q1.extract rfl rfl) rfl rfl ?_
          refine OL.q (Q1.extract rfl rfl) rfl rfl ?_
          refine OL.act rfl rfl (AW.alloc ti30 ?_)
          intro w11 b11 hm11 hb11 hz4 hk4
          have hS17 := hS16.ext hm11
          have hS18 : St (fun _ => False) (fun _ => False) w0 w11 [bkR b1 [v_c_words, v_c_cuts, .int .i64 c.workers, .int .i64 c.copies, .int .i64 c.slots, .int .i64 c.batch, .int .i64 c.lease, .int .i64 c.hedge, .int .i64 c.first, .int .i64 c.cap, .int .i64 c.jitter, .int .i64 c.net] 30, accR encS 9 1 ((.slice ad1 ((parseM (((printM c es).1))).cfg.words).length cp1)) ((parseM (((printM c es).1))).cfg.words), accR encKey 72 2 ((.slice ad2 ((parseM (((printM c es).1))).cfg.cuts).length cp2)) ((parseM (((printM c es).1))).cfg.cuts), accR encEvt 50 7 vc1 ((parseM (((printM c es).1))).es), bkR b6 [(.slice ad1 ((parseM (((printM c es).1))).cfg.words).length cp1), (.slice ad2 ((parseM (((printM c es).1))).cfg.cuts).length cp2), .int .i64 ((parseM (((printM c es).1))).cfg.workers), .int .i64 ((parseM (((printM c es).1))).cfg.copies), .int .i64 ((parseM (((printM c es).1))).cfg.slots), .int .i64 ((parseM (((printM c es).1))).cfg.batch), .int .i64 ((parseM (((printM c es).1))).cfg.lease), .int .i64 ((parseM (((printM c es).1))).cfg.hedge), .int .i64 ((parseM (((printM c es).1))).cfg.first), .int .i64 ((parseM (((printM c es).1))).cfg.cap), .int .i64 ((parseM (((printM c es).1))).cfg.jitter), .int .i64 ((parseM (((printM c es).1))).cfg.net)] 30, accR encS 9 1 ((.slice ad3 ((parseM s).cfg.words).length cp3)) ((parseM s).cfg.words), accR encKey 72 2 ((.slice ad4 ((parseM s).cfg.cuts).length cp4)) ((parseM s).cfg.cuts), accR encEvt 50 7 vc2 ((parseM s).es), bkR b11 [.slice none 0 0, .slice none 0 0, .int .i64 0, .int .i64 0, .int .i64 0, .int .i64 0, .int .i64 0, .int .i64 0, .int .i64 0, .int .i64 0, .int .i64 0, .int .i64 0] 30] := hS16.newBk hm11 hb11 hk4
          have f22 := hS18.bk (i := 8) rfl
          refine OL.act rfl rfl (AW.store ti30 rfl rfl rfl rfl rfl f22 (Nat.le_of_ble_eq_true rfl) ?_)
          intro w12 hm12 hz5 hk5
          have hS19 : St (fun _ => False) (fun _ => False) w0 w12 [bkR b1 [v_c_words, v_c_cuts, .int .i64 c.workers, .int .i64 c.copies, .int .i64 c.slots, .int .i64 c.batch, .int .i64 c.lease, .int .i64 c.hedge, .int .i64 c.first, .int .i64 c.cap, .int .i64 c.jitter, .int .i64 c.net] 30, accR encS 9 1 ((.slice ad1 ((parseM (((printM c es).1))).cfg.words).length cp1)) ((parseM (((printM c es).1))).cfg.words), accR encKey 72 2 ((.slice ad2 ((parseM (((printM c es).1))).cfg.cuts).length cp2)) ((parseM (((printM c es).1))).cfg.cuts), accR encEvt 50 7 vc1 ((parseM (((printM c es).1))).es), bkR b6 [(.slice ad1 ((parseM (((printM c es).1))).cfg.words).length cp1), (.slice ad2 ((parseM (((printM c es).1))).cfg.cuts).length cp2), .int .i64 ((parseM (((printM c es).1))).cfg.workers), .int .i64 ((parseM (((printM c es).1))).cfg.copies), .int .i64 ((parseM (((printM c es).1))).cfg.slots), .int .i64 ((parseM (((printM c es).1))).cfg.batch), .int .i64 ((parseM (((printM c es).1))).cfg.lease), .int .i64 ((parseM (((printM c es).1))).cfg.hedge), .int .i64 ((parseM (((printM c es).1))).cfg.first), .int .i64 ((parseM (((printM c es).1))).cfg.cap), .int .i64 ((parseM (((printM c es).1))).cfg.jitter), .int .i64 ((parseM (((printM c es).1))).cfg.net)] 30, accR encS 9 1 ((.slice ad3 ((parseM s).cfg.words).length cp3)) ((parseM s).cfg.words), accR encKey 72 2 ((.slice ad4 ((parseM s).cfg.cuts).length cp4)) ((parseM s).cfg.cuts), accR encEvt 50 7 vc2 ((parseM s).es), bkR b11 [(.slice ad3 ((parseM s).cfg.words).length cp3), (.slice ad4 ((parseM s).cfg.cuts).length cp4), .int .i64 ((parseM s).cfg.workers), .int .i64 ((parseM s).cfg.copies), .int .i64 ((parseM s).cfg.slots), .int .i64 ((parseM s).cfg.batch), .int .i64 ((parseM s).cfg.lease), .int .i64 ((parseM s).cfg.hedge), .int .i64 ((parseM s).cfg.first), .int .i64 ((parseM s).cfg.cap), .int .i64 ((parseM s).cfg.jitter), .int .i64 ((parseM s).cfg.net)] 30] := hS18.bkK (i := 8) rfl hm12 hk5
          refine OL.q (Q1.assign rfl) rfl rfl ?_
          refine OL.q (Q1.assign rfl) rfl rfl ?_
          refine OL.q (Q1.assign rfl) rfl rfl ?_
          refine OL.nil ?_
          refine r_seq ?_
          refine r_seq ?_
          refine r_region ?_
          refine OL.q (Q1.move rfl) rfl rfl ?_
          refine OL.qb (Q1.ne rfl rfl) rfl rfl ?_
          intro b12 hb12
          refine OL.nil ?_
          cases b12 with
          | true =>
            replace hb12 := bne_iff_ne.1 hb12.symm
            refine r_cond_t rfl ?_
            refine r_seq ?_
            refine r_region ?_
            refine OL.act rfl rfl (AW.callF cl8 rfl (awake29_c (w0 := w12)   (by exact hG.keep hgp (hS19.mod) hFg)) ?_)
            rintro _ w13 ⟨⟨_, rfl, rfl⟩, hm13⟩
            have hS20 := hS19.ext hm13
            refine OL.q (Q1.assign rfl) rfl rfl ?_
            refine OL.nil ?_
            refine r_ret1 Tryd.func6 rfl rfl ?_
            exact Ret.mk ⟨⟨_, (by rfl), rfl⟩, hS20.mod⟩
          | false =>
            replace hb12 := bne_eq_false_iff_eq.1 hb12.symm
            refine r_cond_f rfl ?_
            refine r_skip ?_
            refine r_seq ?_
            refine r_region ?_
            have f23 := hS19.bk (i := 8) rfl
            refine OL.q (Q1.loadN ti30 rfl (fun _ e => e ▸ f23.row) rfl) rfl rfl ?_
            have hpr2 : PrOk (parseM s).cfg (parseM s).es := prok_parse (by omega) (by assumption)
            have hpl2 := print_len (parseM s).cfg (parseM s).es
            refine OL.q (Q1.move rfl) rfl rfl ?_
            obtain ⟨g8, f24, hl8, k8⟩ := hS19.accK (i := 5) rfl
            obtain ⟨g9, f25, hl9, k9⟩ := hS19.accK (i := 6) rfl
            obtain ⟨g10, f26, hl10, k10⟩ := hS19.accK (i := 7) rfl
            refine OL.act rfl rfl (AW.callF cl17 rfl (print_c (w0 := w12) (c := (parseM s).cfg) (es := (parseM s).es)  (f24.sl.iv (Nat.zero_le _) f24.lt) (f25.sl.iv (Nat.zero_le _) f25.lt) (f26.sl.iv (Nat.zero_le _) f26.lt) (by exact hG.keep hgp (hS19.mod) hFg) (by assumption)) ?_)
            rintro _ w13 ⟨_, _, rfl, rfl, rfl, hm13⟩
            have hS20 := hS19.ext hm13
            refine OL.q (Q1.move rfl) rfl rfl ?_
            refine OL.q (Q1.extract rfl rfl) rfl rfl ?_
            refine OL.q (Q1.extract rfl rfl) rfl rfl ?_
            refine OL.q (Q1.assign rfl) rfl rfl ?_
            refine OL.q (Q1.assign rfl) rfl rfl ?_
            refine OL.nil ?_
            refine r_seq ?_
            refine r_region ?_
            refine OL.q (Q1.move rfl) rfl rfl ?_
            refine OL.act rfl rfl (AW.callF cl13 rfl (parse_c (w0 := w13) (((printM ((parseM s).cfg) ((parseM s).es)).1)) (by first | omega | (simp only [List.length_append, List.length_cons, List.length_nil]; omega) | decide) (hG.keep hgp hS20.mod hFg)) ?_)
            rintro _ w14 ⟨va3, vb3, vc3, rfl, hm14, F3, hA3, hF3⟩
            have hS21 := hS20.ext hm14
            have hS22 : St (fun _ => False) (fun _ => False) w0 w14 [bkR b1 [v_c_words, v_c_cuts, .int .i64 c.workers, .int .i64 c.copies, .int .i64 c.slots, .int .i64 c.batch, .int .i64 c.lease, .int .i64 c.hedge, .int .i64 c.first, .int .i64 c.cap, .int .i64 c.jitter, .int .i64 c.net] 30, accR encS 9 1 ((.slice ad1 ((parseM (((printM c es).1))).cfg.words).length cp1)) ((parseM (((printM c es).1))).cfg.words), accR encKey 72 2 ((.slice ad2 ((parseM (((printM c es).1))).cfg.cuts).length cp2)) ((parseM (((printM c es).1))).cfg.cuts), accR encEvt 50 7 vc1 ((parseM (((printM c es).1))).es), bkR b6 [(.slice ad1 ((parseM (((printM c es).1))).cfg.words).length cp1), (.slice ad2 ((parseM (((printM c es).1))).cfg.cuts).length cp2), .int .i64 ((parseM (((printM c es).1))).cfg.workers), .int .i64 ((parseM (((printM c es).1))).cfg.copies), .int .i64 ((parseM (((printM c es).1))).cfg.slots), .int .i64 ((parseM (((printM c es).1))).cfg.batch), .int .i64 ((parseM (((printM c es).1))).cfg.lease), .int .i64 ((parseM (((printM c es).1))).cfg.hedge), .int .i64 ((parseM (((printM c es).1))).cfg.first), .int .i64 ((parseM (((printM c es).1))).cfg.cap), .int .i64 ((parseM (((printM c es).1))).cfg.jitter), .int .i64 ((parseM (((printM c es).1))).cfg.net)] 30, accR encS 9 1 ((.slice ad3 ((parseM s).cfg.words).length cp3)) ((parseM s).cfg.words), accR encKey 72 2 ((.slice ad4 ((parseM s).cfg.cuts).length cp4)) ((parseM s).cfg.cuts), accR encEvt 50 7 vc2 ((parseM s).es), bkR b11 [(.slice ad3 ((parseM s).cfg.words).length cp3), (.slice ad4 ((parseM s).cfg.cuts).length cp4), .int .i64 ((parseM s).cfg.workers), .int .i64 ((parseM s).cfg.copies), .int .i64 ((parseM s).cfg.slots), .int .i64 ((parseM s).cfg.batch), .int .i64 ((parseM s).cfg.lease), .int .i64 ((parseM s).cfg.hedge), .int .i64 ((parseM s).cfg.first), .int .i64 ((parseM s).cfg.cap), .int .i64 ((parseM s).cfg.jitter), .int .i64 ((parseM s).cfg.net)] 30, boxR (R := fun _ => False) [accR encS 9 1 va3 (parseM (((printM ((parseM s).cfg) ((parseM s).es)).1))).cfg.words, accR encKey 72 2 vb3 (parseM (((printM ((parseM s).cfg) ((parseM s).es)).1))).cfg.cuts, accR encEvt 50 7 vc3 (parseM (((printM ((parseM s).cfg) ((parseM s).es)).1))).es]] := hS20.new hm14 hA3 hF3
            have hS23 : St (fun _ => False) (fun _ => False) w0 w14 [bkR b1 [v_c_words, v_c_cuts, .int .i64 c.workers, .int .i64 c.copies, .int .i64 c.slots, .int .i64 c.batch, .int .i64 c.lease, .int .i64 c.hedge, .int .i64 c.first, .int .i64 c.cap, .int .i64 c.jitter, .int .i64 c.net] 30, accR encS 9 1 ((.slice ad1 ((parseM (((printM c es).1))).cfg.words).length cp1)) ((parseM (((printM c es).1))).cfg.words), accR encKey 72 2 ((.slice ad2 ((parseM (((printM c es).1))).cfg.cuts).length cp2)) ((parseM (((printM c es).1))).cfg.cuts), accR encEvt 50 7 vc1 ((parseM (((printM c es).1))).es), bkR b6 [(.slice ad1 ((parseM (((printM c es).1))).cfg.words).length cp1), (.slice ad2 ((parseM (((printM c es).1))).cfg.cuts).length cp2), .int .i64 ((parseM (((printM c es).1))).cfg.workers), .int .i64 ((parseM (((printM c es).1))).cfg.copies), .int .i64 ((parseM (((printM c es).1))).cfg.slots), .int .i64 ((parseM (((printM c es).1))).cfg.batch), .int .i64 ((parseM (((printM c es).1))).cfg.lease), .int .i64 ((parseM (((printM c es).1))).cfg.hedge), .int .i64 ((parseM (((printM c es).1))).cfg.first), .int .i64 ((parseM (((printM c es).1))).cfg.cap), .int .i64 ((parseM (((printM c es).1))).cfg.jitter), .int .i64 ((parseM (((printM c es).1))).cfg.net)] 30, accR encS 9 1 ((.slice ad3 ((parseM s).cfg.words).length cp3)) ((parseM s).cfg.words), accR encKey 72 2 ((.slice ad4 ((parseM s).cfg.cuts).length cp4)) ((parseM s).cfg.cuts), accR encEvt 50 7 vc2 ((parseM s).es), bkR b11 [(.slice ad3 ((parseM s).cfg.words).length cp3), (.slice ad4 ((parseM s).cfg.cuts).length cp4), .int .i64 ((parseM s).cfg.workers), .int .i64 ((parseM s).cfg.copies), .int .i64 ((parseM s).cfg.slots), .int .i64 ((parseM s).cfg.batch), .int .i64 ((parseM s).cfg.lease), .int .i64 ((parseM s).cfg.hedge), .int .i64 ((parseM s).cfg.first), .int .i64 ((parseM s).cfg.cap), .int .i64 ((parseM s).cfg.jitter), .int .i64 ((parseM s).cfg.net)] 30, accR encS 9 1 va3 ((parseM (((printM ((parseM s).cfg) ((parseM s).es)).1))).cfg.words), accR encKey 72 2 vb3 ((parseM (((printM ((parseM s).cfg) ((parseM s).es)).1))).cfg.cuts), accR encEvt 50 7 vc3 ((parseM (((printM ((parseM s).cfg) ((parseM s).es)).1))).es)] := St.open (L1 := [bkR b1 [v_c_words, v_c_cuts, .int .i64 c.workers, .int .i64 c.copies, .int .i64 c.slots, .int .i64 c.batch, .int .i64 c.lease, .int .i64 c.hedge, .int .i64 c.first, .int .i64 c.cap, .int .i64 c.jitter, .int .i64 c.net] 30, accR encS 9 1 ((.slice ad1 ((parseM (((printM c es).1))).cfg.words).length cp1)) ((parseM (((printM c es).1))).cfg.words), accR encKey 72 2 ((.slice ad2 ((parseM (((printM c es).1))).cfg.cuts).length cp2)) ((parseM (((printM c es).1))).cfg.cuts), accR encEvt 50 7 vc1 ((parseM (((printM c es).1))).es), bkR b6 [(.slice ad1 ((parseM (((printM c es).1))).cfg.words).length cp1), (.slice ad2 ((parseM (((printM c es).1))).cfg.cuts).length cp2), .int .i64 ((parseM (((printM c es).1))).cfg.workers), .int .i64 ((parseM (((printM c es).1))).cfg.copies), .int .i64 ((parseM (((printM c es).1))).cfg.slots), .int .i64 ((parseM (((printM c es).1))).cfg.batch), .int .i64 ((parseM (((printM c es).1))).cfg.lease), .int .i64 ((parseM (((printM c es).1))).cfg.hedge), .int .i64 ((parseM (((printM c es).1))).cfg.first), .int .i64 ((parseM (((printM c es).1))).cfg.cap), .int .i64 ((parseM (((printM c es).1))).cfg.jitter), .int .i64 ((parseM (((printM c es).1))).cfg.net)] 30, accR encS 9 1 ((.slice ad3 ((parseM s).cfg.words).length cp3)) ((parseM s).cfg.words), accR encKey 72 2 ((.slice ad4 ((parseM s).cfg.cuts).length cp4)) ((parseM s).cfg.cuts), accR encEvt 50 7 vc2 ((parseM s).es), bkR b11 [(.slice ad3 ((parseM s).cfg.words).length cp3), (.slice ad4 ((parseM s).cfg.cuts).length cp4), .int .i64 ((parseM s).cfg.workers), .int .i64 ((parseM s).cfg.copies), .int .i64 ((parseM s).cfg.slots), .int .i64 ((parseM s).cfg.batch), .int .i64 ((parseM s).cfg.lease), .int .i64 ((parseM s).cfg.hedge), .int .i64 ((parseM s).cfg.first), .int .i64 ((parseM s).cfg.cap), .int .i64 ((parseM s).cfg.jitter), .int .i64 ((parseM s).cfg.net)] 30]) hS22
            obtain ⟨g11, f27, hl11, k11⟩ := hS23.accK (i := 9) rfl
            obtain ⟨ad5, cp5, hv5⟩ := f27.shape
            subst hv5
            obtain ⟨g12, f28, hl12, k12⟩ := hS23.accK (i := 10) rfl
            obtain ⟨ad6, cp6, hv6⟩ := f28.shape
            subst hv6
            refine OL.q (Q1.move rfl) rfl rfl ?_
            refine OL.q (Q1.extract rfl rfl) rfl rfl ?_
            refine OL.q (Q1.extract rfl rfl) rfl rfl ?_
            refine OL.q (Q1.extract rfl rfl) rfl rfl ?_
            refine OL.q (Q1.extract rfl rfl) rfl rfl ?_
            refine OL.act rfl rfl (AW.alloc ti30 ?_)
            intro w15 b13 hm15 hb13 hz6 hk6
            have hS24 := hS23.ext hm15
            have hS25 : St (fun _ => False) (fun _ => False) w0 w15 [bkR b1 [v_c_words, v_c_cuts, .int .i64 c.workers, .int .i64 c.copies, .int .i64 c.slots, .int .i64 c.batch, .int .i64 c.lease, .int .i64 c.hedge, .int .i64 c.first, .int .i64 c.cap, .int .i64 c.jitter, .int .i64 c.net] 30, accR encS 9 1 ((.slice ad1 ((parseM (((printM c es).1))).cfg.words).length cp1)) ((parseM (((printM c es).1))).cfg.words), accR encKey 72 2 ((.slice ad2 ((parseM (((printM c es).1))).cfg.cuts).length cp2)) ((parseM (((printM c es).1))).cfg.cuts), accR encEvt 50 7 vc1 ((parseM (((printM c es).1))).es), bkR b6 [(.slice ad1 ((parseM (((printM c es).1))).cfg.words).length cp1), (.slice ad2 ((parseM (((printM c es).1))).cfg.cuts).length cp2), .int .i64 ((parseM (((printM c es).1))).cfg.workers), .int .i64 ((parseM (((printM c es).1))).cfg.copies), .int .i64 ((parseM (((printM c es).1))).cfg.slots), .int .i64 ((parseM (((printM c es).1))).cfg.batch), .int .i64 ((parseM (((printM c es).1))).cfg.lease), .int .i64 ((parseM (((printM c es).1))).cfg.hedge), .int .i64 ((parseM (((printM c es).1))).cfg.first), .int .i64 ((parseM (((printM c es).1))).cfg.cap), .int .i64 ((parseM (((printM c es).1))).cfg.jitter), .int .i64 ((parseM (((printM c es).1))).cfg.net)] 30, accR encS 9 1 ((.slice ad3 ((parseM s).cfg.words).length cp3)) ((parseM s).cfg.words), accR encKey 72 2 ((.slice ad4 ((parseM s).cfg.cuts).length cp4)) ((parseM s).cfg.cuts), accR encEvt 50 7 vc2 ((parseM s).es), bkR b11 [(.slice ad3 ((parseM s).cfg.words).length cp3), (.slice ad4 ((parseM s).cfg.cuts).length cp4), .int .i64 ((parseM s).cfg.workers), .int .i64 ((parseM s).cfg.copies), .int .i64 ((parseM s).cfg.slots), .int .i64 ((parseM s).cfg.batch), .int .i64 ((parseM s).cfg.lease), .int .i64 ((parseM s).cfg.hedge), .int .i64 ((parseM s).cfg.first), .int .i64 ((parseM s).cfg.cap), .int .i64 ((parseM s).cfg.jitter), .int .i64 ((parseM s).cfg.net)] 30, accR encS 9 1 ((.slice ad5 ((parseM (((printM ((parseM s).cfg) ((parseM s).es)).1))).cfg.words).length cp5)) ((parseM (((printM ((parseM s).cfg) ((parseM s).es)).1))).cfg.words), accR encKey 72 2 ((.slice ad6 ((parseM (((printM ((parseM s).cfg) ((parseM s).es)).1))).cfg.cuts).length cp6)) ((parseM (((printM ((parseM s).cfg) ((parseM s).es)).1))).cfg.cuts), accR encEvt 50 7 vc3 ((parseM (((printM ((parseM s).cfg) ((parseM s).es)).1))).es), bkR b13 [.slice none 0 0, .slice none 0 0, .int .i64 0, .int .i64 0, .int .i64 0, .int .i64 0, .int .i64 0, .int .i64 0, .int .i64 0, .int .i64 0, .int .i64 0, .int .i64 0] 30] := hS23.newBk hm15 hb13 hk6
            have f29 := hS25.bk (i := 12) rfl
            refine OL.act rfl rfl (AW.store ti30 rfl rfl rfl rfl rfl f29 (Nat.le_of_ble_eq_true rfl) ?_)
            intro w16 hm16 hz7 hk7
            have hS26 : St (fun _ => False) (fun _ => False) w0 w16 [bkR b1 [v_c_words, v_c_cuts, .int .i64 c.workers, .int .i64 c.copies, .int .i64 c.slots, .int .i64 c.batch, .int .i64 c.lease, .int .i64 c.hedge, .int .i64 c.first, .int .i64 c.cap, .int .i64 c.jitter, .int .i64 c.net] 30, accR encS 9 1 ((.slice ad1 ((parseM (((printM c es).1))).cfg.words).length cp1)) ((parseM (((printM c es).1))).cfg.words), accR encKey 72 2 ((.slice ad2 ((parseM (((printM c es).1))).cfg.cuts).length cp2)) ((parseM (((printM c es).1))).cfg.cuts), accR encEvt 50 7 vc1 ((parseM (((printM c es).1))).es), bkR b6 [(.slice ad1 ((parseM (((printM c es).1))).cfg.words).length cp1), (.slice ad2 ((parseM (((printM c es).1))).cfg.cuts).length cp2), .int .i64 ((parseM (((printM c es).1))).cfg.workers), .int .i64 ((parseM (((printM c es).1))).cfg.copies), .int .i64 ((parseM (((printM c es).1))).cfg.slots), .int .i64 ((parseM (((printM c es).1))).cfg.batch), .int .i64 ((parseM (((printM c es).1))).cfg.lease), .int .i64 ((parseM (((printM c es).1))).cfg.hedge), .int .i64 ((parseM (((printM c es).1))).cfg.first), .int .i64 ((parseM (((printM c es).1))).cfg.cap), .int .i64 ((parseM (((printM c es).1))).cfg.jitter), .int .i64 ((parseM (((printM c es).1))).cfg.net)] 30, accR encS 9 1 ((.slice ad3 ((parseM s).cfg.words).length cp3)) ((parseM s).cfg.words), accR encKey 72 2 ((.slice ad4 ((parseM s).cfg.cuts).length cp4)) ((parseM s).cfg.cuts), accR encEvt 50 7 vc2 ((parseM s).es), bkR b11 [(.slice ad3 ((parseM s).cfg.words).length cp3), (.slice ad4 ((parseM s).cfg.cuts).length cp4), .int .i64 ((parseM s).cfg.workers), .int .i64 ((parseM s).cfg.copies), .int .i64 ((parseM s).cfg.slots), .int .i64 ((parseM s).cfg.batch), .int .i64 ((parseM s).cfg.lease), .int .i64 ((parseM s).cfg.hedge), .int .i64 ((parseM s).cfg.first), .int .i64 ((parseM s).cfg.cap), .int .i64 ((parseM s).cfg.jitter), .int .i64 ((parseM s).cfg.net)] 30, accR encS 9 1 ((.slice ad5 ((parseM (((printM ((parseM s).cfg) ((parseM s).es)).1))).cfg.words).length cp5)) ((parseM (((printM ((parseM s).cfg) ((parseM s).es)).1))).cfg.words), accR encKey 72 2 ((.slice ad6 ((parseM (((printM ((parseM s).cfg) ((parseM s).es)).1))).cfg.cuts).length cp6)) ((parseM (((printM ((parseM s).cfg) ((parseM s).es)).1))).cfg.cuts), accR encEvt 50 7 vc3 ((parseM (((printM ((parseM s).cfg) ((parseM s).es)).1))).es), bkR b13 [(.slice ad5 ((parseM (((printM ((parseM s).cfg) ((parseM s).es)).1))).cfg.words).length cp5), (.slice ad6 ((parseM (((printM ((parseM s).cfg) ((parseM s).es)).1))).cfg.cuts).length cp6), .int .i64 ((parseM (((printM ((parseM s).cfg) ((parseM s).es)).1))).cfg.workers), .int .i64 ((parseM (((printM ((parseM s).cfg) ((parseM s).es)).1))).cfg.copies), .int .i64 ((parseM (((printM ((parseM s).cfg) ((parseM s).es)).1))).cfg.slots), .int .i64 ((parseM (((printM ((parseM s).cfg) ((parseM s).es)).1))).cfg.batch), .int .i64 ((parseM (((printM ((parseM s).cfg) ((parseM s).es)).1))).cfg.lease), .int .i64 ((parseM (((printM ((parseM s).cfg) ((parseM s).es)).1))).cfg.hedge), .int .i64 ((parseM (((printM ((parseM s).cfg) ((parseM s).es)).1))).cfg.first), .int .i64 ((parseM (((printM ((parseM s).cfg) ((parseM s).es)).1))).cfg.cap), .int .i64 ((parseM (((printM ((parseM s).cfg) ((parseM s).es)).1))).cfg.jitter), .int .i64 ((parseM (((printM ((parseM s).cfg) ((parseM s).es)).1))).cfg.net)] 30] := hS25.bkK (i := 12) rfl hm16 hk7
            refine OL.q (Q1.assign rfl) rfl rfl ?_
            refine OL.q (Q1.assign rfl) rfl rfl ?_
            refine OL.q (Q1.assign rfl) rfl rfl ?_
            refine OL.nil ?_
            refine r_seq ?_
            refine r_region ?_
            rcases read_print (s := s) (by assumption) with ⟨hg, hpu⟩ | hg
            · skip
              refine OL.q (Q1.move rfl) rfl rfl ?_
              refine OL.qb (Q1.ne rfl rfl) rfl rfl ?_
              intro b14 hb14
              obtain rfl : b14 = false := hb14.trans (by rw [hg]; rfl)
              refine OL.q (Q1.move rfl) rfl rfl ?_
              refine OL.q (Q1.move rfl) rfl rfl ?_
              refine OL.qb (Q1.eq rfl rfl) rfl rfl ?_
              intro b15 hb15
              obtain rfl : b15 = true := hb15.trans (by rw [hpu]; rfl)
              refine OL.q (Q1.move rfl) rfl rfl ?_
              have f30 := hS26.bk (i := 12) rfl
              refine OL.q (Q1.loadN ti30 rfl (fun _ e => e ▸ f30.row) rfl) rfl rfl ?_
              have f31 := hS26.bk (i := 8) rfl
              refine OL.q (Q1.loadN ti30 rfl (fun _ e => e ▸ f31.row) rfl) rfl rfl ?_
              obtain ⟨g13, f32, hl13, k13⟩ := hS26.accK (i := 9) rfl
              obtain ⟨g14, f33, hl14, k14⟩ := hS26.accK (i := 10) rfl
              obtain ⟨g15, f34, hl15, k15⟩ := hS26.accK (i := 5) rfl
              obtain ⟨g16, f35, hl16, k16⟩ := hS26.accK (i := 6) rfl
              refine OL.act rfl rfl (AW.callF cl14 rfl (sameC_c (w0 := w16) (c := (parseM (((printM ((parseM s).cfg) ((parseM s).es)).1))).cfg) (d := (parseM s).cfg)  (f32.sl.iv (Nat.zero_le _) f32.lt) (f33.sl.iv (Nat.zero_le _) f33.lt) (f34.sl.iv (Nat.zero_le _) f34.lt) (f35.sl.iv (Nat.zero_le _) f35.lt)) ?_)
              rintro _ w17 ⟨⟨b16, hb16, rfl⟩, hm17⟩
              have hS27 := hS26.ext hm17
              obtain rfl : b16 = true := hb16.trans (by rw [hpu]; exact decide_eq_true rfl)
              refine OL.q (Q1.pick_t rfl rfl) rfl rfl ?_
              refine OL.q (Q1.move rfl) rfl rfl ?_
              refine OL.q (Q1.move rfl) rfl rfl ?_
              refine OL.q (Q1.move rfl) rfl rfl ?_
              obtain ⟨g17, f36, hl17, k17⟩ := hS27.accK (i := 11) rfl
              obtain ⟨g18, f37, hl18, k18⟩ := hS27.accK (i := 7) rfl
              refine OL.act rfl rfl (AW.callF cl20 rfl (sameE_c (w0 := w17) (a := (parseM (((printM ((parseM s).cfg) ((parseM s).es)).1))).es) (b := (parseM s).es)  (f36.sl.iv (Nat.zero_le _) f36.lt) (f37.sl.iv (Nat.zero_le _) f37.lt)) ?_)
              rintro _ w18 ⟨⟨b17, hb17, rfl⟩, hm18⟩
              have hS28 := hS27.ext hm18
              obtain rfl : b17 = true := hb17.trans (by rw [hpu]; exact decide_eq_true rfl)
              refine OL.q (Q1.pick_t rfl rfl) rfl rfl ?_
              refine OL.q (Q1.pick_f rfl rfl) rfl rfl ?_
              refine OL.q (Q1.move rfl) rfl rfl ?_
              refine OL.q (Q1.move rfl) rfl rfl ?_
              refine OL.qb (Q1.eq rfl rfl) rfl rfl ?_
              intro b18 hb18
              obtain rfl : b18 = true := hb18.trans (by rw [hg]; rfl)
              refine OL.q (Q1.move rfl) rfl rfl ?_
              refine OL.sk rfl rfl ?_
              refine OL.sk rfl rfl ?_
              refine OL.q (Q1.pick_t rfl rfl) rfl rfl ?_
              refine OL.q (Q1.pick_t rfl rfl) rfl rfl ?_
              refine OL.q (Q1.move rfl) rfl rfl ?_
              refine OL.act rfl rfl (AW.callF cl8 rfl (awake29_c (w0 := w18)   (by exact hG.keep hgp (hS28.mod) hFg)) ?_)
              rintro _ w19 ⟨⟨_, rfl, rfl⟩, hm19⟩
              have hS29 := hS28.ext hm19
              refine OL.q (Q1.pick_t rfl rfl) rfl rfl ?_
              refine OL.q (Q1.assign rfl) rfl rfl ?_
              refine OL.nil ?_
              refine r_ret1 Tryd.func6 rfl rfl ?_
              exact Ret.mk ⟨⟨_, (by rfl), rfl⟩, hS29.mod⟩
            · skip
              refine OL.q (Q1.move rfl) rfl rfl ?_
              refine OL.qb (Q1.ne rfl rfl) rfl rfl ?_
              intro b14 hb14
              obtain rfl : b14 = true := hb14.trans (by rw [hg]; rfl)
              refine OL.q (Q1.move rfl) rfl rfl ?_
              refine OL.sk rfl rfl ?_
              refine OL.sk rfl rfl ?_
              refine OL.sk rfl rfl ?_
              refine OL.sk rfl rfl ?_
              refine OL.sk rfl rfl ?_
              refine OL.sk rfl rfl ?_
              refine OL.sk rfl rfl ?_
              refine OL.sk rfl rfl ?_
              refine OL.sk rfl rfl ?_
              refine OL.sk rfl rfl ?_
              refine OL.sk rfl rfl ?_
              refine OL.sk rfl rfl ?_
              refine OL.q (Q1.pick_t rfl rfl) rfl rfl ?_
              refine OL.q (Q1.move rfl) rfl rfl ?_
              refine OL.q (Q1.move rfl) rfl rfl ?_
              refine OL.qb (Q1.eq rfl rfl) rfl rfl ?_
              intro b15 hb15
              obtain rfl : b15 = false := hb15.trans (by rw [hg]; rfl)
              refine OL.q (Q1.move rfl) rfl rfl ?_
              refine OL.q (Q1.move rfl) rfl rfl ?_
              refine OL.qb (Q1.eq rfl rfl) rfl rfl ?_
              intro b16 hb16
              obtain rfl : b16 = true := hb16.trans (by rw [hg]; rfl)
              refine OL.q (Q1.pick_f rfl rfl) rfl rfl ?_
              refine OL.q (Q1.pick_t rfl rfl) rfl rfl ?_
              refine OL.q (Q1.move rfl) rfl rfl ?_
              refine OL.act rfl rfl (AW.callF cl8 rfl (awake29_c (w0 := w16)   (by exact hG.keep hgp (hS26.mod) hFg)) ?_)
              rintro _ w17 ⟨⟨_, rfl, rfl⟩, hm17⟩
              have hS27 := hS26.ext hm17
              refine OL.q (Q1.pick_t rfl rfl) rfl rfl ?_
              refine OL.q (Q1.assign rfl) rfl rfl ?_
              refine OL.nil ?_
              refine r_ret1 Tryd.func6 rfl rfl ?_
              exact Ret.mk ⟨⟨_, (by rfl), rfl⟩, hS27.mod⟩
        | false =>
          replace hb5 := ne_of_beq_false hb5.symm
          refine r_cond_f rfl ?_
          refine r_seq ?_
          refine r_region ?_
          refine OL.q (Q1.move rfl) rfl rfl ?_
          refine OL.qb (Q1.neS rfl rfl) rfl rfl ?_
          intro b6 hb6
          obtain rfl : b6 = false := hb6.trans (by rw [print_no (by assumption)]; rfl)
          refine OL.nil ?_
          refine r_cond_f rfl ?_
          refine r_skip ?_
          refine r_seq ?_
          refine r_region ?_
          refine OL.q (Q1.move rfl) rfl rfl ?_
          refine OL.act rfl rfl (AW.callF cl13 rfl (parse_c (w0 := w4) s (by first | omega | (simp only [List.length_append, List.length_cons, List.length_nil]; omega) | decide) (hG.keep hgp hS5.mod hFg)) ?_)
          rintro _ w5 ⟨va1, vb1, vc1, rfl, hm5, F1, hA1, hF1⟩
          have hS6 := hS5.ext hm5
          have hS7 : St (fun _ => False) (fun _ => False) w0 w5 [bkR b1 [v_c_words, v_c_cuts, .int .i64 c.workers, .int .i64 c.copies, .int .i64 c.slots, .int .i64 c.batch, .int .i64 c.lease, .int .i64 c.hedge, .int .i64 c.first, .int .i64 c.cap, .int .i64 c.jitter, .int .i64 c.net] 30, boxR (R := fun _ => False) [accR encS 9 1 va1 (parseM s).cfg.words, accR encKey 72 2 vb1 (parseM s).cfg.cuts, accR encEvt 50 7 vc1 (parseM s).es]] := hS5.new hm5 hA1 hF1
          have hS8 : St (fun _ => False) (fun _ => False) w0 w5 [bkR b1 [v_c_words, v_c_cuts, .int .i64 c.workers, .int .i64 c.copies, .int .i64 c.slots, .int .i64 c.batch, .int .i64 c.lease, .int .i64 c.hedge, .int .i64 c.first, .int .i64 c.cap, .int .i64 c.jitter, .int .i64 c.net] 30, accR encS 9 1 va1 ((parseM s).cfg.words), accR encKey 72 2 vb1 ((parseM s).cfg.cuts), accR encEvt 50 7 vc1 ((parseM s).es)] := St.open (L1 := [bkR b1 [v_c_words, v_c_cuts, .int .i64 c.workers, .int .i64 c.copies, .int .i64 c.slots, .int .i64 c.batch, .int .i64 c.lease, .int .i64 c.hedge, .int .i64 c.first, .int .i64 c.cap, .int .i64 c.jitter, .int .i64 c.net] 30]) hS7
          obtain ⟨g1, f9, hl1, k1⟩ := hS8.accK (i := 1) rfl
          obtain ⟨ad1, cp1, hv1⟩ := f9.shape
          subst hv1
          obtain ⟨g2, f10, hl2, k2⟩ := hS8.accK (i := 2) rfl
          obtain ⟨ad2, cp2, hv2⟩ := f10.shape
          subst hv2
          refine OL.q (Q1.move rfl) rfl rfl ?_
          refine OL.q (Q1.extract rfl rfl) rfl rfl ?_
          refine OL.q (Q1.extract rfl rfl) rfl rfl ?_
          refine OL.q (Q1.extract rfl rfl) rfl rfl ?_
          refine OL.q (Q1.extract rfl rfl) rfl rfl ?_
          refine OL.act rfl rfl (AW.alloc ti30 ?_)
          intro w6 b7 hm6 hb7 hz2 hk2
          have hS9 := hS8.ext hm6
          have hS10 : St (fun _ => False) (fun _ => False) w0 w6 [bkR b1 [v_c_words, v_c_cuts, .int .i64 c.workers, .int .i64 c.copies, .int .i64 c.slots, .int .i64 c.batch, .int .i64 c.lease, .int .i64 c.hedge, .int .i64 c.first, .int .i64 c.cap, .int .i64 c.jitter, .int .i64 c.net] 30, accR encS 9 1 ((.slice ad1 ((parseM s).cfg.words).length cp1)) ((parseM s).cfg.words), accR encKey 72 2 ((.slice ad2 ((parseM s).cfg.cuts).length cp2)) ((parseM s).cfg.cuts), accR encEvt 50 7 vc1 ((parseM s).es), bkR b7 [.slice none 0 0, .slice none 0 0, .int .i64 0, .int .i64 0, .int .i64 0, .int .i64 0, .int .i64 0, .int .i64 0, .int .i64 0, .int .i64 0, .int .i64 0, .int .i64 0] 30] := hS8.newBk hm6 hb7 hk2
          have f11 := hS10.bk (i := 4) rfl
          refine OL.act rfl rfl (AW.store ti30 rfl rfl rfl rfl rfl f11 (Nat.le_of_ble_eq_true rfl) ?_)
          intro w7 hm7 hz3 hk3
          have hS11 : St (fun _ => False) (fun _ => False) w0 w7 [bkR b1 [v_c_words, v_c_cuts, .int .i64 c.workers, .int .i64 c.copies, .int .i64 c.slots, .int .i64 c.batch, .int .i64 c.lease, .int .i64 c.hedge, .int .i64 c.first, .int .i64 c.cap, .int .i64 c.jitter, .int .i64 c.net] 30, accR encS 9 1 ((.slice ad1 ((parseM s).cfg.words).length cp1)) ((parseM s).cfg.words), accR encKey 72 2 ((.slice ad2 ((parseM s).cfg.cuts).length cp2)) ((parseM s).cfg.cuts), accR encEvt 50 7 vc1 ((parseM s).es), bkR b7 [(.slice ad1 ((parseM s).cfg.words).length cp1), (.slice ad2 ((parseM s).cfg.cuts).length cp2), .int .i64 ((parseM s).cfg.workers), .int .i64 ((parseM s).cfg.copies), .int .i64 ((parseM s).cfg.slots), .int .i64 ((parseM s).cfg.batch), .int .i64 ((parseM s).cfg.lease), .int .i64 ((parseM s).cfg.hedge), .int .i64 ((parseM s).cfg.first), .int .i64 ((parseM s).cfg.cap), .int .i64 ((parseM s).cfg.jitter), .int .i64 ((parseM s).cfg.net)] 30] := hS10.bkK (i := 4) rfl hm7 hk3
          refine OL.q (Q1.assign rfl) rfl rfl ?_
          refine OL.q (Q1.assign rfl) rfl rfl ?_
          refine OL.q (Q1.assign rfl) rfl rfl ?_
          refine OL.nil ?_
          refine r_seq ?_
          refine r_seq ?_
          refine r_region ?_
          refine OL.q (Q1.move rfl) rfl rfl ?_
          refine OL.qb (Q1.ne rfl rfl) rfl rfl ?_
          intro b8 hb8
          refine OL.nil ?_
          cases b8 with
          | true =>
            replace hb8 := bne_iff_ne.1 hb8.symm
            refine r_cond_t rfl ?_
            refine r_seq ?_
            refine r_region ?_
            refine OL.act rfl rfl (AW.callF cl8 rfl (awake29_c (w0 := w7)   (by exact hG.keep hgp (hS11.mod) hFg)) ?_)
            rintro _ w8 ⟨⟨_, rfl, rfl⟩, hm8⟩
            have hS12 := hS11.ext hm8
            refine OL.q (Q1.assign rfl) rfl rfl ?_
            refine OL.nil ?_
            refine r_ret1 Tryd.func6 rfl rfl ?_
            exact Ret.mk ⟨⟨_, (by rfl), rfl⟩, hS12.mod⟩
          | false =>
            replace hb8 := bne_eq_false_iff_eq.1 hb8.symm
            refine r_cond_f rfl ?_
            refine r_skip ?_
            refine r_seq ?_
            refine r_region ?_
            have f12 := hS11.bk (i := 4) rfl
            refine OL.q (Q1.loadN ti30 rfl (fun _ e => e ▸ f12.row) rfl) rfl rfl ?_
            have hpr2 : PrOk (parseM s).cfg (parseM s).es := prok_parse (by omega) (by assumption)
            have hpl2 := print_len (parseM s).cfg (parseM s).es
            refine OL.q (Q1.move rfl) rfl rfl ?_
            obtain ⟨g3, f13, hl3, k3⟩ := hS11.accK (i := 1) rfl
            obtain ⟨g4, f14, hl4, k4⟩ := hS11.accK (i := 2) rfl
            obtain ⟨g5, f15, hl5, k5⟩ := hS11.accK (i := 3) rfl
            refine OL.act rfl rfl (AW.callF cl17 rfl (print_c (w0 := w7) (c := (parseM s).cfg) (es := (parseM s).es)  (f13.sl.iv (Nat.zero_le _) f13.lt) (f14.sl.iv (Nat.zero_le _) f14.lt) (f15.sl.iv (Nat.zero_le _) f15.lt) (by exact hG.keep hgp (hS11.mod) hFg) (by assumption)) ?_)
            rintro _ w8 ⟨_, _, rfl, rfl, rfl, hm8⟩
            have hS12 := hS11.ext hm8
            refine OL.q (Q1.move rfl) rfl rfl ?_
            refine OL.q (Q1.extract rfl rfl) rfl rfl ?_
            refine OL.q (Q1.extract rfl rfl) rfl rfl ?_
            refine OL.q (Q1.assign rfl) rfl rfl ?_
            refine OL.q (Q1.assign rfl) rfl rfl ?_
            refine OL.nil ?_
            refine r_seq ?_
            refine r_region ?_
            refine OL.q (Q1.move rfl) rfl rfl ?_
            refine OL.act rfl rfl (AW.callF cl13 rfl (parse_c (w0 := w8) (((printM ((parseM s).cfg) ((parseM s).es)).1)) (by first | omega | (simp only [List.length_append, List.length_cons, List.length_nil]; omega) | decide) (hG.keep hgp hS12.mod hFg)) ?_)
            rintro _ w9 ⟨va2, vb2, vc2, rfl, hm9, F2, hA2, hF2⟩
            have hS13 := hS12.ext hm9
            have hS14 : St (fun _ => False) (fun _ => False) w0 w9 [bkR b1 [v_c_words, v_c_cuts, .int .i64 c.workers, .int .i64 c.copies, .int .i64 c.slots, .int .i64 c.batch, .int .i64 c.lease, .int .i64 c.hedge, .int .i64 c.first, .int .i64 c.cap, .int .i64 c.jitter, .int .i64 c.net] 30, accR encS 9 1 ((.slice ad1 ((parseM s).cfg.words).length cp1)) ((parseM s).cfg.words), accR encKey 72 2 ((.slice ad2 ((parseM s).cfg.cuts).length cp2)) ((parseM s).cfg.cuts), accR encEvt 50 7 vc1 ((parseM s).es), bkR b7 [(.slice ad1 ((parseM s).cfg.words).length cp1), (.slice ad2 ((parseM s).cfg.cuts).length cp2), .int .i64 ((parseM s).cfg.workers), .int .i64 ((parseM s).cfg.copies), .int .i64 ((parseM s).cfg.slots), .int .i64 ((parseM s).cfg.batch), .int .i64 ((parseM s).cfg.lease), .int .i64 ((parseM s).cfg.hedge), .int .i64 ((parseM s).cfg.first), .int .i64 ((parseM s).cfg.cap), .int .i64 ((parseM s).cfg.jitter), .int .i64 ((parseM s).cfg.net)] 30, boxR (R := fun _ => False) [accR encS 9 1 va2 (parseM (((printM ((parseM s).cfg) ((parseM s).es)).1))).cfg.words, accR encKey 72 2 vb2 (parseM (((printM ((parseM s).cfg) ((parseM s).es)).1))).cfg.cuts, accR encEvt 50 7 vc2 (parseM (((printM ((parseM s).cfg) ((parseM s).es)).1))).es]] := hS12.new hm9 hA2 hF2
            have hS15 : St (fun _ => False) (fun _ => False) w0 w9 [bkR b1 [v_c_words, v_c_cuts, .int .i64 c.workers, .int .i64 c.copies, .int .i64 c.slots, .int .i64 c.batch, .int .i64 c.lease, .int .i64 c.hedge, .int .i64 c.first, .int .i64 c.cap, .int .i64 c.jitter, .int .i64 c.net] 30, accR encS 9 1 ((.slice ad1 ((parseM s).cfg.words).length cp1)) ((parseM s).cfg.words), accR encKey 72 2 ((.slice ad2 ((parseM s).cfg.cuts).length cp2)) ((parseM s).cfg.cuts), accR encEvt 50 7 vc1 ((parseM s).es), bkR b7 [(.slice ad1 ((parseM s).cfg.words).length cp1), (.slice ad2 ((parseM s).cfg.cuts).length cp2), .int .i64 ((parseM s).cfg.workers), .int .i64 ((parseM s).cfg.copies), .int .i64 ((parseM s).cfg.slots), .int .i64 ((parseM s).cfg.batch), .int .i64 ((parseM s).cfg.lease), .int .i64 ((parseM s).cfg.hedge), .int .i64 ((parseM s).cfg.first), .int .i64 ((parseM s).cfg.cap), .int .i64 ((parseM s).cfg.jitter), .int .i64 ((parseM s).cfg.net)] 30, accR encS 9 1 va2 ((parseM (((printM ((parseM s).cfg) ((parseM s).es)).1))).cfg.words), accR encKey 72 2 vb2 ((parseM (((printM ((parseM s).cfg) ((parseM s).es)).1))).cfg.cuts), accR encEvt 50 7 vc2 ((parseM (((printM ((parseM s).cfg) ((parseM s).es)).1))).es)] := St.open (L1 := [bkR b1 [v_c_words, v_c_cuts, .int .i64 c.workers, .int .i64 c.copies, .int .i64 c.slots, .int .i64 c.batch, .int .i64 c.lease, .int .i64 c.hedge, .int .i64 c.first, .int .i64 c.cap, .int .i64 c.jitter, .int .i64 c.net] 30, accR encS 9 1 ((.slice ad1 ((parseM s).cfg.words).length cp1)) ((parseM s).cfg.words), accR encKey 72 2 ((.slice ad2 ((parseM s).cfg.cuts).length cp2)) ((parseM s).cfg.cuts), accR encEvt 50 7 vc1 ((parseM s).es), bkR b7 [(.slice ad1 ((parseM s).cfg.words).length cp1), (.slice ad2 ((parseM s).cfg.cuts).length cp2), .int .i64 ((parseM s).cfg.workers), .int .i64 ((parseM s).cfg.copies), .int .i64 ((parseM s).cfg.slots), .int .i64 ((parseM s).cfg.batch), .int .i64 ((parseM s).cfg.lease), .int .i64 ((parseM s).cfg.hedge), .int .i64 ((parseM s).cfg.first), .int .i64 ((parseM s).cfg.cap), .int .i64 ((parseM s).cfg.jitter), .int .i64 ((parseM s).cfg.net)] 30]) hS14
            obtain ⟨g6, f16, hl6, k6⟩ := hS15.accK (i := 5) rfl
            obtain ⟨ad3, cp3, hv3⟩ := f16.shape
            subst hv3
            obtain ⟨g7, f17, hl7, k7⟩ := hS15.accK (i := 6) rfl
            obtain ⟨ad4, cp4, hv4⟩ := f17.shape
            subst hv4
            refine OL.q (Q1.move rfl) rfl rfl ?_
            refine OL.q (Q1.extract rfl rfl) rfl rfl ?_
            refine OL.q (Q1.extract rfl rfl) rfl rfl ?_
            refine OL.q (Q1.extract rfl rfl) rfl rfl ?_
            refine OL.q (Q1.extract rfl rfl) rfl rfl ?_
            refine OL.act rfl rfl (AW.alloc ti30 ?_)
            intro w10 b9 hm10 hb9 hz4 hk4
            have hS16 := hS15.ext hm10
            have hS17 : St (fun _ => False) (fun _ => False) w0 w10 [bkR b1 [v_c_words, v_c_cuts, .int .i64 c.workers, .int .i64 c.copies, .int .i64 c.slots, .int .i64 c.batch, .int .i64 c.lease, .int .i64 c.hedge, .int .i64 c.first, .int .i64 c.cap, .int .i64 c.jitter, .int .i64 c.net] 30, accR encS 9 1 ((.slice ad1 ((parseM s).cfg.words).length cp1)) ((parseM s).cfg.words), accR encKey 72 2 ((.slice ad2 ((parseM s).cfg.cuts).length cp2)) ((parseM s).cfg.cuts), accR encEvt 50 7 vc1 ((parseM s).es), bkR b7 [(.slice ad1 ((parseM s).cfg.words).length cp1), (.slice ad2 ((parseM s).cfg.cuts).length cp2), .int .i64 ((parseM s).cfg.workers), .int .i64 ((parseM s).cfg.copies), .int .i64 ((parseM s).cfg.slots), .int .i64 ((parseM s).cfg.batch), .int .i64 ((parseM s).cfg.lease), .int .i64 ((parseM s).cfg.hedge), .int .i64 ((parseM s).cfg.first), .int .i64 ((parseM s).cfg.cap), .int .i64 ((parseM s).cfg.jitter), .int .i64 ((parseM s).cfg.net)] 30, accR encS 9 1 ((.slice ad3 ((parseM (((printM ((parseM s).cfg) ((parseM s).es)).1))).cfg.words).length cp3)) ((parseM (((printM ((parseM s).cfg) ((parseM s).es)).1))).cfg.words), accR encKey 72 2 ((.slice ad4 ((parseM (((printM ((parseM s).cfg) ((parseM s).es)).1))).cfg.cuts).length cp4)) ((parseM (((printM ((parseM s).cfg) ((parseM s).es)).1))).cfg.cuts), accR encEvt 50 7 vc2 ((parseM (((printM ((parseM s).cfg) ((parseM s).es)).1))).es), bkR b9 [.slice none 0 0, .slice none 0 0, .int .i64 0, .int .i64 0, .int .i64 0, .int .i64 0, .int .i64 0, .int .i64 0, .int .i64 0, .int .i64 0, .int .i64 0, .int .i64 0] 30] := hS15.newBk hm10 hb9 hk4
            have f18 := hS17.bk (i := 8) rfl
            refine OL.act rfl rfl (AW.store ti30 rfl rfl rfl rfl rfl f18 (Nat.le_of_ble_eq_true rfl) ?_)
            intro w11 hm11 hz5 hk5
            have hS18 : St (fun _ => False) (fun _ => False) w0 w11 [bkR b1 [v_c_words, v_c_cuts, .int .i64 c.workers, .int .i64 c.copies, .int .i64 c.slots, .int .i64 c.batch, .int .i64 c.lease, .int .i64 c.hedge, .int .i64 c.first, .int .i64 c.cap, .int .i64 c.jitter, .int .i64 c.net] 30, accR encS 9 1 ((.slice ad1 ((parseM s).cfg.words).length cp1)) ((parseM s).cfg.words), accR encKey 72 2 ((.slice ad2 ((parseM s).cfg.cuts).length cp2)) ((parseM s).cfg.cuts), accR encEvt 50 7 vc1 ((parseM s).es), bkR b7 [(.slice ad1 ((parseM s).cfg.words).length cp1), (.slice ad2 ((parseM s).cfg.cuts).length cp2), .int .i64 ((parseM s).cfg.workers), .int .i64 ((parseM s).cfg.copies), .int .i64 ((parseM s).cfg.slots), .int .i64 ((parseM s).cfg.batch), .int .i64 ((parseM s).cfg.lease), .int .i64 ((parseM s).cfg.hedge), .int .i64 ((parseM s).cfg.first), .int .i64 ((parseM s).cfg.cap), .int .i64 ((parseM s).cfg.jitter), .int .i64 ((parseM s).cfg.net)] 30, accR encS 9 1 ((.slice ad3 ((parseM (((printM ((parseM s).cfg) ((parseM s).es)).1))).cfg.words).length cp3)) ((parseM (((printM ((parseM s).cfg) ((parseM s).es)).1))).cfg.words), accR encKey 72 2 ((.slice ad4 ((parseM (((printM ((parseM s).cfg) ((parseM s).es)).1))).cfg.cuts).length cp4)) ((parseM (((printM ((parseM s).cfg) ((parseM s).es)).1))).cfg.cuts), accR encEvt 50 7 vc2 ((parseM (((printM ((parseM s).cfg) ((parseM s).es)).1))).es), bkR b9 [(.slice ad3 ((parseM (((printM ((parseM s).cfg) ((parseM s).es)).1))).cfg.words).length cp3), (.slice ad4 ((parseM (((printM ((parseM s).cfg) ((parseM s).es)).1))).cfg.cuts).length cp4), .int .i64 ((parseM (((printM ((parseM s).cfg) ((parseM s).es)).1))).cfg.workers), .int .i64 ((parseM (((printM ((parseM s).cfg) ((parseM s).es)).1))).cfg.copies), .int .i64 ((parseM (((printM ((parseM s).cfg) ((parseM s).es)).1))).cfg.slots), .int .i64 ((parseM (((printM ((parseM s).cfg) ((parseM s).es)).1))).cfg.batch), .int .i64 ((parseM (((printM ((parseM s).cfg) ((parseM s).es)).1))).cfg.lease), .int .i64 ((parseM (((printM ((parseM s).cfg) ((parseM s).es)).1))).cfg.hedge), .int .i64 ((parseM (((printM ((parseM s).cfg) ((parseM s).es)).1))).cfg.first), .int .i64 ((parseM (((printM ((parseM s).cfg) ((parseM s).es)).1))).cfg.cap), .int .i64 ((parseM (((printM ((parseM s).cfg) ((parseM s).es)).1))).cfg.jitter), .int .i64 ((parseM (((printM ((parseM s).cfg) ((parseM s).es)).1))).cfg.net)] 30] := hS17.bkK (i := 8) rfl hm11 hk5
            refine OL.q (Q1.assign rfl) rfl rfl ?_
            refine OL.q (Q1.assign rfl) rfl rfl ?_
            refine OL.q (Q1.assign rfl) rfl rfl ?_
            refine OL.nil ?_
            refine r_seq ?_
            refine r_region ?_
            rcases read_print (s := s) (by assumption) with ⟨hg, hpu⟩ | hg
            · skip
              refine OL.q (Q1.move rfl) rfl rfl ?_
              refine OL.qb (Q1.ne rfl rfl) rfl rfl ?_
              intro b10 hb10
              obtain rfl : b10 = false := hb10.trans (by rw [hg]; rfl)
              refine OL.q (Q1.move rfl) rfl rfl ?_
              refine OL.q (Q1.move rfl) rfl rfl ?_
              refine OL.qb (Q1.eq rfl rfl) rfl rfl ?_
              intro b11 hb11
              obtain rfl : b11 = true := hb11.trans (by rw [hpu]; rfl)
              refine OL.q (Q1.move rfl) rfl rfl ?_
              have f19 := hS18.bk (i := 8) rfl
              refine OL.q (Q1.loadN ti30 rfl (fun _ e => e ▸ f19.row) rfl) rfl rfl ?_
              have f20 := hS18.bk (i := 4) rfl
              refine OL.q (Q1.loadN ti30 rfl (fun _ e => e ▸ f20.row) rfl) rfl rfl ?_
              obtain ⟨g8, f21, hl8, k8⟩ := hS18.accK (i := 5) rfl
              obtain ⟨g9, f22, hl9, k9⟩ := hS18.accK (i := 6) rfl
              obtain ⟨g10, f23, hl10, k10⟩ := hS18.accK (i := 1) rfl
              obtain ⟨g11, f24, hl11, k11⟩ := hS18.accK (i := 2) rfl
              refine OL.act rfl rfl (AW.callF cl14 rfl (sameC_c (w0 := w11) (c := (parseM (((printM ((parseM s).cfg) ((parseM s).es)).1))).cfg) (d := (parseM s).cfg)  (f21.sl.iv (Nat.zero_le _) f21.lt) (f22.sl.iv (Nat.zero_le _) f22.lt) (f23.sl.iv (Nat.zero_le _) f23.lt) (f24.sl.iv (Nat.zero_le _) f24.lt)) ?_)
              rintro _ w12 ⟨⟨b12, hb12, rfl⟩, hm12⟩
              have hS19 := hS18.ext hm12
              obtain rfl : b12 = true := hb12.trans (by rw [hpu]; exact decide_eq_true rfl)
              refine OL.q (Q1.pick_t rfl rfl) rfl rfl ?_
              refine OL.q (Q1.move rfl) rfl rfl ?_
              refine OL.q (Q1.move rfl) rfl rfl ?_
              refine OL.q (Q1.move rfl) rfl rfl ?_
              obtain ⟨g12, f25, hl12, k12⟩ := hS19.accK (i := 7) rfl
              obtain ⟨g13, f26, hl13, k13⟩ := hS19.accK (i := 3) rfl
              refine OL.act rfl rfl (AW.callF cl20 rfl (sameE_c (w0 := w12) (a := (parseM (((printM ((parseM s).cfg) ((parseM s).es)).1))).es) (b := (parseM s).es)  (f25.sl.iv (Nat.zero_le _) f25.lt) (f26.sl.iv (Nat.zero_le _) f26.lt)) ?_)
              rintro _ w13 ⟨⟨b13, hb13, rfl⟩, hm13⟩
              have hS20 := hS19.ext hm13
              obtain rfl : b13 = true := hb13.trans (by rw [hpu]; exact decide_eq_true rfl)
              refine OL.q (Q1.pick_t rfl rfl) rfl rfl ?_
              refine OL.q (Q1.pick_f rfl rfl) rfl rfl ?_
              refine OL.q (Q1.move rfl) rfl rfl ?_
              refine OL.q (Q1.move rfl) rfl rfl ?_
              refine OL.qb (Q1.eq rfl rfl) rfl rfl ?_
              intro b14 hb14
              obtain rfl : b14 = true := hb14.trans (by rw [hg]; rfl)
              refine OL.q (Q1.move rfl) rfl rfl ?_
              refine OL.sk rfl rfl ?_
              refine OL.sk rfl rfl ?_
              refine OL.q (Q1.pick_t rfl rfl) rfl rfl ?_
              refine OL.q (Q1.pick_t rfl rfl) rfl rfl ?_
              refine OL.q (Q1.move rfl) rfl rfl ?_
              refine OL.act rfl rfl (AW.callF cl8 rfl (awake29_c (w0 := w13)   (by exact hG.keep hgp (hS20.mod) hFg)) ?_)
              rintro _ w14 ⟨⟨_, rfl, rfl⟩, hm14⟩
              have hS21 := hS20.ext hm14
              refine OL.q (Q1.pick_t rfl rfl) rfl rfl ?_
              refine OL.q (Q1.assign rfl) rfl rfl ?_
              refine OL.nil ?_
              refine r_ret1 Tryd.func6 rfl rfl ?_
              exact Ret.mk ⟨⟨_, (by rfl), rfl⟩, hS21.mod⟩
            · skip
              refine OL.q (Q1.move rfl) rfl rfl ?_
              refine OL.qb (Q1.ne rfl rfl) rfl rfl ?_
              intro b10 hb10
              obtain rfl : b10 = true := hb10.trans (by rw [hg]; rfl)
              refine OL.q (Q1.move rfl) rfl rfl ?_
              refine OL.sk rfl rfl ?_
              refine OL.sk rfl rfl ?_
              refine OL.sk rfl rfl ?_
              refine OL.sk rfl rfl ?_
              refine OL.sk rfl rfl ?_
              refine OL.sk rfl rfl ?_
              refine OL.sk rfl rfl ?_
              refine OL.sk rfl rfl ?_
              refine OL.sk rfl rfl ?_
              refine OL.sk rfl rfl ?_
              refine OL.sk rfl rfl ?_
              refine OL.sk rfl rfl ?_
              refine OL.q (Q1.pick_t rfl rfl) rfl rfl ?_
              refine OL.q (Q1.move rfl) rfl rfl ?_
              refine OL.q (Q1.move rfl) rfl rfl ?_
              refine OL.qb (Q1.eq rfl rfl) rfl rfl ?_
              intro b11 hb11
              obtain rfl : b11 = false := hb11.trans (by rw [hg]; rfl)
              refine OL.q (Q1.move rfl) rfl rfl ?_
              refine OL.q (Q1.move rfl) rfl rfl ?_
              refine OL.qb (Q1.eq rfl rfl) rfl rfl ?_
              intro b12 hb12
              obtain rfl : b12 = true := hb12.trans (by rw [hg]; rfl)
              refine OL.q (Q1.pick_f rfl rfl) rfl rfl ?_
              refine OL.q (Q1.pick_t rfl rfl) rfl rfl ?_
              refine OL.q (Q1.move rfl) rfl rfl ?_
              refine OL.act rfl rfl (AW.callF cl8 rfl (awake29_c (w0 := w11)   (by exact hG.keep hgp (hS18.mod) hFg)) ?_)
              rintro _ w12 ⟨⟨_, rfl, rfl⟩, hm12⟩
              have hS19 := hS18.ext hm12
              refine OL.q (Q1.pick_t rfl rfl) rfl rfl ?_
              refine OL.q (Q1.assign rfl) rfl rfl ?_
              refine OL.nil ?_
              refine r_ret1 Tryd.func6 rfl rfl ?_
              exact Ret.mk ⟨⟨_, (by rfl), rfl⟩, hS19.mod⟩
end Go.Proofs
