/-
  What the law WorkerOnce needs, part 7 of 7: theory, and walks through the code.
-/
import Derived.Test.YtjideiielmlccaaGreatSWorkerOnceF
set_option linter.unusedVariables false
set_option linter.unusedSimpArgs false
namespace Go.Proofs
open Go.Ik Go.Ml
theorem q151_1 {p : Prop} (h : p := by first | (have e := Ml.same_not hx1 hx2 (by assumption); simp [e]) | (have e := Ml.same_all hi (by omega) (by omega); simp [e]) | (have e : a ≠ b := (fun e => absurd (congrArg List.length e) (by omega)); simp [e]) | (exfalso; omega)) : p := h
set_option maxRecDepth 20000 in
set_option maxHeartbeats 4000000 in
theorem sameIt_c {w0 : World}  {v_a : Value} {a : List Itm} {v_b : Value} {b : List Itm} (h_a : Sl encItm w0 (Iv 0 w0.heap.size) v_a a) (h_b : Sl encItm w0 (Iv 0 w0.heap.size) v_b b) :
    Calls Tryz.prog 151 #[v_a, v_b] w0 (Ret fun rv w1 => (∃ rb : Bool, rb = (decide (a = b)) ∧ rv = .bool rb) ∧ Ext w0 w1) := by
  have hle_a := h_a.le
  have hle_b := h_b.le
  have hS0 := St.start0 w0
  refine calls_enter Tryz.func151 rfl Tryz.ntmps151 rfl ?_
  refine .go 8 rfl ?_
  refine .z (.lenSl Tryz.underlying47 (h_a) rfl) ?_
  refine .go 1 rfl ?_
  refine .z (.lenSl Tryz.underlying47 (h_b) rfl) ?_
  refine .zb (.ne rfl rfl) fun b1 hb1 => ?_
  refine .gi 1 rfl ?_
  cases b1
  case true =>
    replace hb1 := bne_iff_ne.1 hb1.symm
    refine .gi 5 rfl ?_
    refine r_ret1 Tryz.func151 rfl rfl ?_
    exact Ret.mk ⟨⟨_, q151_1, rfl⟩, hS0.mod⟩
  replace hb1 := bne_eq_false_iff_eq.1 hb1.symm
  refine .gi 8 rfl ?_
  refine r_loop (I := fun m E W => ∃ (k : Nat), E = [(0, v_a), (1, v_b), (5, .int .i64 (((k : Nat) : Int)))] ∧ m = a.length - k ∧ St (fun _ => False) (fun _ => False) w0 W [] ∧ (a.take k = b.take k)) ?_ ?_
  · refine ⟨_, _, ⟨(0 : Nat), rfl, rfl, hS0, (by rfl)⟩, ⟨rfl, rfl, rfl, trivial⟩⟩
  · rintro _ _ w1 ⟨k, rfl, rfl, hS1, hi⟩ ih1
    have f1 := hS1.out h_a (fun _ _ h => h)
    refine .go 5 rfl ?_
    refine .z (.lenSl Tryz.underlying47 (f1) rfl) ?_
    refine .zb (.lt rfl rfl) fun b2 hb2 => ?_
    refine .gi 1 rfl ?_
    cases b2
    case true =>
      replace hb2 := dt hb2
      refine .gi 5 rfl ?_
      refine r_draw1 (fun i => false) 9 (fun w' => Mod (Mg 0) w1 w') mixed (by kernel_rfl) fun w2 hm1 => ?_
      have hS2 := hS1.ext hm1
      have hCw2 : Mod (Mg 0) w1 w2 := Mod.ofExt hm1
      refine ⟨hCw2, ?_⟩
      rw [show List.range' 0 (Array.size _) = [0, 1, 2, 3, 4, 5, 6, 7, 8] from rfl]
      obtain ⟨x1, b3, o1, hx1, hr1, hl1, hw1⟩ := Sl.atF (P := Tryz.prog) f1 Tryz.underlying47 ti33 encItm_len (k := .i64) (n := ((k : Nat) : Int)) (k) (by omega) ao
      refine .gd 2 rfl ?_
      refine .z rfl (.indexAddr rfl rfl hr1) ?_
      refine .z rfl (.loadN ti33 rfl (fun _ hc => hw1.keepG hc (Nat.succ_ne_zero _)) rfl) ?_
      have f2 := hS1.out h_b (fun _ _ h => h)
      obtain ⟨x2, b4, o2, hx2, hr2, hl2, hw2⟩ := Sl.atF (P := Tryz.prog) f2 Tryz.underlying47 ti33 encItm_len (k := .i64) (n := ((k : Nat) : Int)) (k) (by omega) ao
      refine .gd 2 rfl ?_
      refine .z rfl (.indexAddr rfl rfl hr2) ?_
      refine .z rfl (.loadN ti33 rfl (fun _ hc => hw2.keepG hc (Nat.succ_ne_zero _)) rfl) ?_
      refine .zb rfl (.neStruct (by kernel_rfl) (eqS33 x1 x2) rfl rfl) fun b5 hb3 => ?_
      refine .nil ?_
      cases b5
      case true =>
        replace hb3 := ndec_t hb3
        refine .gi 5 rfl ?_
        refine r_ret1 Tryz.func151 rfl rfl ?_
        exact Ret.mk ⟨⟨_, q151_1, rfl⟩, hS2.mod⟩
      replace hb3 := ndec_f hb3
      refine .go 5 rfl ?_
      refine .z (.addI (((k + 1 : Nat) : Int)) rfl rfl (by omega)) ?_
      refine .gi 2 rfl ?_
      exact (ih1 _ _ _ ⟨(k + 1 : Nat), rfl, rfl, hS2, (by first | exact Ml.same_take hi hx1 hx2 (by assumption) | (exfalso; omega))⟩ (by omega)).sub ⟨rfl, rfl, rfl, trivial⟩
    replace hb2 := df hb2
    refine .gi 6 rfl ?_
    refine r_ret1 Tryz.func151 rfl rfl ?_
    exact Ret.mk ⟨⟨_, q151_1, rfl⟩, hS1.mod⟩
theorem q109_1 {p : Prop} (h : p := by first | exact (decide_eq_false (fun e => absurd (congrArg ReplyM.slot e) (by assumption))).symm | exact (decide_eq_false (fun e => absurd (congrArg ReplyM.query e) (by assumption))).symm | exact (decide_eq_false (fun e => absurd (congrArg ReplyM.shard e) (by assumption))).symm | exact (decide_eq_false (fun e => absurd (congrArg ReplyM.seq e) (by assumption))).symm | exact (decide_eq_false (fun e => absurd (congrArg ReplyM.worker e) (by assumption))).symm | exact (decide_eq_false (fun e => absurd (congrArg ReplyM.epoch e) (by assumption))).symm | exact (decide_eq_false (fun e => absurd (congrArg ReplyM.fin e) (by assumption))).symm | exact rep_last (by assumption) (by assumption) (by assumption) (by assumption) (by assumption) (by assumption) (by assumption) (by assumption)) : p := h
set_option maxRecDepth 20000 in
set_option maxHeartbeats 4000000 in
theorem srep_c {w0 : World} {r t : ReplyM} {vi vj : Value} (h1 : Sl encItm w0 (Iv 0 w0.heap.size) vi r.items) (h2 : Sl encItm w0 (Iv 0 w0.heap.size) vj t.items) :
    Calls Tryz.prog 109 #[.agg #[.int .i64 r.slot, .int .i64 r.query, .int .i64 r.shard, .int .i64 r.seq, .int .i64 r.worker, .int .i64 r.epoch, vi, .bool r.fin], .agg #[.int .i64 t.slot, .int .i64 t.query, .int .i64 t.shard, .int .i64 t.seq, .int .i64 t.worker, .int .i64 t.epoch, vj, .bool t.fin]] w0 (Ret fun rv w1 => (∃ rb : Bool, rb = decide (r = t) ∧ rv = .bool rb) ∧ Ext w0 w1) := by
  have hS0 := St.start0 w0
  have hle1 := h1.le
  have hle2 := h2.le
  refine calls_enter Tryz.func109 rfl Tryz.ntmps109 rfl ?_
  refine .go 2 rfl ?_
  refine .ac (.box [.int .i64 r.slot, .int .i64 r.query, .int .i64 r.shard, .int .i64 r.seq, .int .i64 r.worker, .int .i64 r.epoch, vi, .bool r.fin] rfl rfl fun w1 b1 hm1 hb1 hz1 hk1 => ?_)
  have hS2 := (hS0.newBk hm1 hb1 hk1).n1
  refine .ac (.box [.int .i64 t.slot, .int .i64 t.query, .int .i64 t.shard, .int .i64 t.seq, .int .i64 t.worker, .int .i64 t.epoch, vj, .bool t.fin] rfl rfl fun w2 b2 hm2 hb2 hz2 hk2 => ?_)
  have hS4 := (hS2.newBk hm2 hb2 hk2).n2
  refine .go 4 rfl ?_
  refine .z (.fieldAddr fl49_0 rfl) ?_
  have f1 := hS4.bk (i := 0) rfl
  refine .z (.l1 ti3 f1) ?_
  refine .z (.fieldAddr fl49_0 rfl) ?_
  have f2 := hS4.bk (i := 1) rfl
  refine .z (.l1 ti3 f2) ?_
  refine .zb (.eq rfl rfl) fun b3 hb3 => ?_
  refine .go 1 rfl ?_
  cases b3
  case true =>
    replace hb3 := eq_of_beq hb3.symm
    refine .z (.fieldAddr fl49_1 rfl) ?_
    refine .z (.l1 ti3 f1) ?_
    refine .z (.fieldAddr fl49_1 rfl) ?_
    refine .z (.l1 ti3 f2) ?_
    refine .zb (.eq rfl rfl) fun b4 hb4 => ?_
    refine .go 2 rfl ?_
    cases b4
    case true =>
      replace hb4 := eq_of_beq hb4.symm
      refine .z (.fieldAddr fl49_2 rfl) ?_
      refine .z (.l1 ti3 f1) ?_
      refine .z (.fieldAddr fl49_2 rfl) ?_
      refine .z (.l1 ti3 f2) ?_
      refine .zb (.eq rfl rfl) fun b5 hb5 => ?_
      refine .go 2 rfl ?_
      cases b5
      case true =>
        replace hb5 := eq_of_beq hb5.symm
        refine .z (.fieldAddr fl49_3 rfl) ?_
        refine .z (.l1 ti3 f1) ?_
        refine .z (.fieldAddr fl49_3 rfl) ?_
        refine .z (.l1 ti3 f2) ?_
        refine .zb (.eq rfl rfl) fun b6 hb6 => ?_
        refine .go 2 rfl ?_
        cases b6
        case true =>
          replace hb6 := eq_of_beq hb6.symm
          refine .z (.fieldAddr fl49_4 rfl) ?_
          refine .z (.l1 ti3 f1) ?_
          refine .z (.fieldAddr fl49_4 rfl) ?_
          refine .z (.l1 ti3 f2) ?_
          refine .zb (.eq rfl rfl) fun b7 hb7 => ?_
          refine .go 2 rfl ?_
          cases b7
          case true =>
            replace hb7 := eq_of_beq hb7.symm
            refine .z (.fieldAddr fl49_5 rfl) ?_
            refine .z (.l1 ti3 f1) ?_
            refine .z (.fieldAddr fl49_5 rfl) ?_
            refine .z (.l1 ti3 f2) ?_
            refine .zb (.eq rfl rfl) fun b8 hb8 => ?_
            refine .go 2 rfl ?_
            cases b8
            case true =>
              replace hb8 := eq_of_beq hb8.symm
              refine .z (.fieldAddr fl49_7 rfl) ?_
              refine .z (.l1 ti4 f1) ?_
              refine .z (.fieldAddr fl49_7 rfl) ?_
              refine .z (.l1 ti4 f2) ?_
              refine .zb (.eqB Tryz.underlying4 rfl rfl) fun b9 hb9 => ?_
              refine .go 2 rfl ?_
              cases b9
              case true =>
                replace hb9 := eq_of_beq hb9.symm
                refine .z (.fieldAddr fl49_6 rfl) ?_
                refine .z (.l1 ti47 f1) ?_
                refine .z (.fieldAddr fl49_6 rfl) ?_
                refine .z (.l1 ti47 f2) ?_
                have f3 := hS4.out h1 (fun _ _ h => h)
                have f4 := hS4.out h2 (fun _ _ h => h)
                refine .ac (.callF cl151 rfl (sameIt_c (w0 := w2) (a := r.items) (b := t.items)  (f3.iv (Nat.zero_le _) hS4.mod.size) (f4.iv (Nat.zero_le _) hS4.mod.size)) ?_)
                rintro _ w3 ⟨⟨b10, hb10, rfl⟩, hm3⟩
                have hS5 := hS4.ext hm3
                refine .gi 3 rfl ?_
                refine r_ret1 Tryz.func109 rfl rfl ?_
                exact Ret.mk ⟨⟨_, q109_1, rfl⟩, hS5.mod⟩
              replace hb9 := ne_of_beq_false hb9.symm
              refine .gi 8 rfl ?_
              refine r_ret1 Tryz.func109 rfl rfl ?_
              exact Ret.mk ⟨⟨_, q109_1, rfl⟩, hS4.mod⟩
            replace hb8 := ne_of_beq_false hb8.symm
            refine .gi 15 rfl ?_
            refine r_ret1 Tryz.func109 rfl rfl ?_
            exact Ret.mk ⟨⟨_, q109_1, rfl⟩, hS4.mod⟩
          replace hb7 := ne_of_beq_false hb7.symm
          refine .gi 22 rfl ?_
          refine r_ret1 Tryz.func109 rfl rfl ?_
          exact Ret.mk ⟨⟨_, q109_1, rfl⟩, hS4.mod⟩
        replace hb6 := ne_of_beq_false hb6.symm
        refine .gi 29 rfl ?_
        refine r_ret1 Tryz.func109 rfl rfl ?_
        exact Ret.mk ⟨⟨_, q109_1, rfl⟩, hS4.mod⟩
      replace hb5 := ne_of_beq_false hb5.symm
      refine .gi 36 rfl ?_
      refine r_ret1 Tryz.func109 rfl rfl ?_
      exact Ret.mk ⟨⟨_, q109_1, rfl⟩, hS4.mod⟩
    replace hb4 := ne_of_beq_false hb4.symm
    refine .gi 43 rfl ?_
    refine r_ret1 Tryz.func109 rfl rfl ?_
    exact Ret.mk ⟨⟨_, q109_1, rfl⟩, hS4.mod⟩
  replace hb3 := ne_of_beq_false hb3.symm
  refine .gi 50 rfl ?_
  refine r_ret1 Tryz.func109 rfl rfl ?_
  exact Ret.mk ⟨⟨_, q109_1, rfl⟩, hS4.mod⟩
set_option maxRecDepth 20000 in
set_option maxHeartbeats 8000000 in
theorem smsg_h {w0 : World} {za zb : Int} {m2 : MsgM} {vi vj : Value} (h1 : Sl encItm w0 (Iv 0 w0.heap.size) vi (msgIts (.hello za zb))) (h2 : Sl encItm w0 (Iv 0 w0.heap.size) vj (msgIts m2)) :
    Calls Tryz.prog 63 #[msgV 46 38 35 49 104 vi (.hello za zb), msgV 46 38 35 49 104 vj m2] w0 (Ret fun rv w1 => (∃ rb : Bool, rb = decide (.hello za zb = m2) ∧ rv = .bool rb) ∧ Ext w0 w1) := by
  have hS0 := St.start0 w0
  dsimp only [msgIts] at h1
  refine calls_enter Tryz.func63 rfl Tryz.ntmps63 rfl ?_
  refine .go 12 rfl ?_
  refine .z (.asYes nif46 rfl) ?_
  refine .go 6 rfl ?_
  refine .ac (.alloc ti46 fun w1 b1 hm1 hb1 hz1 hk1 => ?_)
  have hS2 := (hS0.newBk hm1 hb1 hk1).n1
  have f1 := hS2.bk (i := 0) rfl
  refine .ac (.store ti46 rfl rfl rfl rfl rfl f1 (Nat.le_of_ble_eq_true rfl) fun w2 hm2 hz2 hk2 => ?_)
  have hS3 := (hS2.bkK (cs' := [.int .i64 za, .int .i64 zb]) (i := 0) rfl hm2 hk2).n1
  refine .go 4 rfl ?_
  by_cases ht : tagM 46 38 35 49 104 m2 = 46
  · obtain ⟨ya, yb, rfl⟩ := tag_h (by decide : [46, 38, 35, 49, 104].Nodup) ht
    dsimp only [msgIts] at h2
    refine .z (.asYes nif46 rfl) ?_
    refine .go 3 rfl ?_
    refine .ac (.alloc ti46 fun w3 b2 hm3 hb2 hz3 hk3 => ?_)
    have hS5 := (hS3.newBk hm3 hb2 hk3).n2
    have f2 := hS5.bk (i := 1) rfl
    refine .ac (.store ti46 rfl rfl rfl rfl rfl f2 (Nat.le_of_ble_eq_true rfl) fun w4 hm4 hz4 hk4 => ?_)
    have hS6 := (hS5.bkK (cs' := [.int .i64 ya, .int .i64 yb]) (i := 1) rfl hm4 hk4).n2
    have f3 := hS6.bk (i := 0) rfl
    refine .go 6 rfl ?_
    refine .z (.loadN ti46 rfl (fun _ e => e ▸ f3.row) rfl) ?_
    have f4 := hS6.bk (i := 1) rfl
    refine .z (.loadN ti46 rfl (fun _ e => e ▸ f4.row) rfl) ?_
    refine .zb (.eqStruct (by kernel_rfl) (eqS46 ((HelloM.mk za zb)) ((HelloM.mk ya yb))) rfl rfl) fun b3 hb3 => ?_
    refine .gi 3 rfl ?_
    refine r_ret1 Tryz.func63 rfl rfl ?_
    exact Ret.mk ⟨⟨_, hel_eq (by assumption), rfl⟩, hS6.mod⟩
  · skip
    refine .z (.asNo nif46 rfl ht Tryz.zeroValue46) ?_
    refine .go 3 rfl ?_
    refine .ac (.alloc ti46 fun w3 b2 hm3 hb2 hz3 hk3 => ?_)
    have hS5 := (hS3.newBk hm3 hb2 hk3).n2
    have f2 := hS5.bk (i := 1) rfl
    refine .ac (.store ti46 rfl rfl rfl rfl rfl f2 (Nat.le_of_ble_eq_true rfl) fun w4 hm4 hz4 hk4 => ?_)
    have hS6 := (hS5.bkK (cs' := [.int .i64 0, .int .i64 0]) (i := 1) rfl hm4 hk4).n2
    refine .gi 12 rfl ?_
    refine r_ret1 Tryz.func63 rfl rfl ?_
    exact Ret.mk ⟨⟨_, (decide_eq_false (fun (e : (.hello za zb : MsgM) = m2) => ht (e ▸ rfl))).symm, rfl⟩, hS6.mod⟩
set_option maxRecDepth 20000 in
set_option maxHeartbeats 8000000 in
theorem smsg_g {w0 : World} {za zb zc : Int} {m2 : MsgM} {vi vj : Value} (h1 : Sl encItm w0 (Iv 0 w0.heap.size) vi (msgIts (.grant za zb zc))) (h2 : Sl encItm w0 (Iv 0 w0.heap.size) vj (msgIts m2)) :
    Calls Tryz.prog 63 #[msgV 46 38 35 49 104 vi (.grant za zb zc), msgV 46 38 35 49 104 vj m2] w0 (Ret fun rv w1 => (∃ rb : Bool, rb = decide (.grant za zb zc = m2) ∧ rv = .bool rb) ∧ Ext w0 w1) := by
  have hS0 := St.start0 w0
  dsimp only [msgIts] at h1
  refine calls_enter Tryz.func63 rfl Tryz.ntmps63 rfl ?_
  refine .go 12 rfl ?_
  refine .z (.asNo nif46 rfl (by decide : (38 : TypeId) ≠ 46) Tryz.zeroValue46) ?_
  refine .go 6 rfl ?_
  refine .z (.asYes nif38 rfl) ?_
  refine .go 6 rfl ?_
  refine .ac (.alloc ti38 fun w1 b1 hm1 hb1 hz1 hk1 => ?_)
  have hS2 := (hS0.newBk hm1 hb1 hk1).n1
  have f1 := hS2.bk (i := 0) rfl
  refine .ac (.store ti38 rfl rfl rfl rfl rfl f1 (Nat.le_of_ble_eq_true rfl) fun w2 hm2 hz2 hk2 => ?_)
  have hS3 := (hS2.bkK (cs' := [.int .i64 za, .int .i64 zb, .int .i64 zc]) (i := 0) rfl hm2 hk2).n1
  refine .go 4 rfl ?_
  by_cases ht : tagM 46 38 35 49 104 m2 = 38
  · obtain ⟨ya, yb, yc, rfl⟩ := tag_g (by decide : [46, 38, 35, 49, 104].Nodup) ht
    dsimp only [msgIts] at h2
    refine .z (.asYes nif38 rfl) ?_
    refine .go 3 rfl ?_
    refine .ac (.alloc ti38 fun w3 b2 hm3 hb2 hz3 hk3 => ?_)
    have hS5 := (hS3.newBk hm3 hb2 hk3).n2
    have f2 := hS5.bk (i := 1) rfl
    refine .ac (.store ti38 rfl rfl rfl rfl rfl f2 (Nat.le_of_ble_eq_true rfl) fun w4 hm4 hz4 hk4 => ?_)
    have hS6 := (hS5.bkK (cs' := [.int .i64 ya, .int .i64 yb, .int .i64 yc]) (i := 1) rfl hm4 hk4).n2
    have f3 := hS6.bk (i := 0) rfl
    refine .go 6 rfl ?_
    refine .z (.loadN ti38 rfl (fun _ e => e ▸ f3.row) rfl) ?_
    have f4 := hS6.bk (i := 1) rfl
    refine .z (.loadN ti38 rfl (fun _ e => e ▸ f4.row) rfl) ?_
    refine .zb (.eqStruct (by kernel_rfl) (eqS38 ((GrantM.mk za zb zc)) ((GrantM.mk ya yb yc))) rfl rfl) fun b3 hb3 => ?_
    refine .gi 3 rfl ?_
    refine r_ret1 Tryz.func63 rfl rfl ?_
    exact Ret.mk ⟨⟨_, gra_eq (by assumption), rfl⟩, hS6.mod⟩
  · skip
    refine .z (.asNo nif38 rfl ht Tryz.zeroValue38) ?_
    refine .go 3 rfl ?_
    refine .ac (.alloc ti38 fun w3 b2 hm3 hb2 hz3 hk3 => ?_)
    have hS5 := (hS3.newBk hm3 hb2 hk3).n2
    have f2 := hS5.bk (i := 1) rfl
    refine .ac (.store ti38 rfl rfl rfl rfl rfl f2 (Nat.le_of_ble_eq_true rfl) fun w4 hm4 hz4 hk4 => ?_)
    have hS6 := (hS5.bkK (cs' := [.int .i64 0, .int .i64 0, .int .i64 0]) (i := 1) rfl hm4 hk4).n2
    refine .gi 12 rfl ?_
    refine r_ret1 Tryz.func63 rfl rfl ?_
    exact Ret.mk ⟨⟨_, (decide_eq_false (fun (e : (.grant za zb zc : MsgM) = m2) => ht (e ▸ rfl))).symm, rfl⟩, hS6.mod⟩
set_option maxRecDepth 20000 in
set_option maxHeartbeats 8000000 in
theorem smsg_a {w0 : World} {za : AskM} {m2 : MsgM} {vi vj : Value} (h1 : Sl encItm w0 (Iv 0 w0.heap.size) vi (msgIts (.ask za))) (h2 : Sl encItm w0 (Iv 0 w0.heap.size) vj (msgIts m2)) :
    Calls Tryz.prog 63 #[msgV 46 38 35 49 104 vi (.ask za), msgV 46 38 35 49 104 vj m2] w0 (Ret fun rv w1 => (∃ rb : Bool, rb = decide (.ask za = m2) ∧ rv = .bool rb) ∧ Ext w0 w1) := by
  have hS0 := St.start0 w0
  dsimp only [msgIts] at h1
  refine calls_enter Tryz.func63 rfl Tryz.ntmps63 rfl ?_
  refine .go 12 rfl ?_
  refine .z (.asNo nif46 rfl (by decide : (35 : TypeId) ≠ 46) Tryz.zeroValue46) ?_
  refine .go 6 rfl ?_
  refine .z (.asNo nif38 rfl (by decide : (35 : TypeId) ≠ 38) Tryz.zeroValue38) ?_
  refine .go 6 rfl ?_
  refine .z (.asYes nif35 rfl) ?_
  refine .go 6 rfl ?_
  refine .ac (.alloc ti35 fun w1 b1 hm1 hb1 hz1 hk1 => ?_)
  have hS2 := (hS0.newBk hm1 hb1 hk1).n1
  have f1 := hS2.bk (i := 0) rfl
  refine .ac (.store ti35 rfl rfl rfl rfl rfl f1 (Nat.le_of_ble_eq_true rfl) fun w2 hm2 hz2 hk2 => ?_)
  have hS3 := (hS2.bkK (cs' := (encAsk za)) (i := 0) rfl hm2 hk2).n1
  refine .go 4 rfl ?_
  by_cases ht : tagM 46 38 35 49 104 m2 = 35
  · obtain ⟨ya, rfl⟩ := tag_a (by decide : [46, 38, 35, 49, 104].Nodup) ht
    dsimp only [msgIts] at h2
    refine .z (.asYes nif35 rfl) ?_
    refine .go 3 rfl ?_
    refine .ac (.alloc ti35 fun w3 b2 hm3 hb2 hz3 hk3 => ?_)
    have hS5 := (hS3.newBk hm3 hb2 hk3).n2
    have f2 := hS5.bk (i := 1) rfl
    refine .ac (.store ti35 rfl rfl rfl rfl rfl f2 (Nat.le_of_ble_eq_true rfl) fun w4 hm4 hz4 hk4 => ?_)
    have hS6 := (hS5.bkK (cs' := (encAsk ya)) (i := 1) rfl hm4 hk4).n2
    have f3 := hS6.bk (i := 0) rfl
    refine .go 6 rfl ?_
    refine .z (.loadN ti35 rfl (fun _ e => e ▸ f3.row) rfl) ?_
    have f4 := hS6.bk (i := 1) rfl
    refine .z (.loadN ti35 rfl (fun _ e => e ▸ f4.row) rfl) ?_
    refine .zb (.eqStruct (by kernel_rfl) (eqS35 za ya) rfl rfl) fun b3 hb3 => ?_
    refine .gi 3 rfl ?_
    refine r_ret1 Tryz.func63 rfl rfl ?_
    exact Ret.mk ⟨⟨_, ask_eq (by assumption), rfl⟩, hS6.mod⟩
  · skip
    refine .z (.asNo nif35 rfl ht Tryz.zeroValue35) ?_
    refine .go 3 rfl ?_
    refine .ac (.alloc ti35 fun w3 b2 hm3 hb2 hz3 hk3 => ?_)
    have hS5 := (hS3.newBk hm3 hb2 hk3).n2
    have f2 := hS5.bk (i := 1) rfl
    refine .ac (.store ti35 rfl rfl rfl rfl rfl f2 (Nat.le_of_ble_eq_true rfl) fun w4 hm4 hz4 hk4 => ?_)
    have hS6 := (hS5.bkK (cs' := [.int .i64 0, .int .i64 0, .int .i64 0, .int .i64 0, .int .i64 0, strV [], .int .i64 0, .int .i64 0, .bool false, .int .i64 0, strV []]) (i := 1) rfl hm4 hk4).n2
    refine .gi 12 rfl ?_
    refine r_ret1 Tryz.func63 rfl rfl ?_
    exact Ret.mk ⟨⟨_, (decide_eq_false (fun (e : (.ask za : MsgM) = m2) => ht (e ▸ rfl))).symm, rfl⟩, hS6.mod⟩
set_option maxRecDepth 20000 in
set_option maxHeartbeats 8000000 in
theorem smsg_r {w0 : World} {r : ReplyM} {m2 : MsgM} {vi vj : Value} (h1 : Sl encItm w0 (Iv 0 w0.heap.size) vi (msgIts (.reply r))) (h2 : Sl encItm w0 (Iv 0 w0.heap.size) vj (msgIts m2)) :
    Calls Tryz.prog 63 #[msgV 46 38 35 49 104 vi (.reply r), msgV 46 38 35 49 104 vj m2] w0 (Ret fun rv w1 => (∃ rb : Bool, rb = decide (.reply r = m2) ∧ rv = .bool rb) ∧ Ext w0 w1) := by
  have hS0 := St.start0 w0
  dsimp only [msgIts] at h1
  obtain ⟨ad1, cp1, rfl⟩ := h1.shape
  refine calls_enter Tryz.func63 rfl Tryz.ntmps63 rfl ?_
  refine .go 12 rfl ?_
  refine .z (.asNo nif46 rfl (by decide : (49 : TypeId) ≠ 46) Tryz.zeroValue46) ?_
  refine .go 6 rfl ?_
  refine .z (.asNo nif38 rfl (by decide : (49 : TypeId) ≠ 38) Tryz.zeroValue38) ?_
  refine .go 6 rfl ?_
  refine .z (.asNo nif35 rfl (by decide : (49 : TypeId) ≠ 35) Tryz.zeroValue35) ?_
  refine .go 6 rfl ?_
  refine .z (.asYes nif49 rfl) ?_
  refine .go 6 rfl ?_
  refine .ac (.alloc ti49 fun w1 b1 hm1 hb1 hz1 hk1 => ?_)
  have hS2 := (hS0.newBk hm1 hb1 hk1).n1
  have f1 := hS2.bk (i := 0) rfl
  refine .ac (.store ti49 rfl rfl rfl rfl rfl f1 (Nat.le_of_ble_eq_true rfl) fun w2 hm2 hz2 hk2 => ?_)
  have hS3 := (hS2.bkK (cs' := [.int .i64 r.slot, .int .i64 r.query, .int .i64 r.shard, .int .i64 r.seq, .int .i64 r.worker, .int .i64 r.epoch, (.slice ad1 r.items.length cp1), .bool r.fin]) (i := 0) rfl hm2 hk2).n1
  refine .go 4 rfl ?_
  by_cases ht : tagM 46 38 35 49 104 m2 = 49
  · obtain ⟨t, rfl⟩ := tag_r (by decide : [46, 38, 35, 49, 104].Nodup) ht
    dsimp only [msgIts] at h2
    obtain ⟨ad2, cp2, rfl⟩ := h2.shape
    refine .z (.asYes nif49 rfl) ?_
    refine .go 3 rfl ?_
    refine .ac (.alloc ti49 fun w3 b2 hm3 hb2 hz3 hk3 => ?_)
    have hS5 := (hS3.newBk hm3 hb2 hk3).n2
    have f2 := hS5.bk (i := 1) rfl
    refine .ac (.store ti49 rfl rfl rfl rfl rfl f2 (Nat.le_of_ble_eq_true rfl) fun w4 hm4 hz4 hk4 => ?_)
    have hS6 := (hS5.bkK (cs' := [.int .i64 t.slot, .int .i64 t.query, .int .i64 t.shard, .int .i64 t.seq, .int .i64 t.worker, .int .i64 t.epoch, (.slice ad2 t.items.length cp2), .bool t.fin]) (i := 1) rfl hm4 hk4).n2
    have f3 := hS6.bk (i := 0) rfl
    refine .go 6 rfl ?_
    refine .z (.loadN ti49 rfl (fun _ e => e ▸ f3.row) rfl) ?_
    have f4 := hS6.bk (i := 1) rfl
    refine .z (.loadN ti49 rfl (fun _ e => e ▸ f4.row) rfl) ?_
    have f5 := hS6.out h1 (fun _ _ h => h)
    have f6 := hS6.out h2 (fun _ _ h => h)
    refine .ac (.callF cl109 rfl (srep_c (w0 := w4) (r := r) (t := t) (f5.iv (Nat.zero_le _) hS6.mod.size) (f6.iv (Nat.zero_le _) hS6.mod.size)) ?_)
    rintro _ w5 ⟨⟨b3, hb3, rfl⟩, hm5⟩
    have hS7 := hS6.ext hm5
    refine .gi 3 rfl ?_
    refine r_ret1 Tryz.func63 rfl rfl ?_
    exact Ret.mk ⟨⟨_, rep_eq (by assumption), rfl⟩, hS7.mod⟩
  · skip
    refine .z (.asNo nif49 rfl ht Tryz.zeroValue49) ?_
    refine .go 3 rfl ?_
    refine .ac (.alloc ti49 fun w3 b2 hm3 hb2 hz3 hk3 => ?_)
    have hS5 := (hS3.newBk hm3 hb2 hk3).n2
    have f2 := hS5.bk (i := 1) rfl
    refine .ac (.store ti49 rfl rfl rfl rfl rfl f2 (Nat.le_of_ble_eq_true rfl) fun w4 hm4 hz4 hk4 => ?_)
    have hS6 := (hS5.bkK (cs' := [.int .i64 0, .int .i64 0, .int .i64 0, .int .i64 0, .int .i64 0, .int .i64 0, .slice none 0 0, .bool false]) (i := 1) rfl hm4 hk4).n2
    refine .gi 12 rfl ?_
    refine r_ret1 Tryz.func63 rfl rfl ?_
    exact Ret.mk ⟨⟨_, (decide_eq_false (fun (e : (.reply r : MsgM) = m2) => ht (e ▸ rfl))).symm, rfl⟩, hS6.mod⟩
set_option maxRecDepth 20000 in
set_option maxHeartbeats 8000000 in
theorem smsg_s {w0 : World} {za zb : Int} {m2 : MsgM} {vi vj : Value} (h1 : Sl encItm w0 (Iv 0 w0.heap.size) vi (msgIts (.stop za zb))) (h2 : Sl encItm w0 (Iv 0 w0.heap.size) vj (msgIts m2)) :
    Calls Tryz.prog 63 #[msgV 46 38 35 49 104 vi (.stop za zb), msgV 46 38 35 49 104 vj m2] w0 (Ret fun rv w1 => (∃ rb : Bool, rb = decide (.stop za zb = m2) ∧ rv = .bool rb) ∧ Ext w0 w1) := by
  have hS0 := St.start0 w0
  dsimp only [msgIts] at h1
  refine calls_enter Tryz.func63 rfl Tryz.ntmps63 rfl ?_
  refine .go 12 rfl ?_
  refine .z (.asNo nif46 rfl (by decide : (104 : TypeId) ≠ 46) Tryz.zeroValue46) ?_
  refine .go 6 rfl ?_
  refine .z (.asNo nif38 rfl (by decide : (104 : TypeId) ≠ 38) Tryz.zeroValue38) ?_
  refine .go 6 rfl ?_
  refine .z (.asNo nif35 rfl (by decide : (104 : TypeId) ≠ 35) Tryz.zeroValue35) ?_
  refine .go 6 rfl ?_
  refine .z (.asNo nif49 rfl (by decide : (104 : TypeId) ≠ 49) Tryz.zeroValue49) ?_
  refine .go 6 rfl ?_
  refine .z (.asYes nif104 rfl) ?_
  refine .go 6 rfl ?_
  refine .ac (.alloc ti104 fun w1 b1 hm1 hb1 hz1 hk1 => ?_)
  have hS2 := (hS0.newBk hm1 hb1 hk1).n1
  have f1 := hS2.bk (i := 0) rfl
  refine .ac (.store ti104 rfl rfl rfl rfl rfl f1 (Nat.le_of_ble_eq_true rfl) fun w2 hm2 hz2 hk2 => ?_)
  have hS3 := (hS2.bkK (cs' := [.int .i64 za, .int .i64 zb]) (i := 0) rfl hm2 hk2).n1
  refine .go 4 rfl ?_
  by_cases ht : tagM 46 38 35 49 104 m2 = 104
  · obtain ⟨ya, yb, rfl⟩ := tag_s (by decide : [46, 38, 35, 49, 104].Nodup) ht
    dsimp only [msgIts] at h2
    refine .z (.asYes nif104 rfl) ?_
    refine .go 3 rfl ?_
    refine .ac (.alloc ti104 fun w3 b2 hm3 hb2 hz3 hk3 => ?_)
    have hS5 := (hS3.newBk hm3 hb2 hk3).n2
    have f2 := hS5.bk (i := 1) rfl
    refine .ac (.store ti104 rfl rfl rfl rfl rfl f2 (Nat.le_of_ble_eq_true rfl) fun w4 hm4 hz4 hk4 => ?_)
    have hS6 := (hS5.bkK (cs' := [.int .i64 ya, .int .i64 yb]) (i := 1) rfl hm4 hk4).n2
    have f3 := hS6.bk (i := 0) rfl
    refine .go 6 rfl ?_
    refine .z (.loadN ti104 rfl (fun _ e => e ▸ f3.row) rfl) ?_
    have f4 := hS6.bk (i := 1) rfl
    refine .z (.loadN ti104 rfl (fun _ e => e ▸ f4.row) rfl) ?_
    refine .zb (.eqStruct (by kernel_rfl) (eqS104 ((HelloM.mk za zb)) ((HelloM.mk ya yb))) rfl rfl) fun b3 hb3 => ?_
    refine .gi 3 rfl ?_
    refine r_ret1 Tryz.func63 rfl rfl ?_
    exact Ret.mk ⟨⟨_, stp_eq (by assumption), rfl⟩, hS6.mod⟩
  · skip
    refine .z (.asNo nif104 rfl ht Tryz.zeroValue104) ?_
    refine .go 3 rfl ?_
    refine .ac (.alloc ti104 fun w3 b2 hm3 hb2 hz3 hk3 => ?_)
    have hS5 := (hS3.newBk hm3 hb2 hk3).n2
    have f2 := hS5.bk (i := 1) rfl
    refine .ac (.store ti104 rfl rfl rfl rfl rfl f2 (Nat.le_of_ble_eq_true rfl) fun w4 hm4 hz4 hk4 => ?_)
    have hS6 := (hS5.bkK (cs' := [.int .i64 0, .int .i64 0]) (i := 1) rfl hm4 hk4).n2
    refine .gi 12 rfl ?_
    refine r_ret1 Tryz.func63 rfl rfl ?_
    exact Ret.mk ⟨⟨_, (decide_eq_false (fun (e : (.stop za zb : MsgM) = m2) => ht (e ▸ rfl))).symm, rfl⟩, hS6.mod⟩
theorem smsg_c {w0 : World} {m1 m2 : MsgM} {vi vj u1 u2 : Value} (hu1 : u1 = msgV 46 38 35 49 104 vi m1) (hu2 : u2 = msgV 46 38 35 49 104 vj m2) (h1 : Sl encItm w0 (Iv 0 w0.heap.size) vi (msgIts m1)) (h2 : Sl encItm w0 (Iv 0 w0.heap.size) vj (msgIts m2)) :
    Calls Tryz.prog 63 #[u1, u2] w0 (Ret fun rv w1 => (∃ rb : Bool, rb = decide (m1 = m2) ∧ rv = .bool rb) ∧ Ext w0 w1) := by
  subst hu1; subst hu2
  cases m1 with
  | hello a b => exact smsg_h h1 h2
  | grant a b c => exact smsg_g h1 h2
  | ask a => exact smsg_a h1 h2
  | reply r => exact smsg_r h1 h2
  | stop a b => exact smsg_s h1 h2
theorem q30_1 {p : Prop} (h : p := by first | (have e := Ml.same_not hmA hmB (fun e => (of_decide_eq_false (by assumption : decide (mA.2 = mB.2) = false)) (congrArg (·.2) e)); simp [e]) | (have e := Ml.same_not hmA hmB (fun e => (by omega : ¬ mA.1 = mB.1) (congrArg (·.1) e)); simp [e]) | (have e := Ml.same_all hi (by omega) (by omega); simp [e]) | (have e : ms ≠ ns := (fun e => absurd (congrArg List.length e) (by omega)); simp [e])) : p := h
set_option maxRecDepth 20000 in
set_option maxHeartbeats 8000000 in
theorem slet_c {w0 : World} {v u : Value} {xs ys : List (Int × Value)} {ms ns : List (Int × MsgM)} (h1 : Sl encLet w0 (Iv 0 w0.heap.size) v xs) (ha : All2 (LetIs 46 38 35 49 104 w0) xs ms) (h2 : Sl encLet w0 (Iv 0 w0.heap.size) u ys) (hb : All2 (LetIs 46 38 35 49 104 w0) ys ns) :
    Calls Tryz.prog 30 #[v, u] w0 (Ret fun rv w1 => (∃ rb : Bool, rb = decide (ms = ns) ∧ rv = .bool rb) ∧ Ext w0 w1) := by
  have hS0 := St.start0 w0
  have hle1 := h1.le
  have hle2 := h2.le
  have hla : xs.length = ms.length := (All2.get ha).1
  have hlb : ys.length = ns.length := (All2.get hb).1
  refine calls_enter Tryz.func30 rfl Tryz.ntmps30 rfl ?_
  refine .go 8 rfl ?_
  refine .z (.lenSl Tryz.underlying41 (h1) rfl) ?_
  refine .go 1 rfl ?_
  refine .z (.lenSl Tryz.underlying41 (h2) rfl) ?_
  refine .zb (.ne rfl rfl) fun b1 hb1 => ?_
  refine .gi 1 rfl ?_
  cases b1
  case true =>
    replace hb1 := bne_iff_ne.1 hb1.symm
    refine .gi 5 rfl ?_
    refine r_ret1 Tryz.func30 rfl rfl ?_
    exact Ret.mk ⟨⟨_, q30_1, rfl⟩, hS0.mod⟩
  replace hb1 := bne_eq_false_iff_eq.1 hb1.symm
  refine .gi 8 rfl ?_
  refine r_loop (I := fun m E W => ∃ (k : Nat), E = [(0, v), (1, u), (5, .int .i64 (((k : Nat) : Int)))] ∧ m = xs.length - k ∧ St (fun _ => False) (fun _ => False) w0 W [] ∧ (ms.take k = ns.take k)) ?_ ?_
  · refine ⟨_, _, ⟨(0 : Nat), rfl, rfl, hS0, (by rfl)⟩, ⟨rfl, rfl, rfl, trivial⟩⟩
  · rintro _ _ w1 ⟨k, rfl, rfl, hS1, hi⟩ ih1
    have f1 := hS1.out h1 (fun _ _ h => h)
    refine .go 5 rfl ?_
    refine .z (.lenSl Tryz.underlying41 (f1) rfl) ?_
    refine .zb (.lt rfl rfl) fun b2 hb2 => ?_
    refine .gi 1 rfl ?_
    cases b2
    case true =>
      replace hb2 := dt hb2
      refine .gi 5 rfl ?_
      refine r_draw1 (fun i => Nat.beq i 22) 25 (fun w' => Mod (Mg 0) w1 w') mixed (by kernel_rfl) fun w2 hm1 => ?_
      have hS2 := hS1.ext hm1
      have hCw2 : Mod (Mg 0) w1 w2 := Mod.ofExt hm1
      refine ⟨hCw2, ?_⟩
      rw [show List.range' 0 (Array.size _) = [0, 1, 2, 3, 4, 5, 6, 7, 8, 9, 10, 11, 12, 13, 14, 15, 16, 17, 18, 19, 20, 21, 22, 23, 24] from rfl]
      obtain ⟨x1, b3, o1, hx1, hr1, hl1, hw1⟩ := Sl.atF (P := Tryz.prog) f1 Tryz.underlying41 ti44 encLet_len (k := .i64) (n := ((k : Nat) : Int)) (k) (by omega) ao
      refine .gd 2 rfl ?_
      refine .z rfl (.indexAddr rfl rfl hr1) ?_
      refine .z rfl (.fieldAddr fl44_0 rfl) ?_
      have hr2 := hw1.sub 0 1 (Nat.le_of_ble_eq_true rfl)
      refine .z rfl (.load1 ti3 rfl (fun _ hc => hr2.keepG hc (Nat.succ_ne_zero _))) ?_
      have f2 := hS1.out h2 (fun _ _ h => h)
      obtain ⟨x2, b4, o2, hx2, hr3, hl2, hw2⟩ := Sl.atF (P := Tryz.prog) f2 Tryz.underlying41 ti44 encLet_len (k := .i64) (n := ((k : Nat) : Int)) (k) (by omega) ao
      refine .gd 2 rfl ?_
      refine .z rfl (.indexAddr rfl rfl hr3) ?_
      refine .z rfl (.fieldAddr fl44_0 rfl) ?_
      have hr4 := hw2.sub 0 1 (Nat.le_of_ble_eq_true rfl)
      refine .z rfl (.load1 ti3 rfl (fun _ hc => hr4.keepG hc (Nat.succ_ne_zero _))) ?_
      obtain ⟨mA, hmA, heA, viA, hvA, hsA⟩ := all2_at ha hx1
      obtain ⟨mB, hmB, heB, viB, hvB, hsB⟩ := all2_at hb hx2
      refine .zb rfl (.ne rfl rfl) fun b5 hb3 => ?_
      refine .gd 1 rfl ?_
      cases b5
      case true =>
        replace hb3 := bne_iff_ne.1 hb3.symm
        refine .gd 13 rfl ?_
        refine .nil ?_
        refine .gi 5 rfl ?_
        refine r_ret1 Tryz.func30 rfl rfl ?_
        exact Ret.mk ⟨⟨_, q30_1, rfl⟩, hS2.mod⟩
      replace hb3 := bne_eq_false_iff_eq.1 hb3.symm
      obtain ⟨x3, b6, o3, hx3, hr5, hl3, hw3⟩ := Sl.atF (P := Tryz.prog) f1 Tryz.underlying41 ti44 encLet_len (k := .i64) (n := ((k : Nat) : Int)) (k) (by omega) ao
      obtain rfl : x1 = x3 := Option.some.inj (hx1.symm.trans hx3)
      refine .gd 2 rfl ?_
      refine .z rfl (.indexAddr rfl rfl hr5) ?_
      refine .z rfl (.fieldAddr fl44_1 rfl) ?_
      have hr6 := hw3.sub 1 1 (Nat.le_of_ble_eq_true rfl)
      refine .z rfl (.load1 ti20 rfl (fun _ hc => hr6.keepG hc (Nat.succ_ne_zero _))) ?_
      obtain ⟨x4, b7, o4, hx4, hr7, hl4, hw4⟩ := Sl.atF (P := Tryz.prog) f2 Tryz.underlying41 ti44 encLet_len (k := .i64) (n := ((k : Nat) : Int)) (k) (by omega) ao
      obtain rfl : x2 = x4 := Option.some.inj (hx2.symm.trans hx4)
      refine .gd 2 rfl ?_
      refine .z rfl (.indexAddr rfl rfl hr7) ?_
      refine .z rfl (.fieldAddr fl44_1 rfl) ?_
      have hr8 := hw4.sub 1 1 (Nat.le_of_ble_eq_true rfl)
      refine .z rfl (.load1 ti20 rfl (fun _ hc => hr8.keepG hc (Nat.succ_ne_zero _))) ?_
      refine .ac rfl (.callF cl63 rfl (smsg_c (w0 := w2) hvA hvB ((hsA.keep hS2.mod fun _ _ h => h).iv (Nat.zero_le _) hS2.mod.size) ((hsB.keep hS2.mod fun _ _ h => h).iv (Nat.zero_le _) hS2.mod.size)) ?_)
      rintro _ w3 ⟨⟨b8, hb4, rfl⟩, hm2⟩
      have hS3 := hS2.ext hm2
      have hCw3 := hCw2.ext hm2
      refine ⟨.inr hCw3, ?_⟩
      cases b8
      case true =>
        replace hb4 := hb4.symm
        refine .z rfl (.not rfl) ?_
        refine .gd 1 rfl ?_
        refine .nil ?_
        refine .go 5 rfl ?_
        refine .z (.addI (((k + 1 : Nat) : Int)) rfl rfl (by omega)) ?_
        refine .gi 2 rfl ?_
        exact (ih1 _ _ _ ⟨(k + 1 : Nat), rfl, rfl, hS3, (by first | exact Ml.same_take hi hmA hmB (Prod.ext (by omega) (of_decide_eq_true (by assumption : decide (mA.2 = mB.2) = true))) | (exfalso; omega))⟩ (by omega)).sub ⟨rfl, rfl, rfl, trivial⟩
      replace hb4 := hb4.symm
      refine .z rfl (.not rfl) ?_
      refine .gd 1 rfl ?_
      refine .nil ?_
      refine .gi 5 rfl ?_
      refine r_ret1 Tryz.func30 rfl rfl ?_
      exact Ret.mk ⟨⟨_, q30_1, rfl⟩, hS3.mod⟩
    replace hb2 := df hb2
    refine .gi 6 rfl ?_
    refine r_ret1 Tryz.func30 rfl rfl ?_
    exact Ret.mk ⟨⟨_, q30_1, rfl⟩, hS1.mod⟩
end Go.Proofs
namespace Go.Proofs
open Go.Ik Go.Ml
set_option maxRecDepth 20000 in
set_option maxHeartbeats 4000000 in
theorem small_c {w0 : World} :
    Calls Tryz.prog 17 #[] w0 (Ret fun rv w1 => ∃ vw vc, rv = .agg #[vw, vc, .int .i64 2, .int .i64 1, .int .i64 1, .int .i64 1, .int .i64 1, .int .i64 1, .int .i64 1, .int .i64 1, .int .i64 0, .int .i64 8] ∧ Sl encS w1 (Iv w0.heap.size w1.heap.size) vw smallC.words ∧ Sl encKey w1 (Iv w0.heap.size w1.heap.size) vc smallC.cuts ∧ Ext w0 w1) := by
  have hS0 := St.start0 w0
  refine calls_enter Tryz.func17 rfl Tryz.ntmps17 rfl ?_
  refine .go 2 rfl ?_
  refine .ac (.alloc ti26 fun w1 b1 hm1 hb1 hz1 hk1 => ?_)
  have hS2 := (hS0.newBk hm1 hb1 hk1).n1
  refine .go 3 rfl ?_
  refine .ac (.buildSlice [strV (([97] : Str)), strV (([97, 98, 99] : Str)), strV (([98] : Str))] Tryz.underlying23 ti9 rfl rfl rfl (by decide) fun w2 b2 hm2 hb2 hz2 hk2 => ?_)
  have hl1 := Sl.of_blk (enc := encS) hk2 ([([97] : Str), ([97, 98, 99] : Str), ([98] : Str)] : List Str) 3 rfl rfl (by unfold maxLen; omega)
  have hS4 := (hS2.newSlB hm2 hb2 hz2 hl1).n2
  refine .z (.build (vs := #[(0, (.int .i64 2 : Value))]) (v := .agg #[.int .i64 2, strV []]) rfl (fun _ => by kernel_rfl)) ?_
  refine .ac (.buildSlice [(.agg #[.int .i64 2, strV []] : Value)] Tryz.underlying24 ti110 rfl rfl rfl (by decide) fun w3 b3 hm3 hb3 hz3 hk3 => ?_)
  have hl2 := Sl.of_blk (enc := encKey) hk3 ([(Key.mk 2 [])] : List Key) 1 rfl rfl (by unfold maxLen; omega)
  have hS6 := (hS4.newSlB hm3 hb3 hz3 hl2).n3
  refine .z (.build (vs := #[(0, (.slice (some ⟨b2, 0, none⟩) 3 3)), (1, (.slice (some ⟨b3, 0, none⟩) 1 1)), (2, (.int .i64 2 : Value)), (3, (.int .i64 1 : Value)), (4, (.int .i64 1 : Value)), (5, (.int .i64 1 : Value)), (6, (.int .i64 1 : Value)), (7, (.int .i64 1 : Value)), (8, (.int .i64 1 : Value)), (9, (.int .i64 1 : Value)), (11, (.int .i64 8 : Value))]) (v := .agg #[(.slice (some ⟨b2, 0, none⟩) 3 3), (.slice (some ⟨b3, 0, none⟩) 1 1), .int .i64 2, .int .i64 1, .int .i64 1, .int .i64 1, .int .i64 1, .int .i64 1, .int .i64 1, .int .i64 1, .int .i64 0, .int .i64 8]) rfl (fun _ => by kernel_rfl)) ?_
  have f1 := hS6.bk (i := 0) rfl
  refine .ac (.store ti26 rfl rfl rfl rfl rfl f1 (Nat.le_of_ble_eq_true rfl) fun w4 hm4 hz4 hk4 => ?_)
  have hS7 := (hS6.bkK (cs' := [(.slice (some ⟨b2, 0, none⟩) 3 3), (.slice (some ⟨b3, 0, none⟩) 1 1), .int .i64 2, .int .i64 1, .int .i64 1, .int .i64 1, .int .i64 1, .int .i64 1, .int .i64 1, .int .i64 1, .int .i64 0, .int .i64 8]) (i := 0) rfl hm4 hk4).n3
  have f2 := hS7.bk (i := 0) rfl
  refine .gi 1 rfl ?_
  refine r_retC1 Tryz.func17 rfl rfl ti26 f2.row rfl ?_
  have hs1 := hS7.slOut (i := 1) (k := 0) rfl rfl
  have hs2 := hS7.slOut (i := 2) (k := 0) rfl rfl
  exact Ret.mk ⟨_, _, rfl, hs1, hs2, hS7.mod⟩
theorem q11_1 {p : Prop} (h : p := by first | assumption | (unfold I64; omega) | (unfold I64; decide)) : p := h
set_option maxRecDepth 20000 in
set_option maxHeartbeats 8000000 in
theorem awake_c {w0 : World}    :
    Calls Tryz.prog 11 #[] w0 (Ret fun rv w1 => (∃ rb : Bool, rb = true ∧ rv = .bool rb) ∧ Ext w0 w1) := by
  have hS0 := St.start0 w0
  refine calls_enter Tryz.func11 rfl Tryz.ntmps11 rfl ?_
  refine .go 6 rfl ?_
  refine .ac (.callF cl17 rfl (small_c (w0 := w0)) ?_)
  rintro _ w1 ⟨vw1, vc1, rfl, hw_1, hc_1, hm1⟩
  replace hw_1 := hw_1.iv (Nat.zero_le _) (Nat.le_refl _)
  replace hc_1 := hc_1.iv (Nat.zero_le _) (Nat.le_refl _)
  have hS1 := hS0.ext hm1
  refine .ac (.callF cl12 rfl (wnew_c (w0 := w1) (c := smallC) (1) hw_1 hc_1 (by first | assumption | exact Ml.Cfg.ok_of (by decide +kernel)) q11_1 (by first | assumption | omega | decide)) ?_)
  rintro _ w2 ⟨hm2, hd1⟩
  rcases hd1 with ⟨hmd1, rfl⟩ | ⟨hmd1, bw1, F1, rfl, hA1, hF1⟩
  · exact absurd (hmd1.symm.trans smallC_may) (by decide)
  · skip
    have hS3 : St (fun _ => False) (fun _ => False) w0 w2 [wkR 3 95 164 123 5 176 172 bw1 1 ((keepsM smallC 1)) ((newW smallC 1))] := hS1.new hm2 hA1 (fun b hb => ⟨(hF1 b hb).2, (hF1 b hb).1⟩)
    refine .go 10 rfl ?_
    refine .zb (.ne rfl rfl) fun b1 hb1 => ?_
    obtain rfl : b1 = false := hb1.trans (by rfl)
    refine .go 2 rfl ?_
    refine .z (.eqNil Tryz.underlying27 rfl rfl) ?_
    obtain ⟨Fy1, hAy1, hFy1, hky1⟩ := hS3.act (i := 0) rfl
    refine .go 7 rfl ?_
    refine .ac (.callF cl16 rfl (wwake_c (w0 := w2) hAy1 (fun b hb => (hFy1 b hb).2) (keeps_ok _ _) aw1_ok (by omega)) ?_)
    rintro lv1 w3 ⟨hm3, F2, hA2, hF2⟩
    replace hA2 := wkl_eq aw_e1 hA2
    have hS4 : St (fun _ => False) (fun _ => False) w0 w3 [boxR [wkR 3 95 164 123 5 176 172 bw1 1 ((keepsM smallC 1)) aw1, letR 46 38 35 49 104 44 33 lv1 ([.hello 1 1])]] := hky1 _ _ _ hm3 hA2 hF2
    clear hky1 hA2
    have hS5 := (hS4.un 0 rfl [] (by rfl) (by decide)).n2
    refine .go 5 rfl ?_
    refine .z (.build (vs := #[(0, (.int .i64 1 : Value)), (1, (.int .i64 1 : Value)), (2, (.int .i64 1 : Value))]) (v := .agg #[.int .i64 1, .int .i64 1, .int .i64 1]) rfl (fun _ => by kernel_rfl)) ?_
    refine .z (.mkIf nif38 rfl) ?_
    obtain ⟨Fy2, hAy2, hFy2, hky2⟩ := hS5.act (i := 0) rfl
    refine .ac (.callF cl14 rfl (wtake_g (w0 := w3) hAy2 (fun b hb => (hFy2 b hb).2) (keeps_ok _ _) aw1_ok (by omega) ⟨q11_1, q11_1, q11_1⟩) ?_)
    rintro _ w4 ⟨rfl, hm4, F3, hA3, hF3⟩
    have hS6 : St (fun _ => False) (fun _ => False) w0 w4 [wkR 3 95 164 123 5 176 172 bw1 1 ((keepsM smallC 1)) ((takeW 1 ((keepsM smallC 1)) aw1 (.grant 1 1 1))), letR 46 38 35 49 104 44 33 lv1 ([.hello 1 1])] := hky2 _ _ _ hm4 hA3 hF3
    clear hky2 hA3
    have hS7 := (hS6.ty (wkR 3 95 164 123 5 176 172 bw1 1 ((keepsM smallC 1)) aw2) 0 rfl (fun F_ h_ => wk_eq aw_e2 h_)).n2
    refine .go 4 rfl ?_
    refine .z (.build (vs := #[(4, (.int .i64 1 : Value)), (5, strV (([97] : Str))), (6, (.int .i64 1 : Value)), (7, (.int .i64 2 : Value)), (8, (.bool true : Value))]) (v := .agg #[.int .i64 0, .int .i64 0, .int .i64 0, .int .i64 0, .int .i64 1, strV (([97] : Str)), .int .i64 1, .int .i64 2, .bool true, .int .i64 0, strV []]) rfl (fun _ => by kernel_rfl)) ?_
    refine .z (.mkIf nif35 rfl) ?_
    obtain ⟨Fy3, hAy3, hFy3, hky3⟩ := hS7.act (i := 0) rfl
    refine .ac (.callF cl14 rfl (wtake_a (w0 := w4) (a := awA) hAy3 (fun b hb => (hFy3 b hb).2) (keeps_ok _ _) aw2_ok (by omega) ⟨awA_ok, by decide, by decide⟩) ?_)
    rintro _ w5 ⟨rfl, hm5, F4, hA4, hF4⟩
    have hS8 : St (fun _ => False) (fun _ => False) w0 w5 [wkR 3 95 164 123 5 176 172 bw1 1 ((keepsM smallC 1)) ((takeW 1 ((keepsM smallC 1)) aw2 (.ask awA))), letR 46 38 35 49 104 44 33 lv1 ([.hello 1 1])] := hky3 _ _ _ hm5 hA4 hF4
    clear hky3 hA4
    have hS9 := (hS8.ty (wkR 3 95 164 123 5 176 172 bw1 1 ((keepsM smallC 1)) aw3) 0 rfl (fun F_ h_ => wk_eq aw_e3 h_)).n2
    obtain ⟨Fy4, hAy4, hFy4, hky4⟩ := hS9.act (i := 0) rfl
    refine .go 4 rfl ?_
    refine .ac (.callF cl16 rfl (wwake_c (w0 := w5) hAy4 (fun b hb => (hFy4 b hb).2) (keeps_ok _ _) aw3_ok (by omega)) ?_)
    rintro lv2 w6 ⟨hm6, F5, hA5, hF5⟩
    replace hA5 := wkl_eq aw_e4 hA5
    have hS10 : St (fun _ => False) (fun _ => False) w0 w6 [boxR [wkR 3 95 164 123 5 176 172 bw1 1 ((keepsM smallC 1)) aw2, letR 46 38 35 49 104 44 33 lv2 ([.reply awR])], letR 46 38 35 49 104 44 33 lv1 ([.hello 1 1])] := hky4 _ _ _ hm6 hA5 hF5
    clear hky4 hA5
    have hS11 := (hS10.un 0 rfl [1] (by rfl) (by decide)).n3
    refine .go 5 rfl ?_
    refine .z (.build (vs := #[(0, (.int .i64 1 : Value)), (1, (.int .i64 1 : Value))]) (v := .agg #[.int .i64 1, .int .i64 1]) rfl (fun _ => by kernel_rfl)) ?_
    refine .z (.mkIf nif46 rfl) ?_
    refine .z (.build (vs := #[(1, (.iface 46 (.agg #[.int .i64 1, .int .i64 1]) : Value))]) (v := .agg #[.int .i64 0, .iface 46 (.agg #[.int .i64 1, .int .i64 1])]) rfl (fun _ => by kernel_rfl)) ?_
    refine .ac (.buildSlice [(.agg #[.int .i64 0, .iface 46 (.agg #[.int .i64 1, .int .i64 1])] : Value)] Tryz.underlying41 ti44 rfl rfl rfl (by decide) fun w7 b2 hm7 hb2 hz1 hk1 => ?_)
    have hl1 := Acc.of_blk (enc := encLet) hk1 ([((0 : Int), (.iface 46 (.agg #[.int .i64 1, .int .i64 1]) : Value))] : List (Int × Value)) 1 rfl encLet_len rfl (by unfold maxLen; omega)
    have hS13 := (hS11.newAcc hm7 hl1 (.inr (by omega))).n4
    obtain ⟨xs1, hxs1, hxa1⟩ := let_in (hS13.get (i := 0) rfl).choose_spec.1
    obtain ⟨g1, f3, hl2, k1⟩ := hS13.accK (i := 3) rfl
    refine .ac (.callF cl30 rfl (slet_c (w0 := w7) (ms := (to0 ([.hello 1 1]))) (ns := [((0 : Int), (.hello 1 1 : MsgM))]) hxs1 hxa1 (f3.sl.iv (Nat.zero_le _) f3.lt) (All2.cons ⟨rfl, (.slice none 0 0), rfl, Sl.nil⟩ All2.nil)) ?_)
    rintro _ w8 ⟨⟨b3, hb3, rfl⟩, hm8⟩
    have hS14 := hS13.ext hm8
    obtain rfl : b3 = true := hb3.trans (by exact decide_eq_true rfl)
    refine .go 2 rfl ?_
    refine .z (.build (vs := #[(1, strV (([97] : Str)))]) (v := .agg #[.int .i64 0, strV (([97] : Str))]) rfl (fun _ => by kernel_rfl)) ?_
    refine .z (.build (vs := #[(0, (.int .i64 1 : Value)), (1, strV (([98] : Str)))]) (v := .agg #[.int .i64 1, strV (([98] : Str))]) rfl (fun _ => by kernel_rfl)) ?_
    refine .ac (.buildSlice [(.agg #[.int .i64 0, strV (([97] : Str))] : Value), (.agg #[.int .i64 1, strV (([98] : Str))] : Value)] Tryz.underlying47 ti33 rfl rfl rfl (by decide) fun w9 b4 hm9 hb4 hz2 hk2 => ?_)
    have hl3 := Sl.of_blk (enc := encItm) hk2 ([(Itm.mk 0 (([97] : Str))), (Itm.mk 1 (([98] : Str)))] : List Itm) 2 rfl rfl (by unfold maxLen; omega)
    have hS16 := (hS14.newSlB hm9 hb4 hz2 hl3).n5
    refine .z (.build (vs := #[(4, (.int .i64 1 : Value)), (5, (.int .i64 1 : Value)), (6, (.slice (some ⟨b4, 0, none⟩) 2 2)), (7, (.bool true : Value))]) (v := .agg #[.int .i64 0, .int .i64 0, .int .i64 0, .int .i64 0, .int .i64 1, .int .i64 1, (.slice (some ⟨b4, 0, none⟩) 2 2), .bool true]) rfl (fun _ => by kernel_rfl)) ?_
    refine .z (.mkIf nif49 rfl) ?_
    refine .z (.build (vs := #[(1, (.iface 49 (.agg #[.int .i64 0, .int .i64 0, .int .i64 0, .int .i64 0, .int .i64 1, .int .i64 1, (.slice (some ⟨b4, 0, none⟩) 2 2), .bool true]) : Value))]) (v := .agg #[.int .i64 0, .iface 49 (.agg #[.int .i64 0, .int .i64 0, .int .i64 0, .int .i64 0, .int .i64 1, .int .i64 1, (.slice (some ⟨b4, 0, none⟩) 2 2), .bool true])]) rfl (fun _ => by kernel_rfl)) ?_
    refine .ac (.buildSlice [(.agg #[.int .i64 0, .iface 49 (.agg #[.int .i64 0, .int .i64 0, .int .i64 0, .int .i64 0, .int .i64 1, .int .i64 1, (.slice (some ⟨b4, 0, none⟩) 2 2), .bool true])] : Value)] Tryz.underlying41 ti44 rfl rfl rfl (by decide) fun w10 b5 hm10 hb5 hz3 hk3 => ?_)
    have hl4 := Acc.of_blk (enc := encLet) hk3 ([((0 : Int), (.iface 49 (.agg #[.int .i64 0, .int .i64 0, .int .i64 0, .int .i64 0, .int .i64 1, .int .i64 1, (.slice (some ⟨b4, 0, none⟩) 2 2), .bool true]) : Value))] : List (Int × Value)) 1 rfl encLet_len rfl (by unfold maxLen; omega)
    have hS18 := (hS16.newAcc hm10 hl4 (.inr (by omega))).n6
    obtain ⟨xs2, hxs2, hxa2⟩ := let_in (hS18.get (i := 2) rfl).choose_spec.1
    obtain ⟨g2, f4, hl5, k2⟩ := hS18.accK (i := 5) rfl
    have f5 := hS18.sl (i := 4) (k := 0) rfl rfl
    refine .ac (.callF cl30 rfl (slet_c (w0 := w10) (ms := (to0 ([.reply awR]))) (ns := [((0 : Int), (.reply ⟨0, 0, 0, 0, 1, 1, [(Itm.mk 0 (([97] : Str))), (Itm.mk 1 (([98] : Str)))], true⟩ : MsgM))]) hxs2 hxa2 (f4.sl.iv (Nat.zero_le _) f4.lt) (All2.cons ⟨rfl, (.slice (some ⟨b4, 0, none⟩) 2 2), rfl, f5⟩ All2.nil)) ?_)
    rintro _ w11 ⟨⟨b6, hb6, rfl⟩, hm11⟩
    have hS19 := hS18.ext hm11
    obtain rfl : b6 = true := hb6.trans (by exact decide_eq_true rfl)
    refine .gi 3 rfl ?_
    refine r_ret1 Tryz.func11 rfl rfl ?_
    exact Ret.mk ⟨⟨_, (by rfl), rfl⟩, hS19.mod⟩
set_option maxRecDepth 20000 in
set_option maxHeartbeats 4000000 in
theorem low_c {w0 : World}  (x : Int) (n : Int) (h_x : I64 x) (h_n : I64 n) (hn : 1 ≤ n) :
    Calls Tryz.prog 13 #[.int .i64 x, .int .i64 n] w0 (Ret fun rv w1 => rv = .int .i64 (Ml.lowM x n) ∧ Ext w0 w1 ∧ 0 ≤ Ml.lowM x n ∧ Ml.lowM x n < n) := by
  have hE0 : Ext w0 w0 := Mod.refl _ _
  refine calls_enter Tryz.func13 rfl Tryz.ntmps13 rfl ?_
  refine .go 7 rfl ?_
  refine .z (.convI (by kernel_rfl) Tryz.underlying96 rfl) ?_
  have hx64 := Ml.u64_range x
  refine .go 1 rfl ?_
  refine .z (.convI (by kernel_rfl) Tryz.underlying96 rfl) ?_
  have hn64 := Ml.u64_same n (by omega)
  have := Int.emod_nonneg ((IntKind.u64.wrap x) : Int) (by omega : ((IntKind.u64.wrap n) : Int) ≠ 0)
  have := Int.emod_lt_of_pos ((IntKind.u64.wrap x) : Int) (by omega : (0 : Int) < (IntKind.u64.wrap n))
  refine .z (.remI (((IntKind.u64.wrap x) % ((IntKind.u64.wrap n)))) rfl rfl ⟨by omega, by omega, rfl⟩) ?_
  have hlow := Ml.low_range x n hn
  refine .z (.convI (by kernel_rfl) Tryz.underlying3 rfl) ?_
  refine .gi 2 rfl ?_
  refine r_ret1 Tryz.func13 rfl rfl ?_
  exact Ret.mk ⟨(congrArg (Value.int .i64) (by first | exact Ml.low_eq hn h_n | (exfalso; omega))), hE0, by exact Ml.low_range x n hn⟩
end Go.Proofs
namespace Go.Proofs
open Go.Ik Go.Ml
theorem q3_1 {p : Prop} (h : p := by first | assumption | (unfold I64; omega) | (unfold I64; decide)) : p := h
set_option maxRecDepth 20000 in
set_option maxHeartbeats 8000000 in
theorem WorkerOnce_c {w0 : World}  (times : Int) (text : Str) (k : Int) (batch : Int) (h_times : I64 times) (h_k : I64 k) (h_batch : I64 batch) :
    Calls Tryz.prog 3 #[.int .i64 times, strV text, .int .i64 k, .int .i64 batch] w0 (Ret fun rv w1 => (∃ rb : Bool, rb = true ∧ rv = .bool rb) ∧ Ext w0 w1) := by
  have hS0 := St.start0 w0
  refine calls_enter Tryz.func3 rfl Tryz.ntmps3 rfl ?_
  refine .go 8 rfl ?_
  refine .z (.lenS Tryz.underlying9 rfl) ?_
  refine .zb (.gt rfl rfl) fun b1 hb1 => ?_
  refine .gi 1 rfl ?_
  cases b1
  case true =>
    replace hb1 := dt hb1
    refine .go 3 rfl ?_
    refine .ac (.callF cl11 rfl (awake_c (w0 := w0)   ) ?_)
    rintro _ w1 ⟨⟨_, rfl, rfl⟩, hm1⟩
    have hS1 := hS0.ext hm1
    refine .gi 2 rfl ?_
    refine r_ret1 Tryz.func3 rfl rfl ?_
    exact Ret.mk ⟨⟨_, (by rfl), rfl⟩, hS1.mod⟩
  replace hb1 := df hb1
  refine .go 4 rfl ?_
  refine .ac (.buildSlice [strV (([97] : Str)), strV (([97, 98] : Str)), strV (([97, 98, 99] : Str)), strV (([98] : Str)), strV (([98, 195, 169] : Str)), strV (([195, 169] : Str))] Tryz.underlying23 ti9 rfl rfl rfl (by decide) fun w1 b2 hm1 hb2 hz1 hk1 => ?_)
  have hl1 := Sl.of_blk (enc := encS) hk1 ([([97] : Str), ([97, 98] : Str), ([97, 98, 99] : Str), ([98] : Str), ([98, 195, 169] : Str), ([195, 169] : Str)] : List Str) 6 rfl rfl (by unfold maxLen; omega)
  have hS2 := (hS0.newSlB hm1 hb2 hz1 hl1).n1
  refine .z (.build (vs := #[(0, (.slice (some ⟨b2, 0, none⟩) 6 6)), (2, (.int .i64 1 : Value)), (3, (.int .i64 1 : Value)), (4, (.int .i64 1 : Value)), (5, (.int .i64 2 : Value)), (6, (.int .i64 5 : Value)), (7, (.int .i64 5 : Value)), (8, (.int .i64 1 : Value)), (9, (.int .i64 1 : Value)), (11, (.int .i64 8 : Value))]) (v := .agg #[(.slice (some ⟨b2, 0, none⟩) 6 6), .slice none 0 0, .int .i64 1, .int .i64 1, .int .i64 1, .int .i64 2, .int .i64 5, .int .i64 5, .int .i64 1, .int .i64 1, .int .i64 0, .int .i64 8]) rfl (fun _ => by kernel_rfl)) ?_
  refine .ac (.alloc ti26 fun w2 b3 hm2 hb3 hz2 hk2 => ?_)
  have hS4 := (hS2.newBk hm2 hb3 hk2).n2
  have f1 := hS4.bk (i := 1) rfl
  refine .ac (.store ti26 rfl rfl rfl rfl rfl f1 (Nat.le_of_ble_eq_true rfl) fun w3 hm3 hz3 hk3 => ?_)
  have hS5 := (hS4.bkK (cs' := [(.slice (some ⟨b2, 0, none⟩) 6 6), .slice none 0 0, .int .i64 1, .int .i64 1, .int .i64 1, .int .i64 2, .int .i64 5, .int .i64 5, .int .i64 1, .int .i64 1, .int .i64 0, .int .i64 8]) (i := 1) rfl hm3 hk3).n2
  have f2 := hS5.bk (i := 1) rfl
  refine .go 3 rfl ?_
  refine .z (.loadN ti26 rfl (fun _ e => e ▸ f2.row) rfl) ?_
  have f3 := hS5.sl (i := 0) (k := 0) rfl rfl
  refine .ac (.callF cl12 rfl (wnew_c (w0 := w3) (c := onC) (1) f3 Sl.nil (by first | assumption | exact Ml.Cfg.ok_of (by decide +kernel)) q3_1 (by first | assumption | omega | decide)) ?_)
  rintro _ w4 ⟨hm4, hd1⟩
  rcases hd1 with ⟨hmd1, rfl⟩ | ⟨hmd1, bw1, F1, rfl, hA1, hF1⟩
  · exact absurd (hmd1.symm.trans onC_may) (by decide)
  · skip
    have hS7 : St (fun _ => False) (fun _ => False) w0 w4 [slR encS [((.slice (some ⟨b2, 0, none⟩) 6 6), [([97] : Str), ([97, 98] : Str), ([97, 98, 99] : Str), ([98] : Str), ([98, 195, 169] : Str), ([195, 169] : Str)])], bkR b3 [(.slice (some ⟨b2, 0, none⟩) 6 6), .slice none 0 0, .int .i64 1, .int .i64 1, .int .i64 1, .int .i64 2, .int .i64 5, .int .i64 5, .int .i64 1, .int .i64 1, .int .i64 0, .int .i64 8] 26, wkR 3 95 164 123 5 176 172 bw1 1 ((keepsM onC 1)) ((newW onC 1))] := hS5.new hm4 hA1 (fun b hb => ⟨(hF1 b hb).2, (hF1 b hb).1⟩)
    refine .go 10 rfl ?_
    refine .zb (.ne rfl rfl) fun b4 hb4 => ?_
    obtain rfl : b4 = false := hb4.trans (by rfl)
    refine .go 2 rfl ?_
    refine .z (.eqNil Tryz.underlying27 rfl rfl) ?_
    refine .go 8 rfl ?_
    refine .ac (.callF cl13 rfl (low_c (w0 := w4)  (k) (5) oa oa (by omega)) ?_)
    rintro _ w5 ⟨rfl, hm5, hp1⟩
    have hS8 := hS7.ext hm5
    refine .go 1 rfl ?_
    refine .ac (.callF cl13 rfl (low_c (w0 := w5)  (batch) (5) oa oa (by omega)) ?_)
    rintro _ w6 ⟨rfl, hm6, hp2⟩
    have hS9 := hS8.ext hm6
    refine .z (.addI ((1 + ((Ml.lowM batch 5)))) rfl rfl (by omega)) ?_
    refine .z (.build (vs := #[(1, (.int .i64 3 : Value)), (4, (.int .i64 1 : Value)), (5, strV text), (6, (.int .i64 ((Ml.lowM k 5)) : Value)), (7, (.int .i64 ((1 + ((Ml.lowM batch 5)))) : Value)), (8, (.bool true : Value))]) (v := .agg #[.int .i64 0, .int .i64 3, .int .i64 0, .int .i64 0, .int .i64 1, strV text, .int .i64 ((Ml.lowM k 5)), .int .i64 ((1 + ((Ml.lowM batch 5)))), .bool true, .int .i64 0, strV []]) rfl (fun _ => by kernel_rfl)) ?_
    have hki : I64 ((Ml.lowM k 5)) := by unfold I64; omega
    have hbi : I64 ((1 + ((Ml.lowM batch 5)))) := by unfold I64; omega
    have hao : (onA text ((Ml.lowM k 5)) ((1 + ((Ml.lowM batch 5))))).Ok := onA_ok hki hbi
    refine .ac (.alloc ti35 fun w7 b5 hm7 hb5 hz4 hk4 => ?_)
    have hS11 := (hS9.newBk hm7 hb5 hk4).n4
    have f4 := hS11.bk (i := 3) rfl
    refine .ac (.store ti35 rfl rfl rfl rfl rfl f4 (Nat.le_of_ble_eq_true rfl) fun w8 hm8 hz5 hk5 => ?_)
    have hS12 := (hS11.bkK (cs' := [.int .i64 0, .int .i64 3, .int .i64 0, .int .i64 0, .int .i64 1, strV text, .int .i64 ((Ml.lowM k 5)), .int .i64 ((1 + ((Ml.lowM batch 5)))), .bool true, .int .i64 0, strV []]) (i := 3) rfl hm8 hk5).n4
    refine .go 4 rfl ?_
    refine .z (.build (vs := #[(0, (.int .i64 1 : Value)), (1, (.int .i64 1 : Value)), (2, (.int .i64 1 : Value))]) (v := .agg #[.int .i64 1, .int .i64 1, .int .i64 1]) rfl (fun _ => by kernel_rfl)) ?_
    refine .z (.mkIf nif38 rfl) ?_
    obtain ⟨Fy1, hAy1, hFy1, hky1⟩ := hS12.act (i := 2) rfl
    refine .ac (.callF cl14 rfl (wtake_g (w0 := w8) hAy1 (fun b hb => (hFy1 b hb).2) (keeps_ok _ _) on1_ok (by omega) ⟨q3_1, q3_1, q3_1⟩) ?_)
    rintro _ w9 ⟨rfl, hm9, F2, hA2, hF2⟩
    have hS13 : St (fun _ => False) (fun _ => False) w0 w9 [slR encS [((.slice (some ⟨b2, 0, none⟩) 6 6), [([97] : Str), ([97, 98] : Str), ([97, 98, 99] : Str), ([98] : Str), ([98, 195, 169] : Str), ([195, 169] : Str)])], bkR b3 [(.slice (some ⟨b2, 0, none⟩) 6 6), .slice none 0 0, .int .i64 1, .int .i64 1, .int .i64 1, .int .i64 2, .int .i64 5, .int .i64 5, .int .i64 1, .int .i64 1, .int .i64 0, .int .i64 8] 26, wkR 3 95 164 123 5 176 172 bw1 1 ((keepsM onC 1)) ((takeW 1 ((keepsM onC 1)) on1 (.grant 1 1 1))), bkR b5 [.int .i64 0, .int .i64 3, .int .i64 0, .int .i64 0, .int .i64 1, strV text, .int .i64 ((Ml.lowM k 5)), .int .i64 ((1 + ((Ml.lowM batch 5)))), .bool true, .int .i64 0, strV []] 35] := hky1 _ _ _ hm9 hA2 hF2
    clear hky1 hA2
    have hS14 := (hS13.ty (wkR 3 95 164 123 5 176 172 bw1 1 ((keepsM onC 1)) on2) 2 rfl (fun F_ h_ => wk_eq on_e2 h_)).n4
    refine .go 4 rfl ?_
    refine .ac (.callF cl13 rfl (low_c (w0 := w9)  (times) (9) oa oa (by omega)) ?_)
    rintro _ w10 ⟨rfl, hm10, hp3⟩
    have hS15 := hS14.ext hm10
    refine .z (.addI ((1 + ((Ml.lowM times 9)))) rfl rfl (by omega)) ?_
    have hS17 := (hS15.sel [3, 2] (by rfl) (by decide)).n2
    refine .gi 8 rfl ?_
    refine r_loop (I := fun m E W => ∃ (i : Nat) (s : WSt), E = [(10, ptr bw1 0), (12, ptr b5 0), (13, .int .i64 ((1 + ((Ml.lowM times 9))))), (14, .int .i64 (((i : Nat) : Int)))] ∧ m = (1 + Ml.lowM times 9).toNat - i ∧ St (fun _ => False) (fun _ => False) w0 W [bkR b5 [.int .i64 0, .int .i64 3, .int .i64 0, .int .i64 0, .int .i64 1, strV text, .int .i64 ((Ml.lowM k 5)), .int .i64 ((1 + ((Ml.lowM batch 5)))), .bool true, .int .i64 0, strV []] 35, wkR 3 95 164 123 5 176 172 bw1 1 ((keepsM onC 1)) s] ∧ ((i = 0 ∧ s = on2) ∨ (0 < i ∧ s = onT (onA text ((Ml.lowM k 5)) ((1 + ((Ml.lowM batch 5))))))) ∧ (WOk (keepsM onC 1) (i + 2) s)) ?_ ?_
    · refine ⟨_, _, ⟨(0 : Nat), (on2 : WSt), rfl, rfl, hS17, (by exact .inl ⟨rfl, rfl⟩), (by exact on2_ok)⟩, ⟨rfl, rfl, rfl, rfl, trivial⟩⟩
    · rintro _ _ w11 ⟨i, s, rfl, rfl, hS16, hsi, hwo⟩ ih1
      refine .go 5 rfl ?_
      refine .zb (.lt rfl rfl) fun b6 hb6 => ?_
      refine .gi 1 rfl ?_
      cases b6
      case true =>
        replace hb6 := dt hb6
        have f5 := hS16.bk (i := 0) rfl
        refine .go 6 rfl ?_
        refine .z (.loadN ti35 rfl (fun _ e => e ▸ f5.row) rfl) ?_
        refine .z (.mkIf nif35 rfl) ?_
        obtain ⟨Fy2, hAy2, hFy2, hky2⟩ := hS16.act (i := 1) rfl
        refine .ac (.callF cl14 rfl (wtake_a (w0 := w11) (a := (onA text ((Ml.lowM k 5)) ((1 + ((Ml.lowM batch 5)))))) hAy2 (fun b hb => (hFy2 b hb).2) (keeps_ok _ _) hwo (by omega) ⟨hao, (show text.length ≤ 1000000 by omega), Nat.zero_le _⟩) ?_)
        rintro _ w12 ⟨rfl, hm11, F3, hA3, hF3⟩
        have hS18 : St (fun _ => False) (fun _ => False) w0 w12 [bkR b5 [.int .i64 0, .int .i64 3, .int .i64 0, .int .i64 0, .int .i64 1, strV text, .int .i64 ((Ml.lowM k 5)), .int .i64 ((1 + ((Ml.lowM batch 5)))), .bool true, .int .i64 0, strV []] 35, wkR 3 95 164 123 5 176 172 bw1 1 ((keepsM onC 1)) ((takeW 1 ((keepsM onC 1)) s (.ask ((onA text ((Ml.lowM k 5)) ((1 + ((Ml.lowM batch 5)))))))))] := hky2 _ _ _ hm11 hA3 hF3
        clear hky2 hA3
        have hsn : (takeW 1 ((keepsM onC 1)) s (.ask ((onA text ((Ml.lowM k 5)) ((1 + ((Ml.lowM batch 5)))))))) = onT (onA text ((Ml.lowM k 5)) ((1 + ((Ml.lowM batch 5))))) := hsi.elim (fun h => by rw [h.2]; rfl) (fun h => by rw [h.2]; exact onT_again _ _ _)
        have hnw : WOk (keepsM onC 1) (i + 2 + 1) (takeW 1 ((keepsM onC 1)) s (.ask ((onA text ((Ml.lowM k 5)) ((1 + ((Ml.lowM batch 5)))))))) := (WOk.take (id := 1) (m := .ask ((onA text ((Ml.lowM k 5)) ((1 + ((Ml.lowM batch 5))))))) hwo ⟨hao, (show text.length ≤ 1000000 by omega), Nat.zero_le _⟩)
        refine .go 4 rfl ?_
        refine .z (.addI (((i + 1 : Nat) : Int)) rfl rfl (by omega)) ?_
        refine .gi 2 rfl ?_
        exact (ih1 _ _ _ ⟨(i + 1 : Nat), ((takeW 1 ((keepsM onC 1)) s (.ask ((onA text ((Ml.lowM k 5)) ((1 + ((Ml.lowM batch 5)))))))) : WSt), rfl, rfl, hS18, (by first | exact .inr ⟨by omega, hsn⟩ | (exfalso; omega)), (by first | exact hnw | (exfalso; omega))⟩ (by omega)).sub ⟨rfl, rfl, rfl, rfl, trivial⟩
      replace hb6 := df hb6
      have hse : s = onT (onA text ((Ml.lowM k 5)) ((1 + ((Ml.lowM batch 5))))) := hsi.elim (fun h => absurd h.1 (by omega)) (fun h => h.2)
      refine .go 5 rfl ?_
      cases hta : takeA (keepsM onC 1) on2 (onA text ((Ml.lowM k 5)) ((1 + ((Ml.lowM batch 5))))) with
      | false =>
        have hS18 := (hS16.ty (wkR 3 95 164 123 5 176 172 bw1 1 ((keepsM onC 1)) on2) 1 rfl (fun F_ h_ => wk_eq (hse.trans (onT_no hta)) h_)).n2
        obtain ⟨Fy2, hAy2, hFy2, hky2⟩ := hS18.act (i := 1) rfl
        refine .ac (.callF cl15 rfl (wwait_c (w0 := w11) hAy2 (fun b hb => (hFy2 b hb).2) (keeps_ok _ _) on2_ok (by omega)) ?_)
        rintro v1 w12 ⟨⟨gr1, ha1, hg1⟩, hm11⟩
        have hS20 := (hS18.newAcc hm11 ha1 hg1).n3
        clear hg1
        have hle_1 := ha1.le
        obtain ⟨g1, f5, hl2, k1⟩ := hS20.accK (i := 2) rfl
        refine .z (.lenSl Tryz.underlying39 (f5.sl) rfl) ?_
        obtain ⟨Fy3, hAy3, hFy3, hky3⟩ := hS20.act (i := 1) rfl
        refine .go 5 rfl ?_
        refine .ac (.callF cl16 rfl (wwake_c (w0 := w12) hAy3 (fun b hb => (hFy3 b hb).2) (keeps_ok _ _) on2_ok (by omega)) ?_)
        rintro lv1 w13 ⟨hm12, F3, hA3, hF3⟩
        replace hA3 := wkl_eq on_w0 hA3
        have hS21 : St (fun _ => False) (fun _ => False) w0 w13 [bkR b5 [.int .i64 0, .int .i64 3, .int .i64 0, .int .i64 0, .int .i64 1, strV text, .int .i64 ((Ml.lowM k 5)), .int .i64 ((1 + ((Ml.lowM batch 5)))), .bool true, .int .i64 0, strV []] 35, boxR [wkR 3 95 164 123 5 176 172 bw1 1 ((keepsM onC 1)) on2, letR 46 38 35 49 104 44 33 lv1 ([.hello 1 1])], accR encAsk 35 11 v1 ((waitW on2))] := hky3 _ _ _ hm12 hA3 hF3
        clear hky3 hA3
        have hS22 := (hS21.un 1 rfl [0, 2] (by rfl) (by decide)).n4
        obtain ⟨vi1, hS23⟩ := hS22.letO 3 rfl
        change St (fun _ => False) (fun _ => False) w0 w13 [bkR b5 [.int .i64 0, .int .i64 3, .int .i64 0, .int .i64 0, .int .i64 1, strV text, .int .i64 ((Ml.lowM k 5)), .int .i64 ((1 + ((Ml.lowM batch 5)))), .bool true, .int .i64 0, strV []] 35, accR encAsk 35 11 v1 ((waitW on2)), wkR 3 95 164 123 5 176 172 bw1 1 ((keepsM onC 1)) on2, boxR [accR encLet 44 2 lv1 [((0 : Int), msgV 46 38 35 49 104 vi1 (.hello 1 1))], boxR [accR encItm 33 2 vi1 []]]] at hS23
        have hS24 := (hS23.un 3 rfl [0, 1, 2] (by rfl) (by decide)).n5
        have hS25 := (hS24.un 4 rfl [0, 1, 2, 3] (by rfl) (by decide)).n5
        have hln1 : ([((0 : Int), msgV 46 38 35 49 104 vi1 (.hello 1 1))]).length = 1 := rfl
        obtain ⟨Fy4, hAy4, hFy4, hky4⟩ := hS25.act (i := 2) rfl
        refine .go 1 rfl ?_
        refine .ac (.callF cl16 rfl (wwake_c (w0 := w13) hAy4 (fun b hb => (hFy4 b hb).2) (keeps_ok _ _) on2_ok (by omega)) ?_)
        rintro lv2 w14 ⟨hm13, F4, hA4, hF4⟩
        replace hA4 := wkl_eq on_w0 hA4
        have hS26 : St (fun _ => False) (fun _ => False) w0 w14 [bkR b5 [.int .i64 0, .int .i64 3, .int .i64 0, .int .i64 0, .int .i64 1, strV text, .int .i64 ((Ml.lowM k 5)), .int .i64 ((1 + ((Ml.lowM batch 5)))), .bool true, .int .i64 0, strV []] 35, accR encAsk 35 11 v1 ((waitW on2)), boxR [wkR 3 95 164 123 5 176 172 bw1 1 ((keepsM onC 1)) on2, letR 46 38 35 49 104 44 33 lv2 ([.hello 1 1])], accR encLet 44 2 lv1 ([((0 : Int), msgV 46 38 35 49 104 vi1 (.hello 1 1))]), accR encItm 33 2 vi1 []] := hky4 _ _ _ hm13 hA4 hF4
        clear hky4 hA4
        have hS27 := (hS26.un 2 rfl [0, 1, 3, 4] (by rfl) (by decide)).n6
        obtain ⟨vi2, hS28⟩ := hS27.letO 5 rfl
        change St (fun _ => False) (fun _ => False) w0 w14 [bkR b5 [.int .i64 0, .int .i64 3, .int .i64 0, .int .i64 0, .int .i64 1, strV text, .int .i64 ((Ml.lowM k 5)), .int .i64 ((1 + ((Ml.lowM batch 5)))), .bool true, .int .i64 0, strV []] 35, accR encAsk 35 11 v1 ((waitW on2)), accR encLet 44 2 lv1 ([((0 : Int), msgV 46 38 35 49 104 vi1 (.hello 1 1))]), accR encItm 33 2 vi1 [], wkR 3 95 164 123 5 176 172 bw1 1 ((keepsM onC 1)) on2, boxR [accR encLet 44 2 lv2 [((0 : Int), msgV 46 38 35 49 104 vi2 (.hello 1 1))], boxR [accR encItm 33 2 vi2 []]]] at hS28
        have hS29 := (hS28.un 5 rfl [0, 1, 2, 3, 4] (by rfl) (by decide)).n7
        have hS30 := (hS29.un 6 rfl [0, 1, 2, 3, 4, 5] (by rfl) (by decide)).n7
        have hln2 : ([((0 : Int), msgV 46 38 35 49 104 vi2 (.hello 1 1))]).length = 1 := rfl
        obtain ⟨g2, f6, hl3, k2⟩ := hS30.accK (i := 2) rfl
        refine .go 7 rfl ?_
        refine .z (.lenSl Tryz.underlying41 (f6.sl) rfl) ?_
        refine .zb (.ne rfl rfl) fun b7 hb7 => ?_
        obtain rfl : b7 = false := hb7.trans (by rfl)
        obtain ⟨g3, f7, hl4, k3⟩ := hS30.accK (i := 5) rfl
        refine .go 2 rfl ?_
        refine .z (.lenSl Tryz.underlying41 (f7.sl) rfl) ?_
        refine .zb (.ne rfl rfl) fun b8 hb8 => ?_
        obtain rfl : b8 = false := hb8.trans (by rfl)
        obtain ⟨x1, b9, o1, hx1, hr1, hl5, hw1⟩ := Sl.atF (P := Tryz.prog) f7.sl Tryz.underlying41 ti44 encLet_len (k := .i64) (n := 0) (0) (by omega) ao
        refine .go 3 rfl ?_
        refine .z (.indexAddr rfl rfl hr1) ?_
        refine .z (.fieldAddr fl44_1 rfl) ?_
        have hr2 := hw1.sub 1 1 (Nat.le_of_ble_eq_true rfl)
        refine .z (.lr ti20 hr2) ?_
        obtain rfl : x1 = ((0 : Int), msgV 46 38 35 49 104 vi2 (.hello 1 1)) := by simpa using hx1.symm
        refine .z (.build (vs := #[(0, (.int .i64 1 : Value)), (1, (.int .i64 1 : Value))]) (v := .agg #[.int .i64 1, .int .i64 1]) rfl (fun _ => by kernel_rfl)) ?_
        refine .z (.mkIf nif46 rfl) ?_
        refine .z (.neIf (b := ((1 : Int) == 1) && ((1 : Int) == 1)) Tryz.underlying20 (by kernel_rfl) rfl rfl (fun w => run_eq_flat8 (ks := [(0, .int .i64), (1, .int .i64)]) (by kernel_rfl) (by kernel_rfl) (by kernel_rfl) rfl w)) ?_
        obtain ⟨x2, b11, o2, hx2, hr3, hl6, hw2⟩ := Sl.atF (P := Tryz.prog) f6.sl Tryz.underlying41 ti44 encLet_len (k := .i64) (n := 0) (0) (by omega) ao
        refine .go 7 rfl ?_
        refine .z (.indexAddr rfl rfl hr3) ?_
        refine .z (.fieldAddr fl44_1 rfl) ?_
        have hr4 := hw2.sub 1 1 (Nat.le_of_ble_eq_true rfl)
        refine .z (.lr ti20 hr4) ?_
        obtain rfl : x2 = ((0 : Int), msgV 46 38 35 49 104 vi1 (.hello 1 1)) := by simpa using hx2.symm
        refine .z (.asNo nif49 rfl (by decide) Tryz.zeroValue49) ?_
        refine .go 3 rfl ?_
        refine .ac (.alloc ti49 fun w15 b12 hm14 hb10 hz6 hk6 => ?_)
        have hS32 := (hS30.newBk hm14 hb10 hk6).n8
        have f8 := hS32.bk (i := 7) rfl
        refine .ac (.store ti49 rfl rfl rfl rfl rfl f8 (Nat.le_of_ble_eq_true rfl) fun w16 hm15 hz7 hk7 => ?_)
        have hS33 := (hS32.bkK (cs' := [.int .i64 0, .int .i64 0, .int .i64 0, .int .i64 0, .int .i64 0, .int .i64 0, .slice none 0 0, .bool false]) (i := 7) rfl hm15 hk7).n8
        refine .go 6 rfl ?_
        refine .zb (.eq rfl rfl) fun b13 hb11 => ?_
        obtain rfl : b13 = true := hb11.trans (by rfl)
        refine .go 5 rfl ?_
        refine .z (.not rfl) ?_
        refine .go 1 rfl ?_
        refine .ac (.callF cl11 rfl (awake_c (w0 := w16)   ) ?_)
        rintro _ w17 ⟨⟨_, rfl, rfl⟩, hm16⟩
        have hS34 := hS33.ext hm16
        refine .gi 3 rfl ?_
        refine r_ret1 Tryz.func3 rfl rfl ?_
        exact Ret.mk ⟨⟨_, (by rfl), rfl⟩, hS34.mod⟩
      | true =>
        have hfit := on_fit hta (by omega)
        have hS18 := (hS16.ty (wkR 3 95 164 123 5 176 172 bw1 1 ((keepsM onC 1)) ((on3 (onA text ((Ml.lowM k 5)) ((1 + ((Ml.lowM batch 5)))))))) 1 rfl (fun F_ h_ => wk_eq (hse.trans (onT_yes hta)) h_)).n2
        obtain ⟨Fy2, hAy2, hFy2, hky2⟩ := hS18.act (i := 1) rfl
        refine .ac (.callF cl15 rfl (wwait_c (w0 := w11) hAy2 (fun b hb => (hFy2 b hb).2) (keeps_ok _ _) (on3_ok hta hki hbi (by omega)) (by omega)) ?_)
        rintro v1 w12 ⟨⟨gr1, ha1, hg1⟩, hm11⟩
        have hS20 := (hS18.newAcc hm11 ha1 hg1).n3
        clear hg1
        have hle_1 := ha1.le
        obtain ⟨g1, f5, hl2, k1⟩ := hS20.accK (i := 2) rfl
        refine .z (.lenSl Tryz.underlying39 (f5.sl) rfl) ?_
        obtain ⟨Fy3, hAy3, hFy3, hky3⟩ := hS20.act (i := 1) rfl
        refine .go 5 rfl ?_
        refine .ac (.callF cl16 rfl (wwake_c (w0 := w12) hAy3 (fun b hb => (hFy3 b hb).2) (keeps_ok _ _) (on3_ok hta hki hbi (by omega)) (by omega)) ?_)
        rintro lv1 w13 ⟨hm12, F3, hA3, hF3⟩
        replace hA3 := wkl_eq (on_w1 (onA text ((Ml.lowM k 5)) ((1 + ((Ml.lowM batch 5)))))) hA3
        have hS21 : St (fun _ => False) (fun _ => False) w0 w13 [bkR b5 [.int .i64 0, .int .i64 3, .int .i64 0, .int .i64 0, .int .i64 1, strV text, .int .i64 ((Ml.lowM k 5)), .int .i64 ((1 + ((Ml.lowM batch 5)))), .bool true, .int .i64 0, strV []] 35, boxR [wkR 3 95 164 123 5 176 172 bw1 1 ((keepsM onC 1)) on2, letR 46 38 35 49 104 44 33 lv1 ([.reply (answer 1 (on3 (onA text ((Ml.lowM k 5)) ((1 + ((Ml.lowM batch 5)))))) (onA text ((Ml.lowM k 5)) ((1 + ((Ml.lowM batch 5))))))])], accR encAsk 35 11 v1 ((waitW ((on3 (onA text ((Ml.lowM k 5)) ((1 + ((Ml.lowM batch 5)))))))))] := hky3 _ _ _ hm12 hA3 hF3
        clear hky3 hA3
        have hS22 := (hS21.un 1 rfl [0, 2] (by rfl) (by decide)).n4
        obtain ⟨vi1, hS23⟩ := hS22.letO 3 rfl
        change St (fun _ => False) (fun _ => False) w0 w13 [bkR b5 [.int .i64 0, .int .i64 3, .int .i64 0, .int .i64 0, .int .i64 1, strV text, .int .i64 ((Ml.lowM k 5)), .int .i64 ((1 + ((Ml.lowM batch 5)))), .bool true, .int .i64 0, strV []] 35, accR encAsk 35 11 v1 ((waitW ((on3 (onA text ((Ml.lowM k 5)) ((1 + ((Ml.lowM batch 5))))))))), wkR 3 95 164 123 5 176 172 bw1 1 ((keepsM onC 1)) on2, boxR [accR encLet 44 2 lv1 [((0 : Int), msgV 46 38 35 49 104 vi1 (.reply (answer 1 (on3 (onA text ((Ml.lowM k 5)) ((1 + ((Ml.lowM batch 5)))))) (onA text ((Ml.lowM k 5)) ((1 + ((Ml.lowM batch 5))))))))], boxR [accR encItm 33 2 vi1 ((answer 1 (on3 (onA text ((Ml.lowM k 5)) ((1 + ((Ml.lowM batch 5)))))) (onA text ((Ml.lowM k 5)) ((1 + ((Ml.lowM batch 5)))))).items)]]] at hS23
        have hS24 := (hS23.un 3 rfl [0, 1, 2] (by rfl) (by decide)).n5
        have hS25 := (hS24.un 4 rfl [0, 1, 2, 3] (by rfl) (by decide)).n5
        have hln1 : ([((0 : Int), msgV 46 38 35 49 104 vi1 (.reply (answer 1 (on3 (onA text ((Ml.lowM k 5)) ((1 + ((Ml.lowM batch 5)))))) (onA text ((Ml.lowM k 5)) ((1 + ((Ml.lowM batch 5))))))))]).length = 1 := rfl
        obtain ⟨Fy4, hAy4, hFy4, hky4⟩ := hS25.act (i := 2) rfl
        refine .go 1 rfl ?_
        refine .ac (.callF cl16 rfl (wwake_c (w0 := w13) hAy4 (fun b hb => (hFy4 b hb).2) (keeps_ok _ _) on2_ok (by omega)) ?_)
        rintro lv2 w14 ⟨hm13, F4, hA4, hF4⟩
        replace hA4 := wkl_eq on_w0 hA4
        have hS26 : St (fun _ => False) (fun _ => False) w0 w14 [bkR b5 [.int .i64 0, .int .i64 3, .int .i64 0, .int .i64 0, .int .i64 1, strV text, .int .i64 ((Ml.lowM k 5)), .int .i64 ((1 + ((Ml.lowM batch 5)))), .bool true, .int .i64 0, strV []] 35, accR encAsk 35 11 v1 ((waitW ((on3 (onA text ((Ml.lowM k 5)) ((1 + ((Ml.lowM batch 5))))))))), boxR [wkR 3 95 164 123 5 176 172 bw1 1 ((keepsM onC 1)) on2, letR 46 38 35 49 104 44 33 lv2 ([.hello 1 1])], accR encLet 44 2 lv1 ([((0 : Int), msgV 46 38 35 49 104 vi1 (.reply (answer 1 (on3 (onA text ((Ml.lowM k 5)) ((1 + ((Ml.lowM batch 5)))))) (onA text ((Ml.lowM k 5)) ((1 + ((Ml.lowM batch 5))))))))]), accR encItm 33 2 vi1 ((answer 1 (on3 (onA text ((Ml.lowM k 5)) ((1 + ((Ml.lowM batch 5)))))) (onA text ((Ml.lowM k 5)) ((1 + ((Ml.lowM batch 5)))))).items)] := hky4 _ _ _ hm13 hA4 hF4
        clear hky4 hA4
        have hS27 := (hS26.un 2 rfl [0, 1, 3, 4] (by rfl) (by decide)).n6
        obtain ⟨vi2, hS28⟩ := hS27.letO 5 rfl
        change St (fun _ => False) (fun _ => False) w0 w14 [bkR b5 [.int .i64 0, .int .i64 3, .int .i64 0, .int .i64 0, .int .i64 1, strV text, .int .i64 ((Ml.lowM k 5)), .int .i64 ((1 + ((Ml.lowM batch 5)))), .bool true, .int .i64 0, strV []] 35, accR encAsk 35 11 v1 ((waitW ((on3 (onA text ((Ml.lowM k 5)) ((1 + ((Ml.lowM batch 5))))))))), accR encLet 44 2 lv1 ([((0 : Int), msgV 46 38 35 49 104 vi1 (.reply (answer 1 (on3 (onA text ((Ml.lowM k 5)) ((1 + ((Ml.lowM batch 5)))))) (onA text ((Ml.lowM k 5)) ((1 + ((Ml.lowM batch 5))))))))]), accR encItm 33 2 vi1 ((answer 1 (on3 (onA text ((Ml.lowM k 5)) ((1 + ((Ml.lowM batch 5)))))) (onA text ((Ml.lowM k 5)) ((1 + ((Ml.lowM batch 5)))))).items), wkR 3 95 164 123 5 176 172 bw1 1 ((keepsM onC 1)) on2, boxR [accR encLet 44 2 lv2 [((0 : Int), msgV 46 38 35 49 104 vi2 (.hello 1 1))], boxR [accR encItm 33 2 vi2 []]]] at hS28
        have hS29 := (hS28.un 5 rfl [0, 1, 2, 3, 4] (by rfl) (by decide)).n7
        have hS30 := (hS29.un 6 rfl [0, 1, 2, 3, 4, 5] (by rfl) (by decide)).n7
        have hln2 : ([((0 : Int), msgV 46 38 35 49 104 vi2 (.hello 1 1))]).length = 1 := rfl
        obtain ⟨g2, f6, hl3, k2⟩ := hS30.accK (i := 2) rfl
        refine .go 7 rfl ?_
        refine .z (.lenSl Tryz.underlying41 (f6.sl) rfl) ?_
        refine .zb (.ne rfl rfl) fun b7 hb7 => ?_
        obtain rfl : b7 = false := hb7.trans (by rfl)
        obtain ⟨g3, f7, hl4, k3⟩ := hS30.accK (i := 5) rfl
        refine .go 2 rfl ?_
        refine .z (.lenSl Tryz.underlying41 (f7.sl) rfl) ?_
        refine .zb (.ne rfl rfl) fun b8 hb8 => ?_
        obtain rfl : b8 = false := hb8.trans (by rfl)
        obtain ⟨x1, b9, o1, hx1, hr1, hl5, hw1⟩ := Sl.atF (P := Tryz.prog) f7.sl Tryz.underlying41 ti44 encLet_len (k := .i64) (n := 0) (0) (by omega) ao
        refine .go 3 rfl ?_
        refine .z (.indexAddr rfl rfl hr1) ?_
        refine .z (.fieldAddr fl44_1 rfl) ?_
        have hr2 := hw1.sub 1 1 (Nat.le_of_ble_eq_true rfl)
        refine .z (.lr ti20 hr2) ?_
        obtain rfl : x1 = ((0 : Int), msgV 46 38 35 49 104 vi2 (.hello 1 1)) := by simpa using hx1.symm
        refine .z (.build (vs := #[(0, (.int .i64 1 : Value)), (1, (.int .i64 1 : Value))]) (v := .agg #[.int .i64 1, .int .i64 1]) rfl (fun _ => by kernel_rfl)) ?_
        refine .z (.mkIf nif46 rfl) ?_
        refine .z (.neIf (b := ((1 : Int) == 1) && ((1 : Int) == 1)) Tryz.underlying20 (by kernel_rfl) rfl rfl (fun w => run_eq_flat8 (ks := [(0, .int .i64), (1, .int .i64)]) (by kernel_rfl) (by kernel_rfl) (by kernel_rfl) rfl w)) ?_
        obtain ⟨x2, b11, o2, hx2, hr3, hl6, hw2⟩ := Sl.atF (P := Tryz.prog) f6.sl Tryz.underlying41 ti44 encLet_len (k := .i64) (n := 0) (0) (by omega) ao
        refine .go 7 rfl ?_
        refine .z (.indexAddr rfl rfl hr3) ?_
        refine .z (.fieldAddr fl44_1 rfl) ?_
        have hr4 := hw2.sub 1 1 (Nat.le_of_ble_eq_true rfl)
        refine .z (.lr ti20 hr4) ?_
        obtain rfl : x2 = ((0 : Int), msgV 46 38 35 49 104 vi1 (.reply (answer 1 (on3 (onA text ((Ml.lowM k 5)) ((1 + ((Ml.lowM batch 5)))))) (onA text ((Ml.lowM k 5)) ((1 + ((Ml.lowM batch 5)))))))) := by simpa using hx2.symm
        refine .z (.asYes nif49 rfl) ?_
        refine .go 3 rfl ?_
        refine .ac (.alloc ti49 fun w15 b12 hm14 hb10 hz6 hk6 => ?_)
        have hS32 := (hS30.newBk hm14 hb10 hk6).n8
        obtain ⟨g4, f8, hl7, k4⟩ := hS32.accK (i := 3) rfl
        obtain ⟨ad1, cp1, hv1⟩ := f8.shape
        subst hv1
        have f9 := hS32.bk (i := 7) rfl
        refine .ac (.store ti49 rfl rfl rfl rfl rfl f9 (Nat.le_of_ble_eq_true rfl) fun w16 hm15 hz7 hk7 => ?_)
        have hS33 := (hS32.bkK (cs' := [.int .i64 ((answer 1 (on3 (onA text ((Ml.lowM k 5)) ((1 + ((Ml.lowM batch 5)))))) (onA text ((Ml.lowM k 5)) ((1 + ((Ml.lowM batch 5)))))).slot), .int .i64 ((answer 1 (on3 (onA text ((Ml.lowM k 5)) ((1 + ((Ml.lowM batch 5)))))) (onA text ((Ml.lowM k 5)) ((1 + ((Ml.lowM batch 5)))))).query), .int .i64 ((answer 1 (on3 (onA text ((Ml.lowM k 5)) ((1 + ((Ml.lowM batch 5)))))) (onA text ((Ml.lowM k 5)) ((1 + ((Ml.lowM batch 5)))))).shard), .int .i64 ((answer 1 (on3 (onA text ((Ml.lowM k 5)) ((1 + ((Ml.lowM batch 5)))))) (onA text ((Ml.lowM k 5)) ((1 + ((Ml.lowM batch 5)))))).seq), .int .i64 ((answer 1 (on3 (onA text ((Ml.lowM k 5)) ((1 + ((Ml.lowM batch 5)))))) (onA text ((Ml.lowM k 5)) ((1 + ((Ml.lowM batch 5)))))).worker), .int .i64 ((answer 1 (on3 (onA text ((Ml.lowM k 5)) ((1 + ((Ml.lowM batch 5)))))) (onA text ((Ml.lowM k 5)) ((1 + ((Ml.lowM batch 5)))))).epoch), (.slice ad1 ((answer 1 (on3 (onA text ((Ml.lowM k 5)) ((1 + ((Ml.lowM batch 5)))))) (onA text ((Ml.lowM k 5)) ((1 + ((Ml.lowM batch 5)))))).items).length cp1), .bool ((answer 1 (on3 (onA text ((Ml.lowM k 5)) ((1 + ((Ml.lowM batch 5)))))) (onA text ((Ml.lowM k 5)) ((1 + ((Ml.lowM batch 5)))))).fin)]) (i := 7) rfl hm15 hk7).n8
        refine .go 6 rfl ?_
        refine .zb (.eq rfl rfl) fun b13 hb11 => ?_
        obtain rfl : b13 = false := hb11.trans (by rfl)
        refine .go 6 rfl ?_
        refine .zb (.eq rfl rfl) fun b14 hb12 => ?_
        obtain rfl : b14 = true := hb12.trans (by rfl)
        refine .go 4 rfl ?_
        refine .z (.fieldAddr fl49_1 rfl) ?_
        have f10 := hS33.bk (i := 7) rfl
        refine .z (.l1 ti3 f10) ?_
        refine .zb (.eq rfl rfl) fun b15 hb13 => ?_
        obtain rfl : b15 = true := hb13.trans (by rfl)
        refine .go 2 rfl ?_
        refine .z (.fieldAddr fl49_5 rfl) ?_
        refine .z (.l1 ti3 f10) ?_
        refine .zb (.eq rfl rfl) fun b16 hb14 => ?_
        obtain rfl : b16 = true := hb14.trans (by rfl)
        refine .go 2 rfl ?_
        refine .z (.fieldAddr fl49_6 rfl) ?_
        refine .z (.l1 ti47 f10) ?_
        obtain ⟨g5, f11, hl8, k5⟩ := hS33.accK (i := 3) rfl
        refine .z (.lenSl Tryz.underlying47 (f11.sl) rfl) ?_
        refine .z (.fieldAddr fl35_7 rfl) ?_
        have f12 := hS33.bk (i := 0) rfl
        refine .z (.l1 ti3 f12) ?_
        refine .zb (.le rfl rfl) fun b17 hb15 => ?_
        obtain rfl : b17 = true := hb15.trans (by exact decide_eq_true (by omega))
        refine .go 2 rfl ?_
        refine .z (.fieldAddr fl49_6 rfl) ?_
        refine .z (.l1 ti47 f10) ?_
        refine .z (.lenSl Tryz.underlying47 (f11.sl) rfl) ?_
        refine .zb (.gt rfl rfl) fun b18 hb16 => ?_
        refine .go 1 rfl ?_
        cases b18
        case true =>
          replace hb16 := dt hb16
          refine .go 5 rfl ?_
          refine .ac (.callF cl11 rfl (awake_c (w0 := w16)   ) ?_)
          rintro _ w17 ⟨⟨_, rfl, rfl⟩, hm16⟩
          have hS34 := hS33.ext hm16
          refine .gi 3 rfl ?_
          refine r_ret1 Tryz.func3 rfl rfl ?_
          exact Ret.mk ⟨⟨_, (by rfl), rfl⟩, hS34.mod⟩
        replace hb16 := df hb16
        refine .z (.fieldAddr fl49_7 rfl) ?_
        refine .z (.l1 ti4 f10) ?_
        generalize hb17 : (answer 1 (on3 (onA text ((Ml.lowM k 5)) ((1 + ((Ml.lowM batch 5)))))) (onA text ((Ml.lowM k 5)) ((1 + ((Ml.lowM batch 5)))))).fin = bq1
        replace hb17 := hb17.symm
        obtain rfl : bq1 = true := hb17.trans (by exact hfit.2.resolve_left (by omega))
        refine .go 3 rfl ?_
        refine .ac (.callF cl11 rfl (awake_c (w0 := w16)   ) ?_)
        rintro _ w17 ⟨⟨_, rfl, rfl⟩, hm16⟩
        have hS34 := hS33.ext hm16
        refine .gi 3 rfl ?_
        refine r_ret1 Tryz.func3 rfl rfl ?_
        exact Ret.mk ⟨⟨_, (by rfl), rfl⟩, hS34.mod⟩
end Go.Proofs
