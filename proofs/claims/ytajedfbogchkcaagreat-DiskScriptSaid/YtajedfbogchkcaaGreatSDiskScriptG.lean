/-
  What the law DiskScript needs, part 7 of 7: theory, and walks through the code.
-/
import Derived.Test.YtajedfbogchkcaaGreatSDiskScriptF
set_option linter.unusedVariables false
set_option linter.unusedSimpArgs false
namespace Go.Proofs
open Go.Ik Go.Ml
set_option maxRecDepth 20000 in
set_option maxHeartbeats 4000000 in
theorem r14at_c {w0 : World} {bw : Nat} {vl : Value} {lives : Int} {rows : List RIm} {K : List DE} {G : Nat → Prop} (s : Int) (hs : I64 s) (hr : Row w0 bw 0 [vl, .int .i64 lives]) (hl : Sl encIm w0 G vl rows) (hsh : rows.map (·.shard) = K.map (·.1)) :
    Calls Tryz.prog 31 #[ptr bw 0, .int .i64 s] w0 (Ret fun rv w1 => rv = .int .i64 (dkIx K s) ∧ Ext w0 w1) := by
  have hS0 := St.start0 w0
  have hll := hl.le
  have hsl : (rows.map (·.shard)).length = rows.length := List.length_map ..
  refine calls_enter Tryz.func31 rfl Tryz.ntmps31 rfl ?_
  refine r_seq ?_
  refine r_region ?_
  refine OL.q (Q1.assign rfl) rfl rfl ?_
  refine OL.nil ?_
  refine r_seq ?_
  refine r_seq ?_
  refine r_region ?_
  refine OL.q (Q1.assign rfl) rfl rfl ?_
  refine OL.nil ?_
  refine r_block ?_
  refine r_loop (I := fun m E W => ∃ (i : Nat), E = [(0, ptr bw 0), (1, .int .i64 s), (5, .int .i64 (((i : Nat) : Int)))] ∧ m = rows.length - i ∧ St (fun _ => False) (fun _ => False) w0 W [] ∧ (∀ z ∈ (rows.map (·.shard)).take i, z ≠ s) ∧ (i ≤ rows.length)) ?_ ?_
  · refine ⟨_, _, ⟨(0 : Nat), rfl, rfl, hS0, (by (intro z hz; simp at hz)), (by omega)⟩, ⟨rfl, rfl, rfl, trivial⟩⟩
  · rintro _ _ w1 ⟨i, rfl, rfl, hS1, hno, hil⟩ ih1
    refine r_seq ?_
    refine r_seq ?_
    refine r_region ?_
    refine OL.q (Q1.move rfl) rfl rfl ?_
    refine OL.q (Q1.move rfl) rfl rfl ?_
    refine OL.q (Q1.nilCheckP rfl) rfl rfl ?_
    refine OL.q (Q1.fieldAddr fl45_0 rfl) rfl rfl ?_
    have f1 := hr.keep hS1.mod (fun h => h)
    have hr1 := f1.sub 0 1 (Nat.le_of_ble_eq_true rfl)
    refine OL.q (Q1.load1 ti43 rfl (fun _ e => e ▸ hr1)) rfl rfl ?_
    have f2 := hS1.out hl (fun _ _ h => h)
    refine OL.q (Q1.lenSl Tryz.underlying43 (f2) rfl) rfl rfl ?_
    refine OL.qb (Q1.lt rfl rfl) rfl rfl ?_
    intro b1 hb1
    refine OL.nil ?_
    cases b1 with
    | true =>
      replace hb1 := of_decide_eq_true hb1.symm
      refine r_cond_t rfl ?_
      refine r_skip ?_
      refine r_seq ?_
      refine r_block ?_
      refine r_seq ?_
      refine r_region ?_
      refine OL.q (Q1.move rfl) rfl rfl ?_
      refine OL.q (Q1.nilCheckP rfl) rfl rfl ?_
      refine OL.q (Q1.fieldAddr fl45_0 rfl) rfl rfl ?_
      have hr2 := f1.sub 0 1 (Nat.le_of_ble_eq_true rfl)
      refine OL.q (Q1.load1 ti43 rfl (fun _ e => e ▸ hr2)) rfl rfl ?_
      refine OL.q (Q1.move rfl) rfl rfl ?_
      obtain ⟨x1, b2, o1, hx1, hr3, hl1, hw1⟩ := Sl.atF (P := Tryz.prog) f2 Tryz.underlying43 ti72 encIm_len (k := .i64) (n := ((i : Nat) : Int)) (i) (by omega) (by first | assumption | omega)
      refine OL.q (Q1.indexAddr rfl rfl hr3) rfl rfl ?_
      refine OL.q (Q1.fieldAddr fl72_0 rfl) rfl rfl ?_
      have hr4 := hw1.sub 0 1 (Nat.le_of_ble_eq_true rfl)
      refine OL.q (Q1.load1 ti3 rfl (fun _ e => e ▸ hr4)) rfl rfl ?_
      refine OL.q (Q1.move rfl) rfl rfl ?_
      refine OL.qb (Q1.eq rfl rfl) rfl rfl ?_
      intro b3 hb2
      refine OL.nil ?_
      cases b3 with
      | true =>
        replace hb2 := eq_of_beq hb2.symm
        refine r_cond_t rfl ?_
        refine r_seq ?_
        refine r_region ?_
        refine OL.q (Q1.move rfl) rfl rfl ?_
        refine OL.q (Q1.assign rfl) rfl rfl ?_
        refine OL.nil ?_
        refine r_ret1 Tryz.func31 rfl rfl ?_
        exact Ret.mk ⟨congrArg (Value.int .i64) (by first | exact ix_found hsh hno (by rw [List.getElem?_map, hx1]; rfl) (by assumption) | exact ix_none hsh hno (by omega)), hS1.mod⟩
      | false =>
        replace hb2 := ne_of_beq_false hb2.symm
        refine r_cond_f rfl ?_
        refine r_skip ?_
        refine r_inBlock ?_
        refine r_region ?_
        refine OL.q (Q1.move rfl) rfl rfl ?_
        refine OL.q (Q1.addI (((i + 1 : Nat) : Int)) rfl rfl (by omega)) rfl rfl ?_
        refine OL.q (Q1.assign rfl) rfl rfl ?_
        refine OL.nil ?_
        exact (ih1 _ _ _ ⟨(i + 1 : Nat), rfl, rfl, hS1, (by first | exact no_step hno (by rw [List.getElem?_map, hx1]; rfl) (by assumption) | (exfalso; omega)), (by first | omega | (exfalso; omega))⟩ (by omega)).sub ⟨rfl, rfl, rfl, trivial⟩
    | false =>
      replace hb1 := of_decide_eq_false hb1.symm
      refine r_cond_f rfl ?_
      refine r_exit rfl ?_
      refine r_seq ?_
      refine r_region ?_
      refine OL.q (Q1.assign rfl) rfl rfl ?_
      refine OL.nil ?_
      refine r_ret1 Tryz.func31 rfl rfl ?_
      exact Ret.mk ⟨congrArg (Value.int .i64) (by first | exact ix_found hsh hno (by rw [List.getElem?_map, hx1]; rfl) (by assumption) | exact ix_none hsh hno (by omega)), hS1.mod⟩
set_option maxRecDepth 20000 in
set_option maxHeartbeats 4000000 in
theorem r14read_c {w0 : World} {F : Nat → Prop} {bw : Nat} {lives : Int} {K : List DE} {vl : Value} {rows : List RIm} (s : Int) (hs : I64 s) (hbw : Bk w0 bw [vl, .int .i64 lives] 45) (hl : Sl encIm w0 F vl rows) (hir : IRel w0 F rows K) (hF : ∀ b, F b → b < w0.heap.size) (hK : DkOk K) :
    Calls Tryz.prog 15 #[ptr bw 0, .int .i64 s] w0 (Ret fun rv w1 => ∃ v, rv = .tuple #[v, .int .i64 (dkErr K s)] ∧ (∃ g, Acc encB 5 1 w1 g v (dkRead K s) ∧ (g = 0 ∨ w0.heap.size < g)) ∧ Ext w0 w1) := by
  have hS0 := St.start0 w0
  have hll := hl.le
  have hrl := (All2.get hir).1
  refine calls_enter Tryz.func15 rfl Tryz.ntmps15 rfl ?_
  refine r_seq ?_
  refine r_region ?_
  refine OL.q (Q1.assign rfl) rfl rfl ?_
  refine OL.q (Q1.assign rfl) rfl rfl ?_
  refine OL.nil ?_
  refine r_seq ?_
  refine r_region ?_
  refine OL.q (Q1.move rfl) rfl rfl ?_
  refine OL.q (Q1.move rfl) rfl rfl ?_
  refine OL.act rfl rfl (AW.callF cl31 rfl (r14at_c (w0 := w0) s hs (hbw.row.ext hS0.mod) (hl.keep hS0.mod (fun _ _ h => h)) (ir_shards hir)) ?_)
  rintro _ w1 ⟨rfl, hm1⟩
  have hS1 := hS0.ext hm1
  cases hg : dkGet K s with
  | none =>
    rw [ix_no hg]
    refine OL.q (Q1.assign rfl) rfl rfl ?_
    refine OL.nil ?_
    refine r_seq ?_
    refine r_seq ?_
    refine r_region ?_
    refine OL.q (Q1.move rfl) rfl rfl ?_
    refine OL.qb (Q1.lt rfl rfl) rfl rfl ?_
    intro b1 hb1
    obtain rfl : b1 = true := hb1.trans (by rfl)
    refine OL.nil ?_
    refine r_cond_t rfl ?_
    refine r_seq ?_
    refine r_region ?_
    refine OL.q (Q1.assign rfl) rfl rfl ?_
    refine OL.q (Q1.assign rfl) rfl rfl ?_
    refine OL.nil ?_
    refine r_ret2 Tryz.func15 rfl rfl rfl ?_
    exact Ret.mk ⟨.slice none 0 0, (congrArg (fun z : Int => Value.tuple #[.slice none 0 0, .int .i64 z]) (dk_no hg).1.symm), ⟨0, Acc.cast Acc.nil (dk_no hg).2.1.symm, .inl rfl⟩, hS1.mod⟩
  | some y =>
    obtain ⟨k, hkk, hkx, hks⟩ := ix_yes hg
    rw [hkk]
    have hkl := (List.getElem?_eq_some_iff.1 hkx).1
    have hyl := hK.2 _ (dkGet_key hg).2
    refine OL.q (Q1.assign rfl) rfl rfl ?_
    refine OL.nil ?_
    refine r_seq ?_
    refine r_seq ?_
    refine r_region ?_
    refine OL.q (Q1.move rfl) rfl rfl ?_
    refine OL.qb (Q1.lt rfl rfl) rfl rfl ?_
    intro b1 hb1
    obtain rfl : b1 = false := hb1.trans (by exact decide_eq_false (by omega))
    refine OL.nil ?_
    refine r_cond_f rfl ?_
    refine r_skip ?_
    refine r_seq ?_
    refine r_region ?_
    refine OL.q (Q1.move rfl) rfl rfl ?_
    refine OL.q (Q1.nilCheckP rfl) rfl rfl ?_
    refine OL.q (Q1.fieldAddr fl45_0 rfl) rfl rfl ?_
    have f1 := hbw.row.keep hS1.mod (fun h => h)
    have hr1 := f1.sub 0 1 (Nat.le_of_ble_eq_true rfl)
    refine OL.q (Q1.load1 ti43 rfl (fun _ e => e ▸ hr1)) rfl rfl ?_
    refine OL.q (Q1.move rfl) rfl rfl ?_
    have f2 := hS1.out hl (fun _ _ h => h)
    obtain ⟨x1, b2, o1, hx1, hr2, hl1, hw1⟩ := Sl.atF (P := Tryz.prog) f2 Tryz.underlying43 ti72 encIm_len (k := .i64) (n := ((k : Nat) : Int)) (k) (by omega) (by first | assumption | omega)
    refine OL.q (Q1.indexAddr rfl rfl hr2) rfl rfl ?_
    refine OL.q (Q1.fieldAddr fl72_2 rfl) rfl rfl ?_
    have hr3 := hw1.sub 2 1 (Nat.le_of_ble_eq_true rfl)
    refine OL.q (Q1.load1 ti47 rfl (fun _ e => e ▸ hr3)) rfl rfl ?_
    have htw1 := hir.two hx1 hkx
    have hib1 := htw1.2
    have f3 := hS1.out hib1 (fun _ _ h => h)
    refine OL.act rfl rfl (AW.append (Acc.nil (enc := encB) (e := 5) (sz := 1) (w := w1)) Tryz.underlying47 ti5 rfl encB_len encB_one rfl rfl (f3) (by first | omega | (simp only [List.length_append, List.length_cons, List.length_nil]; omega) | (simp; omega)) (by unfold maxLen; first | omega | (simp only [List.length_append, List.length_cons, List.length_nil]; omega) | (simp; omega)) ?_)
    intro v1 g1 w2 ha1 hm2 hg1 hz1
    have hS2 := hS1.ext hm2.toExt
    have hS3 : St (fun _ => False) (fun _ => False) w0 w2 [accR encB 5 1 v1 (([] ++ y.2.2))] := hS1.newAcc hm2.toExt ha1 hg1
    clear hg1
    refine OL.q (Q1.assign rfl) rfl rfl ?_
    refine OL.q (Q1.assign rfl) rfl rfl ?_
    refine OL.nil ?_
    refine r_ret2 Tryz.func15 rfl rfl rfl ?_
    obtain ⟨ga, haq, hgq⟩ := hS3.accOut (i := 0) rfl
    exact Ret.mk ⟨_, (congrArg (fun z : Int => Value.tuple #[_, .int .i64 z]) (dk_yes hg).1.symm), ⟨ga, Acc.cast haq (by rw [(dk_yes hg).2.1]; rfl), hgq⟩, hS3.mod⟩
set_option maxRecDepth 20000 in
set_option maxHeartbeats 4000000 in
theorem r14rotten_c {w0 : World} {F : Nat → Prop} {bw : Nat} {lives : Int} {K : List DE} {vl : Value} {rows : List RIm} (s : Int) (hs : I64 s) (hbw : Bk w0 bw [vl, .int .i64 lives] 45) (hl : Sl encIm w0 F vl rows) (hir : IRel w0 F rows K) (hF : ∀ b, F b → b < w0.heap.size) (hK : DkOk K) :
    Calls Tryz.prog 18 #[ptr bw 0, .int .i64 s] w0 (Ret fun rv w1 => rv = .bool (dkRotten K s) ∧ Ext w0 w1) := by
  have hS0 := St.start0 w0
  have hll := hl.le
  have hrl := (All2.get hir).1
  refine calls_enter Tryz.func18 rfl Tryz.ntmps18 rfl ?_
  refine r_seq ?_
  refine r_region ?_
  refine OL.q (Q1.assign rfl) rfl rfl ?_
  refine OL.nil ?_
  refine r_seq ?_
  refine r_region ?_
  refine OL.q (Q1.move rfl) rfl rfl ?_
  refine OL.q (Q1.move rfl) rfl rfl ?_
  refine OL.act rfl rfl (AW.callF cl31 rfl (r14at_c (w0 := w0) s hs (hbw.row.ext hS0.mod) (hl.keep hS0.mod (fun _ _ h => h)) (ir_shards hir)) ?_)
  rintro _ w1 ⟨rfl, hm1⟩
  have hS1 := hS0.ext hm1
  cases hg : dkGet K s with
  | none =>
    rw [ix_no hg]
    refine OL.q (Q1.assign rfl) rfl rfl ?_
    refine OL.nil ?_
    refine r_seq ?_
    refine r_draw1 (fun i => false) 24 (fun w' => Mod (Mg 0) w1 w') mixed (by kernel_rfl) ?_
    intro w2 hm2
    have hS2 := hS1.ext hm2
    have hCw2 : Mod (Mg 0) w1 w2 := Mod.ofExt hm2
    refine ⟨hCw2, ?_⟩
    rw [show List.range' 0 (Array.size _) = [0, 1, 2, 3, 4, 5, 6, 7, 8, 9, 10, 11, 12, 13, 14, 15, 16, 17, 18, 19, 20, 21, 22, 23] from rfl]
    refine OD.q rfl rfl (Q1.move rfl) rfl rfl ?_
    refine OD.qb rfl rfl (Q1.ge rfl rfl) rfl rfl ?_
    intro b1 hb1
    obtain rfl : b1 = false := hb1.trans (by rfl)
    refine OD.q rfl rfl (Q1.move rfl) rfl rfl ?_
    refine OD.sk rfl rfl rfl ?_
    refine OD.sk rfl rfl rfl ?_
    refine OD.sk rfl rfl rfl ?_
    refine OD.sk rfl rfl rfl ?_
    refine OD.sk rfl rfl rfl ?_
    refine OD.sk rfl rfl rfl ?_
    refine OD.sk rfl rfl rfl ?_
    refine OD.sk rfl rfl rfl ?_
    refine OD.sk rfl rfl rfl ?_
    refine OD.sk rfl rfl rfl ?_
    refine OD.sk rfl rfl rfl ?_
    refine OD.sk rfl rfl rfl ?_
    refine OD.sk rfl rfl rfl ?_
    refine OD.sk rfl rfl rfl ?_
    refine OD.sk rfl rfl rfl ?_
    refine OD.sk rfl rfl rfl ?_
    refine OD.sk rfl rfl rfl ?_
    refine OD.sk rfl rfl rfl ?_
    refine OD.sk rfl rfl rfl ?_
    refine OD.q rfl rfl (Q1.pick_f rfl rfl) rfl rfl ?_
    refine OD.q rfl rfl (Q1.assign rfl) rfl rfl ?_
    refine OD.nil ?_
    refine r_ret1 Tryz.func18 rfl rfl ?_
    exact Ret.mk ⟨congrArg Value.bool (dk_no hg).2.2.1.symm, hS2.mod⟩
  | some y =>
    obtain ⟨k, hkk, hkx, hks⟩ := ix_yes hg
    rw [hkk]
    have hkl := (List.getElem?_eq_some_iff.1 hkx).1
    have hyl := hK.2 _ (dkGet_key hg).2
    refine OL.q (Q1.assign rfl) rfl rfl ?_
    refine OL.nil ?_
    refine r_seq ?_
    refine r_draw1 (fun i => false) 24 (fun w' => Mod (Mg 0) w1 w') mixed (by kernel_rfl) ?_
    intro w2 hm2
    have hS2 := hS1.ext hm2
    have hCw2 : Mod (Mg 0) w1 w2 := Mod.ofExt hm2
    refine ⟨hCw2, ?_⟩
    rw [show List.range' 0 (Array.size _) = [0, 1, 2, 3, 4, 5, 6, 7, 8, 9, 10, 11, 12, 13, 14, 15, 16, 17, 18, 19, 20, 21, 22, 23] from rfl]
    refine OD.q rfl rfl (Q1.move rfl) rfl rfl ?_
    refine OD.qb rfl rfl (Q1.ge rfl rfl) rfl rfl ?_
    intro b1 hb1
    obtain rfl : b1 = true := hb1.trans (by exact decide_eq_true (by omega))
    refine OD.q rfl rfl (Q1.move rfl) rfl rfl ?_
    refine OD.q rfl rfl (Q1.move rfl) rfl rfl ?_
    refine OD.q rfl rfl (Q1.nilCheckP rfl) rfl rfl ?_
    refine OD.q rfl rfl (Q1.fieldAddr fl45_0 rfl) rfl rfl ?_
    have f1 := hbw.row.keep hS1.mod (fun h => h)
    have hr1 := f1.sub 0 1 (Nat.le_of_ble_eq_true rfl)
    refine OD.q rfl rfl (Q1.load1 ti43 rfl (fun _ hc => hr1.keepG hc (Nat.succ_ne_zero _))) rfl rfl ?_
    refine OD.q rfl rfl (Q1.move rfl) rfl rfl ?_
    have f2 := hS1.out hl (fun _ _ h => h)
    obtain ⟨x1, b2, o1, hx1, hr2, hl1, hw1⟩ := Sl.atF (P := Tryz.prog) f2 Tryz.underlying43 ti72 encIm_len (k := .i64) (n := ((k : Nat) : Int)) (k) (by omega) (by first | assumption | omega)
    refine OD.q rfl rfl (Q1.indexAddr rfl rfl hr2) rfl rfl ?_
    refine OD.q rfl rfl (Q1.fieldAddr fl72_2 rfl) rfl rfl ?_
    have hr3 := hw1.sub 2 1 (Nat.le_of_ble_eq_true rfl)
    refine OD.q rfl rfl (Q1.load1 ti47 rfl (fun _ hc => hr3.keepG hc (Nat.succ_ne_zero _))) rfl rfl ?_
    have htw1 := hir.two hx1 hkx
    have hib1 := htw1.2
    have f3 := hS1.out hib1 (fun _ _ h => h)
    refine OD.q rfl rfl (Q1.bytesStr Tryz.underlying47 Tryz.underlying5 Tryz.underlying9 rfl (fun _ hc => Sl.keep0 (f3) hc)) rfl rfl ?_
    refine OD.q rfl rfl (Q1.move rfl) rfl rfl ?_
    refine OD.q rfl rfl (Q1.nilCheckP rfl) rfl rfl ?_
    refine OD.q rfl rfl (Q1.fieldAddr fl45_0 rfl) rfl rfl ?_
    have hr4 := f1.sub 0 1 (Nat.le_of_ble_eq_true rfl)
    refine OD.q rfl rfl (Q1.load1 ti43 rfl (fun _ hc => hr4.keepG hc (Nat.succ_ne_zero _))) rfl rfl ?_
    refine OD.q rfl rfl (Q1.move rfl) rfl rfl ?_
    obtain ⟨x2, b3, o2, hx2, hr5, hl2, hw2⟩ := Sl.atF (P := Tryz.prog) f2 Tryz.underlying43 ti72 encIm_len (k := .i64) (n := ((k : Nat) : Int)) (k) (by omega) (by first | assumption | omega)
    obtain rfl : x1 = x2 := Option.some.inj (hx1.symm.trans hx2)
    refine OD.q rfl rfl (Q1.indexAddr rfl rfl hr5) rfl rfl ?_
    refine OD.q rfl rfl (Q1.fieldAddr fl72_1 rfl) rfl rfl ?_
    have hr6 := hw2.sub 1 1 (Nat.le_of_ble_eq_true rfl)
    refine OD.q rfl rfl (Q1.load1 ti47 rfl (fun _ hc => hr6.keepG hc (Nat.succ_ne_zero _))) rfl rfl ?_
    have hib2 := htw1.1
    have f4 := hS1.out hib2 (fun _ _ h => h)
    refine OD.q rfl rfl (Q1.bytesStr Tryz.underlying47 Tryz.underlying5 Tryz.underlying9 rfl (fun _ hc => Sl.keep0 (f4) hc)) rfl rfl ?_
    refine OD.qb rfl rfl (Q1.neS rfl rfl) rfl rfl ?_
    intro b4 hb2
    refine OD.q rfl rfl (Q1.pick_t rfl rfl) rfl rfl ?_
    refine OD.q rfl rfl (Q1.assign rfl) rfl rfl ?_
    refine OD.nil ?_
    refine r_ret1 Tryz.func18 rfl rfl ?_
    exact Ret.mk ⟨congrArg Value.bool (rotten_eq hg (by assumption)), hS2.mod⟩
set_option maxRecDepth 20000 in
set_option maxHeartbeats 4000000 in
theorem r14mend_c {w0 : World} {F : Nat → Prop} {bw : Nat} {lives : Int} {K : List DE} (s : Int) (hs : I64 s) (hA : (rdR (R := fun _ => False) 45 72 bw lives K).p F w0) (hF : ∀ b, F b → b < w0.heap.size) (hK : DkOk K) :
    Calls Tryz.prog 12 #[ptr bw 0, .int .i64 s] w0 (Ret fun rv w1 => rv = .int .i64 (dkErr K s) ∧ Mod F w0 w1 ∧ ∃ F2, (rdR (R := fun _ => False) 45 72 bw lives ((dkMend K s))).p F2 w1 ∧ ∀ b, F2 b → b < w1.heap.size ∧ (F b ∨ w0.heap.size ≤ b)) := by
  have hS00 := St.start1 (R := fun _ => False) hA (fun b hb => ⟨hF b hb, id⟩) (fun _ h => h.elim)
  have hS1 : St (fun _ => False) F w0 w0 [rdR 45 72 bw lives K] := hS00
  obtain ⟨⟨vl1, rows1⟩, hS2⟩ := hS1.exo (i := 0) rfl
  change St (fun _ => False) F w0 w0 [boxR [bkR bw [vl1, .int .i64 lives] 45, accR encIm 72 3 vl1 rows1, irR rows1 K]] at hS2
  have hS3 : St (fun _ => False) F w0 w0 [bkR bw [vl1, .int .i64 lives] 45, accR encIm 72 3 vl1 rows1, irR rows1 K] := St.open (L1 := []) hS2
  obtain ⟨g1, f1, hl1, k1⟩ := hS3.accK (i := 1) rfl
  have hlq := f1.le
  refine calls_enter Tryz.func12 rfl Tryz.ntmps12 rfl ?_
  refine r_seq ?_
  refine r_region ?_
  refine OL.q (Q1.assign rfl) rfl rfl ?_
  refine OL.nil ?_
  refine r_seq ?_
  refine r_region ?_
  refine OL.q (Q1.move rfl) rfl rfl ?_
  refine OL.q (Q1.move rfl) rfl rfl ?_
  have f2 := hS3.bk (i := 0) rfl
  refine OL.act rfl rfl (AW.callF cl31 rfl (r14at_c (w0 := w0) s hs (f2).row (f1).sl (ir_shards (hS3.irGet (i := 2) rfl))) ?_)
  rintro _ w1 ⟨rfl, hm1⟩
  have hS4 := hS3.ext hm1
  cases hg : dkGet K s with
  | none =>
    rw [ix_no hg]
    refine OL.q (Q1.assign rfl) rfl rfl ?_
    refine OL.nil ?_
    refine r_seq ?_
    refine r_seq ?_
    refine r_region ?_
    refine OL.q (Q1.move rfl) rfl rfl ?_
    refine OL.qb (Q1.lt rfl rfl) rfl rfl ?_
    intro b1 hb1
    obtain rfl : b1 = true := hb1.trans (by rfl)
    refine OL.nil ?_
    refine r_cond_t rfl ?_
    refine r_seq ?_
    refine r_region ?_
    refine OL.q (Q1.assign rfl) rfl rfl ?_
    refine OL.nil ?_
    refine r_ret1 Tryz.func12 rfl rfl ?_
    have hS5 : St (fun _ => False) F w0 w1 [boxR [bkR bw [vl1, .int .i64 lives] 45, accR encIm 72 3 vl1 rows1, irR rows1 K]] := St.close (L1 := []) hS4
    have hS6 : St (fun _ => False) F w0 w1 [rdR 45 72 bw lives K] := hS5.exi (A := fun z_ : Value × List RIm => boxR [bkR bw [z_.1, .int .i64 lives] 45, accR encIm 72 3 z_.1 z_.2, irR z_.2 K]) (vl1, rows1) (i := 0) rfl
    obtain ⟨hmF, F2r, hAr, hFr⟩ := hS6.fin
    exact Ret.mk ⟨(congrArg (Value.int .i64) (dk_no hg).1.symm), hmF, F2r, by unfold dkMend; rw [(dk_no hg).2.2.2]; exact hAr, hFr⟩
  | some y =>
    obtain ⟨k, hkk, hkx, hks⟩ := ix_yes hg
    rw [hkk]
    have hkl := (List.getElem?_eq_some_iff.1 hkx).1
    have hyl := hK.2 _ (dkGet_key hg).2
    have hrl := (All2.get (hS4.irGet (i := 2) rfl)).1
    refine OL.q (Q1.assign rfl) rfl rfl ?_
    refine OL.nil ?_
    refine r_seq ?_
    refine r_seq ?_
    refine r_region ?_
    refine OL.q (Q1.move rfl) rfl rfl ?_
    refine OL.qb (Q1.lt rfl rfl) rfl rfl ?_
    intro b1 hb1
    obtain rfl : b1 = false := hb1.trans (by exact decide_eq_false (by omega))
    refine OL.nil ?_
    refine r_cond_f rfl ?_
    refine r_skip ?_
    refine r_seq ?_
    refine r_draw1 (fun i => Nat.beq i 15) 15 (fun w' => Mod (Mg 0) w1 w') mixed (by kernel_rfl) ?_
    intro w2 hm2
    have hS5 := hS4.ext hm2
    have hCw2 : Mod (Mg 0) w1 w2 := Mod.ofExt hm2
    refine ⟨hCw2, ?_⟩
    rw [show List.range' 0 (Array.size _) = [0, 1, 2, 3, 4, 5, 6, 7, 8, 9, 10, 11, 12, 13, 14, 15] from rfl]
    refine OD.q rfl rfl (Q1.move rfl) rfl rfl ?_
    refine OD.q rfl rfl (Q1.nilCheckP rfl) rfl rfl ?_
    refine OD.q rfl rfl (Q1.fieldAddr fl45_0 rfl) rfl rfl ?_
    have f3 := hS4.bk (i := 0) rfl
    refine OD.q rfl rfl (Q1.load1 ti43 rfl (fun _ hc => (f3.cell 0 _ rfl).keepG hc (Nat.succ_ne_zero _))) rfl rfl ?_
    refine OD.q rfl rfl (Q1.move rfl) rfl rfl ?_
    refine OD.q rfl rfl (Q1.move rfl) rfl rfl ?_
    refine OD.q rfl rfl (Q1.nilCheckP rfl) rfl rfl ?_
    refine OD.q rfl rfl (Q1.fieldAddr fl45_0 rfl) rfl rfl ?_
    refine OD.q rfl rfl (Q1.load1 ti43 rfl (fun _ hc => (f3.cell 0 _ rfl).keepG hc (Nat.succ_ne_zero _))) rfl rfl ?_
    refine OD.q rfl rfl (Q1.move rfl) rfl rfl ?_
    obtain ⟨g2, f4, hl2, k2⟩ := hS4.accK (i := 1) rfl
    obtain ⟨x1, b2, o1, hx1, hr1, hl3, hw1⟩ := Sl.atF (P := Tryz.prog) f4.sl Tryz.underlying43 ti72 encIm_len (k := .i64) (n := ((k : Nat) : Int)) (k) (by omega) (by first | assumption | omega)
    refine OD.q rfl rfl (Q1.indexAddr rfl rfl hr1) rfl rfl ?_
    refine OD.q rfl rfl (Q1.fieldAddr fl72_1 rfl) rfl rfl ?_
    have hr2 := hw1.sub 1 1 (Nat.le_of_ble_eq_true rfl)
    refine OD.q rfl rfl (Q1.load1 ti47 rfl (fun _ hc => hr2.keepG hc (Nat.succ_ne_zero _))) rfl rfl ?_
    obtain ⟨hr3, x2, hx2⟩ := Acc.at (P := Tryz.prog) f4 Tryz.underlying43 ti72 (k := .i64) (n := ((k : Nat) : Int)) (k) (by omega) (by first | assumption | omega | (simp; done))
    obtain rfl : x1 = x2 := Option.some.inj (hx1.symm.trans hx2)
    refine OD.q rfl rfl (Q1.indexAddr rfl rfl hr3) rfl rfl ?_
    refine OD.q rfl rfl (Q1.fieldAddr fl72_2 rfl) rfl rfl ?_
    obtain ⟨g3, f5, hl5, k3⟩ := hS5.accK (i := 1) rfl
    have he1 := Acc.uniq f4 f5
    subst he1
    refine OD.act rfl rfl rfl rfl (AW.storeA f5 encIm_len (i := k) (o := 2) hx2 ((RIm.mk x1.shard x1.r x1.r)) ti47 rfl (by first | omega | rfl) rfl rfl rfl rfl (by decide) (by first | rfl | simp [encIm]) ?_)
    intro w3 hm3 hz1 ha1
    have hl4 : (rows1.set k ((RIm.mk x1.shard x1.r x1.r))).length = rows1.length := List.length_set
    have hS6 : St (fun _ => False) F w0 w3 [bkR bw [vl1, .int .i64 lives] 45, accR encIm 72 3 vl1 ((rows1.set k ((RIm.mk x1.shard x1.r x1.r)))), irR rows1 K] := k3 _ _ _ _ hm3 ha1 (.inl rfl)
    refine ⟨.inl rfl, ?_⟩
    refine OD.nil ?_
    refine r_seq ?_
    refine r_region ?_
    refine OL.q (Q1.assign rfl) rfl rfl ?_
    refine OL.nil ?_
    refine r_ret1 Tryz.func12 rfl rfl ?_
    have hS7 : St (fun _ => False) F w0 w3 [bkR bw [vl1, .int .i64 lives] 45, accR encIm 72 3 vl1 ((rows1.set k ((RIm.mk x1.shard x1.r x1.r)))), irR ((rows1.set k ((RIm.mk x1.shard x1.r x1.r)))) (dkPut K s id)] := hS6.imp (i := 2) rfl (fun F_ h_ => (by rw [dkPut_at hK.1 hkx hks]; exact ir_mend hx1 hkx h_))
    have hS8 : St (fun _ => False) F w0 w3 [boxR [bkR bw [vl1, .int .i64 lives] 45, accR encIm 72 3 vl1 ((rows1.set k ((RIm.mk x1.shard x1.r x1.r)))), irR ((rows1.set k ((RIm.mk x1.shard x1.r x1.r)))) (dkPut K s id)]] := St.close (L1 := []) hS7
    have hS9 : St (fun _ => False) F w0 w3 [rdR 45 72 bw lives ((dkPut K s id))] := hS8.exi (A := fun z_ : Value × List RIm => boxR [bkR bw [z_.1, .int .i64 lives] 45, accR encIm 72 3 z_.1 z_.2, irR z_.2 ((dkPut K s id))]) (vl1, (rows1.set k ((RIm.mk x1.shard x1.r x1.r)))) (i := 0) rfl
    obtain ⟨hmF, F2r, hAr, hFr⟩ := hS9.fin
    exact Ret.mk ⟨(congrArg (Value.int .i64) (dk_yes hg).1.symm), hmF, F2r, hAr, hFr⟩
set_option maxRecDepth 20000 in
set_option maxHeartbeats 4000000 in
theorem r14rot_c {w0 : World} {F : Nat → Prop} {bw : Nat} {lives : Int} {K : List DE} (s at_ x : Int) (hs : I64 s) (hat : I64 at_) (hxi : I64 x) (hA : (rdR (R := fun _ => False) 45 72 bw lives K).p F w0) (hF : ∀ b, F b → b < w0.heap.size) (hK : DkOk K) :
    Calls Tryz.prog 10 #[ptr bw 0, .int .i64 s, .int .i64 at_, .int .i64 x] w0 (Ret fun rv w1 => rv = .int .i64 (dkErr K s) ∧ Mod F w0 w1 ∧ ∃ F2, (rdR (R := fun _ => False) 45 72 bw lives ((dkRot K s at_ x))).p F2 w1 ∧ ∀ b, F2 b → b < w1.heap.size ∧ (F b ∨ w0.heap.size ≤ b)) := by
  have hS00 := St.start1 (R := fun _ => False) hA (fun b hb => ⟨hF b hb, id⟩) (fun _ h => h.elim)
  have hS1 : St (fun _ => False) F w0 w0 [rdR 45 72 bw lives K] := hS00
  obtain ⟨⟨vl1, rows1⟩, hS2⟩ := hS1.exo (i := 0) rfl
  change St (fun _ => False) F w0 w0 [boxR [bkR bw [vl1, .int .i64 lives] 45, accR encIm 72 3 vl1 rows1, irR rows1 K]] at hS2
  have hS3 : St (fun _ => False) F w0 w0 [bkR bw [vl1, .int .i64 lives] 45, accR encIm 72 3 vl1 rows1, irR rows1 K] := St.open (L1 := []) hS2
  obtain ⟨g1, f1, hl1, k1⟩ := hS3.accK (i := 1) rfl
  have hlq := f1.le
  refine calls_enter Tryz.func10 rfl Tryz.ntmps10 rfl ?_
  refine r_seq ?_
  refine r_region ?_
  refine OL.q (Q1.assign rfl) rfl rfl ?_
  refine OL.nil ?_
  refine r_seq ?_
  refine r_region ?_
  refine OL.q (Q1.move rfl) rfl rfl ?_
  refine OL.q (Q1.move rfl) rfl rfl ?_
  have f2 := hS3.bk (i := 0) rfl
  refine OL.act rfl rfl (AW.callF cl31 rfl (r14at_c (w0 := w0) s hs (f2).row (f1).sl (ir_shards (hS3.irGet (i := 2) rfl))) ?_)
  rintro _ w1 ⟨rfl, hm1⟩
  have hS4 := hS3.ext hm1
  cases hg : dkGet K s with
  | none =>
    rw [ix_no hg]
    refine OL.q (Q1.assign rfl) rfl rfl ?_
    refine OL.nil ?_
    refine r_seq ?_
    refine r_seq ?_
    refine r_region ?_
    refine OL.q (Q1.move rfl) rfl rfl ?_
    refine OL.qb (Q1.lt rfl rfl) rfl rfl ?_
    intro b1 hb1
    obtain rfl : b1 = true := hb1.trans (by rfl)
    refine OL.nil ?_
    refine r_cond_t rfl ?_
    refine r_seq ?_
    refine r_region ?_
    refine OL.q (Q1.assign rfl) rfl rfl ?_
    refine OL.nil ?_
    refine r_ret1 Tryz.func10 rfl rfl ?_
    have hS5 : St (fun _ => False) F w0 w1 [boxR [bkR bw [vl1, .int .i64 lives] 45, accR encIm 72 3 vl1 rows1, irR rows1 K]] := St.close (L1 := []) hS4
    have hS6 : St (fun _ => False) F w0 w1 [rdR 45 72 bw lives K] := hS5.exi (A := fun z_ : Value × List RIm => boxR [bkR bw [z_.1, .int .i64 lives] 45, accR encIm 72 3 z_.1 z_.2, irR z_.2 K]) (vl1, rows1) (i := 0) rfl
    obtain ⟨hmF, F2r, hAr, hFr⟩ := hS6.fin
    exact Ret.mk ⟨(congrArg (Value.int .i64) (dk_no hg).1.symm), hmF, F2r, by unfold dkRot; rw [(dk_no hg).2.2.2]; exact hAr, hFr⟩
  | some y =>
    obtain ⟨k, hkk, hkx, hks⟩ := ix_yes hg
    rw [hkk]
    have hkl := (List.getElem?_eq_some_iff.1 hkx).1
    have hyl := hK.2 _ (dkGet_key hg).2
    have hrl := (All2.get (hS4.irGet (i := 2) rfl)).1
    refine OL.q (Q1.assign rfl) rfl rfl ?_
    refine OL.nil ?_
    refine r_seq ?_
    refine r_seq ?_
    refine r_region ?_
    refine OL.q (Q1.move rfl) rfl rfl ?_
    refine OL.qb (Q1.lt rfl rfl) rfl rfl ?_
    intro b1 hb1
    obtain rfl : b1 = false := hb1.trans (by exact decide_eq_false (by omega))
    refine OL.nil ?_
    refine r_cond_f rfl ?_
    refine r_skip ?_
    refine r_seq ?_
    refine r_draw1 (fun i => Nat.beq i 15 || Nat.beq i 18) 18 (fun w' => Mod (Mg 0) w1 w') mixed (by kernel_rfl) ?_
    intro w2 hm2
    have hS5 := hS4.ext hm2
    have hCw2 : Mod (Mg 0) w1 w2 := Mod.ofExt hm2
    refine ⟨hCw2, ?_⟩
    rw [show List.range' 0 (Array.size _) = [0, 1, 2, 3, 4, 5, 6, 7, 8, 9, 10, 11, 12, 13, 14, 15, 16, 17, 18] from rfl]
    refine OD.q rfl rfl (Q1.move rfl) rfl rfl ?_
    refine OD.q rfl rfl (Q1.nilCheckP rfl) rfl rfl ?_
    refine OD.q rfl rfl (Q1.fieldAddr fl45_0 rfl) rfl rfl ?_
    have f3 := hS4.bk (i := 0) rfl
    refine OD.q rfl rfl (Q1.load1 ti43 rfl (fun _ hc => (f3.cell 0 _ rfl).keepG hc (Nat.succ_ne_zero _))) rfl rfl ?_
    refine OD.q rfl rfl (Q1.move rfl) rfl rfl ?_
    refine OD.q rfl rfl (Q1.move rfl) rfl rfl ?_
    refine OD.q rfl rfl (Q1.nilCheckP rfl) rfl rfl ?_
    refine OD.q rfl rfl (Q1.fieldAddr fl45_0 rfl) rfl rfl ?_
    refine OD.q rfl rfl (Q1.load1 ti43 rfl (fun _ hc => (f3.cell 0 _ rfl).keepG hc (Nat.succ_ne_zero _))) rfl rfl ?_
    refine OD.q rfl rfl (Q1.move rfl) rfl rfl ?_
    obtain ⟨g2, f4, hl2, k2⟩ := hS4.accK (i := 1) rfl
    obtain ⟨x1, b2, o1, hx1, hr1, hl3, hw1⟩ := Sl.atF (P := Tryz.prog) f4.sl Tryz.underlying43 ti72 encIm_len (k := .i64) (n := ((k : Nat) : Int)) (k) (by omega) (by first | assumption | omega)
    refine OD.q rfl rfl (Q1.indexAddr rfl rfl hr1) rfl rfl ?_
    refine OD.q rfl rfl (Q1.fieldAddr fl72_1 rfl) rfl rfl ?_
    have hr2 := hw1.sub 1 1 (Nat.le_of_ble_eq_true rfl)
    refine OD.q rfl rfl (Q1.load1 ti47 rfl (fun _ hc => hr2.keepG hc (Nat.succ_ne_zero _))) rfl rfl ?_
    refine OD.q rfl rfl (Q1.move rfl) rfl rfl ?_
    refine OD.q rfl rfl (Q1.move rfl) rfl rfl ?_
    have f5 := ((hS5.irGet (i := 2) rfl).two hx1 hkx).1
    refine OD.act rfl rfl rfl rfl (AW.callF cl32 rfl (turned_c (w0 := w2) (b := y.2.1) (at_) (x) f5 (by first | omega | assumption) (by first | omega | assumption) (by first | assumption | omega) (by first | assumption | omega)) ?_)
    rintro v1 w3 ⟨⟨gr1, h1, hg1⟩, hm3⟩
    have hS6 := hS5.ext hm3
    have hS7 : St (fun _ => False) F w0 w3 [bkR bw [vl1, .int .i64 lives] 45, accR encIm 72 3 vl1 rows1, irR rows1 K, accR encB 5 1 v1 ((turnB y.2.1 at_ x))] := hS5.newAcc hm3 h1 hg1
    clear hg1
    have hle_1 := h1.le
    have hCw3 := hCw2.ext hm3
    refine ⟨.inr hCw3, ?_⟩
    have := turnB_len y.2.1 at_ x
    obtain ⟨g3, f6, hl4, k3⟩ := hS4.accK (i := 1) rfl
    obtain ⟨hr3, x2, hx2⟩ := Acc.at (P := Tryz.prog) f6 Tryz.underlying43 ti72 (k := .i64) (n := ((k : Nat) : Int)) (k) (by omega) (by first | assumption | omega | (simp; done))
    obtain rfl : x1 = x2 := Option.some.inj (hx1.symm.trans hx2)
    refine OD.q rfl rfl (Q1.indexAddr rfl rfl hr3) rfl rfl ?_
    refine OD.q rfl rfl (Q1.fieldAddr fl72_2 rfl) rfl rfl ?_
    obtain ⟨g4, f7, hl6, k4⟩ := hS7.accK (i := 3) rfl
    obtain ⟨ad1, cp1, hv1⟩ := f7.shape
    subst hv1
    obtain ⟨g5, f8, hl7, k5⟩ := hS7.accK (i := 1) rfl
    have he1 := Acc.uniq f6 f8
    subst he1
    refine OD.act rfl rfl rfl rfl (AW.storeA f8 encIm_len (i := k) (o := 2) hx2 ((RIm.mk x1.shard x1.r (SH.mk ad1 ((turnB y.2.1 at_ x)).length cp1))) ti47 rfl (by first | omega | rfl) rfl rfl rfl rfl (by decide) (by first | rfl | simp [encIm]) ?_)
    intro w4 hm4 hz1 ha1
    have hl5 : (rows1.set k ((RIm.mk x1.shard x1.r (SH.mk ad1 ((turnB y.2.1 at_ x)).length cp1)))).length = rows1.length := List.length_set
    have hS8 : St (fun _ => False) F w0 w4 [bkR bw [vl1, .int .i64 lives] 45, accR encIm 72 3 vl1 ((rows1.set k ((RIm.mk x1.shard x1.r (SH.mk ad1 ((turnB y.2.1 at_ x)).length cp1))))), irR rows1 K, accR encB 5 1 ((.slice ad1 ((turnB y.2.1 at_ x)).length cp1)) ((turnB y.2.1 at_ x))] := k5 _ _ _ _ hm4 ha1 (.inl rfl)
    refine ⟨.inl rfl, ?_⟩
    refine OD.nil ?_
    refine r_seq ?_
    refine r_region ?_
    refine OL.q (Q1.assign rfl) rfl rfl ?_
    refine OL.nil ?_
    refine r_ret1 Tryz.func10 rfl rfl ?_
    have hS9 : St (fun _ => False) F w0 w4 [bkR bw [vl1, .int .i64 lives] 45, accR encIm 72 3 vl1 ((rows1.set k ((RIm.mk x1.shard x1.r (SH.mk ad1 ((turnB y.2.1 at_ x)).length cp1))))), boxR [irR rows1 K, accR encB 5 1 ((.slice ad1 ((turnB y.2.1 at_ x)).length cp1)) ((turnB y.2.1 at_ x))]] := St.close (L1 := [bkR bw [vl1, .int .i64 lives] 45, accR encIm 72 3 vl1 ((rows1.set k ((RIm.mk x1.shard x1.r (SH.mk ad1 ((turnB y.2.1 at_ x)).length cp1)))))]) hS8
    have hS10 : St (fun _ => False) F w0 w4 [bkR bw [vl1, .int .i64 lives] 45, accR encIm 72 3 vl1 ((rows1.set k ((RIm.mk x1.shard x1.r (SH.mk ad1 ((turnB y.2.1 at_ x)).length cp1))))), irR ((rows1.set k ((RIm.mk x1.shard x1.r (SH.mk ad1 ((turnB y.2.1 at_ x)).length cp1))))) (dkPut K s (fun b => turnB b at_ x))] := hS9.imp (i := 2) rfl (fun F_ h_ => (by rw [dkPut_at hK.1 hkx hks]; exact ir_set rfl hx1 hkx h_))
    have hS11 : St (fun _ => False) F w0 w4 [boxR [bkR bw [vl1, .int .i64 lives] 45, accR encIm 72 3 vl1 ((rows1.set k ((RIm.mk x1.shard x1.r (SH.mk ad1 ((turnB y.2.1 at_ x)).length cp1))))), irR ((rows1.set k ((RIm.mk x1.shard x1.r (SH.mk ad1 ((turnB y.2.1 at_ x)).length cp1))))) (dkPut K s (fun b => turnB b at_ x))]] := St.close (L1 := []) hS10
    have hS12 : St (fun _ => False) F w0 w4 [rdR 45 72 bw lives ((dkPut K s (fun b => turnB b at_ x)))] := hS11.exi (A := fun z_ : Value × List RIm => boxR [bkR bw [z_.1, .int .i64 lives] 45, accR encIm 72 3 z_.1 z_.2, irR z_.2 ((dkPut K s (fun b => turnB b at_ x)))]) (vl1, (rows1.set k ((RIm.mk x1.shard x1.r (SH.mk ad1 ((turnB y.2.1 at_ x)).length cp1))))) (i := 0) rfl
    obtain ⟨hmF, F2r, hAr, hFr⟩ := hS12.fin
    exact Ret.mk ⟨(congrArg (Value.int .i64) (dk_yes hg).1.symm), hmF, F2r, hAr, hFr⟩
set_option maxRecDepth 20000 in
set_option maxHeartbeats 1000000 in
theorem r14new_c {w0 : World} {c : Cfg} {v_c_words : Value} {v_c_cuts : Value} (worker : Int) (h_c_words : Sl encS w0 (Iv 0 w0.heap.size) v_c_words c.words) (h_c_cuts : Sl encKey w0 (Iv 0 w0.heap.size) v_c_cuts c.cuts) (h_c : Cfg.Ok c) (hw : I64 worker) (hcs : CfgS c) :
    Calls Tryz.prog 7 #[(.agg #[v_c_words, v_c_cuts, .int .i64 c.workers, .int .i64 c.copies, .int .i64 c.slots, .int .i64 c.batch, .int .i64 c.lease, .int .i64 c.hedge, .int .i64 c.first, .int .i64 c.cap, .int .i64 c.jitter, .int .i64 c.net] : Value), .int .i64 worker] w0 (Ret fun rv w1 => Mod (fun _ => False) w0 w1 ∧ (mayD c worker = false ∧ rv = .tuple #[.pointer none, .int .i64 2] ∨ mayD c worker = true ∧ ∃ bw F2, rv = .tuple #[ptr bw 0, .int .i64 0] ∧ (rdR (R := fun _ => False) 45 72 bw 0 ((dkNew c worker))).p F2 w1 ∧ ∀ b, F2 b → b < w1.heap.size ∧ w0.heap.size ≤ b)) := by
  have hS0 := St.start0 w0
  have hle1 := h_c_words.le
  have hle2 := h_c_cuts.le
  have hc1 := h_c.workers
  have hc2 := h_c.copies
  have hc3 := h_c.slots
  have hc4 := h_c.batch
  have hc5 := h_c.lease
  have hc6 := h_c.hedge
  have hc7 := h_c.first
  have hc8 := h_c.cap
  have hc9 := h_c.jitter
  have hc10 := h_c.net
  have hwl := hcs.wl
  have hcl := hcs.cl
  refine calls_enter Tryz.func7 rfl Tryz.ntmps7 rfl ?_
  refine r_seq ?_
  refine r_region ?_
  refine OL.act rfl rfl (AW.box [v_c_words, v_c_cuts, .int .i64 c.workers, .int .i64 c.copies, .int .i64 c.slots, .int .i64 c.batch, .int .i64 c.lease, .int .i64 c.hedge, .int .i64 c.first, .int .i64 c.cap, .int .i64 c.jitter, .int .i64 c.net] rfl rfl ?_)
  intro w1 b1 hm1 hb1 hz1 hk1
  have hS1 := hS0.ext hm1
  have hS2 : St (fun _ => False) (fun _ => False) w0 w1 [bkR b1 [v_c_words, v_c_cuts, .int .i64 c.workers, .int .i64 c.copies, .int .i64 c.slots, .int .i64 c.batch, .int .i64 c.lease, .int .i64 c.hedge, .int .i64 c.first, .int .i64 c.cap, .int .i64 c.jitter, .int .i64 c.net] 25] := hS0.newBk hm1 hb1 hk1
  refine OL.q (Q1.assign rfl) rfl rfl ?_
  refine OL.q (Q1.assign rfl) rfl rfl ?_
  refine OL.nil ?_
  refine r_seq ?_
  refine r_seq ?_
  refine r_region ?_
  have f1 := hS2.bk (i := 0) rfl
  refine OL.q (Q1.loadN ti25 rfl (fun _ e => e ▸ f1.row) rfl) rfl rfl ?_
  have f2 := hS2.out h_c_words (fun _ _ h => h)
  have f3 := hS2.out h_c_cuts (fun _ _ h => h)
  refine OL.act rfl rfl (AW.callF cl27 rfl (r13may_c (w0 := w1) (c := c)  (f2.iv (Nat.zero_le _) hS2.mod.size) (f3.iv (Nat.zero_le _) hS2.mod.size) (by first | assumption | exact Ml.Cfg.ok_of (by decide +kernel)) (by first | assumption)) ?_)
  rintro _ w2 ⟨⟨b2, hb2, rfl⟩, hm2⟩
  have hS3 := hS2.ext hm2
  cases b2 with
  | true =>
    replace hb2 := hb2.symm
    have := Ml.may_bounds hb2
    refine OL.q (Q1.not rfl) rfl rfl ?_
    refine OL.q (Q1.move rfl) rfl rfl ?_
    refine OL.q (Q1.move rfl) rfl rfl ?_
    refine OL.qb (Q1.lt rfl rfl) rfl rfl ?_
    intro b3 hb3
    refine OL.q (Q1.pick_f rfl rfl) rfl rfl ?_
    refine OL.q (Q1.move rfl) rfl rfl ?_
    cases b3 with
    | true =>
      replace hb3 := of_decide_eq_true hb3.symm
      refine OL.sk rfl rfl ?_
      refine OL.sk rfl rfl ?_
      refine OL.sk rfl rfl ?_
      refine OL.sk rfl rfl ?_
      refine OL.q (Q1.pick_t rfl rfl) rfl rfl ?_
      refine OL.nil ?_
      refine r_cond_t rfl ?_
      refine r_seq ?_
      refine r_region ?_
      refine OL.q (Q1.assign rfl) rfl rfl ?_
      refine OL.q (Q1.assign rfl) rfl rfl ?_
      refine OL.nil ?_
      refine r_ret2 Tryz.func7 rfl rfl rfl ?_
      exact Ret.mk ⟨hS3.mod, .inl ⟨mayD_no (by first | exact .inl (Eq.symm (by assumption)) | exact .inl (by assumption) | exact .inr (by omega)), rfl⟩⟩
    | false =>
      replace hb3 := of_decide_eq_false hb3.symm
      refine OL.q (Q1.move rfl) rfl rfl ?_
      refine OL.q (Q1.fieldAddr fl25_2 rfl) rfl rfl ?_
      have f4 := hS3.bk (i := 0) rfl
      refine OL.q (Q1.load1 ti3 rfl (fun _ e => e ▸ (f4.cell 2 _ rfl))) rfl rfl ?_
      refine OL.qb (Q1.gt rfl rfl) rfl rfl ?_
      intro b4 hb4
      refine OL.q (Q1.pick_f rfl rfl) rfl rfl ?_
      refine OL.nil ?_
      cases b4 with
      | true =>
        replace hb4 := of_decide_eq_true hb4.symm
        refine r_cond_t rfl ?_
        refine r_seq ?_
        refine r_region ?_
        refine OL.q (Q1.assign rfl) rfl rfl ?_
        refine OL.q (Q1.assign rfl) rfl rfl ?_
        refine OL.nil ?_
        refine r_ret2 Tryz.func7 rfl rfl rfl ?_
        exact Ret.mk ⟨hS3.mod, .inl ⟨mayD_no (by first | exact .inl (Eq.symm (by assumption)) | exact .inl (by assumption) | exact .inr (by omega)), rfl⟩⟩
      | false =>
        replace hb4 := of_decide_eq_false hb4.symm
        refine r_cond_f rfl ?_
        refine r_skip ?_
        refine r_seq ?_
        refine r_region ?_
        refine OL.q (Q1.build (vs := #[]) (v := .agg #[.slice none 0 0, .int .i64 0]) rfl (fun _ => by kernel_rfl)) rfl rfl ?_
        refine OL.act rfl rfl (AW.box [.slice none 0 0, .int .i64 0] rfl rfl ?_)
        intro w3 b5 hm3 hb5 hz2 hk2
        have hS4 := hS3.ext hm3
        have hS5 : St (fun _ => False) (fun _ => False) w0 w3 [bkR b1 [v_c_words, v_c_cuts, .int .i64 c.workers, .int .i64 c.copies, .int .i64 c.slots, .int .i64 c.batch, .int .i64 c.lease, .int .i64 c.hedge, .int .i64 c.first, .int .i64 c.cap, .int .i64 c.jitter, .int .i64 c.net] 25, bkR b5 [.slice none 0 0, .int .i64 0] 45] := hS3.newBk hm3 hb5 hk2
        refine OL.q (Q1.assign rfl) rfl rfl ?_
        have hkl := keeps_len c worker
        have hS6 : St (fun _ => False) (fun _ => False) w0 w3 [bkR b1 [v_c_words, v_c_cuts, .int .i64 c.workers, .int .i64 c.copies, .int .i64 c.slots, .int .i64 c.batch, .int .i64 c.lease, .int .i64 c.hedge, .int .i64 c.first, .int .i64 c.cap, .int .i64 c.jitter, .int .i64 c.net] 25, bkR b5 [.slice none 0 0, .int .i64 0] 45, accR encIm 72 3 (.slice none 0 0) []] := hS5.newAcc (Mod.refl _ _) Acc.nil (.inl rfl)
        have hS7 : St (fun _ => False) (fun _ => False) w0 w3 [bkR b1 [v_c_words, v_c_cuts, .int .i64 c.workers, .int .i64 c.copies, .int .i64 c.slots, .int .i64 c.batch, .int .i64 c.lease, .int .i64 c.hedge, .int .i64 c.first, .int .i64 c.cap, .int .i64 c.jitter, .int .i64 c.net] 25, bkR b5 [.slice none 0 0, .int .i64 0] 45, accR encIm 72 3 (.slice none 0 0) [], irR ([] : List RIm) []] := hS6.new (Mod.refl _ _) (F := fun _ => False) (All2.nil) (fun _ h => h.elim)
        have hS8 : St (fun _ => False) (fun _ => False) w0 w3 [bkR b1 [v_c_words, v_c_cuts, .int .i64 c.workers, .int .i64 c.copies, .int .i64 c.slots, .int .i64 c.batch, .int .i64 c.lease, .int .i64 c.hedge, .int .i64 c.first, .int .i64 c.cap, .int .i64 c.jitter, .int .i64 c.net] 25, boxR [bkR b5 [.slice none 0 0, .int .i64 0] 45, accR encIm 72 3 (.slice none 0 0) [], irR ([] : List RIm) []]] := St.close (L1 := [bkR b1 [v_c_words, v_c_cuts, .int .i64 c.workers, .int .i64 c.copies, .int .i64 c.slots, .int .i64 c.batch, .int .i64 c.lease, .int .i64 c.hedge, .int .i64 c.first, .int .i64 c.cap, .int .i64 c.jitter, .int .i64 c.net] 25]) hS7
        have hS9 : St (fun _ => False) (fun _ => False) w0 w3 [bkR b1 [v_c_words, v_c_cuts, .int .i64 c.workers, .int .i64 c.copies, .int .i64 c.slots, .int .i64 c.batch, .int .i64 c.lease, .int .i64 c.hedge, .int .i64 c.first, .int .i64 c.cap, .int .i64 c.jitter, .int .i64 c.net] 25, rdR 45 72 b5 0 []] := hS8.exi (A := fun z_ : Value × List RIm => boxR [bkR b5 [z_.1, .int .i64 0] 45, accR encIm 72 3 z_.1 z_.2, irR z_.2 []]) (.slice none 0 0, []) (i := 1) rfl
        refine OL.nil ?_
        refine r_seq ?_
        refine r_region ?_
        have f5 := hS9.bk (i := 0) rfl
        refine OL.q (Q1.loadN ti25 rfl (fun _ e => e ▸ f5.row) rfl) rfl rfl ?_
        refine OL.q (Q1.move rfl) rfl rfl ?_
        have f6 := hS9.out h_c_words (fun _ _ h => h)
        have f7 := hS9.out h_c_cuts (fun _ _ h => h)
        refine OL.act rfl rfl (AW.callF cl28 rfl (r13keeps_c (w0 := w3) (c := c) (worker) (f6.iv (Nat.zero_le _) hS9.mod.size) (f7.iv (Nat.zero_le _) hS9.mod.size) (by first | assumption | exact Ml.Cfg.ok_of (by decide +kernel)) (by first | omega | assumption) (by first | assumption)) ?_)
        rintro v1 w4 ⟨⟨gr1, h1, hg1⟩, hm4⟩
        have hS10 := hS9.ext hm4
        have hS11 : St (fun _ => False) (fun _ => False) w0 w4 [bkR b1 [v_c_words, v_c_cuts, .int .i64 c.workers, .int .i64 c.copies, .int .i64 c.slots, .int .i64 c.batch, .int .i64 c.lease, .int .i64 c.hedge, .int .i64 c.first, .int .i64 c.cap, .int .i64 c.jitter, .int .i64 c.net] 25, rdR 45 72 b5 0 [], accR Ik.encI 3 1 v1 ((Ml.keepsM c worker))] := hS9.newAcc hm4 h1 hg1
        clear hg1
        have hle_1 := h1.le
        have := keeps_len c worker
        refine OL.q (Q1.assign rfl) rfl rfl ?_
        refine OL.nil ?_
        refine r_seq ?_
        refine r_seq ?_
        refine r_region ?_
        refine OL.q (Q1.assign rfl) rfl rfl ?_
        refine OL.nil ?_
        refine r_block ?_
        have hS13 : St (fun _ => False) (fun _ => False) w0 w4 [bkR b1 [v_c_words, v_c_cuts, .int .i64 c.workers, .int .i64 c.copies, .int .i64 c.slots, .int .i64 c.batch, .int .i64 c.lease, .int .i64 c.hedge, .int .i64 c.first, .int .i64 c.cap, .int .i64 c.jitter, .int .i64 c.net] 25, accR Ik.encI 3 1 v1 ((Ml.keepsM c worker)), rdR 45 72 b5 0 []] := hS11.sel [0, 2, 1] (by rfl) (by decide)
        refine r_loop (I := fun m E W => ∃ (i : Nat), E = [(2, ptr b1 0), (6, ptr b5 0), (7, v1), (8, .int .i64 (((i : Nat) : Int)))] ∧ m = (keepsM c worker).length - i ∧ St (fun _ => False) (fun _ => False) w0 W [bkR b1 [v_c_words, v_c_cuts, .int .i64 c.workers, .int .i64 c.copies, .int .i64 c.slots, .int .i64 c.batch, .int .i64 c.lease, .int .i64 c.hedge, .int .i64 c.first, .int .i64 c.cap, .int .i64 c.jitter, .int .i64 c.net] 25, accR Ik.encI 3 1 v1 ((Ml.keepsM c worker)), rdR 45 72 b5 0 ((((keepsM c worker).take i).map (dkE c)))]) ?_ ?_
        · refine ⟨_, _, ⟨(0 : Nat), rfl, rfl, hS13⟩, ⟨rfl, rfl, rfl, rfl, trivial⟩⟩
        · rintro _ _ w5 ⟨i, rfl, rfl, hS12⟩ ih1
          refine r_seq ?_
          refine r_seq ?_
          refine r_region ?_
          refine OL.q (Q1.move rfl) rfl rfl ?_
          refine OL.q (Q1.move rfl) rfl rfl ?_
          obtain ⟨g1, f8, hl1, k1⟩ := hS12.accK (i := 1) rfl
          refine OL.q (Q1.lenSl Tryz.underlying63 (f8.sl) rfl) rfl rfl ?_
          refine OL.qb (Q1.lt rfl rfl) rfl rfl ?_
          intro b6 hb6
          refine OL.nil ?_
          cases b6 with
          | true =>
            replace hb6 := of_decide_eq_true hb6.symm
            refine r_cond_t rfl ?_
            refine r_skip ?_
            refine r_seq ?_
            refine r_block ?_
            refine r_seq ?_
            refine r_draw1 (fun i => Nat.beq i 5) 11 (fun w' => Mod (Mg 0) w5 w') mixed (by kernel_rfl) ?_
            intro w6 hm5
            have hS14 := hS12.ext hm5
            have hCw6 : Mod (Mg 0) w5 w6 := Mod.ofExt hm5
            refine ⟨hCw6, ?_⟩
            rw [show List.range' 0 (Array.size _) = [0, 1, 2, 3, 4, 5, 6, 7, 8, 9, 10] from rfl]
            have f9 := hS12.bk (i := 0) rfl
            refine OD.q rfl rfl (Q1.loadN ti25 rfl (fun _ hc => f9.row.keepG hc (Nat.succ_ne_zero _)) rfl) rfl rfl ?_
            refine OD.q rfl rfl (Q1.move rfl) rfl rfl ?_
            refine OD.q rfl rfl (Q1.move rfl) rfl rfl ?_
            obtain ⟨x1, b7, o1, hx1, hr1, hl2, hw1⟩ := Sl.atF (P := Tryz.prog) f8.sl Tryz.underlying63 ti3 Ik.encI_len (k := .i64) (n := ((i : Nat) : Int)) (i) (by omega) (by first | assumption | omega)
            refine OD.q rfl rfl (Q1.indexAddr rfl rfl hr1) rfl rfl ?_
            refine OD.q rfl rfl (Q1.load1 ti3 rfl (fun _ hc => hw1.keepG hc (Nat.succ_ne_zero _))) rfl rfl ?_
            have hx1r := keeps_range (List.mem_of_getElem? hx1)
            have hshl := Ml.shards_le c
            have hx1i : I64 x1 := by unfold I64; omega
            have f10 := hS14.out h_c_words (fun _ _ h => h)
            have f11 := hS14.out h_c_cuts (fun _ _ h => h)
            refine OD.act rfl rfl rfl rfl (AW.callF cl29 rfl (r13image_c (w0 := w6) (c := c) (x1) (f10.iv (Nat.zero_le _) hS14.mod.size) (f11.iv (Nat.zero_le _) hS14.mod.size) (by first | assumption | exact Ml.Cfg.ok_of (by decide +kernel)) (by first | omega | assumption) (by first | assumption)) ?_)
            rintro _ w7 ⟨v2, _, rfl, ⟨gr2, h2, hg2⟩, rfl, hm6⟩
            have hS15 := hS14.ext hm6
            have hS16 : St (fun _ => False) (fun _ => False) w0 w7 [bkR b1 [v_c_words, v_c_cuts, .int .i64 c.workers, .int .i64 c.copies, .int .i64 c.slots, .int .i64 c.batch, .int .i64 c.lease, .int .i64 c.hedge, .int .i64 c.first, .int .i64 c.cap, .int .i64 c.jitter, .int .i64 c.net] 25, accR Ik.encI 3 1 v1 ((Ml.keepsM c worker)), rdR 45 72 b5 0 ((((keepsM c worker).take i).map (dkE c))), accR encB 5 1 v2 ((imgC c x1))] := hS14.newAcc hm6 h2 hg2
            clear hg2
            have hle_2 := h2.le
            have hCw7 := hCw6.ext hm6
            refine ⟨.inr hCw7, ?_⟩
            have := imgC_len c x1
            have := errC_rng c x1
            refine OD.q rfl rfl (Q1.move rfl) rfl rfl ?_
            refine OD.q rfl rfl (Q1.extract rfl rfl) rfl rfl ?_
            refine OD.q rfl rfl (Q1.extract rfl rfl) rfl rfl ?_
            refine OD.q rfl rfl (Q1.assign rfl) rfl rfl ?_
            refine OD.q rfl rfl (Q1.assign rfl) rfl rfl ?_
            refine OD.nil ?_
            obtain ⟨⟨vl1, rows1⟩, hS17⟩ := hS16.exo (i := 2) rfl
            change St (fun _ => False) (fun _ => False) w0 w7 [bkR b1 [v_c_words, v_c_cuts, .int .i64 c.workers, .int .i64 c.copies, .int .i64 c.slots, .int .i64 c.batch, .int .i64 c.lease, .int .i64 c.hedge, .int .i64 c.first, .int .i64 c.cap, .int .i64 c.jitter, .int .i64 c.net] 25, accR Ik.encI 3 1 v1 ((Ml.keepsM c worker)), boxR [bkR b5 [vl1, .int .i64 0] 45, accR encIm 72 3 vl1 rows1, irR rows1 ((((keepsM c worker).take i).map (dkE c)))], accR encB 5 1 v2 ((imgC c x1))] at hS17
            have hS18 : St (fun _ => False) (fun _ => False) w0 w7 [bkR b1 [v_c_words, v_c_cuts, .int .i64 c.workers, .int .i64 c.copies, .int .i64 c.slots, .int .i64 c.batch, .int .i64 c.lease, .int .i64 c.hedge, .int .i64 c.first, .int .i64 c.cap, .int .i64 c.jitter, .int .i64 c.net] 25, accR Ik.encI 3 1 v1 ((Ml.keepsM c worker)), accR encB 5 1 v2 ((imgC c x1)), boxR [bkR b5 [vl1, .int .i64 0] 45, accR encIm 72 3 vl1 rows1, irR rows1 ((((keepsM c worker).take i).map (dkE c)))]] := hS17.sel [0, 1, 3, 2] (by rfl) (by decide)
            have hS19 : St (fun _ => False) (fun _ => False) w0 w7 [bkR b1 [v_c_words, v_c_cuts, .int .i64 c.workers, .int .i64 c.copies, .int .i64 c.slots, .int .i64 c.batch, .int .i64 c.lease, .int .i64 c.hedge, .int .i64 c.first, .int .i64 c.cap, .int .i64 c.jitter, .int .i64 c.net] 25, accR Ik.encI 3 1 v1 ((Ml.keepsM c worker)), accR encB 5 1 v2 ((imgC c x1)), boxR [bkR b5 [vl1, .int .i64 0] 45, accR encIm 72 3 vl1 rows1, irR rows1 ((((keepsM c worker).take i).map (dkE c)))]] := hS18
            have hS20 : St (fun _ => False) (fun _ => False) w0 w7 [bkR b1 [v_c_words, v_c_cuts, .int .i64 c.workers, .int .i64 c.copies, .int .i64 c.slots, .int .i64 c.batch, .int .i64 c.lease, .int .i64 c.hedge, .int .i64 c.first, .int .i64 c.cap, .int .i64 c.jitter, .int .i64 c.net] 25, accR Ik.encI 3 1 v1 ((Ml.keepsM c worker)), accR encB 5 1 v2 ((imgC c x1)), bkR b5 [vl1, .int .i64 0] 45, accR encIm 72 3 vl1 rows1, irR rows1 ((((keepsM c worker).take i).map (dkE c)))] := St.open (L1 := [bkR b1 [v_c_words, v_c_cuts, .int .i64 c.workers, .int .i64 c.copies, .int .i64 c.slots, .int .i64 c.batch, .int .i64 c.lease, .int .i64 c.hedge, .int .i64 c.first, .int .i64 c.cap, .int .i64 c.jitter, .int .i64 c.net] 25, accR Ik.encI 3 1 v1 ((Ml.keepsM c worker)), accR encB 5 1 v2 ((imgC c x1))]) hS19
            have hrl := (All2.get (hS20.irGet (i := 5) rfl)).1
            simp only [List.length_map, List.length_take] at hrl
            obtain ⟨g2, f12, hl3, k2⟩ := hS20.accK (i := 1) rfl
            obtain ⟨x2, b8, o2, hx2, hr2, hl4, hw2⟩ := Sl.atF (P := Tryz.prog) f12.sl Tryz.underlying63 ti3 Ik.encI_len (k := .i64) (n := i) (i) (by omega) (by first | assumption | omega)
            obtain rfl : x1 = x2 := Option.some.inj (hx1.symm.trans hx2)
            refine r_draw1 (fun i => Nat.beq i 12 || Nat.beq i 13 || Nat.beq i 16) 16 (fun w' => Bk w' b5 [vl1, .int .i64 0] 45 ∧ Row w' b8 o2 (Ik.encI x1)) mixed (by kernel_rfl) ?_
            intro w8 hm7
            have hS21 := hS20.ext hm7
            have f13 := hS21.bk (i := 3) rfl
            obtain ⟨g3, f14, hl5, k3⟩ := hS21.accK (i := 1) rfl
            refine ⟨⟨f13, (Sl.rowAt f14.sl Tryz.underlying63 ti3 Ik.encI_len i (by omega) hx2 hr2)⟩, ?_⟩
            rw [show List.range' 0 (Array.size _) = [0, 1, 2, 3, 4, 5, 6, 7, 8, 9, 10, 11, 12, 13, 14, 15, 16] from rfl]
            refine OD.q rfl rfl (Q1.move rfl) rfl rfl ?_
            refine OD.q rfl rfl (Q1.move rfl) rfl rfl ?_
            refine OD.q rfl rfl (Q1.nilCheckP rfl) rfl rfl ?_
            refine OD.q rfl rfl (Q1.fieldAddr fl45_0 rfl) rfl rfl ?_
            have f15 := hS20.bk (i := 3) rfl
            refine OD.q rfl rfl (Q1.load1 ti43 rfl (fun _ hc => (hc.1.cell 0 _ rfl))) rfl rfl ?_
            refine OD.q rfl rfl (Q1.move rfl) rfl rfl ?_
            refine OD.q rfl rfl (Q1.move rfl) rfl rfl ?_
            refine OD.q rfl rfl (Q1.indexAddr rfl rfl hr2) rfl rfl ?_
            refine OD.q rfl rfl (Q1.load1 ti3 rfl (fun _ hc => hc.2)) rfl rfl ?_
            refine OD.q rfl rfl (Q1.move rfl) rfl rfl ?_
            refine OD.q rfl rfl (Q1.move rfl) rfl rfl ?_
            obtain ⟨g4, f16, hl6, k4⟩ := hS21.accK (i := 2) rfl
            obtain ⟨ad1, cp1, hv1⟩ := f16.shape
            subst hv1
            refine OD.q rfl rfl (Q1.build (vs := #[(0, (.int .i64 x1 : Value)), (1, (.slice ad1 ((imgC c x1)).length cp1)), (2, (.slice ad1 ((imgC c x1)).length cp1))]) (v := .agg #[.int .i64 x1, (.slice ad1 ((imgC c x1)).length cp1), (.slice ad1 ((imgC c x1)).length cp1)]) rfl (fun _ => by kernel_rfl)) rfl rfl ?_
            refine OD.act rfl rfl rfl rfl (AW.buildSlice [(.agg #[.int .i64 x1, (.slice ad1 ((imgC c x1)).length cp1), (.slice ad1 ((imgC c x1)).length cp1)] : Value)] Tryz.underlying43 ti72 rfl rfl rfl (by decide) ?_)
            intro w9 b9 hm8 hb7 hz3 hk3
            have hS22 := hS21.ext hm8
            have hl7 := Sl.of_blk (enc := encIm) hk3 ([(RIm.mk x1 (SH.mk ad1 ((imgC c x1)).length cp1) (SH.mk ad1 ((imgC c x1)).length cp1))] : List RIm) 1 rfl rfl (by unfold maxLen; omega)
            have hS23 : St (fun _ => False) (fun _ => False) w0 w9 [bkR b1 [v_c_words, v_c_cuts, .int .i64 c.workers, .int .i64 c.copies, .int .i64 c.slots, .int .i64 c.batch, .int .i64 c.lease, .int .i64 c.hedge, .int .i64 c.first, .int .i64 c.cap, .int .i64 c.jitter, .int .i64 c.net] 25, accR Ik.encI 3 1 v1 ((Ml.keepsM c worker)), accR encB 5 1 ((.slice ad1 ((imgC c x1)).length cp1)) ((imgC c x1)), bkR b5 [vl1, .int .i64 0] 45, accR encIm 72 3 vl1 rows1, irR rows1 ((((keepsM c worker).take i).map (dkE c))), slR encIm [((.slice (some ⟨b9, 0, none⟩) 1 1), [(RIm.mk x1 (SH.mk ad1 ((imgC c x1)).length cp1) (SH.mk ad1 ((imgC c x1)).length cp1))])]] := hS21.newSlB hm8 hb7 hz3 hl7
            have f17 := hS23.bk (i := 3) rfl
            obtain ⟨g5, f18, hl8, k5⟩ := hS23.accK (i := 1) rfl
            refine ⟨.inr ⟨f17, (Sl.rowAt f18.sl Tryz.underlying63 ti3 Ik.encI_len i (by omega) hx2 hr2)⟩, ?_⟩
            obtain ⟨g7, f19, hl9, k6⟩ := hS23.accK (i := 4) rfl
            have f20 := hS23.sl (i := 6) (k := 0) rfl rfl
            refine OD.act rfl rfl rfl rfl (AW.append f19 Tryz.underlying43 ti72 rfl encIm_len encIm_one rfl rfl (f20) (by first | omega | (simp only [List.length_append, List.length_cons, List.length_nil]; omega) | (simp; omega)) (by unfold maxLen; first | omega | (simp only [List.length_append, List.length_cons, List.length_nil]; omega) | (simp; omega)) ?_)
            intro v3 g6 w10 ha1 hm9 hg3 hz4
            have hS24 : St (fun _ => False) (fun _ => False) w0 w10 [bkR b1 [v_c_words, v_c_cuts, .int .i64 c.workers, .int .i64 c.copies, .int .i64 c.slots, .int .i64 c.batch, .int .i64 c.lease, .int .i64 c.hedge, .int .i64 c.first, .int .i64 c.cap, .int .i64 c.jitter, .int .i64 c.net] 25, accR Ik.encI 3 1 v1 ((Ml.keepsM c worker)), accR encB 5 1 ((.slice ad1 ((imgC c x1)).length cp1)) ((imgC c x1)), bkR b5 [vl1, .int .i64 0] 45, accR encIm 72 3 v3 ((rows1 ++ [(RIm.mk x1 (SH.mk ad1 ((imgC c x1)).length cp1) (SH.mk ad1 ((imgC c x1)).length cp1))])), irR rows1 ((((keepsM c worker).take i).map (dkE c))), slR encIm [((.slice (some ⟨b9, 0, none⟩) 1 1), [(RIm.mk x1 (SH.mk ad1 ((imgC c x1)).length cp1) (SH.mk ad1 ((imgC c x1)).length cp1))])]] := k6 _ _ _ _ hm9 ha1 hg3
            have f21 := hS24.bk (i := 3) rfl
            obtain ⟨g8, f22, hl10, k7⟩ := hS24.accK (i := 1) rfl
            refine ⟨.inr ⟨f21, (Sl.rowAt f22.sl Tryz.underlying63 ti3 Ik.encI_len i (by omega) hx2 hr2)⟩, ?_⟩
            clear hg3
            refine OD.q rfl rfl (Q1.nilCheckP rfl) rfl rfl ?_
            refine OD.q rfl rfl (Q1.fieldAddr fl45_0 rfl) rfl rfl ?_
            obtain ⟨g9, f23, hl11, k8⟩ := hS24.accK (i := 4) rfl
            obtain ⟨ad2, cp2, hv2⟩ := f23.shape
            subst hv2
            refine OD.act rfl rfl rfl rfl (AW.store ti43 rfl rfl rfl rfl rfl f21 (Nat.le_of_ble_eq_true rfl) ?_)
            intro w11 hm10 hz5 hk4
            have hS25 : St (fun _ => False) (fun _ => False) w0 w11 [bkR b1 [v_c_words, v_c_cuts, .int .i64 c.workers, .int .i64 c.copies, .int .i64 c.slots, .int .i64 c.batch, .int .i64 c.lease, .int .i64 c.hedge, .int .i64 c.first, .int .i64 c.cap, .int .i64 c.jitter, .int .i64 c.net] 25, accR Ik.encI 3 1 v1 ((Ml.keepsM c worker)), accR encB 5 1 ((.slice ad1 ((imgC c x1)).length cp1)) ((imgC c x1)), bkR b5 [(.slice ad2 ((rows1 ++ [(RIm.mk x1 (SH.mk ad1 ((imgC c x1)).length cp1) (SH.mk ad1 ((imgC c x1)).length cp1))])).length cp2), .int .i64 0] 45, accR encIm 72 3 ((.slice ad2 ((rows1 ++ [(RIm.mk x1 (SH.mk ad1 ((imgC c x1)).length cp1) (SH.mk ad1 ((imgC c x1)).length cp1))])).length cp2)) ((rows1 ++ [(RIm.mk x1 (SH.mk ad1 ((imgC c x1)).length cp1) (SH.mk ad1 ((imgC c x1)).length cp1))])), irR rows1 ((((keepsM c worker).take i).map (dkE c))), slR encIm [((.slice (some ⟨b9, 0, none⟩) 1 1), [(RIm.mk x1 (SH.mk ad1 ((imgC c x1)).length cp1) (SH.mk ad1 ((imgC c x1)).length cp1))])]] := hS24.bkK (i := 3) rfl hm10 hk4
            refine ⟨.inl rfl, ?_⟩
            refine OD.nil ?_
            refine r_inBlock ?_
            refine r_region ?_
            have hS26 : St (fun _ => False) (fun _ => False) w0 w11 [bkR b1 [v_c_words, v_c_cuts, .int .i64 c.workers, .int .i64 c.copies, .int .i64 c.slots, .int .i64 c.batch, .int .i64 c.lease, .int .i64 c.hedge, .int .i64 c.first, .int .i64 c.cap, .int .i64 c.jitter, .int .i64 c.net] 25, accR Ik.encI 3 1 v1 ((Ml.keepsM c worker)), bkR b5 [(.slice ad2 ((rows1 ++ [(RIm.mk x1 (SH.mk ad1 ((imgC c x1)).length cp1) (SH.mk ad1 ((imgC c x1)).length cp1))])).length cp2), .int .i64 0] 45, accR encIm 72 3 ((.slice ad2 ((rows1 ++ [(RIm.mk x1 (SH.mk ad1 ((imgC c x1)).length cp1) (SH.mk ad1 ((imgC c x1)).length cp1))])).length cp2)) ((rows1 ++ [(RIm.mk x1 (SH.mk ad1 ((imgC c x1)).length cp1) (SH.mk ad1 ((imgC c x1)).length cp1))])), slR encIm [((.slice (some ⟨b9, 0, none⟩) 1 1), [(RIm.mk x1 (SH.mk ad1 ((imgC c x1)).length cp1) (SH.mk ad1 ((imgC c x1)).length cp1))])], irR rows1 ((((keepsM c worker).take i).map (dkE c))), accR encB 5 1 ((.slice ad1 ((imgC c x1)).length cp1)) ((imgC c x1))] := hS25.sel [0, 1, 3, 4, 6, 5, 2] (by rfl) (by decide)
            have hS27 : St (fun _ => False) (fun _ => False) w0 w11 [bkR b1 [v_c_words, v_c_cuts, .int .i64 c.workers, .int .i64 c.copies, .int .i64 c.slots, .int .i64 c.batch, .int .i64 c.lease, .int .i64 c.hedge, .int .i64 c.first, .int .i64 c.cap, .int .i64 c.jitter, .int .i64 c.net] 25, accR Ik.encI 3 1 v1 ((Ml.keepsM c worker)), bkR b5 [(.slice ad2 ((rows1 ++ [(RIm.mk x1 (SH.mk ad1 ((imgC c x1)).length cp1) (SH.mk ad1 ((imgC c x1)).length cp1))])).length cp2), .int .i64 0] 45, accR encIm 72 3 ((.slice ad2 ((rows1 ++ [(RIm.mk x1 (SH.mk ad1 ((imgC c x1)).length cp1) (SH.mk ad1 ((imgC c x1)).length cp1))])).length cp2)) ((rows1 ++ [(RIm.mk x1 (SH.mk ad1 ((imgC c x1)).length cp1) (SH.mk ad1 ((imgC c x1)).length cp1))])), slR encIm [((.slice (some ⟨b9, 0, none⟩) 1 1), [(RIm.mk x1 (SH.mk ad1 ((imgC c x1)).length cp1) (SH.mk ad1 ((imgC c x1)).length cp1))])], boxR [irR rows1 ((((keepsM c worker).take i).map (dkE c))), accR encB 5 1 ((.slice ad1 ((imgC c x1)).length cp1)) ((imgC c x1))]] := St.close (L1 := [bkR b1 [v_c_words, v_c_cuts, .int .i64 c.workers, .int .i64 c.copies, .int .i64 c.slots, .int .i64 c.batch, .int .i64 c.lease, .int .i64 c.hedge, .int .i64 c.first, .int .i64 c.cap, .int .i64 c.jitter, .int .i64 c.net] 25, accR Ik.encI 3 1 v1 ((Ml.keepsM c worker)), bkR b5 [(.slice ad2 ((rows1 ++ [(RIm.mk x1 (SH.mk ad1 ((imgC c x1)).length cp1) (SH.mk ad1 ((imgC c x1)).length cp1))])).length cp2), .int .i64 0] 45, accR encIm 72 3 ((.slice ad2 ((rows1 ++ [(RIm.mk x1 (SH.mk ad1 ((imgC c x1)).length cp1) (SH.mk ad1 ((imgC c x1)).length cp1))])).length cp2)) ((rows1 ++ [(RIm.mk x1 (SH.mk ad1 ((imgC c x1)).length cp1) (SH.mk ad1 ((imgC c x1)).length cp1))])), slR encIm [((.slice (some ⟨b9, 0, none⟩) 1 1), [(RIm.mk x1 (SH.mk ad1 ((imgC c x1)).length cp1) (SH.mk ad1 ((imgC c x1)).length cp1))])]]) hS26
            have hS28 : St (fun _ => False) (fun _ => False) w0 w11 [bkR b1 [v_c_words, v_c_cuts, .int .i64 c.workers, .int .i64 c.copies, .int .i64 c.slots, .int .i64 c.batch, .int .i64 c.lease, .int .i64 c.hedge, .int .i64 c.first, .int .i64 c.cap, .int .i64 c.jitter, .int .i64 c.net] 25, accR Ik.encI 3 1 v1 ((Ml.keepsM c worker)), bkR b5 [(.slice ad2 ((rows1 ++ [(RIm.mk x1 (SH.mk ad1 ((imgC c x1)).length cp1) (SH.mk ad1 ((imgC c x1)).length cp1))])).length cp2), .int .i64 0] 45, accR encIm 72 3 ((.slice ad2 ((rows1 ++ [(RIm.mk x1 (SH.mk ad1 ((imgC c x1)).length cp1) (SH.mk ad1 ((imgC c x1)).length cp1))])).length cp2)) ((rows1 ++ [(RIm.mk x1 (SH.mk ad1 ((imgC c x1)).length cp1) (SH.mk ad1 ((imgC c x1)).length cp1))])), slR encIm [((.slice (some ⟨b9, 0, none⟩) 1 1), [(RIm.mk x1 (SH.mk ad1 ((imgC c x1)).length cp1) (SH.mk ad1 ((imgC c x1)).length cp1))])], irR ((rows1 ++ [(RIm.mk x1 (SH.mk ad1 ((imgC c x1)).length cp1) (SH.mk ad1 ((imgC c x1)).length cp1))])) (((keepsM c worker).take (i + 1)).map (dkE c))] := hS27.imp (i := 5) rfl (fun F_ h_ => (by rw [← dkE_step hx1]; exact ir_push rfl h_))
            have hS29 : St (fun _ => False) (fun _ => False) w0 w11 [bkR b1 [v_c_words, v_c_cuts, .int .i64 c.workers, .int .i64 c.copies, .int .i64 c.slots, .int .i64 c.batch, .int .i64 c.lease, .int .i64 c.hedge, .int .i64 c.first, .int .i64 c.cap, .int .i64 c.jitter, .int .i64 c.net] 25, accR Ik.encI 3 1 v1 ((Ml.keepsM c worker)), slR encIm [((.slice (some ⟨b9, 0, none⟩) 1 1), [(RIm.mk x1 (SH.mk ad1 ((imgC c x1)).length cp1) (SH.mk ad1 ((imgC c x1)).length cp1))])], bkR b5 [(.slice ad2 ((rows1 ++ [(RIm.mk x1 (SH.mk ad1 ((imgC c x1)).length cp1) (SH.mk ad1 ((imgC c x1)).length cp1))])).length cp2), .int .i64 0] 45, accR encIm 72 3 ((.slice ad2 ((rows1 ++ [(RIm.mk x1 (SH.mk ad1 ((imgC c x1)).length cp1) (SH.mk ad1 ((imgC c x1)).length cp1))])).length cp2)) ((rows1 ++ [(RIm.mk x1 (SH.mk ad1 ((imgC c x1)).length cp1) (SH.mk ad1 ((imgC c x1)).length cp1))])), irR ((rows1 ++ [(RIm.mk x1 (SH.mk ad1 ((imgC c x1)).length cp1) (SH.mk ad1 ((imgC c x1)).length cp1))])) (((keepsM c worker).take (i + 1)).map (dkE c))] := hS28.sel [0, 1, 4, 2, 3, 5] (by rfl) (by decide)
            have hS30 : St (fun _ => False) (fun _ => False) w0 w11 [bkR b1 [v_c_words, v_c_cuts, .int .i64 c.workers, .int .i64 c.copies, .int .i64 c.slots, .int .i64 c.batch, .int .i64 c.lease, .int .i64 c.hedge, .int .i64 c.first, .int .i64 c.cap, .int .i64 c.jitter, .int .i64 c.net] 25, accR Ik.encI 3 1 v1 ((Ml.keepsM c worker)), slR encIm [((.slice (some ⟨b9, 0, none⟩) 1 1), [(RIm.mk x1 (SH.mk ad1 ((imgC c x1)).length cp1) (SH.mk ad1 ((imgC c x1)).length cp1))])], boxR [bkR b5 [(.slice ad2 ((rows1 ++ [(RIm.mk x1 (SH.mk ad1 ((imgC c x1)).length cp1) (SH.mk ad1 ((imgC c x1)).length cp1))])).length cp2), .int .i64 0] 45, accR encIm 72 3 ((.slice ad2 ((rows1 ++ [(RIm.mk x1 (SH.mk ad1 ((imgC c x1)).length cp1) (SH.mk ad1 ((imgC c x1)).length cp1))])).length cp2)) ((rows1 ++ [(RIm.mk x1 (SH.mk ad1 ((imgC c x1)).length cp1) (SH.mk ad1 ((imgC c x1)).length cp1))])), irR ((rows1 ++ [(RIm.mk x1 (SH.mk ad1 ((imgC c x1)).length cp1) (SH.mk ad1 ((imgC c x1)).length cp1))])) (((keepsM c worker).take (i + 1)).map (dkE c))]] := St.close (L1 := [bkR b1 [v_c_words, v_c_cuts, .int .i64 c.workers, .int .i64 c.copies, .int .i64 c.slots, .int .i64 c.batch, .int .i64 c.lease, .int .i64 c.hedge, .int .i64 c.first, .int .i64 c.cap, .int .i64 c.jitter, .int .i64 c.net] 25, accR Ik.encI 3 1 v1 ((Ml.keepsM c worker)), slR encIm [((.slice (some ⟨b9, 0, none⟩) 1 1), [(RIm.mk x1 (SH.mk ad1 ((imgC c x1)).length cp1) (SH.mk ad1 ((imgC c x1)).length cp1))])]]) hS29
            have hS31 : St (fun _ => False) (fun _ => False) w0 w11 [bkR b1 [v_c_words, v_c_cuts, .int .i64 c.workers, .int .i64 c.copies, .int .i64 c.slots, .int .i64 c.batch, .int .i64 c.lease, .int .i64 c.hedge, .int .i64 c.first, .int .i64 c.cap, .int .i64 c.jitter, .int .i64 c.net] 25, accR Ik.encI 3 1 v1 ((Ml.keepsM c worker)), slR encIm [((.slice (some ⟨b9, 0, none⟩) 1 1), [(RIm.mk x1 (SH.mk ad1 ((imgC c x1)).length cp1) (SH.mk ad1 ((imgC c x1)).length cp1))])], rdR 45 72 b5 0 ((((keepsM c worker).take (i + 1)).map (dkE c)))] := hS30.exi (A := fun z_ : Value × List RIm => boxR [bkR b5 [z_.1, .int .i64 0] 45, accR encIm 72 3 z_.1 z_.2, irR z_.2 ((((keepsM c worker).take (i + 1)).map (dkE c)))]) ((.slice ad2 ((rows1 ++ [(RIm.mk x1 (SH.mk ad1 ((imgC c x1)).length cp1) (SH.mk ad1 ((imgC c x1)).length cp1))])).length cp2), (rows1 ++ [(RIm.mk x1 (SH.mk ad1 ((imgC c x1)).length cp1) (SH.mk ad1 ((imgC c x1)).length cp1))])) (i := 3) rfl
            refine OL.q (Q1.move rfl) rfl rfl ?_
            refine OL.q (Q1.addI (((i + 1 : Nat) : Int)) rfl rfl (by omega)) rfl rfl ?_
            refine OL.q (Q1.assign rfl) rfl rfl ?_
            refine OL.nil ?_
            have hS32 : St (fun _ => False) (fun _ => False) w0 w11 [bkR b1 [v_c_words, v_c_cuts, .int .i64 c.workers, .int .i64 c.copies, .int .i64 c.slots, .int .i64 c.batch, .int .i64 c.lease, .int .i64 c.hedge, .int .i64 c.first, .int .i64 c.cap, .int .i64 c.jitter, .int .i64 c.net] 25, accR Ik.encI 3 1 v1 ((Ml.keepsM c worker)), rdR 45 72 b5 0 ((((keepsM c worker).take (i + 1)).map (dkE c)))] := hS31.sel [0, 1, 3] (by rfl) (by decide)
            exact (ih1 _ _ _ ⟨(i + 1 : Nat), rfl, rfl, hS32⟩ (by omega)).sub ⟨rfl, rfl, rfl, rfl, trivial⟩
          | false =>
            replace hb6 := of_decide_eq_false hb6.symm
            refine r_cond_f rfl ?_
            refine r_exit rfl ?_
            refine r_seq ?_
            refine r_region ?_
            refine OL.q (Q1.move rfl) rfl rfl ?_
            refine OL.q (Q1.assign rfl) rfl rfl ?_
            refine OL.q (Q1.assign rfl) rfl rfl ?_
            refine OL.nil ?_
            refine r_ret2 Tryz.func7 rfl rfl rfl ?_
            have hS14 : St (fun _ => False) (fun _ => False) w0 w5 [rdR 45 72 b5 0 ((((keepsM c worker).take i).map (dkE c)))] := hS12.sel [2] (by rfl) (by decide)
            have hall : (((keepsM c worker).take i).map (dkE c)) = dkNew c worker := by rw [List.take_of_length_le (by omega)]; rfl
            rw [hall] at hS14
            obtain ⟨hmF, F2r, hAr, hFr⟩ := hS14.fin
            exact Ret.mk ⟨hmF, .inr ⟨mayD_yes (by first | assumption | (symm; assumption)) (by omega) (by omega), _, F2r, rfl, hAr, fun b hb => ⟨(hFr b hb).1, (hFr b hb).2.resolve_left id⟩⟩⟩
  | false =>
    replace hb2 := hb2.symm
    refine OL.q (Q1.not rfl) rfl rfl ?_
    refine OL.q (Q1.move rfl) rfl rfl ?_
    refine OL.sk rfl rfl ?_
    refine OL.sk rfl rfl ?_
    refine OL.q (Q1.pick_t rfl rfl) rfl rfl ?_
    refine OL.q (Q1.move rfl) rfl rfl ?_
    refine OL.sk rfl rfl ?_
    refine OL.sk rfl rfl ?_
    refine OL.sk rfl rfl ?_
    refine OL.sk rfl rfl ?_
    refine OL.q (Q1.pick_t rfl rfl) rfl rfl ?_
    refine OL.nil ?_
    refine r_cond_t rfl ?_
    refine r_seq ?_
    refine r_region ?_
    refine OL.q (Q1.assign rfl) rfl rfl ?_
    refine OL.q (Q1.assign rfl) rfl rfl ?_
    refine OL.nil ?_
    refine r_ret2 Tryz.func7 rfl rfl rfl ?_
    exact Ret.mk ⟨hS3.mod, .inl ⟨mayD_no (by first | exact .inl (Eq.symm (by assumption)) | exact .inl (by assumption) | exact .inr (by omega)), rfl⟩⟩
end Go.Proofs
namespace Go.Proofs
open Go.Ik Go.Ml
set_option maxRecDepth 20000 in
set_option maxHeartbeats 2000000 in
theorem DiskScript_c {w0 : World}  {c : Cfg} {v_c_words : Value} {v_c_cuts : Value} (worker : Int) {v_acts : Value} {acts : List ActD} (h_c_words : Sl encS w0 (Iv 0 w0.heap.size) v_c_words c.words) (h_c_cuts : Sl encKey w0 (Iv 0 w0.heap.size) v_c_cuts c.cuts) (h_c : Cfg.Ok c) (h_worker : I64 worker) (h_acts : Sl encAct w0 (Iv 0 w0.heap.size) v_acts acts) (hao : ∀ a ∈ acts, ActD.Ok a) :
    Calls Tryz.prog 3 #[.agg #[v_c_words, v_c_cuts, .int .i64 c.workers, .int .i64 c.copies, .int .i64 c.slots, .int .i64 c.batch, .int .i64 c.lease, .int .i64 c.hedge, .int .i64 c.first, .int .i64 c.cap, .int .i64 c.jitter, .int .i64 c.net], .int .i64 worker, v_acts] w0 (Ret fun rv w1 => (∃ rb : Bool, rb = true ∧ rv = .bool rb) ∧ Ext w0 w1) := by
  have hle_c_words := h_c_words.le
  have hle_c_cuts := h_c_cuts.le
  have hle_acts := h_acts.le
  have hc1 := h_c.workers
  have hc2 := h_c.copies
  have hc3 := h_c.slots
  have hc4 := h_c.batch
  have hc5 := h_c.lease
  have hc6 := h_c.hedge
  have hc7 := h_c.first
  have hc8 := h_c.cap
  have hc9 := h_c.jitter
  have hc10 := h_c.net
  have hS0 := St.start0 w0
  refine calls_enter Tryz.func3 rfl Tryz.ntmps3 rfl ?_
  refine r_seq ?_
  refine r_region ?_
  refine OL.act rfl rfl (AW.box [v_c_words, v_c_cuts, .int .i64 c.workers, .int .i64 c.copies, .int .i64 c.slots, .int .i64 c.batch, .int .i64 c.lease, .int .i64 c.hedge, .int .i64 c.first, .int .i64 c.cap, .int .i64 c.jitter, .int .i64 c.net] rfl rfl ?_)
  intro w1 b1 hm1 hb1 hz1 hk1
  have hS1 := hS0.ext hm1
  have hS2 : St (fun _ => False) (fun _ => False) w0 w1 [bkR b1 [v_c_words, v_c_cuts, .int .i64 c.workers, .int .i64 c.copies, .int .i64 c.slots, .int .i64 c.batch, .int .i64 c.lease, .int .i64 c.hedge, .int .i64 c.first, .int .i64 c.cap, .int .i64 c.jitter, .int .i64 c.net] 25] := hS0.newBk hm1 hb1 hk1
  refine OL.q (Q1.assign rfl) rfl rfl ?_
  refine OL.nil ?_
  refine r_seq ?_
  refine r_seq ?_
  refine r_region ?_
  have f1 := hS2.bk (i := 0) rfl
  refine OL.q (Q1.loadN ti25 rfl (fun _ e => e ▸ f1.row) rfl) rfl rfl ?_
  have f2 := hS2.out h_c_words (fun _ _ h => h)
  have f3 := hS2.out h_c_cuts (fun _ _ h => h)
  refine OL.act rfl rfl (AW.callF cl4 rfl (greatC_c (w0 := w1) (c := c)  (f2.iv (Nat.zero_le _) hS2.mod.size) (f3.iv (Nat.zero_le _) hS2.mod.size) (by first | assumption | exact Ml.Cfg.ok_of (by decide +kernel))) ?_)
  rintro _ w2 ⟨⟨b2, hb2, rfl⟩, hm2⟩
  have hS3 := hS2.ext hm2
  refine OL.q (Q1.move rfl) rfl rfl ?_
  cases b2 with
  | true =>
    replace hb2 := hb2.symm
    refine OL.sk rfl rfl ?_
    refine OL.sk rfl rfl ?_
    refine OL.sk rfl rfl ?_
    refine OL.q (Q1.pick_t rfl rfl) rfl rfl ?_
    refine OL.nil ?_
    refine r_cond_t rfl ?_
    refine r_seq ?_
    refine r_region ?_
    refine OL.act rfl rfl (AW.callF cl5 rfl (awake14_c (w0 := w2)   ) ?_)
    rintro _ w3 ⟨⟨_, rfl, rfl⟩, hm3⟩
    have hS4 := hS3.ext hm3
    refine OL.q (Q1.assign rfl) rfl rfl ?_
    refine OL.nil ?_
    refine r_ret1 Tryz.func3 rfl rfl ?_
    exact Ret.mk ⟨⟨_, (by rfl), rfl⟩, hS4.mod⟩
  | false =>
    replace hb2 := hb2.symm
    refine OL.q (Q1.move rfl) rfl rfl ?_
    have f4 := hS3.out h_acts (fun _ _ h => h)
    refine OL.q (Q1.lenSl Tryz.underlying26 (f4) rfl) rfl rfl ?_
    refine OL.qb (Q1.gt rfl rfl) rfl rfl ?_
    intro b3 hb3
    refine OL.q (Q1.pick_f rfl rfl) rfl rfl ?_
    refine OL.nil ?_
    cases b3 with
    | true =>
      replace hb3 := of_decide_eq_true hb3.symm
      refine r_cond_t rfl ?_
      refine r_seq ?_
      refine r_region ?_
      refine OL.act rfl rfl (AW.callF cl5 rfl (awake14_c (w0 := w2)   ) ?_)
      rintro _ w3 ⟨⟨_, rfl, rfl⟩, hm3⟩
      have hS4 := hS3.ext hm3
      refine OL.q (Q1.assign rfl) rfl rfl ?_
      refine OL.nil ?_
      refine r_ret1 Tryz.func3 rfl rfl ?_
      exact Ret.mk ⟨⟨_, (by rfl), rfl⟩, hS4.mod⟩
    | false =>
      replace hb3 := of_decide_eq_false hb3.symm
      refine r_cond_f rfl ?_
      refine r_skip ?_
      refine r_seq ?_
      refine r_region ?_
      have f5 := hS3.bk (i := 0) rfl
      refine OL.q (Q1.loadN ti25 rfl (fun _ e => e ▸ f5.row) rfl) rfl rfl ?_
      have hcs := CfgS.of (by assumption : Ml.greatC c = false)
      have hwl := hcs.wl
      have hcl := hcs.cl
      refine OL.q (Q1.move rfl) rfl rfl ?_
      have f6 := hS3.out h_c_words (fun _ _ h => h)
      have f7 := hS3.out h_c_cuts (fun _ _ h => h)
      refine OL.act rfl rfl (AW.callF cl6 rfl (dnew_c (w0 := w2) (c := c) (worker) (f6.iv (Nat.zero_le _) hS3.mod.size) (f7.iv (Nat.zero_le _) hS3.mod.size) (by first | assumption | exact Ml.Cfg.ok_of (by decide +kernel)) (by first | assumption | (unfold I64; omega) | (unfold I64; decide)) (by first | assumption | omega | decide)) ?_)
      rintro _ w3 ⟨hm3, hd1⟩
      rcases hd1 with ⟨hmd1, rfl⟩ | ⟨hmd1, bd1, F1, rfl, hA1, hF1⟩
      · skip
        have hS4 := hS3.ext hm3
        refine OL.q (Q1.move rfl) rfl rfl ?_
        refine OL.q (Q1.extract rfl rfl) rfl rfl ?_
        refine OL.q (Q1.extract rfl rfl) rfl rfl ?_
        refine OL.q (Q1.assign rfl) rfl rfl ?_
        refine OL.q (Q1.assign rfl) rfl rfl ?_
        refine OL.nil ?_
        refine r_seq ?_
        refine r_region ?_
        have f8 := hS4.bk (i := 0) rfl
        refine OL.q (Q1.loadN ti25 rfl (fun _ e => e ▸ f8.row) rfl) rfl rfl ?_
        refine OL.q (Q1.move rfl) rfl rfl ?_
        have f9 := hS4.out h_c_words (fun _ _ h => h)
        have f10 := hS4.out h_c_cuts (fun _ _ h => h)
        refine OL.act rfl rfl (AW.callF cl7 rfl (r14new_c (w0 := w3) (c := c) (worker) (f9.iv (Nat.zero_le _) hS4.mod.size) (f10.iv (Nat.zero_le _) hS4.mod.size) (by first | assumption | exact Ml.Cfg.ok_of (by decide +kernel)) (by first | assumption | (unfold I64; omega) | (unfold I64; decide)) hcs) ?_)
        rintro _ w4 ⟨hm4, hd2⟩
        rcases hd2 with ⟨hmd2, rfl⟩ | ⟨hmd2, bw1, F2, rfl, hA2, hF2⟩
        · skip
          have hS5 := hS4.ext hm4
          refine OL.q (Q1.move rfl) rfl rfl ?_
          refine OL.q (Q1.extract rfl rfl) rfl rfl ?_
          refine OL.q (Q1.extract rfl rfl) rfl rfl ?_
          refine OL.q (Q1.assign rfl) rfl rfl ?_
          refine OL.q (Q1.assign rfl) rfl rfl ?_
          refine OL.nil ?_
          refine r_seq ?_
          refine r_seq ?_
          refine r_region ?_
          refine OL.q (Q1.move rfl) rfl rfl ?_
          refine OL.act rfl rfl (AW.callF cl8 rfl (num_c (w0 := w4)  (2) (by first | omega | assumption)) ?_)
          rintro _ w5 ⟨rfl, hm5⟩
          have hS6 := hS5.ext hm5
          refine OL.q (Q1.move rfl) rfl rfl ?_
          refine OL.qb (Q1.ne rfl rfl) rfl rfl ?_
          intro b4 hb4
          obtain rfl : b4 = false := hb4.trans (by rfl)
          refine OL.q (Q1.move rfl) rfl rfl ?_
          refine OL.q (Q1.move rfl) rfl rfl ?_
          refine OL.q (Q1.eqNil Tryz.underlying29 rfl rfl) rfl rfl ?_
          refine OL.q (Q1.move rfl) rfl rfl ?_
          refine OL.q (Q1.eqNil Tryz.underlying33 rfl rfl) rfl rfl ?_
          refine OL.qb (Q1.neB Tryz.underlying4 rfl rfl) rfl rfl ?_
          intro b5 hb5
          obtain rfl : b5 = false := hb5.trans (by first | rfl | decide)
          refine OL.q (Q1.pick_f rfl rfl) rfl rfl ?_
          refine OL.nil ?_
          refine r_cond_f rfl ?_
          refine r_skip ?_
          refine r_seq ?_
          refine r_seq ?_
          refine r_region ?_
          refine OL.q (Q1.move rfl) rfl rfl ?_
          refine OL.q (Q1.eqNil Tryz.underlying33 rfl rfl) rfl rfl ?_
          refine OL.nil ?_
          refine r_cond_t rfl ?_
          refine r_seq ?_
          refine r_region ?_
          refine OL.act rfl rfl (AW.callF cl5 rfl (awake14_c (w0 := w5)   ) ?_)
          rintro _ w6 ⟨⟨_, rfl, rfl⟩, hm6⟩
          have hS7 := hS6.ext hm6
          refine OL.q (Q1.assign rfl) rfl rfl ?_
          refine OL.nil ?_
          refine r_ret1 Tryz.func3 rfl rfl ?_
          exact Ret.mk ⟨⟨_, (by rfl), rfl⟩, hS7.mod⟩
        · exact absurd (hmd1.symm.trans hmd2) (by decide)
      · skip
        have hS4 := hS3.ext hm3
        have hS5 : St (fun _ => False) (fun _ => False) w0 w3 [bkR b1 [v_c_words, v_c_cuts, .int .i64 c.workers, .int .i64 c.copies, .int .i64 c.slots, .int .i64 c.batch, .int .i64 c.lease, .int .i64 c.hedge, .int .i64 c.first, .int .i64 c.cap, .int .i64 c.jitter, .int .i64 c.net] 25, dkK 62 69 5 bd1 0 ((dkNew c worker))] := hS3.new hm3 hA1 (fun b hb => ⟨(hF1 b hb).2, (hF1 b hb).1⟩)
        refine OL.q (Q1.move rfl) rfl rfl ?_
        refine OL.q (Q1.extract rfl rfl) rfl rfl ?_
        refine OL.q (Q1.extract rfl rfl) rfl rfl ?_
        refine OL.q (Q1.assign rfl) rfl rfl ?_
        refine OL.q (Q1.assign rfl) rfl rfl ?_
        refine OL.nil ?_
        refine r_seq ?_
        refine r_region ?_
        have f8 := hS5.bk (i := 0) rfl
        refine OL.q (Q1.loadN ti25 rfl (fun _ e => e ▸ f8.row) rfl) rfl rfl ?_
        refine OL.q (Q1.move rfl) rfl rfl ?_
        have f9 := hS5.out h_c_words (fun _ _ h => h)
        have f10 := hS5.out h_c_cuts (fun _ _ h => h)
        refine OL.act rfl rfl (AW.callF cl7 rfl (r14new_c (w0 := w3) (c := c) (worker) (f9.iv (Nat.zero_le _) hS5.mod.size) (f10.iv (Nat.zero_le _) hS5.mod.size) (by first | assumption | exact Ml.Cfg.ok_of (by decide +kernel)) (by first | assumption | (unfold I64; omega) | (unfold I64; decide)) hcs) ?_)
        rintro _ w4 ⟨hm4, hd2⟩
        rcases hd2 with ⟨hmd2, rfl⟩ | ⟨hmd2, bw1, F2, rfl, hA2, hF2⟩
        · exact absurd (hmd2.symm.trans hmd1) (by decide)
        · skip
          have hS6 := hS5.ext hm4
          have hS7 : St (fun _ => False) (fun _ => False) w0 w4 [bkR b1 [v_c_words, v_c_cuts, .int .i64 c.workers, .int .i64 c.copies, .int .i64 c.slots, .int .i64 c.batch, .int .i64 c.lease, .int .i64 c.hedge, .int .i64 c.first, .int .i64 c.cap, .int .i64 c.jitter, .int .i64 c.net] 25, dkK 62 69 5 bd1 0 ((dkNew c worker)), rdR 45 72 bw1 0 ((dkNew c worker))] := hS5.new hm4 hA2 (fun b hb => ⟨(hF2 b hb).2, (hF2 b hb).1⟩)
          refine OL.q (Q1.move rfl) rfl rfl ?_
          refine OL.q (Q1.extract rfl rfl) rfl rfl ?_
          refine OL.q (Q1.extract rfl rfl) rfl rfl ?_
          refine OL.q (Q1.assign rfl) rfl rfl ?_
          refine OL.q (Q1.assign rfl) rfl rfl ?_
          refine OL.nil ?_
          refine r_seq ?_
          refine r_seq ?_
          refine r_region ?_
          refine OL.q (Q1.move rfl) rfl rfl ?_
          refine OL.act rfl rfl (AW.callF cl8 rfl (num_c (w0 := w4)  (0) (by first | omega | assumption)) ?_)
          rintro _ w5 ⟨rfl, hm5⟩
          have hS8 := hS7.ext hm5
          refine OL.q (Q1.move rfl) rfl rfl ?_
          refine OL.qb (Q1.ne rfl rfl) rfl rfl ?_
          intro b4 hb4
          obtain rfl : b4 = false := hb4.trans (by rfl)
          refine OL.q (Q1.move rfl) rfl rfl ?_
          refine OL.q (Q1.move rfl) rfl rfl ?_
          refine OL.q (Q1.eqNil Tryz.underlying29 rfl rfl) rfl rfl ?_
          refine OL.q (Q1.move rfl) rfl rfl ?_
          refine OL.q (Q1.eqNil Tryz.underlying33 rfl rfl) rfl rfl ?_
          refine OL.qb (Q1.neB Tryz.underlying4 rfl rfl) rfl rfl ?_
          intro b5 hb5
          obtain rfl : b5 = false := hb5.trans (by first | rfl | decide)
          refine OL.q (Q1.pick_f rfl rfl) rfl rfl ?_
          refine OL.nil ?_
          refine r_cond_f rfl ?_
          refine r_skip ?_
          refine r_seq ?_
          refine r_seq ?_
          refine r_region ?_
          refine OL.q (Q1.move rfl) rfl rfl ?_
          refine OL.q (Q1.eqNil Tryz.underlying33 rfl rfl) rfl rfl ?_
          refine OL.nil ?_
          refine r_cond_f rfl ?_
          refine r_skip ?_
          refine r_seq ?_
          refine r_seq ?_
          refine r_region ?_
          refine OL.q (Q1.assign rfl) rfl rfl ?_
          refine OL.nil ?_
          refine r_block ?_
          have hS10 : St (fun _ => False) (fun _ => False) w0 w5 [dkK 62 69 5 bd1 0 ((dkNew c worker)), rdR 45 72 bw1 0 ((dkNew c worker))] := hS8.sel [1, 2] (by rfl) (by decide)
          refine r_loop (I := fun m E W => ∃ (i : Nat) (K : List DE) (lf : Int), E = [(2, v_acts), (7, ptr bd1 0), (9, ptr bw1 0), (11, .int .i64 (((i : Nat) : Int)))] ∧ m = acts.length - i ∧ St (fun _ => False) (fun _ => False) w0 W [dkK 62 69 5 bd1 lf K, rdR 45 72 bw1 lf K] ∧ (DkOk K) ∧ (0 ≤ lf ∧ lf ≤ i)) ?_ ?_
          · refine ⟨_, _, ⟨(0 : Nat), ((dkNew c worker) : List DE), (0 : Int), rfl, rfl, hS10, (by exact dkNew_ok (mayD_may (by assumption)).1 _), (by omega)⟩, ⟨rfl, rfl, rfl, rfl, trivial⟩⟩
          · rintro _ _ w6 ⟨i, K, lf, rfl, rfl, hS9, hKo, hlf⟩ ih1
            refine r_seq ?_
            refine r_seq ?_
            refine r_region ?_
            refine OL.q (Q1.move rfl) rfl rfl ?_
            refine OL.q (Q1.move rfl) rfl rfl ?_
            have f11 := hS9.out h_acts (fun _ _ h => h)
            refine OL.q (Q1.lenSl Tryz.underlying26 (f11) rfl) rfl rfl ?_
            refine OL.qb (Q1.lt rfl rfl) rfl rfl ?_
            intro b6 hb6
            refine OL.nil ?_
            cases b6 with
            | true =>
              replace hb6 := of_decide_eq_true hb6.symm
              refine r_cond_t rfl ?_
              refine r_skip ?_
              refine r_seq ?_
              refine r_block ?_
              refine r_seq ?_
              refine r_region ?_
              refine OL.q (Q1.move rfl) rfl rfl ?_
              refine OL.q (Q1.move rfl) rfl rfl ?_
              obtain ⟨x1, b7, o1, hx1, hr1, hl1, hw1⟩ := Sl.atF (P := Tryz.prog) f11 Tryz.underlying26 ti38 encAct_len (k := .i64) (n := ((i : Nat) : Int)) (i) (by omega) (by first | assumption | omega)
              refine OL.q (Q1.indexAddr rfl rfl hr1) rfl rfl ?_
              refine OL.q (Q1.loadN ti38 rfl (fun _ e => e ▸ hw1) rfl) rfl rfl ?_
              obtain ⟨ho1, ho2, ho3, ho4⟩ := hao _ (List.mem_of_getElem? hx1)
              refine OL.act rfl rfl (AW.alloc ti38 ?_)
              intro w7 b8 hm6 hb7 hz2 hk2
              have hS11 := hS9.ext hm6
              have hS12 : St (fun _ => False) (fun _ => False) w0 w7 [dkK 62 69 5 bd1 lf K, rdR 45 72 bw1 lf K, bkR b8 [.int .i64 0, .int .i64 0, .int .i64 0, .int .i64 0] 38] := hS9.newBk hm6 hb7 hk2
              have f12 := hS12.bk (i := 2) rfl
              refine OL.act rfl rfl (AW.store ti38 rfl rfl rfl rfl rfl f12 (Nat.le_of_ble_eq_true rfl) ?_)
              intro w8 hm7 hz3 hk3
              have hS13 : St (fun _ => False) (fun _ => False) w0 w8 [dkK 62 69 5 bd1 lf K, rdR 45 72 bw1 lf K, bkR b8 [.int .i64 x1.do_, .int .i64 x1.shard, .int .i64 x1.at_, .int .i64 x1.x] 38] := hS12.bkK (i := 2) rfl hm7 hk3
              refine OL.nil ?_
              refine r_seq ?_
              refine r_region ?_
              refine OL.q (Q1.assign rfl) rfl rfl ?_
              refine OL.nil ?_
              refine r_seq ?_
              refine r_seq ?_
              refine r_region ?_
              refine OL.q (Q1.fieldAddr fl38_0 rfl) rfl rfl ?_
              have f13 := hS13.bk (i := 2) rfl
              refine OL.q (Q1.load1 ti3 rfl (fun _ e => e ▸ (f13.cell 0 _ rfl))) rfl rfl ?_
              refine OL.nil ?_
              refine r_block ?_
              refine r_seq ?_
              refine r_region ?_
              refine OL.qb (Q1.eq rfl rfl) rfl rfl ?_
              intro b9 hb8
              refine OL.q (Q1.assign rfl) rfl rfl ?_
              refine OL.nil ?_
              cases b9 with
              | true =>
                replace hb8 := eq_of_beq hb8.symm
                refine r_cond_t rfl ?_
                refine r_draw1 (fun i => Nat.beq i 7 || Nat.beq i 8 || Nat.beq i 16) 19 (fun w' => Bk w' b8 [.int .i64 x1.do_, .int .i64 x1.shard, .int .i64 x1.at_, .int .i64 x1.x] 38) mixed (by kernel_rfl) ?_
                intro w9 hm8
                have hS14 := hS13.ext hm8
                have f14 := hS14.bk (i := 2) rfl
                refine ⟨f14, ?_⟩
                rw [show List.range' 0 (Array.size _) = [0, 1, 2, 3, 4, 5, 6, 7, 8, 9, 10, 11, 12, 13, 14, 15, 16, 17, 18] from rfl]
                refine OD.q rfl rfl (Q1.move rfl) rfl rfl ?_
                refine OD.q rfl rfl (Q1.fieldAddr fl38_1 rfl) rfl rfl ?_
                have f15 := hS13.bk (i := 2) rfl
                refine OD.q rfl rfl (Q1.load1 ti3 rfl (fun _ hc => (hc.cell 1 _ rfl))) rfl rfl ?_
                refine OD.q rfl rfl (Q1.fieldAddr fl38_2 rfl) rfl rfl ?_
                refine OD.q rfl rfl (Q1.load1 ti3 rfl (fun _ hc => (hc.cell 2 _ rfl))) rfl rfl ?_
                refine OD.q rfl rfl (Q1.fieldAddr fl38_3 rfl) rfl rfl ?_
                refine OD.q rfl rfl (Q1.load1 ti3 rfl (fun _ hc => (hc.cell 3 _ rfl))) rfl rfl ?_
                obtain ⟨Fy1, hAy1, hFy1, hky1⟩ := hS14.act (i := 0) rfl
                refine OD.act rfl rfl rfl rfl (AW.callF cl9 rfl (drot_c (w0 := w9) (x1.shard) (x1.at_) (x1.x) (by first | assumption | (unfold I64; omega) | (unfold I64; decide)) hAy1 (fun b hb => (hFy1 b hb).2) hKo) ?_)
                rintro _ w10 ⟨rfl, hm9, F3, hA3, hF3⟩
                have hei1 := dkErr_I64 K x1.shard
                have hS15 : St (fun _ => False) (fun _ => False) w0 w10 [dkK 62 69 5 bd1 lf ((dkRot K x1.shard x1.at_ x1.x)), rdR 45 72 bw1 lf K, bkR b8 [.int .i64 x1.do_, .int .i64 x1.shard, .int .i64 x1.at_, .int .i64 x1.x] 38] := hky1 _ _ _ hm9 hA3 hF3
                clear hky1 hA3
                have f16 := hS15.bk (i := 2) rfl
                refine ⟨.inr f16, ?_⟩
                refine OD.act rfl rfl rfl rfl (AW.callF cl8 rfl (num_c (w0 := w10)  ((dkErr K x1.shard)) (by first | omega | assumption)) ?_)
                rintro _ w11 ⟨rfl, hm10⟩
                have hS16 := hS15.ext hm10
                have f17 := hS16.bk (i := 2) rfl
                refine ⟨.inr f17, ?_⟩
                refine OD.q rfl rfl (Q1.move rfl) rfl rfl ?_
                refine OD.q rfl rfl (Q1.fieldAddr fl38_1 rfl) rfl rfl ?_
                have f18 := hS13.bk (i := 2) rfl
                refine OD.q rfl rfl (Q1.load1 ti3 rfl (fun _ hc => (hc.cell 1 _ rfl))) rfl rfl ?_
                refine OD.q rfl rfl (Q1.fieldAddr fl38_2 rfl) rfl rfl ?_
                refine OD.q rfl rfl (Q1.load1 ti3 rfl (fun _ hc => (hc.cell 2 _ rfl))) rfl rfl ?_
                refine OD.q rfl rfl (Q1.fieldAddr fl38_3 rfl) rfl rfl ?_
                refine OD.q rfl rfl (Q1.load1 ti3 rfl (fun _ hc => (hc.cell 3 _ rfl))) rfl rfl ?_
                obtain ⟨Fy2, hAy2, hFy2, hky2⟩ := hS16.act (i := 1) rfl
                refine OD.act rfl rfl rfl rfl (AW.callF cl10 rfl (r14rot_c (w0 := w11) (x1.shard) (x1.at_) (x1.x) (by first | assumption | (unfold I64; omega) | (unfold I64; decide)) (by first | assumption | (unfold I64; omega) | (unfold I64; decide)) (by first | assumption | (unfold I64; omega) | (unfold I64; decide)) hAy2 (fun b hb => (hFy2 b hb).2) (by first | assumption | exact DkOk.rot hKo _ _ _ | exact DkOk.mend hKo _)) ?_)
                rintro _ w12 ⟨rfl, hm11, F4, hA4, hF4⟩
                have hS17 : St (fun _ => False) (fun _ => False) w0 w12 [dkK 62 69 5 bd1 lf ((dkRot K x1.shard x1.at_ x1.x)), rdR 45 72 bw1 lf ((dkRot K x1.shard x1.at_ x1.x)), bkR b8 [.int .i64 x1.do_, .int .i64 x1.shard, .int .i64 x1.at_, .int .i64 x1.x] 38] := hky2 _ _ _ hm11 hA4 hF4
                clear hky2 hA4
                have f19 := hS17.bk (i := 2) rfl
                refine ⟨.inr f19, ?_⟩
                refine OD.qb rfl rfl (Q1.eq rfl rfl) rfl rfl ?_
                intro b10 hb9
                obtain rfl : b10 = true := hb9.trans (by exact beq_self_eq_true _)
                refine OD.q rfl rfl (Q1.assign rfl) rfl rfl ?_
                refine OD.nil ?_
                refine r_inBlock ?_
                refine r_seq ?_
                refine r_region ?_
                refine OL.q (Q1.move rfl) rfl rfl ?_
                refine OL.q (Q1.fieldAddr fl38_1 rfl) rfl rfl ?_
                refine OL.q (Q1.load1 ti3 rfl (fun _ e => e ▸ (f19.cell 1 _ rfl))) rfl rfl ?_
                obtain ⟨Fy3, hAy3, hFy3, hky3⟩ := hS17.act (i := 0) rfl
                refine OL.act rfl rfl (AW.callF cl14 rfl (dread_c (w0 := w12) (x1.shard) (by first | assumption | (unfold I64; omega) | (unfold I64; decide)) hAy3 (fun b hb => (hFy3 b hb).2) (DkOk.rot hKo _ _ _)) ?_)
                rintro _ w13 ⟨v1, rfl, ⟨g1, ha1, hg1⟩, hm12⟩
                have hS18 := hS17.ext hm12
                have hS19 : St (fun _ => False) (fun _ => False) w0 w13 [dkK 62 69 5 bd1 lf ((dkRot K x1.shard x1.at_ x1.x)), rdR 45 72 bw1 lf ((dkRot K x1.shard x1.at_ x1.x)), bkR b8 [.int .i64 x1.do_, .int .i64 x1.shard, .int .i64 x1.at_, .int .i64 x1.x] 38, accR encB 5 1 v1 ((dkRead ((dkRot K x1.shard x1.at_ x1.x)) x1.shard))] := hS17.newAcc hm12 ha1 hg1
                clear hg1
                have hle_1 := ha1.le
                have hei2 := dkErr_I64 ((dkRot K x1.shard x1.at_ x1.x)) x1.shard
                have hrd1 := dkRead_len (K := (dkRot K x1.shard x1.at_ x1.x)) (DkOk.rot hKo _ _ _) x1.shard
                refine OL.q (Q1.move rfl) rfl rfl ?_
                refine OL.q (Q1.extract rfl rfl) rfl rfl ?_
                refine OL.q (Q1.extract rfl rfl) rfl rfl ?_
                refine OL.q (Q1.assign rfl) rfl rfl ?_
                refine OL.q (Q1.assign rfl) rfl rfl ?_
                refine OL.nil ?_
                refine r_seq ?_
                refine r_region ?_
                refine OL.q (Q1.move rfl) rfl rfl ?_
                refine OL.q (Q1.fieldAddr fl38_1 rfl) rfl rfl ?_
                have f20 := hS19.bk (i := 2) rfl
                refine OL.q (Q1.load1 ti3 rfl (fun _ e => e ▸ (f20.cell 1 _ rfl))) rfl rfl ?_
                obtain ⟨Fy4, hAy4, hFy4, hky4⟩ := hS19.act (i := 1) rfl
                obtain ⟨vl1, rows1, hbw1, hlw1, hrw1⟩ := rdR_in hAy4
                refine OL.act rfl rfl (AW.callF cl15 rfl (r14read_c (w0 := w13) (F := Fy4) (x1.shard) (by first | assumption | (unfold I64; omega) | (unfold I64; decide)) hbw1 hlw1 hrw1 (fun b hb => (hFy4 b hb).2) (by first | assumption | exact DkOk.rot hKo _ _ _ | exact DkOk.mend hKo _)) ?_)
                rintro _ w14 ⟨v2, rfl, ⟨g2, ha2, hg2⟩, hm13⟩
                have hS20 := hS19.ext hm13
                have hS21 : St (fun _ => False) (fun _ => False) w0 w14 [dkK 62 69 5 bd1 lf ((dkRot K x1.shard x1.at_ x1.x)), rdR 45 72 bw1 lf ((dkRot K x1.shard x1.at_ x1.x)), bkR b8 [.int .i64 x1.do_, .int .i64 x1.shard, .int .i64 x1.at_, .int .i64 x1.x] 38, accR encB 5 1 v1 ((dkRead ((dkRot K x1.shard x1.at_ x1.x)) x1.shard)), accR encB 5 1 v2 ((dkRead ((dkRot K x1.shard x1.at_ x1.x)) x1.shard))] := hS19.newAcc hm13 ha2 hg2
                clear hg2
                have hle_2 := ha2.le
                refine OL.q (Q1.move rfl) rfl rfl ?_
                refine OL.q (Q1.extract rfl rfl) rfl rfl ?_
                refine OL.q (Q1.extract rfl rfl) rfl rfl ?_
                refine OL.q (Q1.assign rfl) rfl rfl ?_
                refine OL.q (Q1.assign rfl) rfl rfl ?_
                refine OL.nil ?_
                refine r_seq ?_
                refine r_seq ?_
                obtain ⟨⟨vl2, rows2⟩, hS22⟩ := hS21.exo (i := 1) rfl
                change St (fun _ => False) (fun _ => False) w0 w14 [dkK 62 69 5 bd1 lf ((dkRot K x1.shard x1.at_ x1.x)), boxR [bkR bw1 [vl2, .int .i64 lf] 45, accR encIm 72 3 vl2 rows2, irR rows2 ((dkRot K x1.shard x1.at_ x1.x))], bkR b8 [.int .i64 x1.do_, .int .i64 x1.shard, .int .i64 x1.at_, .int .i64 x1.x] 38, accR encB 5 1 v1 ((dkRead ((dkRot K x1.shard x1.at_ x1.x)) x1.shard)), accR encB 5 1 v2 ((dkRead ((dkRot K x1.shard x1.at_ x1.x)) x1.shard))] at hS22
                have hS23 : St (fun _ => False) (fun _ => False) w0 w14 [dkK 62 69 5 bd1 lf ((dkRot K x1.shard x1.at_ x1.x)), bkR b8 [.int .i64 x1.do_, .int .i64 x1.shard, .int .i64 x1.at_, .int .i64 x1.x] 38, accR encB 5 1 v1 ((dkRead ((dkRot K x1.shard x1.at_ x1.x)) x1.shard)), accR encB 5 1 v2 ((dkRead ((dkRot K x1.shard x1.at_ x1.x)) x1.shard)), boxR [bkR bw1 [vl2, .int .i64 lf] 45, accR encIm 72 3 vl2 rows2, irR rows2 ((dkRot K x1.shard x1.at_ x1.x))]] := hS22.sel [0, 2, 3, 4, 1] (by rfl) (by decide)
                have hS24 : St (fun _ => False) (fun _ => False) w0 w14 [dkK 62 69 5 bd1 lf ((dkRot K x1.shard x1.at_ x1.x)), bkR b8 [.int .i64 x1.do_, .int .i64 x1.shard, .int .i64 x1.at_, .int .i64 x1.x] 38, accR encB 5 1 v1 ((dkRead ((dkRot K x1.shard x1.at_ x1.x)) x1.shard)), accR encB 5 1 v2 ((dkRead ((dkRot K x1.shard x1.at_ x1.x)) x1.shard)), boxR [bkR bw1 [vl2, .int .i64 lf] 45, accR encIm 72 3 vl2 rows2, irR rows2 ((dkRot K x1.shard x1.at_ x1.x))]] := hS23
                have hS25 : St (fun _ => False) (fun _ => False) w0 w14 [dkK 62 69 5 bd1 lf ((dkRot K x1.shard x1.at_ x1.x)), bkR b8 [.int .i64 x1.do_, .int .i64 x1.shard, .int .i64 x1.at_, .int .i64 x1.x] 38, accR encB 5 1 v1 ((dkRead ((dkRot K x1.shard x1.at_ x1.x)) x1.shard)), accR encB 5 1 v2 ((dkRead ((dkRot K x1.shard x1.at_ x1.x)) x1.shard)), bkR bw1 [vl2, .int .i64 lf] 45, accR encIm 72 3 vl2 rows2, irR rows2 ((dkRot K x1.shard x1.at_ x1.x))] := St.open (L1 := [dkK 62 69 5 bd1 lf ((dkRot K x1.shard x1.at_ x1.x)), bkR b8 [.int .i64 x1.do_, .int .i64 x1.shard, .int .i64 x1.at_, .int .i64 x1.x] 38, accR encB 5 1 v1 ((dkRead ((dkRot K x1.shard x1.at_ x1.x)) x1.shard)), accR encB 5 1 v2 ((dkRead ((dkRot K x1.shard x1.at_ x1.x)) x1.shard))]) hS24
                refine r_draw1 (fun i => Nat.beq i 5 || Nat.beq i 10 || Nat.beq i 18 || Nat.beq i 22 || Nat.beq i 27) 34 (fun w' => Bk w' b8 [.int .i64 x1.do_, .int .i64 x1.shard, .int .i64 x1.at_, .int .i64 x1.x] 38 ∧ Bk w' bw1 [vl2, .int .i64 lf] 45) mixed (by kernel_rfl) ?_
                intro w15 hm14
                have hS26 := hS25.ext hm14
                have f21 := hS26.bk (i := 1) rfl
                have f22 := hS26.bk (i := 4) rfl
                refine ⟨⟨f21, f22⟩, ?_⟩
                rw [show List.range' 0 (Array.size _) = [0, 1, 2, 3, 4, 5, 6, 7, 8, 9, 10, 11, 12, 13, 14, 15, 16, 17, 18, 19, 20, 21, 22, 23, 24, 25, 26, 27, 28, 29, 30, 31, 32, 33] from rfl]
                refine OD.q rfl rfl (Q1.move rfl) rfl rfl ?_
                refine OD.q rfl rfl (Q1.not rfl) rfl rfl ?_
                refine OD.q rfl rfl (Q1.move rfl) rfl rfl ?_
                refine OD.q rfl rfl (Q1.move rfl) rfl rfl ?_
                refine OD.q rfl rfl (Q1.move rfl) rfl rfl ?_
                obtain ⟨g3, f23, hl2, k1⟩ := hS26.accK (i := 2) rfl
                obtain ⟨g4, f24, hl3, k2⟩ := hS26.accK (i := 3) rfl
                refine OD.act rfl rfl rfl rfl (AW.callF cl16 rfl (sameB_c (w0 := w15) (a := (dkRead ((dkRot K x1.shard x1.at_ x1.x)) x1.shard)) (b := (dkRead ((dkRot K x1.shard x1.at_ x1.x)) x1.shard))  (f23.sl.iv (Nat.zero_le _) f23.lt) (f24.sl.iv (Nat.zero_le _) f24.lt)) ?_)
                rintro _ w16 ⟨⟨b11, hb10, rfl⟩, hm15⟩
                have hS27 := hS26.ext hm15
                have f25 := hS27.bk (i := 1) rfl
                have f26 := hS27.bk (i := 4) rfl
                refine ⟨.inr ⟨f25, f26⟩, ?_⟩
                obtain rfl : b11 = true := hb10.trans (by exact decide_eq_true rfl)
                refine OD.q rfl rfl (Q1.not rfl) rfl rfl ?_
                refine OD.q rfl rfl (Q1.pick_f rfl rfl) rfl rfl ?_
                refine OD.q rfl rfl (Q1.move rfl) rfl rfl ?_
                refine OD.q rfl rfl (Q1.move rfl) rfl rfl ?_
                refine OD.act rfl rfl rfl rfl (AW.callF cl8 rfl (num_c (w0 := w16)  ((dkErr ((dkRot K x1.shard x1.at_ x1.x)) x1.shard)) (by first | omega | assumption)) ?_)
                rintro _ w17 ⟨rfl, hm16⟩
                have hS28 := hS27.ext hm16
                have f27 := hS28.bk (i := 1) rfl
                have f28 := hS28.bk (i := 4) rfl
                refine ⟨.inr ⟨f27, f28⟩, ?_⟩
                refine OD.q rfl rfl (Q1.move rfl) rfl rfl ?_
                refine OD.qb rfl rfl (Q1.ne rfl rfl) rfl rfl ?_
                intro b12 hb11
                obtain rfl : b12 = false := hb11.trans (by exact bne_eq_false_iff_eq.2 rfl)
                refine OD.q rfl rfl (Q1.pick_f rfl rfl) rfl rfl ?_
                refine OD.q rfl rfl (Q1.move rfl) rfl rfl ?_
                refine OD.q rfl rfl (Q1.move rfl) rfl rfl ?_
                refine OD.q rfl rfl (Q1.fieldAddr fl38_1 rfl) rfl rfl ?_
                have f29 := hS25.bk (i := 1) rfl
                refine OD.q rfl rfl (Q1.load1 ti3 rfl (fun _ hc => (hc.1.cell 1 _ rfl))) rfl rfl ?_
                obtain ⟨Fy5, hAy5, hFy5, hky5⟩ := hS28.act (i := 0) rfl
                refine OD.act rfl rfl rfl rfl (AW.callF cl17 rfl (drotten_c (w0 := w17) (x1.shard) (by first | assumption | (unfold I64; omega) | (unfold I64; decide)) hAy5 (fun b hb => (hFy5 b hb).2) (DkOk.rot hKo _ _ _)) ?_)
                rintro _ w18 ⟨rfl, hm17⟩
                have hS29 := hS28.ext hm17
                have f30 := hS29.bk (i := 1) rfl
                have f31 := hS29.bk (i := 4) rfl
                refine ⟨.inr ⟨f30, f31⟩, ?_⟩
                generalize hb12 : (dkRotten ((dkRot K x1.shard x1.at_ x1.x)) x1.shard) = b13
                replace hb12 := hb12.symm
                refine OD.q rfl rfl (Q1.move rfl) rfl rfl ?_
                refine OD.q rfl rfl (Q1.fieldAddr fl38_1 rfl) rfl rfl ?_
                have f32 := hS25.bk (i := 1) rfl
                refine OD.q rfl rfl (Q1.load1 ti3 rfl (fun _ hc => (hc.1.cell 1 _ rfl))) rfl rfl ?_
                obtain ⟨g5, f33, hl4, k3⟩ := hS29.accK (i := 5) rfl
                refine OD.act rfl rfl rfl rfl (AW.callF cl18 rfl (r14rotten_c (w0 := w18) (F := Iv 0 w18.heap.size) (x1.shard) (by first | assumption | (unfold I64; omega) | (unfold I64; decide)) f31 (f33.sl.iv (Nat.zero_le _) f33.lt) (hS29.irGet (i := 6) rfl) (fun _ h => h.2) (by first | assumption | exact DkOk.rot hKo _ _ _ | exact DkOk.mend hKo _)) ?_)
                rintro _ w19 ⟨rfl, hm18⟩
                have hS30 := hS29.ext hm18
                have f34 := hS30.bk (i := 1) rfl
                have f35 := hS30.bk (i := 4) rfl
                refine ⟨.inr ⟨f34, f35⟩, ?_⟩
                generalize hb13 : (dkRotten ((dkRot K x1.shard x1.at_ x1.x)) x1.shard) = b14
                replace hb13 := hb13.symm
                refine OD.qb rfl rfl (Q1.neB Tryz.underlying4 rfl rfl) rfl rfl ?_
                intro b15 hb14
                obtain rfl : b15 = false := hb14.trans (by exact Ml.nbeqBB (by assumption) (by assumption) rfl)
                refine OD.q rfl rfl (Q1.pick_f rfl rfl) rfl rfl ?_
                refine OD.q rfl rfl (Q1.move rfl) rfl rfl ?_
                refine OD.q rfl rfl (Q1.move rfl) rfl rfl ?_
                obtain ⟨Fy6, hAy6, hFy6, hky6⟩ := hS30.act (i := 0) rfl
                refine OD.act rfl rfl rfl rfl (AW.callF cl19 rfl (dlife_c (w0 := w19) hAy6) ?_)
                rintro _ w20 ⟨rfl, hm19⟩
                have hS31 := hS30.ext hm19
                have f36 := hS31.bk (i := 1) rfl
                have f37 := hS31.bk (i := 4) rfl
                refine ⟨.inr ⟨f36, f37⟩, ?_⟩
                refine OD.q rfl rfl (Q1.move rfl) rfl rfl ?_
                refine OD.q rfl rfl (Q1.nilCheckP rfl) rfl rfl ?_
                refine OD.q rfl rfl (Q1.fieldAddr fl45_1 rfl) rfl rfl ?_
                have f38 := hS25.bk (i := 4) rfl
                refine OD.q rfl rfl (Q1.load1 ti3 rfl (fun _ hc => (hc.2.cell 1 _ rfl))) rfl rfl ?_
                refine OD.qb rfl rfl (Q1.ne rfl rfl) rfl rfl ?_
                intro b16 hb15
                obtain rfl : b16 = false := hb15.trans (by exact bne_eq_false_iff_eq.2 rfl)
                refine OD.q rfl rfl (Q1.pick_f rfl rfl) rfl rfl ?_
                refine OD.nil ?_
                refine r_cond_f rfl ?_
                refine r_skip ?_
                refine r_region ?_
                have hS32 : St (fun _ => False) (fun _ => False) w0 w20 [dkK 62 69 5 bd1 lf ((dkRot K x1.shard x1.at_ x1.x)), bkR b8 [.int .i64 x1.do_, .int .i64 x1.shard, .int .i64 x1.at_, .int .i64 x1.x] 38, accR encB 5 1 v1 ((dkRead ((dkRot K x1.shard x1.at_ x1.x)) x1.shard)), accR encB 5 1 v2 ((dkRead ((dkRot K x1.shard x1.at_ x1.x)) x1.shard)), boxR [bkR bw1 [vl2, .int .i64 lf] 45, accR encIm 72 3 vl2 rows2, irR rows2 ((dkRot K x1.shard x1.at_ x1.x))]] := St.close (L1 := [dkK 62 69 5 bd1 lf ((dkRot K x1.shard x1.at_ x1.x)), bkR b8 [.int .i64 x1.do_, .int .i64 x1.shard, .int .i64 x1.at_, .int .i64 x1.x] 38, accR encB 5 1 v1 ((dkRead ((dkRot K x1.shard x1.at_ x1.x)) x1.shard)), accR encB 5 1 v2 ((dkRead ((dkRot K x1.shard x1.at_ x1.x)) x1.shard))]) hS31
                have hS33 : St (fun _ => False) (fun _ => False) w0 w20 [dkK 62 69 5 bd1 lf ((dkRot K x1.shard x1.at_ x1.x)), bkR b8 [.int .i64 x1.do_, .int .i64 x1.shard, .int .i64 x1.at_, .int .i64 x1.x] 38, accR encB 5 1 v1 ((dkRead ((dkRot K x1.shard x1.at_ x1.x)) x1.shard)), accR encB 5 1 v2 ((dkRead ((dkRot K x1.shard x1.at_ x1.x)) x1.shard)), rdR 45 72 bw1 lf ((dkRot K x1.shard x1.at_ x1.x))] := hS32.exi (A := fun z_ : Value × List RIm => boxR [bkR bw1 [z_.1, .int .i64 lf] 45, accR encIm 72 3 z_.1 z_.2, irR z_.2 ((dkRot K x1.shard x1.at_ x1.x))]) (vl2, rows2) (i := 4) rfl
                refine OL.q (Q1.move rfl) rfl rfl ?_
                obtain ⟨Fy7, ⟨g6, ha3, hgb1⟩, hFy7, hky7⟩ := hS33.act (i := 2) rfl
                refine OL.act rfl rfl (AW.callF cl20 rfl (overBytes_c (w0 := w20) ha3 (by omega)) ?_)
                rintro _ w21 ⟨rfl, hm20⟩
                have hS34 : St (fun _ => False) (fun _ => False) w0 w21 [dkK 62 69 5 bd1 lf ((dkRot K x1.shard x1.at_ x1.x)), bkR b8 [.int .i64 x1.do_, .int .i64 x1.shard, .int .i64 x1.at_, .int .i64 x1.x] 38, noR, accR encB 5 1 v2 ((dkRead ((dkRot K x1.shard x1.at_ x1.x)) x1.shard)), rdR 45 72 bw1 lf ((dkRot K x1.shard x1.at_ x1.x))] := hky7 _ (fun _ => False) noR (hm20.weaken fun b hb _ => hgb1 b hb) trivial (fun _ h => h.elim)
                refine OL.nil ?_
                refine r_inBlock ?_
                refine r_region ?_
                refine OL.q (Q1.move rfl) rfl rfl ?_
                refine OL.q (Q1.addI (((i + 1 : Nat) : Int)) rfl rfl (by omega)) rfl rfl ?_
                refine OL.q (Q1.assign rfl) rfl rfl ?_
                refine OL.nil ?_
                have hS35 : St (fun _ => False) (fun _ => False) w0 w21 [dkK 62 69 5 bd1 lf ((dkRot K x1.shard x1.at_ x1.x)), rdR 45 72 bw1 lf ((dkRot K x1.shard x1.at_ x1.x))] := hS34.sel [0, 4] (by rfl) (by decide)
                exact (ih1 _ _ _ ⟨(i + 1 : Nat), ((dkRot K x1.shard x1.at_ x1.x) : List DE), (lf : Int), rfl, rfl, hS35, (by first | assumption | exact DkOk.rot hKo _ _ _ | exact DkOk.mend hKo _ | (exfalso; omega)), (by first | omega | (exfalso; omega))⟩ (by omega)).sub ⟨rfl, rfl, rfl, rfl, trivial⟩
              | false =>
                replace hb8 := ne_of_beq_false hb8.symm
                refine r_cond_f rfl ?_
                refine r_seq ?_
                refine r_region ?_
                refine OL.qb (Q1.eq rfl rfl) rfl rfl ?_
                intro b10 hb9
                refine OL.q (Q1.assign rfl) rfl rfl ?_
                refine OL.nil ?_
                cases b10 with
                | true =>
                  replace hb9 := eq_of_beq hb9.symm
                  refine r_cond_t rfl ?_
                  refine r_draw1 (fun i => Nat.beq i 3 || Nat.beq i 4 || Nat.beq i 8) 11 (fun w' => Bk w' b8 [.int .i64 x1.do_, .int .i64 x1.shard, .int .i64 x1.at_, .int .i64 x1.x] 38) mixed (by kernel_rfl) ?_
                  intro w9 hm8
                  have hS14 := hS13.ext hm8
                  have f14 := hS14.bk (i := 2) rfl
                  refine ⟨f14, ?_⟩
                  rw [show List.range' 0 (Array.size _) = [0, 1, 2, 3, 4, 5, 6, 7, 8, 9, 10] from rfl]
                  refine OD.q rfl rfl (Q1.move rfl) rfl rfl ?_
                  refine OD.q rfl rfl (Q1.fieldAddr fl38_1 rfl) rfl rfl ?_
                  have f15 := hS13.bk (i := 2) rfl
                  refine OD.q rfl rfl (Q1.load1 ti3 rfl (fun _ hc => (hc.cell 1 _ rfl))) rfl rfl ?_
                  obtain ⟨Fy1, hAy1, hFy1, hky1⟩ := hS14.act (i := 0) rfl
                  refine OD.act rfl rfl rfl rfl (AW.callF cl11 rfl (dmend_c (w0 := w9) (x1.shard) (by first | assumption | (unfold I64; omega) | (unfold I64; decide)) hAy1 (fun b hb => (hFy1 b hb).2) hKo) ?_)
                  rintro _ w10 ⟨rfl, hm9, F3, hA3, hF3⟩
                  have hei1 := dkErr_I64 K x1.shard
                  have hS15 : St (fun _ => False) (fun _ => False) w0 w10 [dkK 62 69 5 bd1 lf ((dkMend K x1.shard)), rdR 45 72 bw1 lf K, bkR b8 [.int .i64 x1.do_, .int .i64 x1.shard, .int .i64 x1.at_, .int .i64 x1.x] 38] := hky1 _ _ _ hm9 hA3 hF3
                  clear hky1 hA3
                  have f16 := hS15.bk (i := 2) rfl
                  refine ⟨.inr f16, ?_⟩
                  refine OD.act rfl rfl rfl rfl (AW.callF cl8 rfl (num_c (w0 := w10)  ((dkErr K x1.shard)) (by first | omega | assumption)) ?_)
                  rintro _ w11 ⟨rfl, hm10⟩
                  have hS16 := hS15.ext hm10
                  have f17 := hS16.bk (i := 2) rfl
                  refine ⟨.inr f17, ?_⟩
                  refine OD.q rfl rfl (Q1.move rfl) rfl rfl ?_
                  refine OD.q rfl rfl (Q1.fieldAddr fl38_1 rfl) rfl rfl ?_
                  have f18 := hS13.bk (i := 2) rfl
                  refine OD.q rfl rfl (Q1.load1 ti3 rfl (fun _ hc => (hc.cell 1 _ rfl))) rfl rfl ?_
                  obtain ⟨Fy2, hAy2, hFy2, hky2⟩ := hS16.act (i := 1) rfl
                  refine OD.act rfl rfl rfl rfl (AW.callF cl12 rfl (r14mend_c (w0 := w11) (x1.shard) (by first | assumption | (unfold I64; omega) | (unfold I64; decide)) hAy2 (fun b hb => (hFy2 b hb).2) (by first | assumption | exact DkOk.rot hKo _ _ _ | exact DkOk.mend hKo _)) ?_)
                  rintro _ w12 ⟨rfl, hm11, F4, hA4, hF4⟩
                  have hS17 : St (fun _ => False) (fun _ => False) w0 w12 [dkK 62 69 5 bd1 lf ((dkMend K x1.shard)), rdR 45 72 bw1 lf ((dkMend K x1.shard)), bkR b8 [.int .i64 x1.do_, .int .i64 x1.shard, .int .i64 x1.at_, .int .i64 x1.x] 38] := hky2 _ _ _ hm11 hA4 hF4
                  clear hky2 hA4
                  have f19 := hS17.bk (i := 2) rfl
                  refine ⟨.inr f19, ?_⟩
                  refine OD.qb rfl rfl (Q1.eq rfl rfl) rfl rfl ?_
                  intro b11 hb10
                  obtain rfl : b11 = true := hb10.trans (by exact beq_self_eq_true _)
                  refine OD.q rfl rfl (Q1.assign rfl) rfl rfl ?_
                  refine OD.nil ?_
                  refine r_inBlock ?_
                  refine r_seq ?_
                  refine r_region ?_
                  refine OL.q (Q1.move rfl) rfl rfl ?_
                  refine OL.q (Q1.fieldAddr fl38_1 rfl) rfl rfl ?_
                  refine OL.q (Q1.load1 ti3 rfl (fun _ e => e ▸ (f19.cell 1 _ rfl))) rfl rfl ?_
                  obtain ⟨Fy3, hAy3, hFy3, hky3⟩ := hS17.act (i := 0) rfl
                  refine OL.act rfl rfl (AW.callF cl14 rfl (dread_c (w0 := w12) (x1.shard) (by first | assumption | (unfold I64; omega) | (unfold I64; decide)) hAy3 (fun b hb => (hFy3 b hb).2) (DkOk.mend hKo _)) ?_)
                  rintro _ w13 ⟨v1, rfl, ⟨g1, ha1, hg1⟩, hm12⟩
                  have hS18 := hS17.ext hm12
                  have hS19 : St (fun _ => False) (fun _ => False) w0 w13 [dkK 62 69 5 bd1 lf ((dkMend K x1.shard)), rdR 45 72 bw1 lf ((dkMend K x1.shard)), bkR b8 [.int .i64 x1.do_, .int .i64 x1.shard, .int .i64 x1.at_, .int .i64 x1.x] 38, accR encB 5 1 v1 ((dkRead ((dkMend K x1.shard)) x1.shard))] := hS17.newAcc hm12 ha1 hg1
                  clear hg1
                  have hle_1 := ha1.le
                  have hei2 := dkErr_I64 ((dkMend K x1.shard)) x1.shard
                  have hrd1 := dkRead_len (K := (dkMend K x1.shard)) (DkOk.mend hKo _) x1.shard
                  refine OL.q (Q1.move rfl) rfl rfl ?_
                  refine OL.q (Q1.extract rfl rfl) rfl rfl ?_
                  refine OL.q (Q1.extract rfl rfl) rfl rfl ?_
                  refine OL.q (Q1.assign rfl) rfl rfl ?_
                  refine OL.q (Q1.assign rfl) rfl rfl ?_
                  refine OL.nil ?_
                  refine r_seq ?_
                  refine r_region ?_
                  refine OL.q (Q1.move rfl) rfl rfl ?_
                  refine OL.q (Q1.fieldAddr fl38_1 rfl) rfl rfl ?_
                  have f20 := hS19.bk (i := 2) rfl
                  refine OL.q (Q1.load1 ti3 rfl (fun _ e => e ▸ (f20.cell 1 _ rfl))) rfl rfl ?_
                  obtain ⟨Fy4, hAy4, hFy4, hky4⟩ := hS19.act (i := 1) rfl
                  obtain ⟨vl1, rows1, hbw1, hlw1, hrw1⟩ := rdR_in hAy4
                  refine OL.act rfl rfl (AW.callF cl15 rfl (r14read_c (w0 := w13) (F := Fy4) (x1.shard) (by first | assumption | (unfold I64; omega) | (unfold I64; decide)) hbw1 hlw1 hrw1 (fun b hb => (hFy4 b hb).2) (by first | assumption | exact DkOk.rot hKo _ _ _ | exact DkOk.mend hKo _)) ?_)
                  rintro _ w14 ⟨v2, rfl, ⟨g2, ha2, hg2⟩, hm13⟩
                  have hS20 := hS19.ext hm13
                  have hS21 : St (fun _ => False) (fun _ => False) w0 w14 [dkK 62 69 5 bd1 lf ((dkMend K x1.shard)), rdR 45 72 bw1 lf ((dkMend K x1.shard)), bkR b8 [.int .i64 x1.do_, .int .i64 x1.shard, .int .i64 x1.at_, .int .i64 x1.x] 38, accR encB 5 1 v1 ((dkRead ((dkMend K x1.shard)) x1.shard)), accR encB 5 1 v2 ((dkRead ((dkMend K x1.shard)) x1.shard))] := hS19.newAcc hm13 ha2 hg2
                  clear hg2
                  have hle_2 := ha2.le
                  refine OL.q (Q1.move rfl) rfl rfl ?_
                  refine OL.q (Q1.extract rfl rfl) rfl rfl ?_
                  refine OL.q (Q1.extract rfl rfl) rfl rfl ?_
                  refine OL.q (Q1.assign rfl) rfl rfl ?_
                  refine OL.q (Q1.assign rfl) rfl rfl ?_
                  refine OL.nil ?_
                  refine r_seq ?_
                  refine r_seq ?_
                  obtain ⟨⟨vl2, rows2⟩, hS22⟩ := hS21.exo (i := 1) rfl
                  change St (fun _ => False) (fun _ => False) w0 w14 [dkK 62 69 5 bd1 lf ((dkMend K x1.shard)), boxR [bkR bw1 [vl2, .int .i64 lf] 45, accR encIm 72 3 vl2 rows2, irR rows2 ((dkMend K x1.shard))], bkR b8 [.int .i64 x1.do_, .int .i64 x1.shard, .int .i64 x1.at_, .int .i64 x1.x] 38, accR encB 5 1 v1 ((dkRead ((dkMend K x1.shard)) x1.shard)), accR encB 5 1 v2 ((dkRead ((dkMend K x1.shard)) x1.shard))] at hS22
                  have hS23 : St (fun _ => False) (fun _ => False) w0 w14 [dkK 62 69 5 bd1 lf ((dkMend K x1.shard)), bkR b8 [.int .i64 x1.do_, .int .i64 x1.shard, .int .i64 x1.at_, .int .i64 x1.x] 38, accR encB 5 1 v1 ((dkRead ((dkMend K x1.shard)) x1.shard)), accR encB 5 1 v2 ((dkRead ((dkMend K x1.shard)) x1.shard)), boxR [bkR bw1 [vl2, .int .i64 lf] 45, accR encIm 72 3 vl2 rows2, irR rows2 ((dkMend K x1.shard))]] := hS22.sel [0, 2, 3, 4, 1] (by rfl) (by decide)
                  have hS24 : St (fun _ => False) (fun _ => False) w0 w14 [dkK 62 69 5 bd1 lf ((dkMend K x1.shard)), bkR b8 [.int .i64 x1.do_, .int .i64 x1.shard, .int .i64 x1.at_, .int .i64 x1.x] 38, accR encB 5 1 v1 ((dkRead ((dkMend K x1.shard)) x1.shard)), accR encB 5 1 v2 ((dkRead ((dkMend K x1.shard)) x1.shard)), boxR [bkR bw1 [vl2, .int .i64 lf] 45, accR encIm 72 3 vl2 rows2, irR rows2 ((dkMend K x1.shard))]] := hS23
                  have hS25 : St (fun _ => False) (fun _ => False) w0 w14 [dkK 62 69 5 bd1 lf ((dkMend K x1.shard)), bkR b8 [.int .i64 x1.do_, .int .i64 x1.shard, .int .i64 x1.at_, .int .i64 x1.x] 38, accR encB 5 1 v1 ((dkRead ((dkMend K x1.shard)) x1.shard)), accR encB 5 1 v2 ((dkRead ((dkMend K x1.shard)) x1.shard)), bkR bw1 [vl2, .int .i64 lf] 45, accR encIm 72 3 vl2 rows2, irR rows2 ((dkMend K x1.shard))] := St.open (L1 := [dkK 62 69 5 bd1 lf ((dkMend K x1.shard)), bkR b8 [.int .i64 x1.do_, .int .i64 x1.shard, .int .i64 x1.at_, .int .i64 x1.x] 38, accR encB 5 1 v1 ((dkRead ((dkMend K x1.shard)) x1.shard)), accR encB 5 1 v2 ((dkRead ((dkMend K x1.shard)) x1.shard))]) hS24
                  refine r_draw1 (fun i => Nat.beq i 5 || Nat.beq i 10 || Nat.beq i 18 || Nat.beq i 22 || Nat.beq i 27) 34 (fun w' => Bk w' b8 [.int .i64 x1.do_, .int .i64 x1.shard, .int .i64 x1.at_, .int .i64 x1.x] 38 ∧ Bk w' bw1 [vl2, .int .i64 lf] 45) mixed (by kernel_rfl) ?_
                  intro w15 hm14
                  have hS26 := hS25.ext hm14
                  have f21 := hS26.bk (i := 1) rfl
                  have f22 := hS26.bk (i := 4) rfl
                  refine ⟨⟨f21, f22⟩, ?_⟩
                  rw [show List.range' 0 (Array.size _) = [0, 1, 2, 3, 4, 5, 6, 7, 8, 9, 10, 11, 12, 13, 14, 15, 16, 17, 18, 19, 20, 21, 22, 23, 24, 25, 26, 27, 28, 29, 30, 31, 32, 33] from rfl]
                  refine OD.q rfl rfl (Q1.move rfl) rfl rfl ?_
                  refine OD.q rfl rfl (Q1.not rfl) rfl rfl ?_
                  refine OD.q rfl rfl (Q1.move rfl) rfl rfl ?_
                  refine OD.q rfl rfl (Q1.move rfl) rfl rfl ?_
                  refine OD.q rfl rfl (Q1.move rfl) rfl rfl ?_
                  obtain ⟨g3, f23, hl2, k1⟩ := hS26.accK (i := 2) rfl
                  obtain ⟨g4, f24, hl3, k2⟩ := hS26.accK (i := 3) rfl
                  refine OD.act rfl rfl rfl rfl (AW.callF cl16 rfl (sameB_c (w0 := w15) (a := (dkRead ((dkMend K x1.shard)) x1.shard)) (b := (dkRead ((dkMend K x1.shard)) x1.shard))  (f23.sl.iv (Nat.zero_le _) f23.lt) (f24.sl.iv (Nat.zero_le _) f24.lt)) ?_)
                  rintro _ w16 ⟨⟨b12, hb11, rfl⟩, hm15⟩
                  have hS27 := hS26.ext hm15
                  have f25 := hS27.bk (i := 1) rfl
                  have f26 := hS27.bk (i := 4) rfl
                  refine ⟨.inr ⟨f25, f26⟩, ?_⟩
                  obtain rfl : b12 = true := hb11.trans (by exact decide_eq_true rfl)
                  refine OD.q rfl rfl (Q1.not rfl) rfl rfl ?_
                  refine OD.q rfl rfl (Q1.pick_f rfl rfl) rfl rfl ?_
                  refine OD.q rfl rfl (Q1.move rfl) rfl rfl ?_
                  refine OD.q rfl rfl (Q1.move rfl) rfl rfl ?_
                  refine OD.act rfl rfl rfl rfl (AW.callF cl8 rfl (num_c (w0 := w16)  ((dkErr ((dkMend K x1.shard)) x1.shard)) (by first | omega | assumption)) ?_)
                  rintro _ w17 ⟨rfl, hm16⟩
                  have hS28 := hS27.ext hm16
                  have f27 := hS28.bk (i := 1) rfl
                  have f28 := hS28.bk (i := 4) rfl
                  refine ⟨.inr ⟨f27, f28⟩, ?_⟩
                  refine OD.q rfl rfl (Q1.move rfl) rfl rfl ?_
                  refine OD.qb rfl rfl (Q1.ne rfl rfl) rfl rfl ?_
                  intro b13 hb12
                  obtain rfl : b13 = false := hb12.trans (by exact bne_eq_false_iff_eq.2 rfl)
                  refine OD.q rfl rfl (Q1.pick_f rfl rfl) rfl rfl ?_
                  refine OD.q rfl rfl (Q1.move rfl) rfl rfl ?_
                  refine OD.q rfl rfl (Q1.move rfl) rfl rfl ?_
                  refine OD.q rfl rfl (Q1.fieldAddr fl38_1 rfl) rfl rfl ?_
                  have f29 := hS25.bk (i := 1) rfl
                  refine OD.q rfl rfl (Q1.load1 ti3 rfl (fun _ hc => (hc.1.cell 1 _ rfl))) rfl rfl ?_
                  obtain ⟨Fy5, hAy5, hFy5, hky5⟩ := hS28.act (i := 0) rfl
                  refine OD.act rfl rfl rfl rfl (AW.callF cl17 rfl (drotten_c (w0 := w17) (x1.shard) (by first | assumption | (unfold I64; omega) | (unfold I64; decide)) hAy5 (fun b hb => (hFy5 b hb).2) (DkOk.mend hKo _)) ?_)
                  rintro _ w18 ⟨rfl, hm17⟩
                  have hS29 := hS28.ext hm17
                  have f30 := hS29.bk (i := 1) rfl
                  have f31 := hS29.bk (i := 4) rfl
                  refine ⟨.inr ⟨f30, f31⟩, ?_⟩
                  generalize hb13 : (dkRotten ((dkMend K x1.shard)) x1.shard) = b14
                  replace hb13 := hb13.symm
                  refine OD.q rfl rfl (Q1.move rfl) rfl rfl ?_
                  refine OD.q rfl rfl (Q1.fieldAddr fl38_1 rfl) rfl rfl ?_
                  have f32 := hS25.bk (i := 1) rfl
                  refine OD.q rfl rfl (Q1.load1 ti3 rfl (fun _ hc => (hc.1.cell 1 _ rfl))) rfl rfl ?_
                  obtain ⟨g5, f33, hl4, k3⟩ := hS29.accK (i := 5) rfl
                  refine OD.act rfl rfl rfl rfl (AW.callF cl18 rfl (r14rotten_c (w0 := w18) (F := Iv 0 w18.heap.size) (x1.shard) (by first | assumption | (unfold I64; omega) | (unfold I64; decide)) f31 (f33.sl.iv (Nat.zero_le _) f33.lt) (hS29.irGet (i := 6) rfl) (fun _ h => h.2) (by first | assumption | exact DkOk.rot hKo _ _ _ | exact DkOk.mend hKo _)) ?_)
                  rintro _ w19 ⟨rfl, hm18⟩
                  have hS30 := hS29.ext hm18
                  have f34 := hS30.bk (i := 1) rfl
                  have f35 := hS30.bk (i := 4) rfl
                  refine ⟨.inr ⟨f34, f35⟩, ?_⟩
                  generalize hb14 : (dkRotten ((dkMend K x1.shard)) x1.shard) = b15
                  replace hb14 := hb14.symm
                  refine OD.qb rfl rfl (Q1.neB Tryz.underlying4 rfl rfl) rfl rfl ?_
                  intro b16 hb15
                  obtain rfl : b16 = false := hb15.trans (by exact Ml.nbeqBB (by assumption) (by assumption) rfl)
                  refine OD.q rfl rfl (Q1.pick_f rfl rfl) rfl rfl ?_
                  refine OD.q rfl rfl (Q1.move rfl) rfl rfl ?_
                  refine OD.q rfl rfl (Q1.move rfl) rfl rfl ?_
                  obtain ⟨Fy6, hAy6, hFy6, hky6⟩ := hS30.act (i := 0) rfl
                  refine OD.act rfl rfl rfl rfl (AW.callF cl19 rfl (dlife_c (w0 := w19) hAy6) ?_)
                  rintro _ w20 ⟨rfl, hm19⟩
                  have hS31 := hS30.ext hm19
                  have f36 := hS31.bk (i := 1) rfl
                  have f37 := hS31.bk (i := 4) rfl
                  refine ⟨.inr ⟨f36, f37⟩, ?_⟩
                  refine OD.q rfl rfl (Q1.move rfl) rfl rfl ?_
                  refine OD.q rfl rfl (Q1.nilCheckP rfl) rfl rfl ?_
                  refine OD.q rfl rfl (Q1.fieldAddr fl45_1 rfl) rfl rfl ?_
                  have f38 := hS25.bk (i := 4) rfl
                  refine OD.q rfl rfl (Q1.load1 ti3 rfl (fun _ hc => (hc.2.cell 1 _ rfl))) rfl rfl ?_
                  refine OD.qb rfl rfl (Q1.ne rfl rfl) rfl rfl ?_
                  intro b17 hb16
                  obtain rfl : b17 = false := hb16.trans (by exact bne_eq_false_iff_eq.2 rfl)
                  refine OD.q rfl rfl (Q1.pick_f rfl rfl) rfl rfl ?_
                  refine OD.nil ?_
                  refine r_cond_f rfl ?_
                  refine r_skip ?_
                  refine r_region ?_
                  have hS32 : St (fun _ => False) (fun _ => False) w0 w20 [dkK 62 69 5 bd1 lf ((dkMend K x1.shard)), bkR b8 [.int .i64 x1.do_, .int .i64 x1.shard, .int .i64 x1.at_, .int .i64 x1.x] 38, accR encB 5 1 v1 ((dkRead ((dkMend K x1.shard)) x1.shard)), accR encB 5 1 v2 ((dkRead ((dkMend K x1.shard)) x1.shard)), boxR [bkR bw1 [vl2, .int .i64 lf] 45, accR encIm 72 3 vl2 rows2, irR rows2 ((dkMend K x1.shard))]] := St.close (L1 := [dkK 62 69 5 bd1 lf ((dkMend K x1.shard)), bkR b8 [.int .i64 x1.do_, .int .i64 x1.shard, .int .i64 x1.at_, .int .i64 x1.x] 38, accR encB 5 1 v1 ((dkRead ((dkMend K x1.shard)) x1.shard)), accR encB 5 1 v2 ((dkRead ((dkMend K x1.shard)) x1.shard))]) hS31
                  have hS33 : St (fun _ => False) (fun _ => False) w0 w20 [dkK 62 69 5 bd1 lf ((dkMend K x1.shard)), bkR b8 [.int .i64 x1.do_, .int .i64 x1.shard, .int .i64 x1.at_, .int .i64 x1.x] 38, accR encB 5 1 v1 ((dkRead ((dkMend K x1.shard)) x1.shard)), accR encB 5 1 v2 ((dkRead ((dkMend K x1.shard)) x1.shard)), rdR 45 72 bw1 lf ((dkMend K x1.shard))] := hS32.exi (A := fun z_ : Value × List RIm => boxR [bkR bw1 [z_.1, .int .i64 lf] 45, accR encIm 72 3 z_.1 z_.2, irR z_.2 ((dkMend K x1.shard))]) (vl2, rows2) (i := 4) rfl
                  refine OL.q (Q1.move rfl) rfl rfl ?_
                  obtain ⟨Fy7, ⟨g6, ha3, hgb1⟩, hFy7, hky7⟩ := hS33.act (i := 2) rfl
                  refine OL.act rfl rfl (AW.callF cl20 rfl (overBytes_c (w0 := w20) ha3 (by omega)) ?_)
                  rintro _ w21 ⟨rfl, hm20⟩
                  have hS34 : St (fun _ => False) (fun _ => False) w0 w21 [dkK 62 69 5 bd1 lf ((dkMend K x1.shard)), bkR b8 [.int .i64 x1.do_, .int .i64 x1.shard, .int .i64 x1.at_, .int .i64 x1.x] 38, noR, accR encB 5 1 v2 ((dkRead ((dkMend K x1.shard)) x1.shard)), rdR 45 72 bw1 lf ((dkMend K x1.shard))] := hky7 _ (fun _ => False) noR (hm20.weaken fun b hb _ => hgb1 b hb) trivial (fun _ h => h.elim)
                  refine OL.nil ?_
                  refine r_inBlock ?_
                  refine r_region ?_
                  refine OL.q (Q1.move rfl) rfl rfl ?_
                  refine OL.q (Q1.addI (((i + 1 : Nat) : Int)) rfl rfl (by omega)) rfl rfl ?_
                  refine OL.q (Q1.assign rfl) rfl rfl ?_
                  refine OL.nil ?_
                  have hS35 : St (fun _ => False) (fun _ => False) w0 w21 [dkK 62 69 5 bd1 lf ((dkMend K x1.shard)), rdR 45 72 bw1 lf ((dkMend K x1.shard))] := hS34.sel [0, 4] (by rfl) (by decide)
                  exact (ih1 _ _ _ ⟨(i + 1 : Nat), ((dkMend K x1.shard) : List DE), (lf : Int), rfl, rfl, hS35, (by first | assumption | exact DkOk.rot hKo _ _ _ | exact DkOk.mend hKo _ | (exfalso; omega)), (by first | omega | (exfalso; omega))⟩ (by omega)).sub ⟨rfl, rfl, rfl, rfl, trivial⟩
                | false =>
                  replace hb9 := ne_of_beq_false hb9.symm
                  refine r_cond_f rfl ?_
                  refine r_seq ?_
                  refine r_region ?_
                  refine OL.qb (Q1.eq rfl rfl) rfl rfl ?_
                  intro b11 hb10
                  refine OL.q (Q1.assign rfl) rfl rfl ?_
                  refine OL.nil ?_
                  cases b11 with
                  | true =>
                    replace hb10 := eq_of_beq hb10.symm
                    refine r_cond_t rfl ?_
                    refine r_seq ?_
                    refine r_region ?_
                    obtain ⟨⟨vl1, rows1⟩, hS14⟩ := hS13.exo (i := 1) rfl
                    change St (fun _ => False) (fun _ => False) w0 w8 [dkK 62 69 5 bd1 lf K, boxR [bkR bw1 [vl1, .int .i64 lf] 45, accR encIm 72 3 vl1 rows1, irR rows1 K], bkR b8 [.int .i64 x1.do_, .int .i64 x1.shard, .int .i64 x1.at_, .int .i64 x1.x] 38] at hS14
                    have hS15 : St (fun _ => False) (fun _ => False) w0 w8 [dkK 62 69 5 bd1 lf K, bkR b8 [.int .i64 x1.do_, .int .i64 x1.shard, .int .i64 x1.at_, .int .i64 x1.x] 38, boxR [bkR bw1 [vl1, .int .i64 lf] 45, accR encIm 72 3 vl1 rows1, irR rows1 K]] := hS14.sel [0, 2, 1] (by rfl) (by decide)
                    have hS16 : St (fun _ => False) (fun _ => False) w0 w8 [dkK 62 69 5 bd1 lf K, bkR b8 [.int .i64 x1.do_, .int .i64 x1.shard, .int .i64 x1.at_, .int .i64 x1.x] 38, boxR [bkR bw1 [vl1, .int .i64 lf] 45, accR encIm 72 3 vl1 rows1, irR rows1 K]] := hS15
                    have hS17 : St (fun _ => False) (fun _ => False) w0 w8 [dkK 62 69 5 bd1 lf K, bkR b8 [.int .i64 x1.do_, .int .i64 x1.shard, .int .i64 x1.at_, .int .i64 x1.x] 38, bkR bw1 [vl1, .int .i64 lf] 45, accR encIm 72 3 vl1 rows1, irR rows1 K] := St.open (L1 := [dkK 62 69 5 bd1 lf K, bkR b8 [.int .i64 x1.do_, .int .i64 x1.shard, .int .i64 x1.at_, .int .i64 x1.x] 38]) hS16
                    refine OL.q (Q1.move rfl) rfl rfl ?_
                    refine OL.q (Q1.nilCheckP rfl) rfl rfl ?_
                    refine OL.q (Q1.fieldAddr fl45_1 rfl) rfl rfl ?_
                    have f14 := hS17.bk (i := 2) rfl
                    refine OL.q (Q1.load1 ti3 rfl (fun _ e => e ▸ (f14.cell 1 _ rfl))) rfl rfl ?_
                    refine OL.q (Q1.addI ((lf + 1)) rfl rfl (by omega)) rfl rfl ?_
                    refine OL.q (Q1.nilCheckP rfl) rfl rfl ?_
                    refine OL.q (Q1.fieldAddr fl45_1 rfl) rfl rfl ?_
                    refine OL.act rfl rfl (AW.store ti3 rfl rfl rfl rfl rfl f14 (Nat.le_of_ble_eq_true rfl) ?_)
                    intro w9 hm8 hz4 hk4
                    have hS18 : St (fun _ => False) (fun _ => False) w0 w9 [dkK 62 69 5 bd1 lf K, bkR b8 [.int .i64 x1.do_, .int .i64 x1.shard, .int .i64 x1.at_, .int .i64 x1.x] 38, bkR bw1 [vl1, .int .i64 ((lf + 1))] 45, accR encIm 72 3 vl1 rows1, irR rows1 K] := hS17.bkK (i := 2) rfl hm8 hk4
                    refine OL.nil ?_
                    refine r_draw1 (fun i => Nat.beq i 1) 8 (fun w' => Bk w' bw1 [vl1, .int .i64 ((lf + 1))] 45) mixed (by kernel_rfl) ?_
                    intro w10 hm9
                    have hS19 := hS18.ext hm9
                    have f15 := hS19.bk (i := 2) rfl
                    refine ⟨f15, ?_⟩
                    rw [show List.range' 0 (Array.size _) = [0, 1, 2, 3, 4, 5, 6, 7] from rfl]
                    refine OD.q rfl rfl (Q1.move rfl) rfl rfl ?_
                    obtain ⟨Fy1, hAy1, hFy1, hky1⟩ := hS19.act (i := 0) rfl
                    refine OD.act rfl rfl rfl rfl (AW.callF cl13 rfl (dborn_c (w0 := w10) (by omega) hAy1 (fun b hb => (hFy1 b hb).2)) ?_)
                    rintro _ w11 ⟨rfl, hm10, F3, hA3, hF3⟩
                    have hS20 : St (fun _ => False) (fun _ => False) w0 w11 [dkK 62 69 5 bd1 ((lf + 1)) K, bkR b8 [.int .i64 x1.do_, .int .i64 x1.shard, .int .i64 x1.at_, .int .i64 x1.x] 38, bkR bw1 [vl1, .int .i64 ((lf + 1))] 45, accR encIm 72 3 vl1 rows1, irR rows1 K] := hky1 _ _ _ hm10 hA3 hF3
                    clear hky1 hA3
                    have f16 := hS20.bk (i := 2) rfl
                    refine ⟨.inr f16, ?_⟩
                    refine OD.q rfl rfl (Q1.move rfl) rfl rfl ?_
                    refine OD.q rfl rfl (Q1.nilCheckP rfl) rfl rfl ?_
                    refine OD.q rfl rfl (Q1.fieldAddr fl45_1 rfl) rfl rfl ?_
                    have f17 := hS18.bk (i := 2) rfl
                    refine OD.q rfl rfl (Q1.load1 ti3 rfl (fun _ hc => (hc.cell 1 _ rfl))) rfl rfl ?_
                    refine OD.qb rfl rfl (Q1.eq rfl rfl) rfl rfl ?_
                    intro b12 hb11
                    obtain rfl : b12 = true := hb11.trans (by exact beq_self_eq_true _)
                    refine OD.q rfl rfl (Q1.assign rfl) rfl rfl ?_
                    refine OD.nil ?_
                    refine r_inBlock ?_
                    refine r_seq ?_
                    refine r_region ?_
                    have hS21 : St (fun _ => False) (fun _ => False) w0 w11 [dkK 62 69 5 bd1 ((lf + 1)) K, bkR b8 [.int .i64 x1.do_, .int .i64 x1.shard, .int .i64 x1.at_, .int .i64 x1.x] 38, boxR [bkR bw1 [vl1, .int .i64 ((lf + 1))] 45, accR encIm 72 3 vl1 rows1, irR rows1 K]] := St.close (L1 := [dkK 62 69 5 bd1 ((lf + 1)) K, bkR b8 [.int .i64 x1.do_, .int .i64 x1.shard, .int .i64 x1.at_, .int .i64 x1.x] 38]) hS20
                    have hS22 : St (fun _ => False) (fun _ => False) w0 w11 [dkK 62 69 5 bd1 ((lf + 1)) K, bkR b8 [.int .i64 x1.do_, .int .i64 x1.shard, .int .i64 x1.at_, .int .i64 x1.x] 38, rdR 45 72 bw1 ((lf + 1)) K] := hS21.exi (A := fun z_ : Value × List RIm => boxR [bkR bw1 [z_.1, .int .i64 ((lf + 1))] 45, accR encIm 72 3 z_.1 z_.2, irR z_.2 K]) (vl1, rows1) (i := 2) rfl
                    refine OL.q (Q1.move rfl) rfl rfl ?_
                    refine OL.q (Q1.fieldAddr fl38_1 rfl) rfl rfl ?_
                    have f18 := hS22.bk (i := 1) rfl
                    refine OL.q (Q1.load1 ti3 rfl (fun _ e => e ▸ (f18.cell 1 _ rfl))) rfl rfl ?_
                    obtain ⟨Fy2, hAy2, hFy2, hky2⟩ := hS22.act (i := 0) rfl
                    refine OL.act rfl rfl (AW.callF cl14 rfl (dread_c (w0 := w11) (x1.shard) (by first | assumption | (unfold I64; omega) | (unfold I64; decide)) hAy2 (fun b hb => (hFy2 b hb).2) hKo) ?_)
                    rintro _ w12 ⟨v1, rfl, ⟨g1, ha1, hg1⟩, hm11⟩
                    have hS23 := hS22.ext hm11
                    have hS24 : St (fun _ => False) (fun _ => False) w0 w12 [dkK 62 69 5 bd1 ((lf + 1)) K, bkR b8 [.int .i64 x1.do_, .int .i64 x1.shard, .int .i64 x1.at_, .int .i64 x1.x] 38, rdR 45 72 bw1 ((lf + 1)) K, accR encB 5 1 v1 ((dkRead K x1.shard))] := hS22.newAcc hm11 ha1 hg1
                    clear hg1
                    have hle_1 := ha1.le
                    have hei1 := dkErr_I64 K x1.shard
                    have hrd1 := dkRead_len (K := K) hKo x1.shard
                    refine OL.q (Q1.move rfl) rfl rfl ?_
                    refine OL.q (Q1.extract rfl rfl) rfl rfl ?_
                    refine OL.q (Q1.extract rfl rfl) rfl rfl ?_
                    refine OL.q (Q1.assign rfl) rfl rfl ?_
                    refine OL.q (Q1.assign rfl) rfl rfl ?_
                    refine OL.nil ?_
                    refine r_seq ?_
                    refine r_region ?_
                    refine OL.q (Q1.move rfl) rfl rfl ?_
                    refine OL.q (Q1.fieldAddr fl38_1 rfl) rfl rfl ?_
                    have f19 := hS24.bk (i := 1) rfl
                    refine OL.q (Q1.load1 ti3 rfl (fun _ e => e ▸ (f19.cell 1 _ rfl))) rfl rfl ?_
                    obtain ⟨Fy3, hAy3, hFy3, hky3⟩ := hS24.act (i := 2) rfl
                    obtain ⟨vl2, rows2, hbw1, hlw1, hrw1⟩ := rdR_in hAy3
                    refine OL.act rfl rfl (AW.callF cl15 rfl (r14read_c (w0 := w12) (F := Fy3) (x1.shard) (by first | assumption | (unfold I64; omega) | (unfold I64; decide)) hbw1 hlw1 hrw1 (fun b hb => (hFy3 b hb).2) (by first | assumption | exact DkOk.rot hKo _ _ _ | exact DkOk.mend hKo _)) ?_)
                    rintro _ w13 ⟨v2, rfl, ⟨g2, ha2, hg2⟩, hm12⟩
                    have hS25 := hS24.ext hm12
                    have hS26 : St (fun _ => False) (fun _ => False) w0 w13 [dkK 62 69 5 bd1 ((lf + 1)) K, bkR b8 [.int .i64 x1.do_, .int .i64 x1.shard, .int .i64 x1.at_, .int .i64 x1.x] 38, rdR 45 72 bw1 ((lf + 1)) K, accR encB 5 1 v1 ((dkRead K x1.shard)), accR encB 5 1 v2 ((dkRead K x1.shard))] := hS24.newAcc hm12 ha2 hg2
                    clear hg2
                    have hle_2 := ha2.le
                    refine OL.q (Q1.move rfl) rfl rfl ?_
                    refine OL.q (Q1.extract rfl rfl) rfl rfl ?_
                    refine OL.q (Q1.extract rfl rfl) rfl rfl ?_
                    refine OL.q (Q1.assign rfl) rfl rfl ?_
                    refine OL.q (Q1.assign rfl) rfl rfl ?_
                    refine OL.nil ?_
                    refine r_seq ?_
                    refine r_seq ?_
                    obtain ⟨⟨vl3, rows3⟩, hS27⟩ := hS26.exo (i := 2) rfl
                    change St (fun _ => False) (fun _ => False) w0 w13 [dkK 62 69 5 bd1 ((lf + 1)) K, bkR b8 [.int .i64 x1.do_, .int .i64 x1.shard, .int .i64 x1.at_, .int .i64 x1.x] 38, boxR [bkR bw1 [vl3, .int .i64 ((lf + 1))] 45, accR encIm 72 3 vl3 rows3, irR rows3 K], accR encB 5 1 v1 ((dkRead K x1.shard)), accR encB 5 1 v2 ((dkRead K x1.shard))] at hS27
                    have hS28 : St (fun _ => False) (fun _ => False) w0 w13 [dkK 62 69 5 bd1 ((lf + 1)) K, bkR b8 [.int .i64 x1.do_, .int .i64 x1.shard, .int .i64 x1.at_, .int .i64 x1.x] 38, accR encB 5 1 v1 ((dkRead K x1.shard)), accR encB 5 1 v2 ((dkRead K x1.shard)), boxR [bkR bw1 [vl3, .int .i64 ((lf + 1))] 45, accR encIm 72 3 vl3 rows3, irR rows3 K]] := hS27.sel [0, 1, 3, 4, 2] (by rfl) (by decide)
                    have hS29 : St (fun _ => False) (fun _ => False) w0 w13 [dkK 62 69 5 bd1 ((lf + 1)) K, bkR b8 [.int .i64 x1.do_, .int .i64 x1.shard, .int .i64 x1.at_, .int .i64 x1.x] 38, accR encB 5 1 v1 ((dkRead K x1.shard)), accR encB 5 1 v2 ((dkRead K x1.shard)), boxR [bkR bw1 [vl3, .int .i64 ((lf + 1))] 45, accR encIm 72 3 vl3 rows3, irR rows3 K]] := hS28
                    have hS30 : St (fun _ => False) (fun _ => False) w0 w13 [dkK 62 69 5 bd1 ((lf + 1)) K, bkR b8 [.int .i64 x1.do_, .int .i64 x1.shard, .int .i64 x1.at_, .int .i64 x1.x] 38, accR encB 5 1 v1 ((dkRead K x1.shard)), accR encB 5 1 v2 ((dkRead K x1.shard)), bkR bw1 [vl3, .int .i64 ((lf + 1))] 45, accR encIm 72 3 vl3 rows3, irR rows3 K] := St.open (L1 := [dkK 62 69 5 bd1 ((lf + 1)) K, bkR b8 [.int .i64 x1.do_, .int .i64 x1.shard, .int .i64 x1.at_, .int .i64 x1.x] 38, accR encB 5 1 v1 ((dkRead K x1.shard)), accR encB 5 1 v2 ((dkRead K x1.shard))]) hS29
                    refine r_draw1 (fun i => Nat.beq i 5 || Nat.beq i 10 || Nat.beq i 18 || Nat.beq i 22 || Nat.beq i 27) 34 (fun w' => Bk w' b8 [.int .i64 x1.do_, .int .i64 x1.shard, .int .i64 x1.at_, .int .i64 x1.x] 38 ∧ Bk w' bw1 [vl3, .int .i64 ((lf + 1))] 45) mixed (by kernel_rfl) ?_
                    intro w14 hm13
                    have hS31 := hS30.ext hm13
                    have f20 := hS31.bk (i := 1) rfl
                    have f21 := hS31.bk (i := 4) rfl
                    refine ⟨⟨f20, f21⟩, ?_⟩
                    rw [show List.range' 0 (Array.size _) = [0, 1, 2, 3, 4, 5, 6, 7, 8, 9, 10, 11, 12, 13, 14, 15, 16, 17, 18, 19, 20, 21, 22, 23, 24, 25, 26, 27, 28, 29, 30, 31, 32, 33] from rfl]
                    refine OD.q rfl rfl (Q1.move rfl) rfl rfl ?_
                    refine OD.q rfl rfl (Q1.not rfl) rfl rfl ?_
                    refine OD.q rfl rfl (Q1.move rfl) rfl rfl ?_
                    refine OD.q rfl rfl (Q1.move rfl) rfl rfl ?_
                    refine OD.q rfl rfl (Q1.move rfl) rfl rfl ?_
                    obtain ⟨g3, f22, hl2, k1⟩ := hS31.accK (i := 2) rfl
                    obtain ⟨g4, f23, hl3, k2⟩ := hS31.accK (i := 3) rfl
                    refine OD.act rfl rfl rfl rfl (AW.callF cl16 rfl (sameB_c (w0 := w14) (a := (dkRead K x1.shard)) (b := (dkRead K x1.shard))  (f22.sl.iv (Nat.zero_le _) f22.lt) (f23.sl.iv (Nat.zero_le _) f23.lt)) ?_)
                    rintro _ w15 ⟨⟨b13, hb12, rfl⟩, hm14⟩
                    have hS32 := hS31.ext hm14
                    have f24 := hS32.bk (i := 1) rfl
                    have f25 := hS32.bk (i := 4) rfl
                    refine ⟨.inr ⟨f24, f25⟩, ?_⟩
                    obtain rfl : b13 = true := hb12.trans (by exact decide_eq_true rfl)
                    refine OD.q rfl rfl (Q1.not rfl) rfl rfl ?_
                    refine OD.q rfl rfl (Q1.pick_f rfl rfl) rfl rfl ?_
                    refine OD.q rfl rfl (Q1.move rfl) rfl rfl ?_
                    refine OD.q rfl rfl (Q1.move rfl) rfl rfl ?_
                    refine OD.act rfl rfl rfl rfl (AW.callF cl8 rfl (num_c (w0 := w15)  ((dkErr K x1.shard)) (by first | omega | assumption)) ?_)
                    rintro _ w16 ⟨rfl, hm15⟩
                    have hS33 := hS32.ext hm15
                    have f26 := hS33.bk (i := 1) rfl
                    have f27 := hS33.bk (i := 4) rfl
                    refine ⟨.inr ⟨f26, f27⟩, ?_⟩
                    refine OD.q rfl rfl (Q1.move rfl) rfl rfl ?_
                    refine OD.qb rfl rfl (Q1.ne rfl rfl) rfl rfl ?_
                    intro b14 hb13
                    obtain rfl : b14 = false := hb13.trans (by exact bne_eq_false_iff_eq.2 rfl)
                    refine OD.q rfl rfl (Q1.pick_f rfl rfl) rfl rfl ?_
                    refine OD.q rfl rfl (Q1.move rfl) rfl rfl ?_
                    refine OD.q rfl rfl (Q1.move rfl) rfl rfl ?_
                    refine OD.q rfl rfl (Q1.fieldAddr fl38_1 rfl) rfl rfl ?_
                    have f28 := hS30.bk (i := 1) rfl
                    refine OD.q rfl rfl (Q1.load1 ti3 rfl (fun _ hc => (hc.1.cell 1 _ rfl))) rfl rfl ?_
                    obtain ⟨Fy4, hAy4, hFy4, hky4⟩ := hS33.act (i := 0) rfl
                    refine OD.act rfl rfl rfl rfl (AW.callF cl17 rfl (drotten_c (w0 := w16) (x1.shard) (by first | assumption | (unfold I64; omega) | (unfold I64; decide)) hAy4 (fun b hb => (hFy4 b hb).2) hKo) ?_)
                    rintro _ w17 ⟨rfl, hm16⟩
                    have hS34 := hS33.ext hm16
                    have f29 := hS34.bk (i := 1) rfl
                    have f30 := hS34.bk (i := 4) rfl
                    refine ⟨.inr ⟨f29, f30⟩, ?_⟩
                    generalize hb14 : (dkRotten K x1.shard) = b15
                    replace hb14 := hb14.symm
                    refine OD.q rfl rfl (Q1.move rfl) rfl rfl ?_
                    refine OD.q rfl rfl (Q1.fieldAddr fl38_1 rfl) rfl rfl ?_
                    have f31 := hS30.bk (i := 1) rfl
                    refine OD.q rfl rfl (Q1.load1 ti3 rfl (fun _ hc => (hc.1.cell 1 _ rfl))) rfl rfl ?_
                    obtain ⟨g5, f32, hl4, k3⟩ := hS34.accK (i := 5) rfl
                    refine OD.act rfl rfl rfl rfl (AW.callF cl18 rfl (r14rotten_c (w0 := w17) (F := Iv 0 w17.heap.size) (x1.shard) (by first | assumption | (unfold I64; omega) | (unfold I64; decide)) f30 (f32.sl.iv (Nat.zero_le _) f32.lt) (hS34.irGet (i := 6) rfl) (fun _ h => h.2) (by first | assumption | exact DkOk.rot hKo _ _ _ | exact DkOk.mend hKo _)) ?_)
                    rintro _ w18 ⟨rfl, hm17⟩
                    have hS35 := hS34.ext hm17
                    have f33 := hS35.bk (i := 1) rfl
                    have f34 := hS35.bk (i := 4) rfl
                    refine ⟨.inr ⟨f33, f34⟩, ?_⟩
                    generalize hb15 : (dkRotten K x1.shard) = b16
                    replace hb15 := hb15.symm
                    refine OD.qb rfl rfl (Q1.neB Tryz.underlying4 rfl rfl) rfl rfl ?_
                    intro b17 hb16
                    obtain rfl : b17 = false := hb16.trans (by exact Ml.nbeqBB (by assumption) (by assumption) rfl)
                    refine OD.q rfl rfl (Q1.pick_f rfl rfl) rfl rfl ?_
                    refine OD.q rfl rfl (Q1.move rfl) rfl rfl ?_
                    refine OD.q rfl rfl (Q1.move rfl) rfl rfl ?_
                    obtain ⟨Fy5, hAy5, hFy5, hky5⟩ := hS35.act (i := 0) rfl
                    refine OD.act rfl rfl rfl rfl (AW.callF cl19 rfl (dlife_c (w0 := w18) hAy5) ?_)
                    rintro _ w19 ⟨rfl, hm18⟩
                    have hS36 := hS35.ext hm18
                    have f35 := hS36.bk (i := 1) rfl
                    have f36 := hS36.bk (i := 4) rfl
                    refine ⟨.inr ⟨f35, f36⟩, ?_⟩
                    refine OD.q rfl rfl (Q1.move rfl) rfl rfl ?_
                    refine OD.q rfl rfl (Q1.nilCheckP rfl) rfl rfl ?_
                    refine OD.q rfl rfl (Q1.fieldAddr fl45_1 rfl) rfl rfl ?_
                    have f37 := hS30.bk (i := 4) rfl
                    refine OD.q rfl rfl (Q1.load1 ti3 rfl (fun _ hc => (hc.2.cell 1 _ rfl))) rfl rfl ?_
                    refine OD.qb rfl rfl (Q1.ne rfl rfl) rfl rfl ?_
                    intro b18 hb17
                    obtain rfl : b18 = false := hb17.trans (by exact bne_eq_false_iff_eq.2 rfl)
                    refine OD.q rfl rfl (Q1.pick_f rfl rfl) rfl rfl ?_
                    refine OD.nil ?_
                    refine r_cond_f rfl ?_
                    refine r_skip ?_
                    refine r_region ?_
                    have hS37 : St (fun _ => False) (fun _ => False) w0 w19 [dkK 62 69 5 bd1 ((lf + 1)) K, bkR b8 [.int .i64 x1.do_, .int .i64 x1.shard, .int .i64 x1.at_, .int .i64 x1.x] 38, accR encB 5 1 v1 ((dkRead K x1.shard)), accR encB 5 1 v2 ((dkRead K x1.shard)), boxR [bkR bw1 [vl3, .int .i64 ((lf + 1))] 45, accR encIm 72 3 vl3 rows3, irR rows3 K]] := St.close (L1 := [dkK 62 69 5 bd1 ((lf + 1)) K, bkR b8 [.int .i64 x1.do_, .int .i64 x1.shard, .int .i64 x1.at_, .int .i64 x1.x] 38, accR encB 5 1 v1 ((dkRead K x1.shard)), accR encB 5 1 v2 ((dkRead K x1.shard))]) hS36
                    have hS38 : St (fun _ => False) (fun _ => False) w0 w19 [dkK 62 69 5 bd1 ((lf + 1)) K, bkR b8 [.int .i64 x1.do_, .int .i64 x1.shard, .int .i64 x1.at_, .int .i64 x1.x] 38, accR encB 5 1 v1 ((dkRead K x1.shard)), accR encB 5 1 v2 ((dkRead K x1.shard)), rdR 45 72 bw1 ((lf + 1)) K] := hS37.exi (A := fun z_ : Value × List RIm => boxR [bkR bw1 [z_.1, .int .i64 ((lf + 1))] 45, accR encIm 72 3 z_.1 z_.2, irR z_.2 K]) (vl3, rows3) (i := 4) rfl
                    refine OL.q (Q1.move rfl) rfl rfl ?_
                    obtain ⟨Fy6, ⟨g6, ha3, hgb1⟩, hFy6, hky6⟩ := hS38.act (i := 2) rfl
                    refine OL.act rfl rfl (AW.callF cl20 rfl (overBytes_c (w0 := w19) ha3 (by omega)) ?_)
                    rintro _ w20 ⟨rfl, hm19⟩
                    have hS39 : St (fun _ => False) (fun _ => False) w0 w20 [dkK 62 69 5 bd1 ((lf + 1)) K, bkR b8 [.int .i64 x1.do_, .int .i64 x1.shard, .int .i64 x1.at_, .int .i64 x1.x] 38, noR, accR encB 5 1 v2 ((dkRead K x1.shard)), rdR 45 72 bw1 ((lf + 1)) K] := hky6 _ (fun _ => False) noR (hm19.weaken fun b hb _ => hgb1 b hb) trivial (fun _ h => h.elim)
                    refine OL.nil ?_
                    refine r_inBlock ?_
                    refine r_region ?_
                    refine OL.q (Q1.move rfl) rfl rfl ?_
                    refine OL.q (Q1.addI (((i + 1 : Nat) : Int)) rfl rfl (by omega)) rfl rfl ?_
                    refine OL.q (Q1.assign rfl) rfl rfl ?_
                    refine OL.nil ?_
                    have hS40 : St (fun _ => False) (fun _ => False) w0 w20 [dkK 62 69 5 bd1 ((lf + 1)) K, rdR 45 72 bw1 ((lf + 1)) K] := hS39.sel [0, 4] (by rfl) (by decide)
                    exact (ih1 _ _ _ ⟨(i + 1 : Nat), (K : List DE), ((lf + 1) : Int), rfl, rfl, hS40, (by first | assumption | exact DkOk.rot hKo _ _ _ | exact DkOk.mend hKo _ | (exfalso; omega)), (by first | omega | (exfalso; omega))⟩ (by omega)).sub ⟨rfl, rfl, rfl, rfl, trivial⟩
                  | false =>
                    replace hb10 := ne_of_beq_false hb10.symm
                    refine r_cond_f rfl ?_
                    refine r_skip ?_
                    refine r_inBlock ?_
                    refine r_seq ?_
                    refine r_region ?_
                    refine OL.q (Q1.move rfl) rfl rfl ?_
                    refine OL.q (Q1.fieldAddr fl38_1 rfl) rfl rfl ?_
                    refine OL.q (Q1.load1 ti3 rfl (fun _ e => e ▸ (f13.cell 1 _ rfl))) rfl rfl ?_
                    obtain ⟨Fy1, hAy1, hFy1, hky1⟩ := hS13.act (i := 0) rfl
                    refine OL.act rfl rfl (AW.callF cl14 rfl (dread_c (w0 := w8) (x1.shard) (by first | assumption | (unfold I64; omega) | (unfold I64; decide)) hAy1 (fun b hb => (hFy1 b hb).2) hKo) ?_)
                    rintro _ w9 ⟨v1, rfl, ⟨g1, ha1, hg1⟩, hm8⟩
                    have hS14 := hS13.ext hm8
                    have hS15 : St (fun _ => False) (fun _ => False) w0 w9 [dkK 62 69 5 bd1 lf K, rdR 45 72 bw1 lf K, bkR b8 [.int .i64 x1.do_, .int .i64 x1.shard, .int .i64 x1.at_, .int .i64 x1.x] 38, accR encB 5 1 v1 ((dkRead K x1.shard))] := hS13.newAcc hm8 ha1 hg1
                    clear hg1
                    have hle_1 := ha1.le
                    have hei1 := dkErr_I64 K x1.shard
                    have hrd1 := dkRead_len (K := K) hKo x1.shard
                    refine OL.q (Q1.move rfl) rfl rfl ?_
                    refine OL.q (Q1.extract rfl rfl) rfl rfl ?_
                    refine OL.q (Q1.extract rfl rfl) rfl rfl ?_
                    refine OL.q (Q1.assign rfl) rfl rfl ?_
                    refine OL.q (Q1.assign rfl) rfl rfl ?_
                    refine OL.nil ?_
                    refine r_seq ?_
                    refine r_region ?_
                    refine OL.q (Q1.move rfl) rfl rfl ?_
                    refine OL.q (Q1.fieldAddr fl38_1 rfl) rfl rfl ?_
                    have f14 := hS15.bk (i := 2) rfl
                    refine OL.q (Q1.load1 ti3 rfl (fun _ e => e ▸ (f14.cell 1 _ rfl))) rfl rfl ?_
                    obtain ⟨Fy2, hAy2, hFy2, hky2⟩ := hS15.act (i := 1) rfl
                    obtain ⟨vl1, rows1, hbw1, hlw1, hrw1⟩ := rdR_in hAy2
                    refine OL.act rfl rfl (AW.callF cl15 rfl (r14read_c (w0 := w9) (F := Fy2) (x1.shard) (by first | assumption | (unfold I64; omega) | (unfold I64; decide)) hbw1 hlw1 hrw1 (fun b hb => (hFy2 b hb).2) (by first | assumption | exact DkOk.rot hKo _ _ _ | exact DkOk.mend hKo _)) ?_)
                    rintro _ w10 ⟨v2, rfl, ⟨g2, ha2, hg2⟩, hm9⟩
                    have hS16 := hS15.ext hm9
                    have hS17 : St (fun _ => False) (fun _ => False) w0 w10 [dkK 62 69 5 bd1 lf K, rdR 45 72 bw1 lf K, bkR b8 [.int .i64 x1.do_, .int .i64 x1.shard, .int .i64 x1.at_, .int .i64 x1.x] 38, accR encB 5 1 v1 ((dkRead K x1.shard)), accR encB 5 1 v2 ((dkRead K x1.shard))] := hS15.newAcc hm9 ha2 hg2
                    clear hg2
                    have hle_2 := ha2.le
                    refine OL.q (Q1.move rfl) rfl rfl ?_
                    refine OL.q (Q1.extract rfl rfl) rfl rfl ?_
                    refine OL.q (Q1.extract rfl rfl) rfl rfl ?_
                    refine OL.q (Q1.assign rfl) rfl rfl ?_
                    refine OL.q (Q1.assign rfl) rfl rfl ?_
                    refine OL.nil ?_
                    refine r_seq ?_
                    refine r_seq ?_
                    obtain ⟨⟨vl2, rows2⟩, hS18⟩ := hS17.exo (i := 1) rfl
                    change St (fun _ => False) (fun _ => False) w0 w10 [dkK 62 69 5 bd1 lf K, boxR [bkR bw1 [vl2, .int .i64 lf] 45, accR encIm 72 3 vl2 rows2, irR rows2 K], bkR b8 [.int .i64 x1.do_, .int .i64 x1.shard, .int .i64 x1.at_, .int .i64 x1.x] 38, accR encB 5 1 v1 ((dkRead K x1.shard)), accR encB 5 1 v2 ((dkRead K x1.shard))] at hS18
                    have hS19 : St (fun _ => False) (fun _ => False) w0 w10 [dkK 62 69 5 bd1 lf K, bkR b8 [.int .i64 x1.do_, .int .i64 x1.shard, .int .i64 x1.at_, .int .i64 x1.x] 38, accR encB 5 1 v1 ((dkRead K x1.shard)), accR encB 5 1 v2 ((dkRead K x1.shard)), boxR [bkR bw1 [vl2, .int .i64 lf] 45, accR encIm 72 3 vl2 rows2, irR rows2 K]] := hS18.sel [0, 2, 3, 4, 1] (by rfl) (by decide)
                    have hS20 : St (fun _ => False) (fun _ => False) w0 w10 [dkK 62 69 5 bd1 lf K, bkR b8 [.int .i64 x1.do_, .int .i64 x1.shard, .int .i64 x1.at_, .int .i64 x1.x] 38, accR encB 5 1 v1 ((dkRead K x1.shard)), accR encB 5 1 v2 ((dkRead K x1.shard)), boxR [bkR bw1 [vl2, .int .i64 lf] 45, accR encIm 72 3 vl2 rows2, irR rows2 K]] := hS19
                    have hS21 : St (fun _ => False) (fun _ => False) w0 w10 [dkK 62 69 5 bd1 lf K, bkR b8 [.int .i64 x1.do_, .int .i64 x1.shard, .int .i64 x1.at_, .int .i64 x1.x] 38, accR encB 5 1 v1 ((dkRead K x1.shard)), accR encB 5 1 v2 ((dkRead K x1.shard)), bkR bw1 [vl2, .int .i64 lf] 45, accR encIm 72 3 vl2 rows2, irR rows2 K] := St.open (L1 := [dkK 62 69 5 bd1 lf K, bkR b8 [.int .i64 x1.do_, .int .i64 x1.shard, .int .i64 x1.at_, .int .i64 x1.x] 38, accR encB 5 1 v1 ((dkRead K x1.shard)), accR encB 5 1 v2 ((dkRead K x1.shard))]) hS20
                    refine r_draw1 (fun i => Nat.beq i 5 || Nat.beq i 10 || Nat.beq i 18 || Nat.beq i 22 || Nat.beq i 27) 34 (fun w' => Bk w' b8 [.int .i64 x1.do_, .int .i64 x1.shard, .int .i64 x1.at_, .int .i64 x1.x] 38 ∧ Bk w' bw1 [vl2, .int .i64 lf] 45) mixed (by kernel_rfl) ?_
                    intro w11 hm10
                    have hS22 := hS21.ext hm10
                    have f15 := hS22.bk (i := 1) rfl
                    have f16 := hS22.bk (i := 4) rfl
                    refine ⟨⟨f15, f16⟩, ?_⟩
                    rw [show List.range' 0 (Array.size _) = [0, 1, 2, 3, 4, 5, 6, 7, 8, 9, 10, 11, 12, 13, 14, 15, 16, 17, 18, 19, 20, 21, 22, 23, 24, 25, 26, 27, 28, 29, 30, 31, 32, 33] from rfl]
                    refine OD.q rfl rfl (Q1.move rfl) rfl rfl ?_
                    refine OD.q rfl rfl (Q1.not rfl) rfl rfl ?_
                    refine OD.q rfl rfl (Q1.move rfl) rfl rfl ?_
                    refine OD.q rfl rfl (Q1.move rfl) rfl rfl ?_
                    refine OD.q rfl rfl (Q1.move rfl) rfl rfl ?_
                    obtain ⟨g3, f17, hl2, k1⟩ := hS22.accK (i := 2) rfl
                    obtain ⟨g4, f18, hl3, k2⟩ := hS22.accK (i := 3) rfl
                    refine OD.act rfl rfl rfl rfl (AW.callF cl16 rfl (sameB_c (w0 := w11) (a := (dkRead K x1.shard)) (b := (dkRead K x1.shard))  (f17.sl.iv (Nat.zero_le _) f17.lt) (f18.sl.iv (Nat.zero_le _) f18.lt)) ?_)
                    rintro _ w12 ⟨⟨b12, hb11, rfl⟩, hm11⟩
                    have hS23 := hS22.ext hm11
                    have f19 := hS23.bk (i := 1) rfl
                    have f20 := hS23.bk (i := 4) rfl
                    refine ⟨.inr ⟨f19, f20⟩, ?_⟩
                    obtain rfl : b12 = true := hb11.trans (by exact decide_eq_true rfl)
                    refine OD.q rfl rfl (Q1.not rfl) rfl rfl ?_
                    refine OD.q rfl rfl (Q1.pick_f rfl rfl) rfl rfl ?_
                    refine OD.q rfl rfl (Q1.move rfl) rfl rfl ?_
                    refine OD.q rfl rfl (Q1.move rfl) rfl rfl ?_
                    refine OD.act rfl rfl rfl rfl (AW.callF cl8 rfl (num_c (w0 := w12)  ((dkErr K x1.shard)) (by first | omega | assumption)) ?_)
                    rintro _ w13 ⟨rfl, hm12⟩
                    have hS24 := hS23.ext hm12
                    have f21 := hS24.bk (i := 1) rfl
                    have f22 := hS24.bk (i := 4) rfl
                    refine ⟨.inr ⟨f21, f22⟩, ?_⟩
                    refine OD.q rfl rfl (Q1.move rfl) rfl rfl ?_
                    refine OD.qb rfl rfl (Q1.ne rfl rfl) rfl rfl ?_
                    intro b13 hb12
                    obtain rfl : b13 = false := hb12.trans (by exact bne_eq_false_iff_eq.2 rfl)
                    refine OD.q rfl rfl (Q1.pick_f rfl rfl) rfl rfl ?_
                    refine OD.q rfl rfl (Q1.move rfl) rfl rfl ?_
                    refine OD.q rfl rfl (Q1.move rfl) rfl rfl ?_
                    refine OD.q rfl rfl (Q1.fieldAddr fl38_1 rfl) rfl rfl ?_
                    have f23 := hS21.bk (i := 1) rfl
                    refine OD.q rfl rfl (Q1.load1 ti3 rfl (fun _ hc => (hc.1.cell 1 _ rfl))) rfl rfl ?_
                    obtain ⟨Fy3, hAy3, hFy3, hky3⟩ := hS24.act (i := 0) rfl
                    refine OD.act rfl rfl rfl rfl (AW.callF cl17 rfl (drotten_c (w0 := w13) (x1.shard) (by first | assumption | (unfold I64; omega) | (unfold I64; decide)) hAy3 (fun b hb => (hFy3 b hb).2) hKo) ?_)
                    rintro _ w14 ⟨rfl, hm13⟩
                    have hS25 := hS24.ext hm13
                    have f24 := hS25.bk (i := 1) rfl
                    have f25 := hS25.bk (i := 4) rfl
                    refine ⟨.inr ⟨f24, f25⟩, ?_⟩
                    generalize hb13 : (dkRotten K x1.shard) = b14
                    replace hb13 := hb13.symm
                    refine OD.q rfl rfl (Q1.move rfl) rfl rfl ?_
                    refine OD.q rfl rfl (Q1.fieldAddr fl38_1 rfl) rfl rfl ?_
                    have f26 := hS21.bk (i := 1) rfl
                    refine OD.q rfl rfl (Q1.load1 ti3 rfl (fun _ hc => (hc.1.cell 1 _ rfl))) rfl rfl ?_
                    obtain ⟨g5, f27, hl4, k3⟩ := hS25.accK (i := 5) rfl
                    refine OD.act rfl rfl rfl rfl (AW.callF cl18 rfl (r14rotten_c (w0 := w14) (F := Iv 0 w14.heap.size) (x1.shard) (by first | assumption | (unfold I64; omega) | (unfold I64; decide)) f25 (f27.sl.iv (Nat.zero_le _) f27.lt) (hS25.irGet (i := 6) rfl) (fun _ h => h.2) (by first | assumption | exact DkOk.rot hKo _ _ _ | exact DkOk.mend hKo _)) ?_)
                    rintro _ w15 ⟨rfl, hm14⟩
                    have hS26 := hS25.ext hm14
                    have f28 := hS26.bk (i := 1) rfl
                    have f29 := hS26.bk (i := 4) rfl
                    refine ⟨.inr ⟨f28, f29⟩, ?_⟩
                    generalize hb14 : (dkRotten K x1.shard) = b15
                    replace hb14 := hb14.symm
                    refine OD.qb rfl rfl (Q1.neB Tryz.underlying4 rfl rfl) rfl rfl ?_
                    intro b16 hb15
                    obtain rfl : b16 = false := hb15.trans (by exact Ml.nbeqBB (by assumption) (by assumption) rfl)
                    refine OD.q rfl rfl (Q1.pick_f rfl rfl) rfl rfl ?_
                    refine OD.q rfl rfl (Q1.move rfl) rfl rfl ?_
                    refine OD.q rfl rfl (Q1.move rfl) rfl rfl ?_
                    obtain ⟨Fy4, hAy4, hFy4, hky4⟩ := hS26.act (i := 0) rfl
                    refine OD.act rfl rfl rfl rfl (AW.callF cl19 rfl (dlife_c (w0 := w15) hAy4) ?_)
                    rintro _ w16 ⟨rfl, hm15⟩
                    have hS27 := hS26.ext hm15
                    have f30 := hS27.bk (i := 1) rfl
                    have f31 := hS27.bk (i := 4) rfl
                    refine ⟨.inr ⟨f30, f31⟩, ?_⟩
                    refine OD.q rfl rfl (Q1.move rfl) rfl rfl ?_
                    refine OD.q rfl rfl (Q1.nilCheckP rfl) rfl rfl ?_
                    refine OD.q rfl rfl (Q1.fieldAddr fl45_1 rfl) rfl rfl ?_
                    have f32 := hS21.bk (i := 4) rfl
                    refine OD.q rfl rfl (Q1.load1 ti3 rfl (fun _ hc => (hc.2.cell 1 _ rfl))) rfl rfl ?_
                    refine OD.qb rfl rfl (Q1.ne rfl rfl) rfl rfl ?_
                    intro b17 hb16
                    obtain rfl : b17 = false := hb16.trans (by exact bne_eq_false_iff_eq.2 rfl)
                    refine OD.q rfl rfl (Q1.pick_f rfl rfl) rfl rfl ?_
                    refine OD.nil ?_
                    refine r_cond_f rfl ?_
                    refine r_skip ?_
                    refine r_region ?_
                    have hS28 : St (fun _ => False) (fun _ => False) w0 w16 [dkK 62 69 5 bd1 lf K, bkR b8 [.int .i64 x1.do_, .int .i64 x1.shard, .int .i64 x1.at_, .int .i64 x1.x] 38, accR encB 5 1 v1 ((dkRead K x1.shard)), accR encB 5 1 v2 ((dkRead K x1.shard)), boxR [bkR bw1 [vl2, .int .i64 lf] 45, accR encIm 72 3 vl2 rows2, irR rows2 K]] := St.close (L1 := [dkK 62 69 5 bd1 lf K, bkR b8 [.int .i64 x1.do_, .int .i64 x1.shard, .int .i64 x1.at_, .int .i64 x1.x] 38, accR encB 5 1 v1 ((dkRead K x1.shard)), accR encB 5 1 v2 ((dkRead K x1.shard))]) hS27
                    have hS29 : St (fun _ => False) (fun _ => False) w0 w16 [dkK 62 69 5 bd1 lf K, bkR b8 [.int .i64 x1.do_, .int .i64 x1.shard, .int .i64 x1.at_, .int .i64 x1.x] 38, accR encB 5 1 v1 ((dkRead K x1.shard)), accR encB 5 1 v2 ((dkRead K x1.shard)), rdR 45 72 bw1 lf K] := hS28.exi (A := fun z_ : Value × List RIm => boxR [bkR bw1 [z_.1, .int .i64 lf] 45, accR encIm 72 3 z_.1 z_.2, irR z_.2 K]) (vl2, rows2) (i := 4) rfl
                    refine OL.q (Q1.move rfl) rfl rfl ?_
                    obtain ⟨Fy5, ⟨g6, ha3, hgb1⟩, hFy5, hky5⟩ := hS29.act (i := 2) rfl
                    refine OL.act rfl rfl (AW.callF cl20 rfl (overBytes_c (w0 := w16) ha3 (by omega)) ?_)
                    rintro _ w17 ⟨rfl, hm16⟩
                    have hS30 : St (fun _ => False) (fun _ => False) w0 w17 [dkK 62 69 5 bd1 lf K, bkR b8 [.int .i64 x1.do_, .int .i64 x1.shard, .int .i64 x1.at_, .int .i64 x1.x] 38, noR, accR encB 5 1 v2 ((dkRead K x1.shard)), rdR 45 72 bw1 lf K] := hky5 _ (fun _ => False) noR (hm16.weaken fun b hb _ => hgb1 b hb) trivial (fun _ h => h.elim)
                    refine OL.nil ?_
                    refine r_inBlock ?_
                    refine r_region ?_
                    refine OL.q (Q1.move rfl) rfl rfl ?_
                    refine OL.q (Q1.addI (((i + 1 : Nat) : Int)) rfl rfl (by omega)) rfl rfl ?_
                    refine OL.q (Q1.assign rfl) rfl rfl ?_
                    refine OL.nil ?_
                    have hS31 : St (fun _ => False) (fun _ => False) w0 w17 [dkK 62 69 5 bd1 lf K, rdR 45 72 bw1 lf K] := hS30.sel [0, 4] (by rfl) (by decide)
                    exact (ih1 _ _ _ ⟨(i + 1 : Nat), (K : List DE), (lf : Int), rfl, rfl, hS31, (by first | assumption | exact DkOk.rot hKo _ _ _ | exact DkOk.mend hKo _ | (exfalso; omega)), (by first | omega | (exfalso; omega))⟩ (by omega)).sub ⟨rfl, rfl, rfl, rfl, trivial⟩
            | false =>
              replace hb6 := of_decide_eq_false hb6.symm
              refine r_cond_f rfl ?_
              refine r_exit rfl ?_
              refine r_seq ?_
              refine r_region ?_
              refine OL.act rfl rfl (AW.callF cl5 rfl (awake14_c (w0 := w6)   ) ?_)
              rintro _ w7 ⟨⟨_, rfl, rfl⟩, hm6⟩
              have hS11 := hS9.ext hm6
              refine OL.q (Q1.assign rfl) rfl rfl ?_
              refine OL.nil ?_
              refine r_ret1 Tryz.func3 rfl rfl ?_
              exact Ret.mk ⟨⟨_, (by rfl), rfl⟩, hS11.mod⟩
end Go.Proofs
