/-
  The walk through the law DiskNone.
-/
import Derived.Test.YtajedfbogchkcaaWAwakeD
set_option linter.unusedVariables false
set_option linter.unusedSimpArgs false
namespace Go.Proofs
open Go.Ik Go.Ml
set_option maxRecDepth 20000 in
set_option maxHeartbeats 4000000 in
theorem DiskNone_c {w0 : World}  {x : ActD} (h_x : ActD.Ok x) :
    Calls Try.prog 10 #[.agg #[.int .i64 x.do_, .int .i64 x.shard, .int .i64 x.at_, .int .i64 x.x]] w0 (Ret fun rv w1 => (∃ rb : Bool, rb = true ∧ rv = .bool rb) ∧ Ext w0 w1) := by
  have hS0 := St.start0 w0
  refine calls_enter Try.func10 rfl Try.ntmps10 rfl ?_
  refine r_seq ?_
  refine r_region ?_
  refine OL.act rfl rfl (AW.box [.int .i64 x.do_, .int .i64 x.shard, .int .i64 x.at_, .int .i64 x.x] rfl rfl ?_)
  intro w1 b1 hm1 hb1 hz1 hk1
  have hS1 := hS0.ext hm1
  have hS2 : St (fun _ => False) (fun _ => False) w0 w1 [bkR b1 [.int .i64 x.do_, .int .i64 x.shard, .int .i64 x.at_, .int .i64 x.x] 66] := hS0.newBk hm1 hb1 hk1
  refine OL.q (Q1.assign rfl) rfl rfl ?_
  refine OL.nil ?_
  refine r_seq ?_
  refine r_region ?_
  refine OL.q (Q1.assign rfl) rfl rfl ?_
  refine OL.nil ?_
  refine r_seq ?_
  refine r_region ?_
  refine OL.q (Q1.move rfl) rfl rfl ?_
  refine OL.q (Q1.fieldAddr fl66_1 rfl) rfl rfl ?_
  have f1 := hS2.bk (i := 0) rfl
  refine OL.q (Q1.load1 ti3 rfl (fun _ e => e ▸ (f1.cell 1 _ rfl))) rfl rfl ?_
  refine OL.act rfl rfl (AW.callF cl49 rfl (dreadn_c (w0 := w1) x.shard) ?_)
  rintro _ w2 ⟨rfl, hm2⟩
  have hS3 := hS2.ext hm2
  refine OL.q (Q1.move rfl) rfl rfl ?_
  refine OL.q (Q1.extract rfl rfl) rfl rfl ?_
  refine OL.q (Q1.extract rfl rfl) rfl rfl ?_
  refine OL.q (Q1.assign rfl) rfl rfl ?_
  refine OL.q (Q1.assign rfl) rfl rfl ?_
  refine OL.nil ?_
  refine r_seq ?_
  refine r_region ?_
  refine OL.q (Q1.move rfl) rfl rfl ?_
  refine OL.q (Q1.lenSl Try.underlying25 ((Sl.nil (enc := encB) (w := w2) (F := Iv 0 0))) rfl) rfl rfl ?_
  refine OL.qb (Q1.eq rfl rfl) rfl rfl ?_
  intro b2 hb2
  obtain rfl : b2 = true := hb2.trans (by rfl)
  refine OL.q (Q1.move rfl) rfl rfl ?_
  refine OL.q (Q1.move rfl) rfl rfl ?_
  refine OL.qb (Q1.eq rfl rfl) rfl rfl ?_
  intro b3 hb3
  obtain rfl : b3 = true := hb3.trans (by rfl)
  refine OL.q (Q1.pick_t rfl rfl) rfl rfl ?_
  refine OL.q (Q1.move rfl) rfl rfl ?_
  refine OL.q (Q1.move rfl) rfl rfl ?_
  refine OL.q (Q1.fieldAddr fl66_1 rfl) rfl rfl ?_
  have f2 := hS3.bk (i := 0) rfl
  refine OL.q (Q1.load1 ti3 rfl (fun _ e => e ▸ (f2.cell 1 _ rfl))) rfl rfl ?_
  refine OL.q (Q1.fieldAddr fl66_2 rfl) rfl rfl ?_
  refine OL.q (Q1.load1 ti3 rfl (fun _ e => e ▸ (f2.cell 2 _ rfl))) rfl rfl ?_
  refine OL.q (Q1.fieldAddr fl66_3 rfl) rfl rfl ?_
  refine OL.q (Q1.load1 ti3 rfl (fun _ e => e ▸ (f2.cell 3 _ rfl))) rfl rfl ?_
  refine OL.act rfl rfl (AW.callF cl50 rfl (drotn_c (w0 := w2) x.shard x.at_ x.x) ?_)
  rintro _ w3 ⟨rfl, hm3⟩
  have hS4 := hS3.ext hm3
  refine OL.qb (Q1.eq rfl rfl) rfl rfl ?_
  intro b4 hb4
  obtain rfl : b4 = true := hb4.trans (by rfl)
  refine OL.q (Q1.pick_t rfl rfl) rfl rfl ?_
  refine OL.q (Q1.move rfl) rfl rfl ?_
  refine OL.q (Q1.move rfl) rfl rfl ?_
  refine OL.q (Q1.fieldAddr fl66_1 rfl) rfl rfl ?_
  have f3 := hS4.bk (i := 0) rfl
  refine OL.q (Q1.load1 ti3 rfl (fun _ e => e ▸ (f3.cell 1 _ rfl))) rfl rfl ?_
  refine OL.act rfl rfl (AW.callF cl51 rfl (dmendn_c (w0 := w3) x.shard) ?_)
  rintro _ w4 ⟨rfl, hm4⟩
  have hS5 := hS4.ext hm4
  refine OL.qb (Q1.eq rfl rfl) rfl rfl ?_
  intro b5 hb5
  obtain rfl : b5 = true := hb5.trans (by rfl)
  refine OL.q (Q1.pick_t rfl rfl) rfl rfl ?_
  refine OL.q (Q1.move rfl) rfl rfl ?_
  refine OL.q (Q1.move rfl) rfl rfl ?_
  refine OL.q (Q1.fieldAddr fl66_1 rfl) rfl rfl ?_
  have f4 := hS5.bk (i := 0) rfl
  refine OL.q (Q1.load1 ti3 rfl (fun _ e => e ▸ (f4.cell 1 _ rfl))) rfl rfl ?_
  refine OL.act rfl rfl (AW.callF cl52 rfl (drottenn_c (w0 := w4) x.shard) ?_)
  rintro _ w5 ⟨rfl, hm5⟩
  have hS6 := hS5.ext hm5
  refine OL.q (Q1.not rfl) rfl rfl ?_
  refine OL.q (Q1.pick_t rfl rfl) rfl rfl ?_
  refine OL.q (Q1.move rfl) rfl rfl ?_
  refine OL.q (Q1.move rfl) rfl rfl ?_
  refine OL.act rfl rfl (AW.callF cl53 rfl (dlifen_c (w0 := w5)) ?_)
  rintro _ w6 ⟨rfl, hm6⟩
  have hS7 := hS6.ext hm6
  refine OL.qb (Q1.eq rfl rfl) rfl rfl ?_
  intro b7 hb7
  obtain rfl : b7 = true := hb7.trans (by rfl)
  refine OL.q (Q1.pick_t rfl rfl) rfl rfl ?_
  refine OL.q (Q1.move rfl) rfl rfl ?_
  refine OL.q (Q1.move rfl) rfl rfl ?_
  refine OL.act rfl rfl (AW.callF cl54 rfl (dbornn_c (w0 := w6) ) ?_)
  rintro _ w7 ⟨rfl, hm7⟩
  have hS8 := hS7.ext hm7
  refine OL.qb (Q1.eq rfl rfl) rfl rfl ?_
  intro b8 hb8
  obtain rfl : b8 = true := hb8.trans (by rfl)
  refine OL.q (Q1.pick_t rfl rfl) rfl rfl ?_
  refine OL.q (Q1.move rfl) rfl rfl ?_
  refine OL.act rfl rfl (AW.callF cl55 rfl (awake14_c (w0 := w7)   ) ?_)
  rintro _ w8 ⟨⟨_, rfl, rfl⟩, hm8⟩
  have hS9 := hS8.ext hm8
  refine OL.q (Q1.pick_t rfl rfl) rfl rfl ?_
  refine OL.q (Q1.assign rfl) rfl rfl ?_
  refine OL.nil ?_
  refine r_ret1 Try.func10 rfl rfl ?_
  exact Ret.mk ⟨⟨_, (by rfl), rfl⟩, hS9.mod⟩
end Go.Proofs
