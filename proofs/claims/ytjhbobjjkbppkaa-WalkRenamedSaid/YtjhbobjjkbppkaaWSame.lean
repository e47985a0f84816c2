/-
  Walks of functions that turn nothing.
-/
import Derived.Test.YtjhbobjjkbppkaaWText
set_option linter.unusedVariables false
set_option linter.unusedSimpArgs false
namespace Go.Proofs
open Go.Ik Go.Ml
set_option maxRecDepth 20000 in
set_option maxHeartbeats 4000000 in
theorem cmpS_s {w0 : World}  (a : Str) (b : Str)  :
    Calls Try.prog 86 #[strV a, strV b] w0 (Ret fun rv w1 => rv = .int .i64 (Lib.compareBytes a b) ∧ w1 = w0) := by
  have hE0 : Ext w0 w0 := Mod.refl _ _
  refine calls_enter Try.func86 rfl Try.ntmps86 rfl ?_
  refine r_seq ?_
  refine r_region ?_
  refine OL.q (Q1.assign rfl) rfl rfl ?_
  refine OL.nil ?_
  refine r_seq ?_
  refine r_region ?_
  refine OL.q (Q1.move rfl) rfl rfl ?_
  refine OL.q (Q1.move rfl) rfl rfl ?_
  refine OL.act rfl rfl (AW.callX Try.func104 (by kernel_rfl) (by kernel_rfl) (by kernel_rfl) (e := Extern.BytealgCompare.compare) (by kernel_rfl) rfl (Lib.run_compareString _ _ _) ?_)
  refine OL.q (Q1.assign rfl) rfl rfl ?_
  refine OL.nil ?_
  refine r_ret1 Try.func86 rfl rfl ?_
  exact Ret.mk ⟨(congrArg (Value.int .i64) (by rfl)), rfl⟩
set_option maxRecDepth 20000 in
set_option maxHeartbeats 4000000 in
theorem scmp_s {w0 : World}  (a : Str) (b : Str)  :
    Calls Try.prog 65 #[strV a, strV b] w0 (Ret fun rv w1 => rv = .int .i64 (Lib.compareBytes a b) ∧ w1 = w0) := by
  have hE0 : Ext w0 w0 := Mod.refl _ _
  refine calls_enter Try.func65 rfl Try.ntmps65 rfl ?_
  refine r_seq ?_
  refine r_region ?_
  refine OL.q (Q1.assign rfl) rfl rfl ?_
  refine OL.nil ?_
  refine r_seq ?_
  refine r_region ?_
  refine OL.q (Q1.move rfl) rfl rfl ?_
  refine OL.q (Q1.move rfl) rfl rfl ?_
  refine OL.act rfl rfl (AW.callF cl86 rfl (cmpS_s (w0 := w0)  a b ) ?_)
  rintro _ _ ⟨rfl, rfl⟩
  refine OL.q (Q1.assign rfl) rfl rfl ?_
  refine OL.nil ?_
  refine r_ret1 Try.func65 rfl rfl ?_
  exact Ret.mk ⟨(congrArg (Value.int .i64) (by rfl)), rfl⟩
set_option maxRecDepth 20000 in
set_option maxHeartbeats 4000000 in
theorem tcmp_s {w0 : World}  (a : Str) (b : Str)  :
    Calls Try.prog 44 #[strV a, strV b] w0 (Ret fun rv w1 => rv = .int .i64 (Lib.compareBytes a b) ∧ w1 = w0) := by
  have hE0 : Ext w0 w0 := Mod.refl _ _
  refine calls_enter Try.func44 rfl Try.ntmps44 rfl ?_
  refine r_seq ?_
  refine r_region ?_
  refine OL.q (Q1.assign rfl) rfl rfl ?_
  refine OL.nil ?_
  refine r_seq ?_
  refine r_region ?_
  refine OL.q (Q1.move rfl) rfl rfl ?_
  refine OL.q (Q1.move rfl) rfl rfl ?_
  refine OL.act rfl rfl (AW.callF cl65 rfl (scmp_s (w0 := w0)  a b ) ?_)
  rintro _ _ ⟨rfl, rfl⟩
  refine OL.q (Q1.assign rfl) rfl rfl ?_
  refine OL.nil ?_
  refine r_ret1 Try.func44 rfl rfl ?_
  exact Ret.mk ⟨(congrArg (Value.int .i64) (by rfl)), rfl⟩
set_option maxRecDepth 20000 in
set_option maxHeartbeats 4000000 in
theorem compact_nil {w0 : World}    :
    Calls Try.prog 49 #[.slice none 0 0] w0 (Ret fun rv w1 => rv = .slice none 0 0 ∧ w1 = w0) := by
  have hE0 : Ext w0 w0 := Mod.refl _ _
  refine calls_enter Try.func49 rfl Try.ntmps49 rfl ?_
  refine r_seq ?_
  refine r_region ?_
  refine OL.q (Q1.assign rfl) rfl rfl ?_
  refine OL.nil ?_
  refine r_seq ?_
  refine r_seq ?_
  refine r_region ?_
  refine OL.q (Q1.move rfl) rfl rfl ?_
  refine OL.q (Q1.lenSl Try.underlying22 ((Sl.nil (enc := encS) (w := w0) (F := Iv 0 0))) rfl) rfl rfl ?_
  refine OL.qb (Q1.lt rfl rfl) rfl rfl ?_
  intro b1 hb1
  obtain rfl : b1 = true := hb1.trans (by exact decide_eq_true (by decide))
  refine OL.nil ?_
  refine r_cond_t rfl ?_
  refine r_seq ?_
  refine r_region ?_
  refine OL.q (Q1.move rfl) rfl rfl ?_
  refine OL.q (Q1.assign rfl) rfl rfl ?_
  refine OL.nil ?_
  refine r_ret1 Try.func49 rfl rfl ?_
  exact Ret.mk ⟨rfl, rfl⟩
end Go.Proofs
