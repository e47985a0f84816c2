/-
  More quiet operations: conversions in range, halves, 32 bits.
-/
import Derived.Test.YtjfjanaddcddlaaIk6
set_option linter.unusedVariables false
namespace Go.Ik
open Go
section
variable {P : Program} {E : Env} {C : World → Prop} {d : Option Tmp} {ty : TypeId} {pos : String} {af : Array Edge} {gd : Option (Nat × Bool)}
/-- between integers, in range -/
theorem Q1.convN {s t : TypeId} {x : Operand} {k k' : IntKind} {p : Int} (hs : (P.underlying s).isSome = true) (ht : P.underlying t = some (.int k')) (hx : ev E x = some (.int k p)) (hw : k'.wrap p = p) : Q1 P ⟨d, .convert s t x, ty, pos, af, gd⟩ E C (.int k' p) := by
  have h := Q1.convI (P := P) (E := E) (C := C) (d := d) (ty := ty) (pos := pos) (af := af) (gd := gd) hs ht hx
  rwa [hw] at h
/-- halves -/
theorem Q1.shr1 {xt yt : TypeId} {x y : Operand} {k k' : IntKind} {p : Int} (r : Int) (hx : ev E x = some (.int k p)) (hy : ev E y = some (.int k' 1)) (hr : p / 2 = r) : Q1 P ⟨d, .binOp .shr xt x y yt, ty, pos, af, gd⟩ E C (.int k r) := fun a ha w _ => by
  have e : p.fdiv 2 = r := by rw [← hr]; exact Int.fdiv_eq_ediv_of_nonneg _ (by omega)
  have hk : Min.min 1 k.bits = 1 := by cases k <;> rfl
  simp [execOp, ha.ev hx, ha.ev hy, eqGuard, Go.binOp, Op.shift, hk, e]
/-- an integer turned round -/
theorem Q1.negI {xt : TypeId} {x : Operand} {p : Int} (r : Int) (hx : ev E x = some (.int .i64 p)) (hr : -p = r ∧ -9223372036854775808 ≤ r ∧ r ≤ 9223372036854775807) : Q1 P ⟨d, .unOp .neg xt x, ty, pos, af, gd⟩ E C (.int .i64 r) := fun a ha w _ => by
  have h := IntWalk.i64_in r (by omega)
  have e : (0 : Int) - p = r := by omega
  simp [execOp, ha.ev hx, Op.unary, Op.intArith, hr.1, h]
/-- 32 bits, signed, in range -/
theorem Q1.add32 {x y : Operand} {xt yt : TypeId} {p q : Int} (r : Int) (hx : ev E x = some (.int .i32 p)) (hy : ev E y = some (.int .i32 q)) (hr : p + q = r ∧ -2147483648 ≤ r ∧ r ≤ 2147483647) : Q1 P ⟨d, .binOp .add xt x y yt, ty, pos, af, gd⟩ E C (.int .i32 r) := by
  have h := Q1.add (P := P) (C := C) (d := d) (xt := xt) (yt := yt) (ty := ty) (pos := pos) (af := af) (gd := gd) hx hy
  rw [IntWalk.i32_in _ (by omega), hr.1] at h; exact h
theorem Q1.sub32 {x y : Operand} {xt yt : TypeId} {p q : Int} (r : Int) (hx : ev E x = some (.int .i32 p)) (hy : ev E y = some (.int .i32 q)) (hr : p - q = r ∧ -2147483648 ≤ r ∧ r ≤ 2147483647) : Q1 P ⟨d, .binOp .sub xt x y yt, ty, pos, af, gd⟩ E C (.int .i32 r) := by
  have h := Q1.sub (P := P) (C := C) (d := d) (xt := xt) (yt := yt) (ty := ty) (pos := pos) (af := af) (gd := gd) hx hy
  rw [IntWalk.i32_in _ (by omega), hr.1] at h; exact h
theorem Q1.mul32 {x y : Operand} {xt yt : TypeId} {p q : Int} (r : Int) (hx : ev E x = some (.int .i32 p)) (hy : ev E y = some (.int .i32 q)) (hr : p * q = r ∧ -2147483648 ≤ r ∧ r ≤ 2147483647) : Q1 P ⟨d, .binOp .mul xt x y yt, ty, pos, af, gd⟩ E C (.int .i32 r) := by
  have h := Q1.mul (P := P) (C := C) (d := d) (xt := xt) (yt := yt) (ty := ty) (pos := pos) (af := af) (gd := gd) hx hy
  rw [IntWalk.i32_in _ (by rw [hr.1]; omega), hr.1] at h; exact h
end
end Go.Ik
