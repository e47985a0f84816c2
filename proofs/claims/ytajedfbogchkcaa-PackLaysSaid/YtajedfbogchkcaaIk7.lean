/-
  More quiet operations: conversions in range, halves, 32 bits.
-/
import Derived.Test.YtajedfbogchkcaaIk6
set_option linter.unusedVariables false
set_option linter.unusedSimpArgs false
namespace Go.Ik
open Go
def byteAt (s : Str) (k : Nat) : Nat := (s[k]?.getD 0).toNat
theorem byteAt_lt (s : Str) (k : Nat) : byteAt s k < 256 := by unfold byteAt; exact (s[k]?.getD 0).toNat_lt
section
variable {P : Program} {E : Env} {C : World → Prop} {d : Option Tmp} {ty : TypeId} {pos : String} {af : Array Edge} {gd : Option (Nat × Bool)}
/-- between integers, in range -/
theorem Q1.convN {s t : TypeId} {x : Operand} {k k' : IntKind} {p : Int} (hs : (P.underlying s).isSome = true) (ht : P.underlying t = some (.int k')) (hx : ev E x = some (.int k p)) (hw : k'.wrap p = p) : Q1 P ⟨d, .convert s t x, ty, pos, af, gd⟩ E C (.int k' p) := by
  have h := Q1.convI (P := P) (E := E) (C := C) (d := d) (ty := ty) (pos := pos) (af := af) (gd := gd) hs ht hx
  rwa [hw] at h
/-- halves -/
theorem Q1.shr1 {xt yt : TypeId} {x y : Operand} {k k' : IntKind} {p : Int} (r : Int) (hx : ev E x = some (.int k p)) (hy : ev E y = some (.int k' 1)) (hr : p / 2 = r) : Q1 P ⟨d, .binOp .shr xt x y yt, ty, pos, af, gd⟩ E C (.int k r) := fun a ha w _ => by
  have e : p.fdiv 2 = r := by rw [← hr]; exact Int.fdiv_eq_ediv_of_nonneg _ (by omega)
  have hk : Min.min 1 k.bits = 1 := by cases k <;> rfl
  simp [execOp, ha.ev hx, ha.ev hy, eqGuard, Go.binOp, Op.shift, hk, e]
/-- an integer turned round -/
theorem Q1.negI {xt : TypeId} {x : Operand} {p : Int} (r : Int) (hx : ev E x = some (.int .i64 p)) (hr : -p = r ∧ -9223372036854775808 ≤ r ∧ r ≤ 9223372036854775807) : Q1 P ⟨d, .unOp .neg xt x, ty, pos, af, gd⟩ E C (.int .i64 r) := fun a ha w _ => by
  have h := IntWalk.i64_in r (by omega)
  have e : (0 : Int) - p = r := by omega
  simp [execOp, ha.ev hx, Op.unary, Op.intArith, hr.1, h]
/-- 32 bits, signed, in range -/
theorem Q1.add32 {x y : Operand} {xt yt : TypeId} {p q : Int} (r : Int) (hx : ev E x = some (.int .i32 p)) (hy : ev E y = some (.int .i32 q)) (hr : p + q = r ∧ -2147483648 ≤ r ∧ r ≤ 2147483647) : Q1 P ⟨d, .binOp .add xt x y yt, ty, pos, af, gd⟩ E C (.int .i32 r) := by
  have h := Q1.add (P := P) (C := C) (d := d) (xt := xt) (yt := yt) (ty := ty) (pos := pos) (af := af) (gd := gd) hx hy
  rw [IntWalk.i32_in _ (by omega), hr.1] at h; exact h
theorem Q1.sub32 {x y : Operand} {xt yt : TypeId} {p q : Int} (r : Int) (hx : ev E x = some (.int .i32 p)) (hy : ev E y = some (.int .i32 q)) (hr : p - q = r ∧ -2147483648 ≤ r ∧ r ≤ 2147483647) : Q1 P ⟨d, .binOp .sub xt x y yt, ty, pos, af, gd⟩ E C (.int .i32 r) := by
  have h := Q1.sub (P := P) (C := C) (d := d) (xt := xt) (yt := yt) (ty := ty) (pos := pos) (af := af) (gd := gd) hx hy
  rw [IntWalk.i32_in _ (by omega), hr.1] at h; exact h
theorem Q1.mul32 {x y : Operand} {xt yt : TypeId} {p q : Int} (r : Int) (hx : ev E x = some (.int .i32 p)) (hy : ev E y = some (.int .i32 q)) (hr : p * q = r ∧ -2147483648 ≤ r ∧ r ≤ 2147483647) : Q1 P ⟨d, .binOp .mul xt x y yt, ty, pos, af, gd⟩ E C (.int .i32 r) := by
  have h := Q1.mul (P := P) (C := C) (d := d) (xt := xt) (yt := yt) (ty := ty) (pos := pos) (af := af) (gd := gd) hx hy
  rw [IntWalk.i32_in _ (by rw [hr.1]; omega), hr.1] at h; exact h
/-- a byte of a text by its place -/
theorem Q1.indexB {t : TypeId} {x y : Operand} {s : Str} {k : IntKind} {n : Int} (i : Nat) (ht : P.underlying t = some .string) (hx : ev E x = some (strV s)) (hy : ev E y = some (.int k n)) (hn : n = (i : Int)) (hi : i < s.length) :
    Q1 P ⟨d, .index t x y, ty, pos, af, gd⟩ E C (.int .u8 ((byteAt s i : Nat) : Int)) := by
  have h := Q1.indexS (P := P) (E := E) (C := C) (d := d) (ty := ty) (pos := pos) (af := af) (gd := gd) i ht hx hy hn hi
  have e : byteAt s i = s[i].toNat := by unfold byteAt; rw [List.getElem?_eq_getElem hi]; rfl
  rw [e]; exact h
end
/-- two lists, place by place -/
inductive All2 {α β : Type} (R : α → β → Prop) : List α → List β → Prop
  | nil : All2 R [] []
  | cons {a : α} {b : β} {l : List α} {m : List β} : R a b → All2 R l m → All2 R (a :: l) (b :: m)
theorem All2.imp {α β : Type} {R S : α → β → Prop} (h : ∀ a b, R a b → S a b) {l : List α} {m : List β} (k : All2 R l m) : All2 S l m := by
  induction k with
  | nil => exact .nil
  | cons h1 _ ih => exact .cons (h _ _ h1) ih
theorem All2.get {α β : Type} {R : α → β → Prop} {l : List α} {m : List β} (k : All2 R l m) : l.length = m.length ∧ ∀ (i : Nat) (a : α) (b : β), l[i]? = some a → m[i]? = some b → R a b := by
  induction k with
  | nil => exact ⟨rfl, by simp⟩
  | cons h1 _ ih =>
    refine ⟨by simp [ih.1], fun i x y hx hy => ?_⟩
    cases i with
    | zero => simp only [List.getElem?_cons_zero, Option.some.injEq] at hx hy; subst hx hy; exact h1
    | succ i => exact ih.2 i x y (by simpa using hx) (by simpa using hy)
theorem All2.app {α β : Type} {R : α → β → Prop} {l l2 : List α} {m m2 : List β} (k : All2 R l m) (k2 : All2 R l2 m2) : All2 R (l ++ l2) (m ++ m2) := by
  induction k with
  | nil => exact k2
  | cons h1 _ ih => exact .cons h1 ih
end Go.Ik
