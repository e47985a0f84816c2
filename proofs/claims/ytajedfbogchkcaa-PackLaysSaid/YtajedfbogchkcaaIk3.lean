/-
  What memory holds: rows of cells, slices that read as lists, slices of the call's own; quiet operations.
-/
import Derived.Test.YtajedfbogchkcaaIk2
import Derived.Laws.Strings
import Derived.Laws.Small
import Derived.Laws.AppendOwn
set_option linter.unusedVariables false
set_option linter.unusedSimpArgs false
namespace Go.Ik
open Go

/-! values -/
abbrev Str := List UInt8
def strV (s : Str) : Value := .string ⟨s.toArray⟩
def ptr (b off : Nat) : Value := .pointer (some ⟨b, off, none⟩)

theorem strV_of (s : ByteArray) : Value.string s = strV s.data.toList := by simp [strV]

/-! rows of cells -/
def Row (w : World) (b off : Nat) (cs : List Value) : Prop := ∀ i v, cs[i]? = some v → w.cell? ⟨b, off + i, none⟩ = some v

theorem cell_keep {M : Nat → Prop} {w w' : World} {b o : Nat} {v : Value} (h : w.cell? ⟨b, o, none⟩ = some v) (hm : Mod M w w') (hb : ¬ M b) : w'.cell? ⟨b, o, none⟩ = some v := by
  unfold World.cell? at h ⊢
  simp only [Option.isSome_none, Bool.false_eq_true, if_false] at h ⊢
  cases hh : w.heap[b]? with
  | none => rw [hh] at h; cases h
  | some ob =>
    rw [hm.keep b ob hh hb]
    rw [hh] at h
    exact h
theorem Row.keep {M : Nat → Prop} {w w' : World} {b off : Nat} {cs : List Value} (h : Row w b off cs) (hm : Mod M w w') (hb : ¬ M b) : Row w' b off cs := fun i v hv => cell_keep (h i v hv) hm hb
theorem Row.ext {w w' : World} {b off : Nat} {cs : List Value} (h : Row w b off cs) (hm : Ext w w') : Row w' b off cs := h.keep hm (fun x => x)
theorem Row.of_blk {w : World} {b : Nat} {cs : List Value} {e : TypeId} {fz : Nat × Nat} (h : w.heap[b]? = some (.cells cs.toArray e fz)) : Row w b 0 cs := fun i v hv => by
  simp [World.cell?, h, hv]
theorem Row.sub {w : World} {b off : Nat} {cs : List Value} (h : Row w b off cs) (i n : Nat) (hn : i + n ≤ cs.length) : Row w b (off + i) ((cs.drop i).take n) := fun j v hv => by
  rw [List.getElem?_take] at hv
  split at hv
  · rw [List.getElem?_drop] at hv
    rw [Nat.add_assoc]; exact h _ _ hv
  · cases hv
theorem Row.cell {w : World} {b off : Nat} {cs : List Value} (h : Row w b off cs) (i : Nat) (v : Value) (hv : cs[i]? = some v) : w.cell? ⟨b, off + i, none⟩ = some v := h i v hv
theorem add_lit (b off i : Nat) : (⟨b, off, none⟩ : Addr).add i = ⟨b, off + i, none⟩ := by unfold Addr.add; split <;> simp_all

/-! types -/
/-- of a type: is it a struct or an array; its cells; its bytes; its zero value's cells -/
def tyI (P : Program) (t : TypeId) : Option (Bool × Nat × Nat × List Value) :=
  match P.info? t, P.underlying t with
  | some i, some d => match i.zero with
    | some z => some ((match d with | .struct _ => true | .array _ _ => true | _ => false), i.size, i.bytes, z.cells.toList)
    | none => none
  | _, _ => none

section
variable {P : Program}

theorem tyI_spec {t : TypeId} {g : Bool} {n by_ : Nat} {z : List Value} (h : tyI P t = some (g, n, by_, z)) :
    ∃ i d zv, P.info? t = some i ∧ P.underlying t = some d ∧ i.zero = some zv ∧ i.size = n ∧ i.bytes = by_ ∧ zv.cells.toList = z ∧ (match d with | .struct _ => true | .array _ _ => true | _ => false) = g := by
  unfold tyI at h
  cases hi : P.info? t with
  | none => simp [hi] at h
  | some i =>
    cases hd : P.underlying t with
    | none => simp [hi, hd] at h
    | some d =>
      cases hz : i.zero with
      | none => simp [hi, hd, hz] at h
      | some zv =>
        simp only [hi, hd, hz, Option.some.injEq, Prod.mk.injEq] at h
        exact ⟨i, d, zv, rfl, rfl, hz, h.2.1, h.2.2.1, h.2.2.2, h.1⟩

theorem run_isAgg {t : TypeId} {g : Bool} {n by_ : Nat} {z : List Value} (h : tyI P t = some (g, n, by_, z)) (w : World) : (isAgg t).run P w = .ok g w := by
  obtain ⟨i, d, zv, h1, h2, h3, h4, h5, h6, h7⟩ := tyI_spec h
  unfold isAgg
  simp only [Sem.run_bind, run_underlying h2, Result.andThen_ok]
  cases d <;> simp_all

theorem run_sizeOf {t : TypeId} {g : Bool} {n by_ : Nat} {z : List Value} (h : tyI P t = some (g, n, by_, z)) (w : World) : (sizeOf t).run P w = .ok n w := by
  obtain ⟨i, d, zv, h1, h2, h3, h4, h5, h6, h7⟩ := tyI_spec h
  simp [sizeOf, typeInfo, h1, h4]

theorem run_zero {t : TypeId} {g : Bool} {n by_ : Nat} {z : List Value} (h : tyI P t = some (g, n, by_, z)) (w : World) : ∃ zv, zv.cells.toList = z ∧ (zeroValue t).run P w = .ok zv w := by
  obtain ⟨i, d, zv, h1, h2, h3, h4, h5, h6, h7⟩ := tyI_spec h
  exact ⟨zv, h6, by simp [zeroValue, typeInfo, h1, h3]⟩

theorem run_loadVar_agg {t : TypeId} {n by_ : Nat} {z : List Value} (h : tyI P t = some (true, n, by_, z)) {w : World} {b off : Nat} {cs : List Value} (hr : Row w b off cs) (hn : cs.length = n) :
    (loadVar t ⟨b, off, none⟩).run P w = .ok (.agg cs.toArray) w := by
  unfold loadVar
  have hl := run_loadCells_list (P := P) w ⟨b, off, none⟩ cs (fun j v hv => by rw [add_lit]; exact hr.cell j v hv)
  rw [hn] at hl
  simp [run_isAgg h, run_sizeOf h, hl]

theorem run_loadVar_one {t : TypeId} {n by_ : Nat} {z : List Value} (h : tyI P t = some (false, n, by_, z)) {w : World} {b off : Nat} {v : Value} (hr : Row w b off [v]) :
    (loadVar t ⟨b, off, none⟩).run P w = .ok v w := by
  unfold loadVar
  have := hr.cell 0 v rfl
  simp only [Nat.add_zero] at this
  simp [run_isAgg h, this]

/-! quiet operations -/
variable {E : Env} {C : World → Prop} {d : Option Tmp} {ty : TypeId} {pos : String} {af : Array Edge} {gd : Option (Nat × Bool)}

theorem Q1.move {x : Operand} {v : Value} (hx : ev E x = some v) : Q1 P ⟨d, .move x, ty, pos, af, gd⟩ E C v := fun a ha w _ => by
  simp [execOp, ha.ev hx]
theorem Q1.assign {x : Operand} {v : Value} (hx : ev E x = some v) : Q1 P ⟨d, .assign x, ty, pos, af, gd⟩ E C v := fun a ha w _ => by
  simp [execOp, ha.ev hx]
theorem Q1.pick {c x y : Operand} {t : Bool} {v : Value} (hc : ev E c = some (.bool t)) (hx : t = true → ev E x = some v) (hy : t = false → ev E y = some v) :
    Q1 P ⟨d, .pick c x y, ty, pos, af, gd⟩ E C v := fun a ha w _ => by
  cases t with
  | true => simp [execOp, ha.ev hc, ha.ev (hx rfl), asBool]
  | false => simp [execOp, ha.ev hc, ha.ev (hy rfl), asBool]
theorem Q1.pick_t {c x y : Operand} {v : Value} (hc : ev E c = some (.bool true)) (hx : ev E x = some v) :
    Q1 P ⟨d, .pick c x y, ty, pos, af, gd⟩ E C v := Q1.pick hc (fun _ => hx) (fun h => by cases h)
theorem Q1.pick_f {c x y : Operand} {v : Value} (hc : ev E c = some (.bool false)) (hx : ev E y = some v) :
    Q1 P ⟨d, .pick c x y, ty, pos, af, gd⟩ E C v := Q1.pick hc (fun h => by cases h) (fun _ => hx)

section
variable {x y : Operand} {xt yt : TypeId} {k : IntKind} {p q : Int}
theorem eqGuard_int (op : BinOp) (t : TypeId) (x y : Operand) (w : World) : (eqGuard op t x y (.int k p) (.int k q)).run P w = .ok () w := by
  unfold eqGuard; split <;> simp
theorem eqGuard_str (op : BinOp) (t : TypeId) (x y : Operand) (w : World) (s s' : ByteArray) : (eqGuard op t x y (.string s) (.string s')).run P w = .ok () w := by
  unfold eqGuard; split <;> simp

theorem Q1.add (hx : ev E x = some (.int k p)) (hy : ev E y = some (.int k q)) : Q1 P ⟨d, .binOp .add xt x y yt, ty, pos, af, gd⟩ E C (.int k (k.wrap (p + q))) := fun a ha w _ => by
  simp [execOp, ha.ev hx, ha.ev hy, eqGuard_int, Go.binOp, Op.intArith]
theorem Q1.sub (hx : ev E x = some (.int k p)) (hy : ev E y = some (.int k q)) : Q1 P ⟨d, .binOp .sub xt x y yt, ty, pos, af, gd⟩ E C (.int k (k.wrap (p - q))) := fun a ha w _ => by
  simp [execOp, ha.ev hx, ha.ev hy, eqGuard_int, Go.binOp, Op.intArith]
theorem Q1.mul (hx : ev E x = some (.int k p)) (hy : ev E y = some (.int k q)) : Q1 P ⟨d, .binOp .mul xt x y yt, ty, pos, af, gd⟩ E C (.int k (k.wrap (p * q))) := fun a ha w _ => by
  simp [execOp, ha.ev hx, ha.ev hy, eqGuard_int, Go.binOp, Op.intArith]
theorem Q1.quo (hx : ev E x = some (.int k p)) (hy : ev E y = some (.int k q)) (h0 : q ≠ 0) : Q1 P ⟨d, .binOp .quo xt x y yt, ty, pos, af, gd⟩ E C (.int k (k.wrap (p.tdiv q))) := fun a ha w _ => by
  simp [execOp, ha.ev hx, ha.ev hy, eqGuard_int, Go.binOp, Op.intDiv, h0]
theorem Q1.rem (hx : ev E x = some (.int k p)) (hy : ev E y = some (.int k q)) (h0 : q ≠ 0) : Q1 P ⟨d, .binOp .rem xt x y yt, ty, pos, af, gd⟩ E C (.int k (p.tmod q)) := fun a ha w _ => by
  simp [execOp, ha.ev hx, ha.ev hy, eqGuard_int, Go.binOp, Op.intDiv, h0]
/-- in range -/
theorem Q1.addI (r : Int) (hx : ev E x = some (.int .i64 p)) (hy : ev E y = some (.int .i64 q)) (hr : p + q = r ∧ -9223372036854775808 ≤ r ∧ r ≤ 9223372036854775807) : Q1 P ⟨d, .binOp .add xt x y yt, ty, pos, af, gd⟩ E C (.int .i64 r) := by
  have h := Q1.add (P := P) (C := C) (d := d) (xt := xt) (yt := yt) (ty := ty) (pos := pos) (af := af) (gd := gd) hx hy
  rw [IntWalk.i64_in _ (by omega), hr.1] at h; exact h
theorem Q1.subI (r : Int) (hx : ev E x = some (.int .i64 p)) (hy : ev E y = some (.int .i64 q)) (hr : p - q = r ∧ -9223372036854775808 ≤ r ∧ r ≤ 9223372036854775807) : Q1 P ⟨d, .binOp .sub xt x y yt, ty, pos, af, gd⟩ E C (.int .i64 r) := by
  have h := Q1.sub (P := P) (C := C) (d := d) (xt := xt) (yt := yt) (ty := ty) (pos := pos) (af := af) (gd := gd) hx hy
  rw [IntWalk.i64_in _ (by omega), hr.1] at h; exact h
theorem Q1.mulI (r : Int) (hx : ev E x = some (.int .i64 p)) (hy : ev E y = some (.int .i64 q)) (hr : p * q = r ∧ -9223372036854775808 ≤ r ∧ r ≤ 9223372036854775807) : Q1 P ⟨d, .binOp .mul xt x y yt, ty, pos, af, gd⟩ E C (.int .i64 r) := by
  have h := Q1.mul (P := P) (C := C) (d := d) (xt := xt) (yt := yt) (ty := ty) (pos := pos) (af := af) (gd := gd) hx hy
  rw [IntWalk.i64_in _ (by rw [hr.1]; omega), hr.1] at h; exact h
theorem Q1.remI (r : Int) (hx : ev E x = some (.int k p)) (hy : ev E y = some (.int k q)) (hr : 0 ≤ p ∧ q ≠ 0 ∧ p % q = r) : Q1 P ⟨d, .binOp .rem xt x y yt, ty, pos, af, gd⟩ E C (.int k r) := by
  have h := Q1.rem (P := P) (C := C) (d := d) (xt := xt) (yt := yt) (ty := ty) (pos := pos) (af := af) (gd := gd) hx hy hr.2.1
  rw [Int.tmod_eq_emod_of_nonneg hr.1, hr.2.2] at h; exact h
theorem Q1.quoI (r : Int) (hx : ev E x = some (.int .i64 p)) (hy : ev E y = some (.int .i64 q)) (hr : 0 ≤ p ∧ p ≤ 9223372036854775807 ∧ 1 ≤ q ∧ p / q = r) : Q1 P ⟨d, .binOp .quo xt x y yt, ty, pos, af, gd⟩ E C (.int .i64 r) := by
  have h := Q1.quo (P := P) (C := C) (d := d) (xt := xt) (yt := yt) (ty := ty) (pos := pos) (af := af) (gd := gd) hx hy (by omega)
  rw [IntWalk.i64_quo _ _ ⟨hr.1, hr.2.1, hr.2.2.1⟩, hr.2.2.2] at h; exact h

theorem Q1.eq (hx : ev E x = some (.int k p)) (hy : ev E y = some (.int k q)) : Q1 P ⟨d, .binOp .eql xt x y yt, ty, pos, af, gd⟩ E C (.bool (p == q)) := fun a ha w _ => by
  simp [execOp, ha.ev hx, ha.ev hy, eqGuard_int, Go.binOp, Op.intCmp]
theorem Q1.ne (hx : ev E x = some (.int k p)) (hy : ev E y = some (.int k q)) : Q1 P ⟨d, .binOp .neq xt x y yt, ty, pos, af, gd⟩ E C (.bool (p != q)) := fun a ha w _ => by
  simp [execOp, ha.ev hx, ha.ev hy, eqGuard_int, Go.binOp, Op.intCmp]
theorem Q1.lt (hx : ev E x = some (.int k p)) (hy : ev E y = some (.int k q)) : Q1 P ⟨d, .binOp .lss xt x y yt, ty, pos, af, gd⟩ E C (.bool (decide (p < q))) := fun a ha w _ => by
  simp [execOp, ha.ev hx, ha.ev hy, eqGuard_int, Go.binOp, Op.intCmp]
theorem Q1.le (hx : ev E x = some (.int k p)) (hy : ev E y = some (.int k q)) : Q1 P ⟨d, .binOp .leq xt x y yt, ty, pos, af, gd⟩ E C (.bool (decide (p ≤ q))) := fun a ha w _ => by
  simp [execOp, ha.ev hx, ha.ev hy, eqGuard_int, Go.binOp, Op.intCmp]
theorem Q1.gt (hx : ev E x = some (.int k p)) (hy : ev E y = some (.int k q)) : Q1 P ⟨d, .binOp .gtr xt x y yt, ty, pos, af, gd⟩ E C (.bool (decide (q < p))) := fun a ha w _ => by
  simp [execOp, ha.ev hx, ha.ev hy, eqGuard_int, Go.binOp, Op.intCmp]
theorem Q1.ge (hx : ev E x = some (.int k p)) (hy : ev E y = some (.int k q)) : Q1 P ⟨d, .binOp .geq xt x y yt, ty, pos, af, gd⟩ E C (.bool (decide (q ≤ p))) := fun a ha w _ => by
  simp [execOp, ha.ev hx, ha.ev hy, eqGuard_int, Go.binOp, Op.intCmp]
theorem toList_mk (s : Str) : (⟨s.toArray⟩ : ByteArray).toList = s := by
  rw [ByteArray.toList_eq]
theorem Q1.eqS {s t : Str} (hx : ev E x = some (strV s)) (hy : ev E y = some (strV t)) : Q1 P ⟨d, .binOp .eql xt x y yt, ty, pos, af, gd⟩ E C (.bool (s == t)) := fun a ha w _ => by
  simp [execOp, ha.ev hx, ha.ev hy, strV, eqGuard_str, Go.binOp, Op.stringOp]
theorem Q1.neS {s t : Str} (hx : ev E x = some (strV s)) (hy : ev E y = some (strV t)) : Q1 P ⟨d, .binOp .neq xt x y yt, ty, pos, af, gd⟩ E C (.bool (!(s == t))) := fun a ha w _ => by
  simp [execOp, ha.ev hx, ha.ev hy, strV, eqGuard_str, Go.binOp, Op.stringOp]
theorem Q1.catS {s t : Str} (hx : ev E x = some (strV s)) (hy : ev E y = some (strV t)) (hl : s.length + t.length ≤ 9223372036854775807) : Q1 P ⟨d, .binOp .add xt x y yt, ty, pos, af, gd⟩ E C (strV (s ++ t)) := fun a ha w _ => by
  have h1 : ¬ ((9223372036854775807 : Int) < ((s.length : Int) + (t.length : Int))) := by omega
  have h2 : (⟨s.toArray⟩ : ByteArray) ++ ⟨t.toArray⟩ = ⟨(s ++ t).toArray⟩ := by
    apply ByteArray.ext
    simp
  have h3 : (⟨s.toArray⟩ : ByteArray).size = s.length := by simp [ByteArray.size]
  have h4 : (⟨t.toArray⟩ : ByteArray).size = t.length := by simp [ByteArray.size]
  simp [execOp, ha.ev hx, ha.ev hy, strV, eqGuard_str, Go.binOp, Op.stringOp, h2, h3, h4, IntKind.max, IntKind.signed, IntKind.bits, h1]
theorem eqGuard_bool (op : BinOp) (t : TypeId) (x y : Operand) (w : World) (a b : Bool) : (eqGuard op t x y (.bool a) (.bool b)).run P w = .ok () w := by
  unfold eqGuard; split <;> simp
theorem Q1.eqB {s t : Bool} (hu : P.underlying xt = some .bool) (hx : ev E x = some (.bool s)) (hy : ev E y = some (.bool t)) : Q1 P ⟨d, .binOp .eql xt x y yt, ty, pos, af, gd⟩ E C (.bool (s == t)) := fun a ha w _ => by
  simp [execOp, ha.ev hx, ha.ev hy, eqGuard_bool, Go.binOp, run_equal_bool w xt s t hu]
theorem Q1.neB {s t : Bool} (hu : P.underlying xt = some .bool) (hx : ev E x = some (.bool s)) (hy : ev E y = some (.bool t)) : Q1 P ⟨d, .binOp .neq xt x y yt, ty, pos, af, gd⟩ E C (.bool (!(s == t))) := fun a ha w _ => by
  simp [execOp, ha.ev hx, ha.ev hy, eqGuard_bool, Go.binOp, run_equal_bool w xt s t hu]
theorem Q1.not {s : Bool} (hx : ev E x = some (.bool s)) : Q1 P ⟨d, .unOp .not xt x, ty, pos, af, gd⟩ E C (.bool (!s)) := fun a ha w _ => by
  simp [execOp, ha.ev hx, Op.unary]
end

/-- a struct's field in a value -/
theorem Q1.extract {x : Operand} {vs : Array Value} {i : Nat} {v : Value} (hx : ev E x = some (.tuple vs)) (hv : vs[i]? = some v) : Q1 P ⟨d, .extract x i, ty, pos, af, gd⟩ E C v := fun a ha w _ => by
  simp [execOp, ha.ev hx, Instr.extract, hv]

/-- a struct's field: where it lies (of a field that has cells) -/
def fldI (P : Program) (t : TypeId) (i : Nat) : Option Nat :=
  match P.underlying t with
  | some (.struct fs) => match fs[i]? with
    | some f => match P.info? f.type with
      | some j => match Nat.beq j.size 0 with
        | true => none
        | false => some f.offset
      | none => none
    | none => none
  | _ => none

theorem Q1.fieldAddr {t : TypeId} {x : Operand} {i b off o : Nat} (hf : fldI P t i = some o) (hx : ev E x = some (ptr b off)) :
    Q1 P ⟨d, .fieldAddr t x i, ty, pos, af, gd⟩ E C (ptr b (off + o)) := fun a ha w _ => by
  unfold fldI at hf
  split at hf
  · rename_i fs hu
    split at hf
    · rename_i f hfs
      split at hf
      · rename_i j hj
        split at hf
        · cases hf
        · rename_i hb
          simp only [Option.some.injEq] at hf
          have h0 : ¬ j.size = 0 := fun e => by rw [e] at hb; cases hb
          simp [execOp, ha.ev hx, ptr, Instr.fieldAt, Instr.sureAddr, run_underlying hu, hfs, fieldPlace, sizeOf, typeInfo, hj, h0, add_lit, hf]
      · cases hf
    · cases hf
  · cases hf

theorem Q1.load {t : TypeId} {x : Operand} {b off : Nat} {v : Value} (hx : ev E x = some (ptr b off)) (hl : ∀ w, C w → (loadVar t ⟨b, off, none⟩).run P w = .ok v w) :
    Q1 P ⟨d, .load t x, ty, pos, af, gd⟩ E C v := fun a ha w hC => by
  simp [execOp, ha.ev hx, ptr, Instr.loadAt, Instr.sureAddr, hl w hC]
/-- a variable of one cell -/
theorem Q1.load1 {t : TypeId} {x : Operand} {b off n by_ : Nat} {z : List Value} {v : Value} (ht : tyI P t = some (false, n, by_, z)) (hx : ev E x = some (ptr b off)) (hr : ∀ w, C w → Row w b off [v]) :
    Q1 P ⟨d, .load t x, ty, pos, af, gd⟩ E C v := Q1.load hx fun w hw => run_loadVar_one ht (hr w hw)
/-- a struct's variable -/
theorem Q1.loadN {t : TypeId} {x : Operand} {b off n by_ : Nat} {z cs : List Value} (ht : tyI P t = some (true, n, by_, z)) (hx : ev E x = some (ptr b off)) (hr : ∀ w, C w → Row w b off cs) (hn : cs.length = n) :
    Q1 P ⟨d, .load t x, ty, pos, af, gd⟩ E C (.agg cs.toArray) := Q1.load hx fun w hw => run_loadVar_agg ht (hr w hw) hn
end

/-! slices that read as lists; 'enc': an element's cells -/
section
variable {α : Type}
def Sl (enc : α → List Value) (w : World) (F : Nat → Prop) (v : Value) (l : List α) : Prop :=
  ∃ a cap, v = .slice a l.length cap ∧ l.length ≤ cap ∧ cap ≤ maxLen ∧ (l = [] ∨ ∃ b off, a = some ⟨b, off, none⟩ ∧ F b ∧ Row w b off (l.flatMap enc))

variable {enc : α → List Value} {w : World} {F : Nat → Prop} {v : Value} {l : List α}

theorem Sl.nil : Sl enc w F (.slice none 0 0) [] := ⟨none, 0, rfl, Nat.le_refl _, Nat.zero_le _, .inl rfl⟩
theorem Sl.keep {M : Nat → Prop} {w' : World} (h : Sl enc w F v l) (hm : Mod M w w') (hF : ∀ b, F b → ¬ M b) : Sl enc w' F v l := by
  obtain ⟨a, cap, h1, h2, h3, h4⟩ := h
  refine ⟨a, cap, h1, h2, h3, ?_⟩
  rcases h4 with h4 | ⟨b, off, h5, h6, h7⟩
  · exact .inl h4
  · exact .inr ⟨b, off, h5, h6, h7.keep hm (hF b h6)⟩
theorem Sl.ext {w' : World} (h : Sl enc w F v l) (hm : Ext w w') : Sl enc w' F v l := h.keep hm (fun _ _ h => h)
theorem Sl.mono {F' : Nat → Prop} (h : Sl enc w F v l) (hF : ∀ b, F b → F' b) : Sl enc w F' v l := by
  obtain ⟨a, cap, h1, h2, h3, h4⟩ := h
  refine ⟨a, cap, h1, h2, h3, ?_⟩
  rcases h4 with h4 | ⟨b, off, h5, h6, h7⟩
  · exact .inl h4
  · exact .inr ⟨b, off, h5, hF b h6, h7⟩
theorem Sl.le (h : Sl enc w F v l) : l.length ≤ 9223372036854775807 := by
  obtain ⟨a, cap, h1, h2, h3, h4⟩ := h
  exact Nat.le_trans h2 h3
theorem Sl.shape (h : Sl enc w F v l) : ∃ a cap, v = .slice a l.length cap := by
  obtain ⟨a, cap, h1, h2, h3, h4⟩ := h
  exact ⟨a, cap, h1⟩

/-- the cells of one element within a row -/
theorem flat_at {sz : Nat} (hsz : ∀ x, (enc x).length = sz) : ∀ (l : List α) (i : Nat) (h : i < l.length), ((l.flatMap enc).drop (i * sz)).take sz = enc l[i] ∧ i * sz + sz ≤ (l.flatMap enc).length
  | x :: l, 0, _ => by
    refine ⟨?_, by simp [List.flatMap_cons, hsz]⟩
    simp only [Nat.zero_mul, List.drop_zero, List.flatMap_cons, List.getElem_cons_zero]
    rw [← hsz x, List.take_left']
    rfl
  | x :: l, i + 1, h => by
    have ih := flat_at hsz l i (by simpa using h)
    simp only [List.flatMap_cons, List.getElem_cons_succ]
    have e : (i + 1) * sz = (enc x).length + i * sz := by rw [hsz, Nat.add_mul]; omega
    rw [e, List.drop_append, List.drop_of_length_le (by omega), Nat.add_sub_cancel_left, List.nil_append]
    refine ⟨ih.1, ?_⟩
    rw [List.length_append]; have := ih.2; omega
theorem flat_len {sz : Nat} (hsz : ∀ x, (enc x).length = sz) (l : List α) : (l.flatMap enc).length = l.length * sz := by
  induction l with
  | nil => simp
  | cons x l ih => simp only [List.flatMap_cons, List.length_append, hsz, ih, List.length_cons, Nat.add_mul]; omega
theorem flat_drop {sz : Nat} (hsz : ∀ x, (enc x).length = sz) (l : List α) (i : Nat) : (l.flatMap enc).drop (i * sz) = (l.drop i).flatMap enc := by
  induction i generalizing l with
  | zero => simp
  | succ i ih =>
    cases l with
    | nil => simp
    | cons x l =>
      have e : (i + 1) * sz = (enc x).length + i * sz := by rw [hsz, Nat.add_mul]; omega
      simp only [List.flatMap_cons, List.drop_succ_cons]
      rw [e, List.drop_append, List.drop_of_length_le (by omega), Nat.add_sub_cancel_left, List.nil_append, ih]
theorem flat_take {sz : Nat} (hsz : ∀ x, (enc x).length = sz) (l : List α) (i : Nat) : (l.flatMap enc).take (i * sz) = (l.take i).flatMap enc := by
  induction i generalizing l with
  | zero => simp
  | succ i ih =>
    cases l with
    | nil => simp
    | cons x l =>
      have e : (i + 1) * sz = (enc x).length + i * sz := by rw [hsz, Nat.add_mul]; omega
      simp only [List.flatMap_cons, List.take_succ_cons]
      rw [e, List.take_append, List.take_of_length_le (by omega), Nat.add_sub_cancel_left, ih]

section
variable {P : Program} {t e : TypeId}
/-- where an element lies -/
theorem Sl.at {sz by_ : Nat} {g : Bool} {z : List Value} (h : Sl enc w F v l) (ht : P.underlying t = some (.slice e)) (he : tyI P e = some (g, sz, by_, z)) (hsz : ∀ x, (enc x).length = sz) {k : IntKind} {n : Int} (i : Nat) (hn : n = (i : Int)) (hi : i < l.length) :
    ∃ b off, (∀ w, (Instr.indexAt t v (.int k n)).run P w = .ok (ptr b off) w) ∧ F b ∧ Row w b off (enc l[i]) := by
  obtain ⟨a, cap, rfl, h2, h3, h4⟩ := h
  rcases h4 with rfl | ⟨b, off, rfl, h5, h6⟩
  · simp at hi
  · refine ⟨b, off + i * sz, fun w => ?_, h5, ?_⟩
    · have : (0 : Int) ≤ n ∧ n < (l.length : Int) := by omega
      have e : n.toNat = i := by omega
      simp [Instr.indexAt, asIntOf, run_underlying ht, this, run_sizeOf he, add_lit, ptr, e]
    · have hf := flat_at hsz l i hi
      have := h6.sub (i * sz) sz hf.2
      rw [hf.1] at this
      exact this
end

variable {P : Program} {E : Env} {C : World → Prop} {d : Option Tmp} {ty : TypeId} {pos : String} {af : Array Edge} {gd : Option (Nat × Bool)}
theorem Q1.indexAddr {t : TypeId} {x y : Operand} {v u p : Value} (hx : ev E x = some v) (hy : ev E y = some u) (h : ∀ w, (Instr.indexAt t v u).run P w = .ok p w) : Q1 P ⟨d, .indexAddr t x y, ty, pos, af, gd⟩ E C p := fun a ha w _ => by
  simp [execOp, ha.ev hx, ha.ev hy, h w]
theorem Q1.len {t e : TypeId} {x : Operand} {a : Option Addr} {n c : Nat} (hu : P.underlying t = some (.slice e)) (hx : ev E x = some (.slice a n c)) : Q1 P ⟨d, .call { callee := .builtin .len, args := #[x], argTypes := #[t] }, ty, pos, af, gd⟩ E C (.int .i64 n) := fun s ha w _ => by
  simp [execOp, resolve, invoke, builtin, ha.ev hx, Builtin.len_, goInt, run_underlying hu]
theorem Q1.lenSl {t e : TypeId} {x : Operand} (hu : P.underlying t = some (.slice e)) (h : Sl enc w F v l) (hx : ev E x = some v) : Q1 P ⟨d, .call { callee := .builtin .len, args := #[x], argTypes := #[t] }, ty, pos, af, gd⟩ E C (.int .i64 l.length) := by
  obtain ⟨a, c, rfl⟩ := h.shape
  exact Q1.len hu hx
theorem Q1.lenS {t : TypeId} {x : Operand} {s : Str} (hu : P.underlying t = some .string) (hx : ev E x = some (strV s)) : Q1 P ⟨d, .call { callee := .builtin .len, args := #[x], argTypes := #[t] }, ty, pos, af, gd⟩ E C (.int .i64 s.length) := fun a ha w _ => by
  have h3 : (⟨s.toArray⟩ : ByteArray).size = s.length := by simp [ByteArray.size]
  simp [execOp, resolve, invoke, builtin, ha.ev hx, strV, Builtin.len_, goInt, run_underlying hu, h3]

theorem min2_eq (k : IntKind) (p q : Int) (w : World) : (Builtin.min2 (.int k p) (.int k q)).run P w = .ok (.int k (min p q)) w := by
  simp only [Builtin.min2, Sem.run_pure]
  rw [Int.min_def]
  split <;> split <;> first | rfl | omega
theorem max2_eq (k : IntKind) (p q : Int) (w : World) : (Builtin.max2 (.int k p) (.int k q)).run P w = .ok (.int k (max p q)) w := by
  simp only [Builtin.max2, Sem.run_pure]
  rw [Int.max_def]
  split <;> split <;> first | rfl | (congr 2; omega) | omega
theorem Q1.min {x y : Operand} {k : IntKind} {p q : Int} {ts : Array TypeId} (hx : ev E x = some (.int k p)) (hy : ev E y = some (.int k q)) : Q1 P ⟨d, .call { callee := .builtin .min, args := #[x, y], argTypes := ts }, ty, pos, af, gd⟩ E C (.int k (Min.min p q)) := fun a ha w _ => by
  simp [execOp, resolve, invoke, builtin, ha.ev hx, ha.ev hy, Builtin.min_, min2_eq]
theorem Q1.max {x y : Operand} {k : IntKind} {p q : Int} {ts : Array TypeId} (hx : ev E x = some (.int k p)) (hy : ev E y = some (.int k q)) : Q1 P ⟨d, .call { callee := .builtin .max, args := #[x, y], argTypes := ts }, ty, pos, af, gd⟩ E C (.int k (Max.max p q)) := fun a ha w _ => by
  simp [execOp, resolve, invoke, builtin, ha.ev hx, ha.ev hy, Builtin.max_, max2_eq]
theorem Q1.min3 {x y z : Operand} {k : IntKind} {p q r : Int} {ts : Array TypeId} (hx : ev E x = some (.int k p)) (hy : ev E y = some (.int k q)) (hz : ev E z = some (.int k r)) : Q1 P ⟨d, .call { callee := .builtin .min, args := #[x, y, z], argTypes := ts }, ty, pos, af, gd⟩ E C (.int k (Min.min (Min.min p q) r)) := fun a ha w _ => by
  simp [execOp, resolve, invoke, builtin, ha.ev hx, ha.ev hy, ha.ev hz, Builtin.min_, min2_eq]
theorem Q1.min4 {x y z u : Operand} {k : IntKind} {p q r t : Int} {ts : Array TypeId} (hx : ev E x = some (.int k p)) (hy : ev E y = some (.int k q)) (hz : ev E z = some (.int k r)) (hu : ev E u = some (.int k t)) : Q1 P ⟨d, .call { callee := .builtin .min, args := #[x, y, z, u], argTypes := ts }, ty, pos, af, gd⟩ E C (.int k (Min.min (Min.min (Min.min p q) r) t)) := fun a ha w _ => by
  simp [execOp, resolve, invoke, builtin, ha.ev hx, ha.ev hy, ha.ev hz, ha.ev hu, Builtin.min_, min2_eq]

/-- between integers -/
theorem Q1.convI {s t : TypeId} {x : Operand} {k k' : IntKind} {p : Int} (hs : (P.underlying s).isSome = true) (ht : P.underlying t = some (.int k')) (hx : ev E x = some (.int k p)) : Q1 P ⟨d, .convert s t x, ty, pos, af, gd⟩ E C (.int k' (k'.wrap p)) := fun a ha w _ => by
  obtain ⟨ds, hs'⟩ := Option.isSome_iff_exists.1 hs
  simp [execOp, ha.ev hx, convert, run_underlying hs', run_underlying ht, Conv.intToInt]
theorem Q1.convS {s t : TypeId} {x : Operand} {p : Str} (hs : (P.underlying s).isSome = true) (ht : P.underlying t = some .string) (hx : ev E x = some (strV p)) : Q1 P ⟨d, .convert s t x, ty, pos, af, gd⟩ E C (strV p) := fun a ha w _ => by
  obtain ⟨ds, hs'⟩ := Option.isSome_iff_exists.1 hs
  simp [execOp, ha.ev hx, convert, strV, run_underlying hs', run_underlying ht]
/-- a rune's text -/
def encR (r : Int) : Str := (Utf8.encode r).data.toList
theorem Q1.convRS {s t : TypeId} {x : Operand} {k : IntKind} {p : Int} (hs : (P.underlying s).isSome = true) (ht : P.underlying t = some .string) (hx : ev E x = some (.int k p)) : Q1 P ⟨d, .convert s t x, ty, pos, af, gd⟩ E C (strV (encR p)) := fun a ha w _ => by
  simp [execOp, ha.ev hx, run_convert_int_string w s t k p hs ht, strV, encR]

/-- a byte of a text -/
theorem Q1.indexS {t : TypeId} {x y : Operand} {s : Str} {k : IntKind} {n : Int} (i : Nat) (ht : P.underlying t = some .string) (hx : ev E x = some (strV s)) (hy : ev E y = some (.int k n)) (hn : n = (i : Int)) (hi : i < s.length) :
    Q1 P ⟨d, .index t x y, ty, pos, af, gd⟩ E C (.int .u8 (s[i].toNat : Int)) := fun a ha w _ => by
  have h1 : (⟨s.toArray⟩ : ByteArray)[i]? = some s[i] := by
    have hlt : i < (⟨s.toArray⟩ : ByteArray).size := by simpa [ByteArray.size] using hi
    rw [getElem?_pos _ i hlt]
    rfl
  have h2 : (0 : Int) ≤ n := by omega
  have h3 : n.toNat = i := by omega
  simp [execOp, ha.ev hx, ha.ev hy, Instr.index, asIntOf, strV, run_underlying ht, h2, h3, h1]
/-- a part of a text -/
theorem sliceBound_ok {k : IntKind} {n : Int} {y i : Nat} (code : BoundsCode) (hn : n = (i : Int)) (hi : i ≤ y) (w : World) : (Instr.sliceBound (.int k n) y code).run P w = .ok i w := by
  have h1 : 0 ≤ n ∧ n ≤ (y : Int) := by omega
  have h2 : n.toNat = i := by omega
  simp [Instr.sliceBound, asIntOf, h1, h2]
theorem strExtract (s : Str) (i j : Nat) : (⟨s.toArray⟩ : ByteArray).extract i j = ⟨((s.take j).drop i).toArray⟩ := by
  apply ByteArray.ext
  rw [ByteArray.data_extract]
  apply Array.ext'
  simp [List.drop_take]
theorem Q1.sliceS_lo {t : TypeId} {x y : Operand} {s : Str} {k : IntKind} {n : Int} (i : Nat) (ht : P.underlying t = some .string) (hx : ev E x = some (strV s)) (hy : ev E y = some (.int k n)) (hn : n = (i : Int)) (hi : i ≤ s.length) :
    Q1 P ⟨d, .slice t x (some y) none none, ty, pos, af, gd⟩ E C (strV (s.drop i)) := fun a ha w _ => by
  have h3 : (⟨s.toArray⟩ : ByteArray).size = s.length := by simp [ByteArray.size]
  simp [execOp, ha.ev hx, ha.ev hy, Instr.sliceAt, Instr.slice, Instr.sliceBounds, strV, run_underlying ht, h3, sliceBound_ok _ hn hi, strExtract]
theorem Q1.sliceS_hi {t : TypeId} {x y : Operand} {s : Str} {k : IntKind} {n : Int} (i : Nat) (ht : P.underlying t = some .string) (hx : ev E x = some (strV s)) (hy : ev E y = some (.int k n)) (hn : n = (i : Int)) (hi : i ≤ s.length) :
    Q1 P ⟨d, .slice t x none (some y) none, ty, pos, af, gd⟩ E C (strV (s.take i)) := fun a ha w _ => by
  have h3 : (⟨s.toArray⟩ : ByteArray).size = s.length := by simp [ByteArray.size]
  simp [execOp, ha.ev hx, ha.ev hy, Instr.sliceAt, Instr.slice, Instr.sliceBounds, strV, run_underlying ht, h3, sliceBound_ok _ hn hi, strExtract]
theorem Q1.sliceS {t : TypeId} {x y z : Operand} {s : Str} {k k' : IntKind} {n m : Int} (i j : Nat) (ht : P.underlying t = some .string) (hx : ev E x = some (strV s)) (hy : ev E y = some (.int k n)) (hz : ev E z = some (.int k' m)) (hn : n = (i : Int)) (hm : m = (j : Int)) (hi : i ≤ j) (hj : j ≤ s.length) :
    Q1 P ⟨d, .slice t x (some y) (some z) none, ty, pos, af, gd⟩ E C (strV ((s.take j).drop i)) := fun a ha w _ => by
  have h3 : (⟨s.toArray⟩ : ByteArray).size = s.length := by simp [ByteArray.size]
  simp [execOp, ha.ev hx, ha.ev hy, ha.ev hz, Instr.sliceAt, Instr.slice, Instr.sliceBounds, strV, run_underlying ht, h3, sliceBound_ok _ hn hi, sliceBound_ok _ hm hj, strExtract]

/-- a part of a slice -/
theorem Sl.part {t e : TypeId} {sz by_ : Nat} {g : Bool} {z : List Value} (h : Sl enc w F v l) (ht : P.underlying t = some (.slice e)) (he : tyI P e = some (g, sz, by_, z)) (hsz : ∀ x, (enc x).length = sz)
    {lo hi : Option Value} (i j : Nat) (hlo : (lo = none ∧ i = 0) ∨ ∃ k n, lo = some (.int k n) ∧ n = (i : Int)) (hhi : (hi = none ∧ j = l.length) ∨ ∃ k n, hi = some (.int k n) ∧ n = (j : Int)) (hij : i ≤ j) (hj : j ≤ l.length) :
    ∃ v', (∀ w, (Instr.sliceAt t v lo hi none).run P w = .ok v' w) ∧ Sl enc w F v' ((l.take j).drop i) := by
  have hb : ∀ (cap : Nat) (hc : l.length ≤ cap) (w : World), (Instr.sliceBounds true l.length cap lo hi none).run P w = .ok (i, j, cap) w := by
    intro cap hc w
    rcases hlo with ⟨rfl, rfl⟩ | ⟨k, n, rfl, hn⟩ <;> rcases hhi with ⟨rfl, rfl⟩ | ⟨k', m, rfl, hm⟩
    · simp [Instr.sliceBounds]
    · simp [Instr.sliceBounds, sliceBound_ok _ hm (Nat.le_trans hj hc)]
    · simp [Instr.sliceBounds, sliceBound_ok _ hn hij]
    · simp [Instr.sliceBounds, sliceBound_ok _ hm (Nat.le_trans hj hc), sliceBound_ok _ hn hij]
  obtain ⟨a, cap, rfl, h2, h3, h4⟩ := h
  have hlen : ((l.take j).drop i).length = j - i := by rw [List.length_drop, List.length_take]; omega
  refine ⟨.slice (if cap = i then a else a.map (·.add (i * sz))) (j - i) (cap - i), fun w => ?_, ?_⟩
  · simp [Instr.sliceAt, Instr.slice, run_underlying ht, hb cap h2 w, run_sizeOf he]
  · refine ⟨_, cap - i, by rw [hlen], by omega, by omega, ?_⟩
    by_cases hn : (l.take j).drop i = []
    · exact .inl hn
    · rcases h4 with h4 | ⟨b, off, rfl, h5, h6⟩
      · exact absurd (by subst h4; simp) hn
      · have hji : i < j := by
          rcases Nat.lt_or_ge i j with h | h
          · exact h
          · exact absurd (List.eq_nil_of_length_eq_zero (by omega)) hn
        have hc : cap ≠ i := by omega
        refine .inr ⟨b, off + i * sz, by rw [if_neg hc]; simp [add_lit], h5, ?_⟩
        have hfl := flat_len hsz l
        have hle : i * sz + (j - i) * sz ≤ (l.flatMap enc).length := by
          rw [hfl, ← Nat.add_mul]
          exact Nat.mul_le_mul_right _ (by omega)
        have := h6.sub (i * sz) ((j - i) * sz) hle
        rw [flat_drop hsz, flat_take hsz, ← List.drop_take] at this
        exact this
theorem Q1.sliceV {t : TypeId} {x : Operand} {lo hi mx : Option Operand} {v v' : Value} {lo' hi' : Option Value} (hx : ev E x = some v) (hlo : lo.map (ev E) = lo'.map some) (hhi : hi.map (ev E) = hi'.map some) (hmx : mx = none)
    (h : ∀ w, (Instr.sliceAt t v lo' hi' none).run P w = .ok v' w) : Q1 P ⟨d, .slice t x lo hi mx, ty, pos, af, gd⟩ E C v' := fun a ha w _ => by
  have h1 : lo.map a.eval = lo' := by
    cases lo <;> cases lo' <;> simp at hlo ⊢
    exact ha.ev hlo
  have h2 : hi.map a.eval = hi' := by
    cases hi <;> cases hi' <;> simp at hhi ⊢
    exact ha.ev hhi
  subst hmx
  simp [execOp, ha.ev hx, h1, h2, h w]

/-- a struct made of its parts -/
theorem Q1.build {t : TypeId} {ps : Array (Nat × Operand)} {vs : Array (Nat × Value)} {v : Value} (hp : (ps.toList.map fun p => (ev E p.2).map (p.1, ·)) = vs.toList.map some) (hr : ∀ w, (Instr.build t vs).run P w = .ok v w) :
    Q1 P ⟨d, .build t ps, ty, pos, af, gd⟩ E C v := fun a ha w _ => by
  have h1 : (ps.map fun (i, x) => (i, a.eval x)) = vs := by
    apply Array.ext'
    rw [Array.toList_map]
    have aux : ∀ (l : List (Nat × Operand)) (r : List (Nat × Value)), (l.map fun p => (ev E p.2).map (p.1, ·)) = r.map some → l.map (fun x => (x.1, a.eval x.2)) = r := by
      intro l
      induction l with
      | nil => intro r h; cases r <;> simp_all
      | cons p l ih =>
        intro r h
        cases r with
        | nil => simp at h
        | cons q r =>
          simp only [List.map_cons, List.cons.injEq] at h ⊢
          refine ⟨?_, ih r h.2⟩
          cases he : ev E p.2 with
          | none => simp [he] at h
          | some u =>
            simp only [he, Option.map_some, Option.some.injEq] at h
            rw [ha.ev he]; exact h.1
    exact aux _ _ hp
  simp only [execOp, h1, Sem.run_bind, hr w, Result.andThen_ok, Sem.run_pure]
end
end Go.Ik
