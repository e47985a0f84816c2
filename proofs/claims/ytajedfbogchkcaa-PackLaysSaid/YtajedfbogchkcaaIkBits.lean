/-
  Quiet operations on bits: 32 and 64 of them.
-/
import Derived.Test.YtajedfbogchkcaaIkConv
import Derived.Laws.BitsAllLaws
set_option linter.unusedVariables false
set_option linter.unusedSimpArgs false
namespace Go.Ik
open Go
theorem xor_lt32 {a b : Nat} (ha : a < 4294967296) (hb : b < 4294967296) : a ^^^ b < 4294967296 := Nat.xor_lt_two_pow (n := 32) ha hb
theorem not32 {a : Nat} (ha : a < 4294967296) : 4294967295 ^^^ a = 4294967295 - a := by
  have h : (4294967295 ^^^ a) = (BitVec.ofNat 32 4294967295 ^^^ BitVec.ofNat 32 a).toNat := by
    rw [BitVec.toNat_xor, BitVec.toNat_ofNat, BitVec.toNat_ofNat, Nat.mod_eq_of_lt (by omega : a < 2 ^ 32)]
  have h2 : BitVec.ofNat 32 4294967295 = BitVec.allOnes 32 := rfl
  rw [h, h2, BitVec.allOnes_xor, BitVec.toNat_not, BitVec.toNat_ofNat, Nat.mod_eq_of_lt (by omega : a < 2 ^ 32)]
theorem or_byte {a b : Nat} (hb : b < 256) : a * 256 ||| b = a * 256 + b := by
  have := Nat.shiftLeft_add_eq_or_of_lt (i := 8) (b := b) (by omega) a
  rw [Nat.shiftLeft_eq] at this
  exact this.symm
section
variable {P : Program} {E : Env} {C : World → Prop} {d : Option Tmp} {ty : TypeId} {pos : String} {af : Array Edge} {gd : Option (Nat × Bool)} {xt yt : TypeId} {x y : Operand}
theorem Q1.xor32 {a b : Nat} (hx : ev E x = some (.int .u32 (a : Int))) (hy : ev E y = some (.int .u32 (b : Int))) (ha : a < 4294967296) (hb : b < 4294967296) : Q1 P ⟨d, .binOp .xor xt x y yt, ty, pos, af, gd⟩ E C (.int .u32 ((a ^^^ b : Nat) : Int)) := fun s hs w _ => by
  have h := u32_xor_nat a b ha hb
  simp [execOp, hs.ev hx, hs.ev hy, eqGuard, Go.binOp, intBits_xor, h]
theorem Q1.and1 {a : Nat} (hx : ev E x = some (.int .u32 (a : Int))) (hy : ev E y = some (.int .u32 1)) (ha : a < 4294967296) : Q1 P ⟨d, .binOp .and xt x y yt, ty, pos, af, gd⟩ E C (.int .u32 ((a % 2 : Nat) : Int)) := fun s hs w _ => by
  have h := u32_and_nat a 1 ha (by omega)
  rw [Nat.and_one_is_mod] at h
  have h' : bits .and .u32 (a : Int) 1 = ((a % 2 : Nat) : Int) := h
  simp [execOp, hs.ev hx, hs.ev hy, eqGuard, Go.binOp, intBits_and, h']
theorem Q1.orB {a b : Nat} (hx : ev E x = some (.int .u64 ((a * 256 : Nat) : Int))) (hy : ev E y = some (.int .u64 (b : Int))) (ha : a * 256 < 18446744073709551616) (hb : b < 256) : Q1 P ⟨d, .binOp .or xt x y yt, ty, pos, af, gd⟩ E C (.int .u64 ((a * 256 + b : Nat) : Int)) := fun s hs w _ => by
  have h := u64_or_nat (a * 256) b ha (by omega)
  rw [or_byte hb] at h
  simp [execOp, hs.ev hx, hs.ev hy, eqGuard, Go.binOp, intBits_or]
  simpa using h
theorem Q1.not32 {a : Nat} (hx : ev E x = some (.int .u32 (a : Int))) (ha : a < 4294967296) : Q1 P ⟨d, .unOp .xor xt x, ty, pos, af, gd⟩ E C (.int .u32 ((4294967295 - a : Nat) : Int)) := fun s hs w _ => by
  have h := u32_xor_nat 4294967295 a (by omega) ha
  rw [Ik.not32 ha] at h
  have h' : bits .xor .u32 4294967295 (a : Int) = ((4294967295 - a : Nat) : Int) := h
  simp [execOp, hs.ev hx, Op.unary, intBits_xor, IntKind.signed, IntKind.max]
  exact h'
theorem Q1.shrN {k k' : IntKind} {p m : Int} (n : Nat) (hx : ev E x = some (.int k p)) (hy : ev E y = some (.int k' m)) (hm : m = (n : Int)) (hn : n ≤ k.bits) : Q1 P ⟨d, .binOp .shr xt x y yt, ty, pos, af, gd⟩ E C (.int k (p / 2 ^ n)) := fun s hs w _ => by
  subst hm
  have h := shift_shr k k' p (n : Int) (by omega) (by omega)
  simp [execOp, hs.ev hx, hs.ev hy, eqGuard, Go.binOp, h]
theorem Q1.subU32 {a b : Nat} (hx : ev E x = some (.int .u32 (a : Int))) (hy : ev E y = some (.int .u32 (b : Int))) (hb : b ≤ a) (ha : a < 4294967296) : Q1 P ⟨d, .binOp .sub xt x y yt, ty, pos, af, gd⟩ E C (.int .u32 ((a - b : Nat) : Int)) := by
  have h := Q1.sub (P := P) (C := C) (d := d) (xt := xt) (yt := yt) (ty := ty) (pos := pos) (af := af) (gd := gd) hx hy
  rw [IntWalk.u32_in _ (by omega), show (a : Int) - (b : Int) = ((a - b : Nat) : Int) from by omega] at h; exact h
theorem Q1.shl8 {k' : IntKind} {a : Nat} (hx : ev E x = some (.int .u64 (a : Int))) (hy : ev E y = some (.int k' 8)) (ha : a * 256 < 18446744073709551616) : Q1 P ⟨d, .binOp .shl xt x y yt, ty, pos, af, gd⟩ E C (.int .u64 ((a * 256 : Nat) : Int)) := fun s hs w _ => by
  have h := shift_shl .u64 k' (a : Int) 8 (by omega) (by decide)
  have e : IntKind.u64.wrap ((a : Int) * 2 ^ (8 : Int).toNat) = ((a * 256 : Nat) : Int) := by
    rw [IntKind.wrap_u64]
    have : ((a : Int) * 2 ^ (8 : Int).toNat) = ((a * 256 : Nat) : Int) := by simp
    rw [this]; omega
  rw [e] at h
  simp [execOp, hs.ev hx, hs.ev hy, eqGuard, Go.binOp, h]
theorem Q1.quoU32 {a : Nat} (b : Nat) (hx : ev E x = some (.int .u32 (a : Int))) (hy : ev E y = some (.int .u32 (b : Int))) (hb : b ≠ 0) (ha : a < 4294967296) : Q1 P ⟨d, .binOp .quo xt x y yt, ty, pos, af, gd⟩ E C (.int .u32 ((a / b : Nat) : Int)) := by
  have h := Q1.quo (P := P) (C := C) (d := d) (xt := xt) (yt := yt) (ty := ty) (pos := pos) (af := af) (gd := gd) hx hy (by omega)
  have e : IntKind.u32.wrap ((a : Int).tdiv (b : Int)) = ((a / b : Nat) : Int) := by
    rw [Int.tdiv_eq_ediv_of_nonneg (by omega), ← Int.natCast_ediv]
    have := Nat.div_le_self a b
    generalize a / b = q at *
    exact IntWalk.u32_in _ (by omega)
  rw [e] at h; exact h
end
end Go.Ik
namespace Go.Ik
open Go
section
variable {P : Program} {E : Env} {d : Option Tmp} {ty : TypeId} {pos : String} {af : Array Edge} {gd : Option (Nat × Bool)} {w : World} {K : Value → World → Prop}
/-- bytes taken for bytes of their own type: their block bears a mark from now on -/
theorem AW.convSl {s e e' : TypeId} {x : Operand} {b n c : Nat} {cs : List Value} (hs : P.underlying s = some (.slice e)) (he : P.underlying e = some (.int .u8)) (hx : ev E x = some (.slice (some ⟨b, 0, none⟩) n c)) (hb : Bk w b cs e')
    (hK : ∀ w', Mod (Mg (b + 1)) w w' → w'.heap.size = w.heap.size → Row w' b 0 cs → K (.slice (some ⟨b, 0, none⟩) n c) w') : AW P ⟨d, .convert s s x, ty, pos, af, gd⟩ E w K := fun a ha => by
  have hsh : w.shape? b = some (e', cs.length) := by
    unfold World.shape?
    rw [show w.heap[b]? = some (.cells cs.toArray e' (0, 0)) from hb]
    simp
  have hr : (convert s s (.slice (some ⟨b, 0, none⟩) n c)).run P w = .ok (.slice (some ⟨b, 0, none⟩) n c) (w.freeze ⟨b, cs.length, none⟩ 1) := by
    simp [convert, run_underlying hs, run_underlying he, markStringish, hsh]
  have hh : (w.freeze ⟨b, cs.length, none⟩ 1).heap[b]? = some (.cells cs.toArray e' (cs.length, cs.length + 1)) := by
    unfold World.freeze
    rw [if_neg (by decide)]
    simp only [Array.getElem?_modify, if_true]
    rw [show w.heap[b]? = some (.cells cs.toArray e' (0, 0)) from hb]
    rfl
  simp [execOp, ha.ev hx, hr, out]
  refine hK _ ⟨rfl, rfl, rfl, ?_, ?_⟩ ?_ ?_
  · unfold World.freeze
    rw [if_neg (by decide)]
    simp
  · intro b' o ho hn
    unfold World.freeze
    rw [if_neg (by decide)]
    simp only [Array.getElem?_modify]
    rw [if_neg (fun e => hn (by unfold Mg; omega))]
    exact ho
  · unfold World.freeze
    rw [if_neg (by decide)]
    simp
  · intro i v hv
    unfold World.cell?
    simp only [Option.isSome_none, Bool.false_eq_true, if_false]
    rw [hh]
    simpa using hv
end
theorem Sl.of_row {α : Type} {enc : α → List Value} {w : World} {b : Nat} {l : List α} (h : Row w b 0 (l.flatMap enc)) (n : Nat) (hn : n = l.length) (hm : n ≤ maxLen) : Sl enc w (Iv b (b + 1)) (.slice (some ⟨b, 0, none⟩) n n) l :=
  ⟨some ⟨b, 0, none⟩, n, by rw [hn], by omega, hm, .inr ⟨b, 0, rfl, ⟨Nat.le_refl _, by omega⟩, h⟩⟩
end Go.Ik
