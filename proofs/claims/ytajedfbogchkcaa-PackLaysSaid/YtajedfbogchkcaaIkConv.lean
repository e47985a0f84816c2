/-
  Conversions between bytes, runes and texts; quotients of runes.
-/
import Derived.Test.YtajedfbogchkcaaIkS
import Derived.Laws.BytesArg
import Derived.Laws.IdiomStrings
import Derived.Laws.Cover4
set_option linter.unusedVariables false
set_option linter.unusedSimpArgs false
set_option linter.unusedSectionVars false
namespace Go.Ik
open Go

section
variable {P : Program} {E : Env} {C : World → Prop} {d : Option Tmp} {ty : TypeId} {pos : String} {af : Array Edge} {gd : Option (Nat × Bool)} {w : World} {K : Value → World → Prop}
theorem Q1.quo32 {x y : Operand} {xt yt : TypeId} {p q : Int} (r : Int) (hx : ev E x = some (.int .i32 p)) (hy : ev E y = some (.int .i32 q)) (hr : 0 ≤ p ∧ p ≤ 2147483647 ∧ 1 ≤ q ∧ p / q = r) : Q1 P ⟨d, .binOp .quo xt x y yt, ty, pos, af, gd⟩ E C (.int .i32 r) := by
  have h := Q1.quo (P := P) (C := C) (d := d) (xt := xt) (yt := yt) (ty := ty) (pos := pos) (af := af) (gd := gd) hx hy (by omega)
  have e : IntKind.i32.wrap (p.tdiv q) = r := by
    rw [Int.tdiv_eq_ediv_of_nonneg hr.1, hr.2.2.2]
    have h0 := Int.ediv_nonneg hr.1 (by omega : 0 ≤ q)
    have h1 := Int.ediv_le_self q hr.1
    exact IntWalk.i32_in _ (by omega)
  rw [e] at h; exact h
theorem row_byte {b off : Nat} {l : Str} (hr : Row w b off (l.flatMap encB)) (j : Nat) (hj : j < l.length) : w.cell? ((⟨b, off, none⟩ : Addr).add j) = some (.int .u8 (l[j].toNat : Int)) := by
  have hf : l.flatMap encB = l.map fun c => Value.int .u8 (c.toNat : Int) := by
    clear hr hj
    induction l with
    | nil => rfl
    | cons a l ih => simp [encB, ih]
  rw [add_lit]
  exact hr.cell j _ (by rw [hf, List.getElem?_map, List.getElem?_eq_getElem hj]; rfl)
theorem AW.bytesStr {s t e : TypeId} {x : Operand} {v : Value} {F : Nat → Prop} {l : Str} (hs : P.underlying s = some (.slice e)) (he : P.underlying e = some (.int .u8)) (ht : P.underlying t = some .string) (hx : ev E x = some v) (h : Sl encB w F v l) (hK : K (strV l) w) :
    AW P ⟨d, .convert s t x, ty, pos, af, gd⟩ E w K := fun a ha => by
  obtain ⟨ad, cap, rfl, h2, h3, h4⟩ := h
  have hr : (convert s t (.slice ad l.length cap)).run P w = .ok (strV l) w := by
    rcases h4 with rfl | ⟨b, off, rfl, _, hr⟩
    · show (convert s t (.slice ad 0 cap)).run P w = _
      rw [run_convert_bytes_string w s t e ad 0 cap hs he ht]
      cases ad <;> simp [Conv.bytesToString, loadCells, loadCellsFrom, strV] <;> rfl
    · exact run_convert_bytes_back w s t e _ cap l hs he ht (row_byte hr)
  simp [execOp, ha.ev hx, hr, out]
  exact hK
end
end Go.Ik
namespace Go.Ik
open Go
/-- a byte out of a number -/
def byN (n : Int) : UInt8 := UInt8.ofNat (n % 256).toNat
theorem byN_toNat (n : Int) : ((byN n).toNat : Int) = n % 256 := by
  have h0 := Int.emod_nonneg n (by omega : (256 : Int) ≠ 0)
  have h1 := Int.emod_lt_of_pos n (by omega : (0 : Int) < 256)
  unfold byN
  rw [UInt8.toNat_ofNat']
  omega
theorem byN_nat (n : Nat) : byN (n : Int) = UInt8.ofNat n := by
  apply UInt8.toNat_inj.1
  have := byN_toNat (n : Int)
  rw [UInt8.toNat_ofNat']
  omega
section
variable {P : Program} {E : Env} {C : World → Prop} {d : Option Tmp} {ty : TypeId} {pos : String} {af : Array Edge} {gd : Option (Nat × Bool)} {w : World} {K : Value → World → Prop}
theorem Q1.convB {s t : TypeId} {x : Operand} {k : IntKind} {p : Int} (hs : (P.underlying s).isSome = true) (ht : P.underlying t = some (.int .u8)) (hx : ev E x = some (.int k p)) : Q1 P ⟨d, .convert s t x, ty, pos, af, gd⟩ E C (.int .u8 ((byN p).toNat : Int)) := by
  have h := Q1.convI (P := P) (C := C) (d := d) (ty := ty) (pos := pos) (af := af) (gd := gd) hs ht hx
  have e : IntKind.u8.wrap p = ((byN p).toNat : Int) := by rw [byN_toNat, IntKind.wrap_u8]
  rw [e] at h; exact h
end
end Go.Ik
namespace Go.Ik
open Go
section
variable {P : Program} {E : Env} {C : World → Prop} {d : Option Tmp} {ty : TypeId} {pos : String} {af : Array Edge} {gd : Option (Nat × Bool)} {w : World} {K : Value → World → Prop}
theorem runes_fold : ∀ (ns : List Int) (s : ByteArray), (ns.foldl (fun r n => r ++ Utf8.encode n) s).data.toList = s.data.toList ++ ns.flatMap encR
  | [], s => by simp
  | n :: ns, s => by
    rw [List.foldl_cons, runes_fold ns]
    simp [encR, ByteArray.data_append]
theorem AW.runesStr {s t e : TypeId} {x : Operand} {v : Value} {F : Nat → Prop} {l : List Int} (hs : P.underlying s = some (.slice e)) (he : P.underlying e = some (.int .i32)) (ht : P.underlying t = some .string) (hx : ev E x = some v) (h : Sl encRn w F v l) (hK : K (strV (l.flatMap encR)) w) :
    AW P ⟨d, .convert s t x, ty, pos, af, gd⟩ E w K := fun a ha => by
  obtain ⟨ad, cap, rfl, h2, h3, h4⟩ := h
  have hr : (convert s t (.slice ad l.length cap)).run P w = .ok (strV (l.flatMap encR)) w := by
    rcases h4 with rfl | ⟨b, off, rfl, _, hr⟩
    · show (convert s t (.slice ad 0 cap)).run P w = _
      rw [run_convert_runes_string w s t e ad 0 cap hs he ht]
      cases ad <;> simp [Conv.runesToString, loadCells, loadCellsFrom, strV] <;> rfl
    · rw [run_convert_runes_string w s t e _ _ cap hs he ht]
      have hf : l.flatMap encRn = l.map (Value.int .i32) := by
        clear hr h2 hx hK
        induction l with
        | nil => rfl
        | cons a l ih => simp [encRn, ih]
      have hl := run_loadCells_list (P := P) w ⟨b, off, none⟩ (l.map (Value.int .i32)) (fun j u hu => by
        rw [add_lit]; exact hr.cell j u (by rw [hf]; exact hu))
      rw [List.length_map] at hl
      rw [run_runesToString w _ l.length cap l hl]
      congr 1
      unfold strV
      congr 1
      apply ByteArray.ext
      apply Array.ext'
      have := runes_fold l ByteArray.empty
      unfold runesBytes
      rw [this]
      simp
  simp [execOp, ha.ev hx, hr, out]
  exact hK
end
end Go.Ik
