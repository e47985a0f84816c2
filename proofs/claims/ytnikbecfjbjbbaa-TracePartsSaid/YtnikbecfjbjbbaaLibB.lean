import Derived.Test.YtnikbecfjbjbbaaLibA
import Derived.Laws.MakeOwn
import Derived.Laws.Pointers
import Derived.Laws.StructEq
import Derived.MapKept
import Derived.Maps.Range
import Derived.Lib.SlKeysI
import Derived.Laws.AppendOwn
import Derived.Laws.BytesArg
import Derived.Laws.IdiomStrings
import Derived.Laws.Cover4
import Derived.Laws.BitsAllLaws
/-
  Slices that are made and written: rows of zeros, elements stored, spare room that is lent.
-/
set_option linter.unusedVariables false
set_option linter.unusedSimpArgs false
namespace Go.Ik
open Go

section
variable {α : Type} {enc : α → List Value} {e : TypeId} {sz : Nat} {w : World} {g : Nat} {v : Value} {l : List α}

theorem flat_set (hsz : ∀ x, (enc x).length = sz) : ∀ (l : List α) (i : Nat) (x : α) (h : i < l.length), (l.set i x).flatMap enc = (l.flatMap enc).take (i * sz) ++ enc x ++ (l.flatMap enc).drop (i * sz + sz)
  | y :: l, 0, x, _ => by
    have e1 : (enc y ++ l.flatMap enc).drop sz = l.flatMap enc := by rw [← hsz y]; exact List.drop_left
    simp only [List.set_cons_zero, List.flatMap_cons, Nat.zero_mul, List.take_zero, List.nil_append, Nat.zero_add, e1]
  | y :: l, i + 1, x, h => by
    have ih := flat_set hsz l i x (by simpa using h)
    have e1 : (i + 1) * sz = (enc y).length + i * sz := by rw [hsz, Nat.add_mul]; omega
    have e2 : (i + 1) * sz + sz = (enc y).length + (i * sz + sz) := by rw [e1, Nat.add_assoc]
    simp only [List.set_cons_succ, List.flatMap_cons]
    rw [e1, Nat.add_assoc, List.take_append, List.drop_append, List.take_of_length_le (by omega), List.drop_of_length_le (by omega), Nat.add_sub_cancel_left, Nat.add_sub_cancel_left, ih]
    simp

/-- where an element of an own slice lies -/
theorem Acc.at (h : Acc enc e sz w g v l) {P : Program} {t : TypeId} {by_ : Nat} {gg : Bool} {z : List Value} (ht : P.underlying t = some (.slice e)) (he : tyI P e = some (gg, sz, by_, z)) {k : IntKind} {n : Int} (i : Nat) (hn : n = (i : Int)) (hi : i < l.length) :
    (∀ w, (Instr.indexAt t v (.int k n)).run P w = .ok (ptr (g - 1) (i * sz)) w) ∧ ∃ x, l[i]? = some x := by
  rcases h with ⟨_, rfl, _⟩ | ⟨b, cap, cur, rfl, rfl, h2, h3, h4, h5, h6⟩
  · simp at hi
  · refine ⟨fun w => ?_, l[i], by simp [hi]⟩
    have h0 : (0 : Int) ≤ n ∧ n < (l.length : Int) := by omega
    have e1 : n.toNat = i := by omega
    simp [Instr.indexAt, asIntOf, run_underlying ht, h0, run_sizeOf he, add_lit, ptr, e1]

theorem Acc.row (h : Acc enc e sz w g v l) (hsz : ∀ x, (enc x).length = sz) {i : Nat} {x : α} (hx : l[i]? = some x) : Row w (g - 1) (i * sz) (enc x) := by
  obtain ⟨hi, rfl⟩ := List.getElem?_eq_some_iff.1 hx
  rcases h with ⟨_, rfl, _⟩ | ⟨b, cap, cur, rfl, rfl, h2, h3, h4, h5, h6⟩
  · simp at hi
  · intro j u hu
    have hf := (flat_at hsz l i hi).1
    rw [Nat.add_sub_cancel, cell_of_row w b (i * sz + j) cur e (0, 0) h2]
    rw [← hf, ← h6, List.getElem?_take] at hu
    split at hu
    · rw [List.getElem?_drop, List.getElem?_take] at hu
      split at hu
      · simpa using hu
      · cases hu
    · cases hu

/-- a part of an element of an own slice is written -/
theorem AW.storeA {P : Program} {E : Env} {d : Option Tmp} {ty : TypeId} {pos : String} {af : Array Edge} {gd : Option (Nat × Bool)} {K : Value → World → Prop} {t : TypeId} {x y : Operand} {u : Value} {off n by_ : Nat} {gg : Bool} {z vs : List Value}
    (h : Acc enc e sz w g v l) (hsz : ∀ x, (enc x).length = sz) {i o : Nat} {old : α} (hold : l[i]? = some old) (nw : α) (ht : tyI P t = some (gg, n, by_, z)) (hx : ev E x = some (ptr (g - 1) off)) (hoff : off = i * sz + o) (hy : ev E y = some u)
    (hv : u.cells.toList = vs) (hn : vs.length = n) (h1 : vs.all (·.oneCell') = true) (ho : o + n ≤ sz) (hnw : enc nw = (enc old).take o ++ vs ++ (enc old).drop (o + n))
    (hK : ∀ w', Mod (Mg g) w w' → w'.heap.size = w.heap.size → Acc enc e sz w' g v (l.set i nw) → K undef w') : AW P ⟨d, .store t x y, ty, pos, af, gd⟩ E w K := fun a ha => by
  obtain ⟨hi, rfl⟩ := List.getElem?_eq_some_iff.1 hold
  subst hoff
  rcases h with ⟨_, rfl, _⟩ | ⟨b, cap, cur, rfl, rfl, h2, h3, h4, h5, h6⟩
  · simp at hi
  · have hfl := flat_len hsz l
    have hil : i * sz + sz ≤ l.length * sz := by
      have := Nat.mul_le_mul_right sz (show i + 1 ≤ l.length by omega)
      rw [Nat.add_mul] at this; omega
    have hlc : l.length * sz ≤ cap * sz := Nat.mul_le_mul_right _ h3
    simp only [Nat.add_sub_cancel] at hx
    have hst := run_storeCells_at P b (i * sz + o) e vs 0 cur w h2 (by omega) (fun u hu => List.all_eq_true.1 h1 u hu)
    have hsz' : u.cells.size = n := by rw [← Array.length_toList, hv]; exact hn
    have key := flat_set hsz l i nw hi
    have hfa := (flat_at hsz l i hi).1
    have h := hK (w.setRow b (cur.toList.take (i * sz + o) ++ vs ++ cur.toList.drop (i * sz + o + n)).toArray) ((setRow_mod _ _ _).weaken (fun i hi _ => by unfold Mg; omega)) (by simp [World.setRow]) (.inr ⟨b, cap, _, rfl, by simp, setRow_heap w b cur _ e (0, 0) h2, by simpa using h3, h4, by simp; omega, by
      rw [List.length_set, key, hnw]
      have hcl : cur.toList.length = cap * sz := by simpa using h5
      have e1 : (l.flatMap enc).take (i * sz) = cur.toList.take (i * sz) := by
        rw [← h6, List.take_take, Nat.min_eq_left (by omega)]
      have e2 : (enc l[i]).take o = (cur.toList.drop (i * sz)).take o := by
        rw [← hfa, List.take_take, Nat.min_eq_left (by omega), ← h6, List.drop_take, List.take_take, Nat.min_eq_left (by omega)]
      have e3 : (enc l[i]).drop (o + n) = (cur.toList.drop (i * sz + (o + n))).take (sz - (o + n)) := by
        rw [← hfa, ← h6, List.drop_take, List.drop_drop, List.drop_take, List.take_take, Nat.min_eq_left (by omega)]
      have e4 : (l.flatMap enc).drop (i * sz + sz) = (cur.toList.drop (i * sz + sz)).take (l.length * sz - (i * sz + sz)) := by
        rw [← h6, List.drop_take]
      rw [e1, e2, e3, e4]
      have e5 : cur.toList.take (i * sz + o) = cur.toList.take (i * sz) ++ (cur.toList.drop (i * sz)).take o := by rw [List.take_add]
      have e6 : (cur.toList.drop (i * sz + o + n)).take (l.length * sz - (i * sz + o + n)) = (cur.toList.drop (i * sz + (o + n))).take (sz - (o + n)) ++ (cur.toList.drop (i * sz + sz)).take (l.length * sz - (i * sz + sz)) := by
        have : l.length * sz - (i * sz + o + n) = (sz - (o + n)) + (l.length * sz - (i * sz + sz)) := by omega
        rw [this, List.take_add, List.drop_drop]
        congr 3 <;> omega
      rw [List.toList_toArray]
      rw [List.take_append, List.take_of_length_le (by simp; omega)]
      have e7 : l.length * sz - (cur.toList.take (i * sz + o) ++ vs).length = l.length * sz - (i * sz + o + n) := by
        simp only [List.length_append, List.length_take, hcl]; omega
      rw [e7, e6, e5]
      simp only [List.append_assoc]⟩)
    simp only [Nat.add_zero, hn] at hst
    simp [execOp, ha.ev hx, ha.ev hy, ptr, Instr.storeAt, Instr.sureAddr, storeVar, run_sizeOf ht, hsz', hv, hst, out]
    simpa using h

theorem Acc.shape (h : Acc enc e sz w g v l) : ∃ a c, v = .slice a l.length c := by
  obtain ⟨a, c, h1, _⟩ := h.sl
  exact ⟨a, c, h1⟩
theorem Acc.cast {l' : List α} (h : Acc enc e sz w g v l) (e' : l = l') : Acc enc e sz w g v l' := e' ▸ h
theorem made_flat (z : List Value) (hz : 0 < z.length) : ∀ n : Nat, (madeCells z.toArray (n * z.length)).toList = (List.replicate n z).flatten
  | 0 => by simp [madeCells]
  | n + 1 => by
    have ih := made_flat z hz n
    rw [List.replicate_succ', List.flatten_append, ← ih]
    unfold madeCells
    simp only [List.size_toArray, Array.toList_map, Array.toList_range, Nat.add_mul, Nat.one_mul, List.flatten_cons, List.flatten_nil, List.append_nil]
    rw [List.range_add, List.map_append]
    congr 1
    rw [List.map_map]
    refine List.ext_getElem (by simp) fun i h1 h2 => ?_
    simp only [List.length_map, List.length_range] at h1
    simp [Nat.mod_eq_of_lt h1, h1]

theorem AW.makeSlice {P : Program} {E : Env} {d : Option Tmp} {ty : TypeId} {pos : String} {af : Array Edge} {gd : Option (Nat × Bool)} {K : Value → World → Prop} {t : TypeId} {x y : Operand} {kl kc : IntKind} {by_ : Nat} {gg : Bool} {z : List Value}
    (n : Nat) (x0 : α) (ht : P.underlying t = some (.slice e)) (he : tyI P e = some (gg, sz, by_, z)) (h0 : 0 < sz) (hx0 : enc x0 = z) (hsz : ∀ x, (enc x).length = sz) {p q : Int} (hx : ev E x = some (.int kl p)) (hy : ev E y = some (.int kc q)) (hp : p = (n : Int)) (hq : q = (n : Int)) (hb : n * by_ ≤ 140737488355328) (hm : n ≤ maxLen)
    (hK : ∀ v' g' w', Ext w w' → g' = w.heap.size + 1 → w'.heap.size = w.heap.size + 1 → Acc enc e sz w' g' v' (List.replicate n x0) → K v' w') :
    AW P ⟨d, .makeSlice t x y, ty, pos, af, gd⟩ E w K := fun a ha => by
  subst hp hq
  obtain ⟨i, dd, zv, i1, i2, i3, i4, i5, i6, i7⟩ := tyI_spec he
  have hm' : (n : Int) ≤ 9223372036854775807 := by have : n ≤ 9223372036854775807 := hm; omega
  have hbb : (i.bytes : Int) * (n : Int) ≤ 281474976710656 := by
    rw [i5]
    have : ((n * by_ : Nat) : Int) ≤ 140737488355328 := by omega
    rw [Int.natCast_mul, Int.mul_comm] at this; omega
  have hr := run_make (P := P) w t e i zv ht i1 i3 kl kc (n : Int) (n : Int) (by omega) (Int.le_refl _) hbb hm'
  simp only [Int.toNat_natCast] at hr
  have hzl : z.length = sz := by rw [← hx0]; exact hsz _
  have e1 : zv.cells = z.toArray := by rw [← i6]
  have hc : (madeCells zv.cells (n * i.size)).toList = (List.replicate n z).flatten := by
    rw [e1, i4, ← hzl]; exact made_flat z (by omega) n
  have h := hK _ _ (w.alloc (.cells (madeCells zv.cells (n * i.size)) e)) (Mod.alloc _ _ _) rfl (by simp) (.inr ⟨w.heap.size, n, _, rfl, rfl, heap_alloc_new w _, by simp, hm, by rw [size_madeCells, i4], by
    rw [List.length_replicate, hc]
    have : (List.replicate n z).flatten = (List.replicate n x0).flatMap enc := by
      rw [List.flatMap_def, List.map_replicate, hx0]
    rw [this, List.take_of_length_le]
    rw [flat_len hsz, List.length_replicate]; exact Nat.le_refl _⟩)
  simp only [List.length_replicate] at h
  simp [execOp, ha.ev hx, ha.ev hy, hr, out]
  exact h

/-! spare room that is lent: a block that holds a list and, behind it, what lies in its room -/
def Lent (enc : α → List Value) (e : TypeId) (w : World) (b : Nat) (l r : List α) : Prop := Bk w b ((l ++ r).flatMap enc) e
theorem Lent.keepG {w w' : World} {b g : Nat} {l r : List α} (h : Lent enc e w b l r) (hm : Mod (Mg g) w w') (hg : b + 1 ≠ g) : Lent enc e w' b l r := Bk.keepG h hm hg
theorem Lent.ext {w w' : World} {b : Nat} {l r : List α} (h : Lent enc e w b l r) (hm : Ext w w') : Lent enc e w' b l r := Bk.ext h hm
theorem Lent.lt {b : Nat} {l r : List α} (h : Lent enc e w b l r) : b < w.heap.size := Bk.lt h
theorem Lent.sl {b : Nat} {l r : List α} (h : Lent enc e w b l r) (n : Nat) (hr : r.length = n) (hm : l.length + n ≤ maxLen) : Sl enc w (Iv b (b + 1)) (.slice (some ⟨b, 0, none⟩) l.length (l.length + n)) l := by
  refine ⟨_, l.length + n, rfl, by omega, hm, .inr ⟨b, 0, rfl, by unfold Iv; omega, ?_⟩⟩
  have h1 : Row w b 0 ((l ++ r).flatMap enc) := Bk.row h
  rw [List.flatMap_append] at h1
  exact fun i v hv => h1 i v (by rw [List.getElem?_append_left (List.getElem?_eq_some_iff.1 hv).1]; exact hv)

section
variable {P : Program} {E : Env} {d : Option Tmp} {ty : TypeId} {pos : String} {af : Array Edge} {gd : Option (Nat × Bool)} {K : Value → World → Prop} {t : TypeId} {x y : Operand} {by_ : Nat} {gg : Bool} {z : List Value}
theorem AW.makeRoom {kl kc : IntKind} (n : Nat) (x0 : α) (ht : P.underlying t = some (.slice e)) (he : tyI P e = some (gg, sz, by_, z)) (h0 : 0 < sz) (hx0 : enc x0 = z) (hsz : ∀ x, (enc x).length = sz) {p q : Int} (hx : ev E x = some (.int kl p)) (hy : ev E y = some (.int kc q)) (hp : p = 0) (hq : q = (n : Int)) (hb : n * by_ ≤ 140737488355328) (hm : n ≤ maxLen)
    (hK : ∀ w' b, Ext w w' → b = w.heap.size → w'.heap.size = w.heap.size + 1 → Lent enc e w' b [] (List.replicate n x0) → K (.slice (some ⟨b, 0, none⟩) 0 n) w') :
    AW P ⟨d, .makeSlice t x y, ty, pos, af, gd⟩ E w K := fun a ha => by
  subst hp hq
  obtain ⟨i, dd, zv, i1, i2, i3, i4, i5, i6, i7⟩ := tyI_spec he
  have hm' : (n : Int) ≤ 9223372036854775807 := by have : n ≤ 9223372036854775807 := hm; omega
  have hbb : (i.bytes : Int) * (n : Int) ≤ 281474976710656 := by
    rw [i5]
    have : ((n * by_ : Nat) : Int) ≤ 140737488355328 := by omega
    rw [Int.natCast_mul, Int.mul_comm] at this; omega
  have hr := run_make (P := P) w t e i zv ht i1 i3 kl kc 0 (n : Int) (by omega) (by omega) hbb hm'
  simp only [Int.toNat_natCast, Int.toNat_zero] at hr
  have hzl : z.length = sz := by rw [← hx0]; exact hsz _
  have e1 : zv.cells = z.toArray := by rw [← i6]
  have hc : (madeCells zv.cells (n * i.size)).toList = (List.replicate n z).flatten := by
    rw [e1, i4, ← hzl]; exact made_flat z (by omega) n
  have h := hK (w.alloc (.cells (madeCells zv.cells (n * i.size)) e)) w.heap.size (Mod.alloc _ _ _) rfl (by simp) (by
    show (w.alloc (.cells (madeCells zv.cells (n * i.size)) e)).heap[w.heap.size]? = _
    rw [heap_alloc_new]
    have : ([] ++ List.replicate n x0).flatMap enc = (madeCells zv.cells (n * i.size)).toList := by
      rw [hc, List.nil_append, List.flatMap_def, List.map_replicate, hx0]
    rw [this])
  simp [execOp, ha.ev hx, ha.ev hy, hr, out]
  exact h

theorem AW.appendRoom {b cap : Nat} {l r l2 : List α} {t ty' : TypeId} {F : Nat → Prop} {v2 : Value} (h : Lent enc e w b l r) (hcap : cap = l.length + r.length) (ht : P.underlying t = some (.slice e)) (he : tyI P e = some (gg, sz, by_, z)) (hz : z.length = sz)
    (hsz : ∀ x, (enc x).length = sz) (h1 : ∀ x, (enc x).all (·.oneCell') = true) {nl : Nat} (hnl : nl = l.length) (hx : ev E x = some (.slice (some ⟨b, 0, none⟩) nl cap)) (hy : ev E y = some v2) (hs : Sl enc w F v2 l2) (hfit : l2.length ≤ r.length)
    (hK : ∀ w', Mod (Mg (b + 1)) w w' → w'.heap.size = w.heap.size → Lent enc e w' b (l ++ l2) (r.drop l2.length) → K (.slice (some ⟨b, 0, none⟩) (l.length + l2.length) cap) w') :
    AW P ⟨d, .call { callee := .builtin .append, args := #[x, y], argTypes := #[t, t] }, ty', pos, af, gd⟩ E w K := fun a ha => by
  subst hnl hcap
  obtain ⟨i, dd, zv, i1, i2, i3, i4, i5, i6, i7⟩ := tyI_spec he
  have hnew1 : ∀ u ∈ l2.flatMap enc, u.oneCell' = true := fun u hu => by
    obtain ⟨x, _, hx⟩ := List.mem_flatMap.1 hu
    exact List.all_eq_true.1 (h1 x) u hx
  have hl2 : (l2.flatMap enc).length = l2.length * i.size := by rw [flat_len hsz, i4]
  obtain ⟨a2, cap2, rfl, hc2, hm2, hs⟩ := hs
  have key : ∃ w', (Builtin.append_ #[t, t] ty' #[.slice (some ⟨b, 0, none⟩) l.length (l.length + r.length), .slice a2 l2.length cap2]).run P w = .ok (.slice (some ⟨b, 0, none⟩) (l.length + l2.length) (l.length + r.length)) w' ∧ Mod (Mg (b + 1)) w w' ∧ w'.heap.size = w.heap.size ∧ Lent enc e w' b (l ++ l2) (r.drop l2.length) := by
    by_cases hl0 : l2 = []
    · subst hl0
      have hfc : (Builtin.firstCells i.size 0 (.slice a2 0 cap2)).run P w = .ok #[] w := by
        cases a2 <;> simp [Builtin.firstCells, loadCells, loadCellsFrom]
      exact ⟨w, by simp [Builtin.append_, run_underlying ht, sizeOf, typeInfo, i1, Builtin.lenOf, hfc, storeCells], Mod.refl _ _, rfl, by simpa using h⟩
    · obtain ⟨b2, off2, rfl, hF, hr2⟩ : ∃ b2 off2, a2 = some (⟨b2, off2, none⟩ : Addr) ∧ F b2 ∧ Row w b2 off2 (l2.flatMap enc) := by
        rcases hs with h | ⟨b2, off2, h1, h2, h3⟩
        · exact absurd h hl0
        · exact ⟨b2, off2, h1, h2, h3⟩
      have hnews : ∀ j u, (l2.flatMap enc)[j]? = some u → w.cell? ((⟨b2, off2, none⟩ : Addr).add j) = some u := fun j u hu => by
        rw [add_lit]; exact hr2.cell j u hu
      have hbl : w.heap[b]? = some (.cells ((l ++ r).flatMap enc).toArray e (0, 0)) := h
      have hll : (l.flatMap enc).length = l.length * sz := flat_len hsz l
      have hrl : (r.flatMap enc).length = r.length * sz := flat_len hsz r
      have hle : l2.length * sz ≤ r.length * sz := Nat.mul_le_mul_right _ hfit
      have hfit' : l.length * i.size + (l2.flatMap enc).length ≤ ((l ++ r).flatMap enc).toArray.size := by
        simp only [List.flatMap_append, List.size_toArray, List.length_append, hll, hrl, hl2, i4]; omega
      have hr := run_append_room (P := P) w t ty' e i ht i1 b l.length (l.length + r.length) _ hbl ⟨b2, off2, none⟩ l2.length cap2 (l2.flatMap enc) hl2 hnews hnew1 (by omega) hfit'
      refine ⟨_, hr, (setRow_mod _ _ _).weaken (fun i hi _ => by unfold Mg; omega), by simp [World.setRow], ?_⟩
      show (w.setRow b _).heap[b]? = _
      rw [setRow_heap w b _ _ e (0, 0) hbl]
      congr 3
      rw [i4, List.flatMap_append, List.flatMap_append, List.flatMap_append, ← hll]
      have e1 : (l2.flatMap enc).length = l2.length * sz := flat_len hsz l2
      simp only [List.take_left, e1]
      rw [List.drop_append, List.drop_of_length_le (by omega), Nat.add_sub_cancel_left, List.nil_append, flat_drop hsz]
  obtain ⟨w', hr, h2, h3, h4⟩ := key
  simp only [execOp, resolve, invoke, builtin, Sem.run_bind, Sem.run_pure, Result.andThen_ok, List.map_toArray, List.map_cons, List.map_nil, ha.ev hx, ha.ev hy, hr, out]
  exact hK _ h2 h3 h4

/-- the room itself -/
theorem Q1.room {C : World → Prop} {lo hi : Operand} {b nl cap n : Nat} {p q : Int} {k k' : IntKind} (ht : P.underlying t = some (.slice e)) (he : tyI P e = some (gg, sz, by_, z)) (hx : ev E x = some (.slice (some ⟨b, 0, none⟩) nl cap)) (hlo : ev E lo = some (.int k p)) (hhi : ev E hi = some (.int k' q)) (hp : p = (nl : Int)) (hq : q = ((nl + n : Nat) : Int)) (hc : cap = nl + n) (hn : 0 < n) :
    Q1 P ⟨d, .slice t x (some lo) (some hi) none, ty, pos, af, gd⟩ E C (.slice (some ⟨b, nl * sz, none⟩) n n) := fun a ha w _ => by
  subst hp hq hc
  have h1 : ¬ (nl + n = nl) := by omega
  have e1 : (Instr.sliceBound (.int k' ((nl + n : Nat) : Int)) (nl + n) .sliceAcap).run P w = .ok (nl + n) w := sliceBound_ok _ rfl (Nat.le_refl _) w
  have e2 : (Instr.sliceBound (.int k (nl : Int)) (nl + n) .sliceB).run P w = .ok nl w := sliceBound_ok _ rfl (by omega) w
  simp only [execOp, ha.ev hx, ha.ev hlo, ha.ev hhi, Option.map_some, Option.map_none, Instr.sliceAt, Instr.slice, Instr.sliceBounds, run_underlying ht, Sem.run_bind, Result.andThen_ok, Option.isSome_none, Bool.false_eq_true, if_false, if_true, Sem.run_pure, e1, e2, run_sizeOf he, h1]
  simp [add_lit]
theorem Lent.at {b : Nat} (k : IntKind) (nl n : Nat) (ht : P.underlying t = some (.slice e)) (he : tyI P e = some (gg, sz, by_, z)) {p : Int} (i : Nat) (hp : p = (i : Int)) (hi : i < n) : ∀ w, (Instr.indexAt t (.slice (some ⟨b, nl * sz, none⟩) n n) (.int k p)).run P w = .ok (ptr b (nl * sz + i * sz)) w := fun w => by
  have h0 : (0 : Int) ≤ p ∧ p < (n : Int) := by omega
  have e1 : p.toNat = i := by omega
  simp [Instr.indexAt, asIntOf, run_underlying ht, h0, run_sizeOf he, add_lit, ptr, e1]
theorem Lent.row {b : Nat} {l r : List α} (h : Lent enc e w b l r) (hsz : ∀ x, (enc x).length = sz) {i : Nat} {u : α} (hu : r[i]? = some u) : Row w b (l.length * sz + i * sz) (enc u) := by
  obtain ⟨hi, rfl⟩ := List.getElem?_eq_some_iff.1 hu
  have hlt : l.length + i < (l ++ r).length := by rw [List.length_append]; omega
  have hf := flat_at hsz (l ++ r) (l.length + i) hlt
  have := (Bk.row h).sub ((l.length + i) * sz) sz hf.2
  rw [hf.1, List.getElem_append_right (by omega)] at this
  simpa [Nat.add_mul] using this
theorem AW.storeRoom {b : Nat} {l r : List α} {u : Value} (h : Lent enc e w b l r) (hsz : ∀ x, (enc x).length = sz) {i off : Nat} (hi : i < r.length) (nw : α) (ht : tyI P t = some (gg, sz, by_, z)) (hx : ev E x = some (ptr b off)) (hoff : off = l.length * sz + i * sz) (hy : ev E y = some u)
    (hv : u.cells.toList = enc nw) (h1 : (enc nw).all (·.oneCell') = true) (hK : ∀ w', Mod (Mg (b + 1)) w w' → w'.heap.size = w.heap.size → Lent enc e w' b l (r.set i nw) → K undef w') : AW P ⟨d, .store t x y, ty, pos, af, gd⟩ E w K := by
  subst hoff
  have hlt : l.length + i < (l ++ r).length := by rw [List.length_append]; omega
  have hf := (flat_at hsz (l ++ r) (l.length + i) hlt).2
  rw [Nat.add_mul] at hf
  refine AW.store ht hx hy hv (hsz _) h1 h hf fun w' hm hz hb => hK w' hm hz ?_
  unfold Lent
  have e1 : l ++ r.set i nw = (l ++ r).set (l.length + i) nw := by rw [List.set_append_right _ _ (by omega)]; congr 2; omega
  rw [e1, flat_set hsz _ _ _ hlt, Nat.add_mul]
  exact hb
end

def roomK (x0 x : α) (k : Nat) : List α := if k = 0 then [x0, x0, x0] else if k = 1 then [x, x0, x0] else if k = 2 then [x, x, x0] else [x, x, x]
theorem room_start (x0 x : α) : List.replicate 3 x0 = roomK x0 x 0 := rfl
theorem room_len {x0 x : α} {r : List α} {k : Nat} (h : r = roomK x0 x k) : r.length = 3 := by
  subst h; unfold roomK; repeat' split
  all_goals rfl
theorem room_step {x0 x : α} {r : List α} {k : Nat} (h : r = roomK x0 x k) (hk : k < 3) : r.set k x = roomK x0 x (k + 1) := by
  subst h
  rcases (by omega : k = 0 ∨ k = 1 ∨ k = 2) with rfl | rfl | rfl <;> rfl
theorem room_end {x0 x : α} {r : List α} {k : Nat} (h : r = roomK x0 x k) (hk : 3 ≤ k) : r = List.replicate 3 x := by
  subst h; unfold roomK; rw [if_neg (by omega), if_neg (by omega), if_neg (by omega)]; rfl
theorem Lent.cast {b : Nat} {l r r' : List α} (h : Lent enc e w b l r) (h2 : r = r') : Lent enc e w b l r' := h2 ▸ h
theorem rep_at {x y : α} {n k : Nat} (h : (List.replicate n x)[k]? = some y) : y = x := by
  rw [List.getElem?_replicate] at h; split at h
  · simpa using h.symm
  · cases h
end
end Go.Ik
/-
  Pointers and nil, structs compared, maps of the call's own, functions made.
-/
set_option linter.unusedVariables false
set_option linter.unusedSimpArgs false
set_option linter.unusedSectionVars false
namespace Go.Ik
open Go

section
variable {P : Program} {E : Env} {C : World → Prop} {d : Option Tmp} {ty : TypeId} {pos : String} {af : Array Edge} {gd : Option (Nat × Bool)} {w : World} {K : Value → World → Prop}

/-! pointers and nil -/
theorem eqGuard_ptr (op : BinOp) (t : TypeId) (x y : Operand) (w : World) (a b : Option Addr) : (eqGuard op t x y (.pointer a) (.pointer b)).run P w = .ok () w := by
  unfold eqGuard; split <;> simp
theorem Q1.eqNil {xt yt e : TypeId} {x y : Operand} {a : Option Addr} (hu : P.underlying xt = some (.pointer e)) (hx : ev E x = some (.pointer a)) (hy : ev E y = some (.pointer none)) : Q1 P ⟨d, .binOp .eql xt x y yt, ty, pos, af, gd⟩ E C (.bool a.isNone) := fun s ha w _ => by
  have h : (Op.equal xt (.pointer a) (.pointer none)).run P w = .ok a.isNone w := by
    have key : ∀ n, (Op.equalIn (n + 1) xt (.pointer a) (.pointer none)).run P w = .ok a.isNone w := fun n => by
      cases a <;> simp [Op.equalIn, run_underlying hu]
    exact key 9999
  simp [execOp, ha.ev hx, ha.ev hy, eqGuard_ptr, Go.binOp, h]
theorem Q1.neNil {xt yt e : TypeId} {x y : Operand} {a : Option Addr} (hu : P.underlying xt = some (.pointer e)) (hx : ev E x = some (.pointer a)) (hy : ev E y = some (.pointer none)) : Q1 P ⟨d, .binOp .neq xt x y yt, ty, pos, af, gd⟩ E C (.bool (!a.isNone)) := fun s ha w _ => by
  have h : (Op.equal xt (.pointer a) (.pointer none)).run P w = .ok a.isNone w := by
    have key : ∀ n, (Op.equalIn (n + 1) xt (.pointer a) (.pointer none)).run P w = .ok a.isNone w := fun n => by
      cases a <;> simp [Op.equalIn, run_underlying hu]
    exact key 9999
  simp [execOp, ha.ev hx, ha.ev hy, eqGuard_ptr, Go.binOp, h]
theorem Q1.nilCheckP {x : Operand} {b off : Nat} (hx : ev E x = some (ptr b off)) : Q1 P ⟨d, .nilCheck x, ty, pos, af, gd⟩ E C (ptr b off) := fun a ha w _ => by
  simp [execOp, ha.ev hx, ptr]

/-! structs compared: 'q': what the kit says of two such -/
theorem Q1.eqStruct {xt yt : TypeId} {x y : Operand} {xs ys : Array Value} {q : Bool} (hg : P.eqGuardType P.depth xt = false) (hq : ∀ w, (Op.equalIn 10000 xt (.agg xs) (.agg ys)).run P w = .ok q w) (hx : ev E x = some (.agg xs)) (hy : ev E y = some (.agg ys)) : Q1 P ⟨d, .binOp .eql xt x y yt, ty, pos, af, gd⟩ E C (.bool q) := fun a ha w _ => by
  simp [execOp, ha.ev hx, ha.ev hy, run_eqGuard_agg _ _ _ _ _ _ _ hg, run_eql_struct, hq w, Result.andThen]
theorem Q1.neStruct {xt yt : TypeId} {x y : Operand} {xs ys : Array Value} {q : Bool} (hg : P.eqGuardType P.depth xt = false) (hq : ∀ w, (Op.equalIn 10000 xt (.agg xs) (.agg ys)).run P w = .ok q w) (hx : ev E x = some (.agg xs)) (hy : ev E y = some (.agg ys)) : Q1 P ⟨d, .binOp .neq xt x y yt, ty, pos, af, gd⟩ E C (.bool (!q)) := fun a ha w _ => by
  simp [execOp, ha.ev hx, ha.ev hy, run_eqGuard_agg _ _ _ _ _ _ _ hg, run_neq_struct, hq w, Result.andThen]

/-! a field of a struct in a value -/
theorem Q1.field {xt : TypeId} {x : Operand} {i : Nat} {vs : Array Value} {v : Value} (hx : ev E x = some (.agg vs)) (hr : ∀ w, (Instr.field xt (.agg vs) i).run P w = .ok v w) : Q1 P ⟨d, .field xt x i, ty, pos, af, gd⟩ E C v := fun a ha w _ => by
  simp [execOp, ha.ev hx, hr w]
theorem Q1.makeFunc {fn : Fn} {fs cs : Array Operand} {first cap : List Value} (h1 : evs E fs.toList = some first) (h2 : evs E cs.toList = some cap) : Q1 P ⟨d, .makeFunc fn fs cs, ty, pos, af, gd⟩ E C (.func fn first.toArray cap.toArray) := fun a ha w _ => by
  have e1 : fs.map a.eval = first.toArray := by
    apply Array.ext'; simpa using ha.evs h1
  have e2 : cs.map a.eval = cap.toArray := by
    apply Array.ext'; simpa using ha.evs h2
  simp [execOp, Instr.makeFunc, e1, e2]

/-! maps of the call's own -/
section
variable {α β : Type} [DecidableEq α] {key : α → Value} {val : β → Value} {kind : TypeDesc}
def MapO (key : α → Value) (val : β → Value) (w : World) (b : Nat) (m : List (α × β)) : Prop :=
  ∃ es clock, w.heap[b]? = some (.map es clock) ∧ es.toList.map (fun e => (e.key, e.val)) = m.map fun p => (key p.1, val p.2)
theorem MapO.keepG {w' : World} {b g : Nat} {m : List (α × β)} (h : MapO key val w b m) (hm : Mod (Mg g) w w') (hg : b + 1 ≠ g) : MapO key val w' b m := by
  obtain ⟨es, c, h1, h2⟩ := h
  exact ⟨es, c, hm.keep _ _ h1 hg, h2⟩
theorem MapO.ext {w' : World} {b : Nat} {m : List (α × β)} (h : MapO key val w b m) (hm : Ext w w') : MapO key val w' b m := by
  obtain ⟨es, c, h1, h2⟩ := h
  exact ⟨es, c, hm.keep _ _ h1 (fun x => x), h2⟩
theorem MapO.lt {b : Nat} {m : List (α × β)} (h : MapO key val w b m) : b < w.heap.size := by
  obtain ⟨es, c, h1, h2⟩ := h
  exact (Array.getElem?_eq_some_iff.1 h1).1
def asc (m : List (α × β)) (a : α) : Option β := (m.find? fun p => decide (p.1 = a)).map Prod.snd
theorem findNow_asc (hs : ∀ a b : α, Instr.sameNow kind (key a) (key b) = some (decide (a = b))) (a : α) : ∀ (es : List MapEntry) (m : List (α × β)) (i : Nat), es.map (fun e => (e.key, e.val)) = m.map (fun p => (key p.1, val p.2)) →
    ∃ j, Instr.findNow kind (key a) es i = some ((asc m a).map fun x => (j, val x))
  | [], m, i, h => by
    cases m with
    | nil => exact ⟨0, rfl⟩
    | cons _ _ => simp at h
  | e :: es, m, i, h => by
    cases m with
    | nil => simp at h
    | cons p m =>
      simp only [List.map_cons, List.cons.injEq, Prod.mk.injEq] at h
      obtain ⟨⟨h1, h2⟩, h3⟩ := h
      unfold Instr.findNow
      rw [h1, hs a p.1]
      by_cases hp : a = p.1
      · refine ⟨i, ?_⟩
        simp [hp, asc, h2]
      · obtain ⟨j, hj⟩ := findNow_asc hs a es m (i + 1) h3
        refine ⟨j, ?_⟩
        have hp' : ¬ (p.1 = a) := fun e => hp e.symm
        simp only [decide_eq_false hp, hj, asc, List.find?_cons, decide_eq_false hp']

/-- what a type of keys must say: nothing is checked, and two are told apart at once -/
structure KeyOk (P : Program) (kt : TypeId) (key : α → Value) : Prop where
  chk : ∀ (e : Bool) (a : α) (w : World), (Instr.checkKey e 10000 kt (key a)).run P w = .ok () w
  same : ∃ kind, P.underlying kt = some kind ∧ ∀ a b : α, Instr.sameNow kind (key a) (key b) = some (decide (a = b))
theorem keyOk_str {kt : TypeId} (h : P.underlying kt = some .string) : KeyOk P kt strV := ⟨fun e a w => by
    unfold Instr.checkKey; simp [run_underlying h, strV], ⟨_, h, fun a b => by
    simp only [strV, Instr.sameNow, Option.some.injEq]
    rw [beq_toListBytes, toList_mk, toList_mk]
    by_cases hab : a = b <;> simp [hab]⟩⟩
def intV (n : Int) : Value := .int .i64 n
theorem keyOk_int {kt : TypeId} (h : P.underlying kt = some (.int .i64)) : KeyOk P kt intV := ⟨fun e a w => by
    unfold Instr.checkKey; simp [run_underlying h, intV], ⟨_, h, fun a b => by
    simp only [intV, Instr.sameNow, Option.some.injEq, if_true]
    by_cases hab : a = b <;> simp [hab]⟩⟩

theorem run_findKey {kt : TypeId} (hk : KeyOk P kt key) (a : α) {es : List MapEntry} {m : List (α × β)} (h : es.map (fun e => (e.key, e.val)) = m.map (fun p => (key p.1, val p.2))) (w : World) :
    ∃ j, (Instr.findKey kt (key a) es).run P w = .ok ((asc m a).map fun x => (j, val x)) w := by
  obtain ⟨kind, hu, hs⟩ := hk.same
  obtain ⟨j, hj⟩ := findNow_asc hs a es m 0 h
  refine ⟨j, ?_⟩
  unfold Instr.findKey
  simp only [Sem.run_bind, run_underlying hu, Result.andThen_ok, hj, Sem.run_pure]
theorem run_getMap {b : Nat} {es : Array MapEntry} {c : Nat} (h : w.heap[b]? = some (.map es c)) : (getObj b).run P w = .ok (.map es c) w := by
  simp [getObj, Sem.run, h]

theorem Q1.lookupOk {t kt et : TypeId} {g : Bool} {n by_ : Nat} {x y : Operand} {b : Nat} {m : List (α × β)} {a : α} {z : Value} (hk : KeyOk P kt key) (ht : P.underlying t = some (.map kt et)) (hz : ∀ w, (zeroValue et).run P w = .ok z w) (hx : ev E x = some (.map (some b))) (hy : ev E y = some (key a)) (hm : ∀ w, C w → MapO key val w b m) :
    Q1 P ⟨d, .lookup t x y true, ty, pos, af, gd⟩ E C (.tuple #[(match asc m a with | some u => val u | none => z), .bool (asc m a).isSome]) := fun s ha w hC => by
  obtain ⟨es, c, h1, h2⟩ := hm w hC
  obtain ⟨j, hj⟩ := run_findKey (P := P) hk a h2 w
  have hg := run_getMap (P := P) h1
  cases hc : asc m a with
  | none =>
    rw [hc] at hj
    simp [execOp, ha.ev hx, ha.ev hy, Instr.lookup, run_underlying ht, hg, hk.chk, hj, hz]
  | some u =>
    rw [hc] at hj
    simp [execOp, ha.ev hx, ha.ev hy, Instr.lookup, run_underlying ht, hg, hk.chk, hj]
theorem Q1.lookup1 {t kt et : TypeId} {x y : Operand} {b : Nat} {m : List (α × β)} {a : α} {z : Value} (hk : KeyOk P kt key) (ht : P.underlying t = some (.map kt et)) (hz : ∀ w, (zeroValue et).run P w = .ok z w) (hx : ev E x = some (.map (some b))) (hy : ev E y = some (key a)) (hm : ∀ w, C w → MapO key val w b m) :
    Q1 P ⟨d, .lookup t x y false, ty, pos, af, gd⟩ E C (match asc m a with | some u => val u | none => z) := fun s ha w hC => by
  obtain ⟨es, c, h1, h2⟩ := hm w hC
  obtain ⟨j, hj⟩ := run_findKey (P := P) hk a h2 w
  have hg := run_getMap (P := P) h1
  cases hc : asc m a with
  | none =>
    rw [hc] at hj
    simp [execOp, ha.ev hx, ha.ev hy, Instr.lookup, run_underlying ht, hg, hk.chk, hj, hz]
  | some u =>
    rw [hc] at hj
    simp [execOp, ha.ev hx, ha.ev hy, Instr.lookup, run_underlying ht, hg, hk.chk, hj]
theorem setMap_mod (w : World) (b : Nat) (o : Obj) : Mod (Mg (b + 1)) w { w with heap := w.heap.setIfInBounds b o } :=
  ⟨rfl, rfl, rfl, by simp, fun k o' hk hn => by
    have : b ≠ k := fun e => hn (by unfold Mg; omega)
    show (w.heap.setIfInBounds b _)[k]? = _
    rw [Array.getElem?_setIfInBounds_ne this]; exact hk⟩
/-- an entry more -/
theorem AW.mapNew {t kt et : TypeId} {x y z : Operand} {b : Nat} {m : List (α × β)} {a : α} {u : β} (hk : KeyOk P kt key) (ht : P.underlying t = some (.map kt et)) (hx : ev E x = some (.map (some b))) (hy : ev E y = some (key a)) (hz : ev E z = some (val u)) (hm : MapO key val w b m) (hno : asc m a = none)
    (hK : ∀ w', Mod (Mg (b + 1)) w w' → w'.heap.size = w.heap.size → MapO key val w' b (m ++ [(a, u)]) → K undef w') : AW P ⟨d, .mapUpdate t x y z, ty, pos, af, gd⟩ E w K := fun s ha => by
  obtain ⟨es, c, h1, h2⟩ := hm
  obtain ⟨j, hj⟩ := run_findKey (P := P) hk a h2 w
  rw [hno] at hj
  have hg := run_getMap (P := P) h1
  have hlt := (Array.getElem?_eq_some_iff.1 h1).1
  have h := hK _ (setMap_mod w b (.map (es.push { key := key a, val := val u, born := c }) (c + 1))) (by simp) ⟨es.push { key := key a, val := val u, born := c }, c + 1, by
    show (w.heap.setIfInBounds b _)[b]? = _
    simp [hlt], by simp [h2]⟩
  simp [execOp, ha.ev hx, ha.ev hy, ha.ev hz, Instr.mapUpdate, run_underlying ht, hg, hk.chk, hj, setObj, Sem.run, h1, out]
  exact h
theorem AW.makeMap {t : TypeId} (hK : ∀ w' b, Ext w w' → b = w.heap.size → w'.heap.size = w.heap.size + 1 → MapO key val w' b [] → K (.map (some b)) w') : AW P ⟨d, .makeMap t none, ty, pos, af, gd⟩ E w K := fun s ha => by
  have h := hK (w.alloc (.map #[] 0)) w.heap.size (Mod.alloc _ _ _) rfl (by simp) ⟨#[], 0, by
    show (w.heap.push _)[w.heap.size]? = _
    simp, by simp⟩
  simp [execOp, Instr.makeMap, newObj, Sem.run, out]
  exact h
end
end

/-! rows that stay within blocks of an interval -/
def Rw (w : World) (lo hi b : Nat) (cs : List Value) : Prop := lo ≤ b ∧ b < hi ∧ Row w b 0 cs
theorem Rw.ext {w w' : World} {lo hi b : Nat} {cs : List Value} (h : Rw w lo hi b cs) (hm : Ext w w') : Rw w' lo hi b cs := ⟨h.1, h.2.1, h.2.2.ext hm⟩
theorem Rw.keepG {w w' : World} {lo hi b g : Nat} {cs : List Value} (h : Rw w lo hi b cs) (hm : Mod (Mg g) w w') (hg : g ≤ lo ∨ hi < g) : Rw w' lo hi b cs := ⟨h.1, h.2.1, h.2.2.keepG hm (by have := h.1; have := h.2.1; omega)⟩
theorem Rw.cell {w : World} {lo hi b : Nat} {cs : List Value} (h : Rw w lo hi b cs) (i : Nat) (v : Value) (hv : cs[i]? = some v) : Row w b i [v] := fun j u hu => by
  cases j with
  | zero =>
    simp only [List.getElem?_cons_zero, Option.some.injEq] at hu
    subst hu
    have := h.2.2 i v hv
    simpa using this
  | succ j => simp at hu

/-- a slice's header -/
structure SH where
  a : Option Addr
  n : Nat
  c : Nat
def SH.val (h : SH) : Value := .slice h.a h.n h.c

/-! two or three blocks that may be written -/
def Mg2 (g h : Nat) : Nat → Prop := fun b => b + 1 = g ∨ b + 1 = h
def Mg3 (g h k : Nat) : Nat → Prop := fun b => b + 1 = g ∨ b + 1 = h ∨ b + 1 = k
theorem Mod.thenG2 {g g1 g2 : Nat} {w0 w w' : World} (h : Mod (Mg2 g1 g2) w0 w) (k : Mod (Mg g) w w') (hg : g = 0 ∨ w0.heap.size < g ∨ g = g1 ∨ g = g2) : Mod (Mg2 g1 g2) w0 w' :=
  h.then k (fun i hi hl => by unfold Mg at hi; unfold Mg2; omega)
theorem Mod.thenG3 {g g1 g2 g3 : Nat} {w0 w w' : World} (h : Mod (Mg3 g1 g2 g3) w0 w) (k : Mod (Mg g) w w') (hg : g = 0 ∨ w0.heap.size < g ∨ g = g1 ∨ g = g2 ∨ g = g3) : Mod (Mg3 g1 g2 g3) w0 w' :=
  h.then k (fun i hi hl => by unfold Mg at hi; unfold Mg3; omega)

/-! structs of plain cells compared -/
inductive FK where
  | int (k : IntKind)
  | str
  | bool
/-- a struct's fields: where each lies, what it is (of fields that are numbers, texts, truths; none by the name '_') -/
def fkOf (P : Program) (f : Field) : Option (Nat × FK) :=
  match P.underlying f.type with
  | some (.int k) => if f.name ≠ "_" then some (f.offset, .int k) else none
  | some .string => if f.name ≠ "_" then some (f.offset, .str) else none
  | some .bool => if f.name ≠ "_" then some (f.offset, .bool) else none
  | _ => none
def cellEq : FK → Value → Value → Option Bool
  | .int k, .int j a, .int j' b => if j = k ∧ j' = k then some (a == b) else none
  | .str, .string a, .string b => some (a.toList == b.toList)
  | .bool, .bool a, .bool b => some (a == b)
  | _, _, _ => none
def eqCells : List (Nat × FK) → Array Value → Array Value → Option Bool
  | [], _, _ => some true
  | (o, k) :: r, xs, ys =>
    match xs[o]?, ys[o]? with
    | some x, some y => match cellEq k x y with
      | some true => eqCells r xs ys
      | some false => some false
      | none => none
    | _, _ => none
def fksOf (P : Program) : List Field → Option (List (Nat × FK))
  | [] => some []
  | f :: r => match fkOf P f, fksOf P r with
    | some k, some ks => some (k :: ks)
    | _, _ => none
theorem run_eqFields {P : Program} {xs ys : Array Value} {n : Nat} (w : World) : ∀ (fs : List Field) (ks : List (Nat × FK)) (q : Bool), fksOf P fs = some ks → eqCells ks xs ys = some q → (Op.eqFields (n + 1) xs ys fs).run P w = .ok q w
  | [], ks, q, h1, h2 => by
    simp only [fksOf, Option.some.injEq] at h1
    subst h1
    simp only [eqCells, Option.some.injEq] at h2
    subst h2
    simp [Op.eqFields]
  | f :: fs, ks, q, h1, h2 => by
    unfold fksOf at h1
    cases hk : fkOf P f with
    | none => simp [hk] at h1
    | some k =>
      cases hks : fksOf P fs with
      | none => simp [hk, hks] at h1
      | some ks' =>
        simp only [hk, hks, Option.some.injEq] at h1
        subst h1
        obtain ⟨o, k⟩ := k
        unfold eqCells at h2
        have key : ∀ (d : TypeDesc), P.underlying f.type = some d → f.name ≠ "_" → f.offset = o → (∀ s, d ≠ .struct s) → (∀ a b, d ≠ .array a b) → (∀ x y r, cellEq k x y = some r → (Op.equalIn (n + 1) f.type x y).run P w = .ok r w) → (Op.eqFields (n + 1) xs ys (f :: fs)).run P w = .ok q w := by
          intro d hu hn ho hs ha he
          cases hx : xs[o]? with
          | none => simp [hx] at h2
          | some x =>
            cases hy : ys[o]? with
            | none => simp [hx, hy] at h2
            | some y =>
              simp only [hx, hy] at h2
              have hag : ∀ cs : Array Value, (part f.type cs f.offset).run P w = (match cs[f.offset]? with | some v => .ok v w | none => ((stuck "part: no such cell" : Sem Value)).run P w) := by
                intro cs
                unfold part isAgg
                simp only [Sem.run_bind, run_underlying hu, Result.andThen_ok]
                cases d <;> simp_all <;> (split <;> simp_all)
              have hpx := hag xs; have hpy := hag ys
              rw [ho] at hpx hpy
              rw [hx] at hpx; rw [hy] at hpy
              cases hc : cellEq k x y with
              | none => simp [hc] at h2
              | some r =>
                have hr := he x y r hc
                rw [hc] at h2
                have ih := fun h => run_eqFields (P := P) (xs := xs) (ys := ys) (n := n) w fs ks' q hks h
                cases r with
                | false =>
                  simp only [Option.some.injEq] at h2
                  subst h2
                  simp [Op.eqFields, hn, ho, hpx, hpy, hr]
                | true =>
                  have := ih h2
                  simp [Op.eqFields, hn, ho, hpx, hpy, hr, this]
        unfold fkOf at hk
        cases hu : P.underlying f.type with
        | none => simp [hu] at hk
        | some d =>
          cases d <;> simp only [hu, reduceCtorEq] at hk <;> (split at hk) <;> (try cases hk) <;> rename_i hn
          all_goals refine key _ hu hn rfl (by intro s h; cases h) (by intro a b h; cases h) fun x y r hc => ?_
          all_goals (cases x <;> simp only [cellEq, reduceCtorEq] at hc <;> cases y <;> simp only [cellEq, reduceCtorEq, Option.some.injEq] at hc)
          all_goals first
            | (split at hc
               · rename_i hj
                 obtain ⟨rfl, rfl⟩ := hj
                 simp only [Option.some.injEq] at hc
                 subst hc
                 exact run_equalIn_int w n _ _ _ _ _ hu
               · cases hc)
            | (subst hc; exact run_equalIn_bool' w n _ _ _ hu)
            | (subst hc; exact run_equalIn_string w n _ _ _ hu)
theorem run_eq_flat {P : Program} {t : TypeId} {xs ys : Array Value} {ks : List (Nat × FK)} {q : Bool} (hf : P.underlying t = some (.struct (P.fieldsOf t))) (hp : P.stoodInHeld t = false) (hk : fksOf P (P.fieldsOf t).toList = some ks) (hq : eqCells ks xs ys = some q) (w : World) :
    (Op.equalIn 10000 t (.agg xs) (.agg ys)).run P w = .ok q w :=
  (run_equalIn_agg w 9999 t xs ys hf hp).trans (run_eqFields (n := 9998) w _ ks q hk hq)
theorem ndec_t {p : Prop} [Decidable p] (h : true = !decide p) : ¬ p := by
  intro hp; simp [hp] at h
theorem ndec_f {p : Prop} [Decidable p] (h : false = !decide p) : p := by
  by_cases hp : p
  · exact hp
  · simp [hp] at h
/-! results in a cell -/
theorem r_retC1 {P : Program} {f : FuncId} {R : Ending → World → Prop} {n : Nat} {E : Env} {k : List Item} {w : World} {fn : Func} {t : Tmp} {ty : TypeId} {b off sz by_ : Nat} {z cs : List Value} (hf : P.funcs[f]? = some fn) (hres : fn.results = #[.cell t ty])
    (hv : lk t E = some (ptr b off)) (ht : tyI P ty = some (true, sz, by_, z)) (hr : Row w b off cs) (hn : cs.length = sz) (hR : R (.returned (.agg cs.toArray)) w) : RunE P f R n E (.code .ret :: k) w := fun a ha b' hb hk cs' =>
  ⟨_, w, { b'.at a (.code .ret :: k) with mode := .returning }, hR, .one step_ret, hb, leave_ret ha hf hb hk (by
    have hg : a.tmps[t]?.getD undef = .pointer (some ⟨b, off, none⟩) := by have := ha.has t _ hv; simpa [ptr] using this
    simp [results, hres, hg, asAddr, Sem.run_bind, Result.andThen, run_loadVar_agg ht hr hn])⟩

end Go.Ik
/-
  Resources that lie apart from one another, by their blocks.
-/
set_option linter.unusedVariables false
set_option linter.unusedSimpArgs false
set_option linter.unusedSectionVars false
namespace Go.Ik
open Go

/-- what is said of some blocks, and of blocks 'R' that nobody writes -/
structure Res (R : Nat → Prop) where
  p : (Nat → Prop) → World → Prop
  keep : ∀ {F : Nat → Prop} {w w' : World} {M : Nat → Prop}, p F w → Mod M w w' → (∀ b, F b → ¬ M b) → (∀ b, R b → ¬ M b) → p F w'

/-- resources that lie apart within blocks 'U' -/
def Sep {R : Nat → Prop} (L : List (Res R)) (U : Nat → Prop) (w : World) : Prop :=
  ∃ Fs : Nat → Nat → Prop, (∀ (i : Nat) (A : Res R), L[i]? = some A → A.p (Fs i) w) ∧ (∀ i b, Fs i b → (U b ∧ ¬ R b) ∧ b < w.heap.size) ∧ ∀ i j b, i ≠ j → Fs i b → ¬ Fs j b

section
variable {R : Nat → Prop} {L : List (Res R)} {U : Nat → Prop} {w w' : World}
theorem Sep.keep {M : Nat → Prop} (h : Sep L U w) (hm : Mod M w w') (hU : ∀ b, U b → b < w.heap.size → ¬ M b) (hR : ∀ b, R b → ¬ M b) : Sep L U w' := by
  obtain ⟨Fs, h1, h2, h3⟩ := h
  exact ⟨Fs, fun i A hA => A.keep (h1 i A hA) hm (fun b hb => hU b (h2 i b hb).1.1 (h2 i b hb).2) hR, fun i b hb => ⟨(h2 i b hb).1, Nat.lt_of_lt_of_le (h2 i b hb).2 hm.size⟩, h3⟩
theorem Sep.mono {U' : Nat → Prop} (h : Sep L U w) (hU : ∀ b, U b → U' b) : Sep L U' w := by
  obtain ⟨Fs, h1, h2, h3⟩ := h
  exact ⟨Fs, h1, fun i b hb => ⟨⟨hU b (h2 i b hb).1.1, (h2 i b hb).1.2⟩, (h2 i b hb).2⟩, h3⟩
theorem Sep.act {i : Nat} {A : Res R} (h : Sep L U w) (hR : ∀ b, R b → b < w.heap.size) (hi : L[i]? = some A) : ∃ F, A.p F w ∧ (∀ b, F b → (U b ∧ ¬ R b) ∧ b < w.heap.size) ∧ ∀ (w' : World) (F' : Nat → Prop) (A' : Res R), Mod F w w' → A'.p F' w' → (∀ b, F' b → b < w'.heap.size ∧ (F b ∨ (w.heap.size ≤ b ∧ U b))) → Sep (L.set i A') U w' := by
  obtain ⟨Fs, h1, h2, h3⟩ := h
  refine ⟨Fs i, h1 i A hi, h2 i, fun w' F' A' hm hA' hF' => ⟨fun k => if k = i then F' else Fs k, fun k B hB => ?_, fun k b hb => ?_, fun j k b hjk hj hk => ?_⟩⟩
  · by_cases hk : k = i
    · subst hk
      rw [List.getElem?_set_self (List.getElem?_eq_some_iff.1 hi).1] at hB
      simp only [if_true]
      cases hB; exact hA'
    · rw [List.getElem?_set_ne (fun e => hk e.symm)] at hB
      simp only [if_neg hk]
      exact B.keep (h1 k B hB) hm (fun b hb hx => h3 k i b hk hb hx) fun b hb hx => (h2 i b hx).1.2 hb
  · by_cases hk : k = i
    · subst hk
      simp only [if_true] at hb
      obtain ⟨h4, h5⟩ := hF' b hb
      exact ⟨h5.elim (fun h => (h2 k b h).1) (fun h => ⟨h.2, fun hr => by have := hR b hr; omega⟩), h4⟩
    · simp only [if_neg hk] at hb
      exact ⟨(h2 k b hb).1, Nat.lt_of_lt_of_le (h2 k b hb).2 hm.size⟩
  · by_cases hji : j = i
    · have hki : k ≠ i := fun e => hjk (hji.trans e.symm)
      simp only [if_pos hji] at hj
      simp only [if_neg hki] at hk
      rcases (hF' b hj).2 with h5 | h5
      · exact h3 i k b (fun e => hki e.symm) h5 hk
      · have := (h2 k b hk).2; omega
    · simp only [if_neg hji] at hj
      by_cases hki : k = i
      · simp only [if_pos hki] at hk
        rcases (hF' b hk).2 with h5 | h5
        · exact h3 j i b hji hj h5
        · have := (h2 j b hj).2; omega
      · simp only [if_neg hki] at hk
        exact h3 j k b hjk hj hk
theorem Sep.new {A : Res R} {F : Nat → Prop} (h : Sep L U w) (hR : ∀ b, R b → b < w.heap.size) (hm : Ext w w') (hA : A.p F w') (hF : ∀ b, F b → U b ∧ w.heap.size ≤ b ∧ b < w'.heap.size) : Sep (L ++ [A]) U w' := by
  obtain ⟨Fs, h1, h2, h3⟩ := h
  refine ⟨fun k => if k = L.length then F else Fs k, fun k B hB => ?_, fun k b hb => ?_, fun j k b hjk hj hk => ?_⟩
  · by_cases hk : k = L.length
    · subst hk
      rw [List.getElem?_append_right (Nat.le_refl _)] at hB
      simp only [Nat.sub_self, List.getElem?_cons_zero, Option.some.injEq] at hB
      subst hB
      simp only [if_true]; exact hA
    · simp only [if_neg hk]
      have hlt := (List.getElem?_eq_some_iff.1 hB).1
      simp only [List.length_append, List.length_cons, List.length_nil] at hlt
      rw [List.getElem?_append_left (by omega)] at hB
      exact B.keep (h1 k B hB) hm (fun b hb hx => hx) fun _ _ hx => hx
  · by_cases hk : k = L.length
    · simp only [if_pos hk] at hb
      exact ⟨⟨(hF b hb).1, fun hr => by have := hR b hr; have := (hF b hb).2.1; omega⟩, (hF b hb).2.2⟩
    · simp only [if_neg hk] at hb
      exact ⟨(h2 k b hb).1, Nat.lt_of_lt_of_le (h2 k b hb).2 hm.size⟩
  · by_cases hji : j = L.length
    · have hki : k ≠ L.length := fun e => hjk (hji.trans e.symm)
      simp only [if_pos hji] at hj
      simp only [if_neg hki] at hk
      have := (h2 k b hk).2; have := (hF b hj).2.1; omega
    · simp only [if_neg hji] at hj
      by_cases hki : k = L.length
      · simp only [if_pos hki] at hk
        have := (h2 j b hj).2; have := (hF b hk).2.1; omega
      · simp only [if_neg hki] at hk
        exact h3 j k b hjk hj hk
theorem sel_at {α : Type} {L : List α} : ∀ (is : List Nat) (k : Nat), (∀ i ∈ is, i < L.length) → (is.filterMap fun i => L[i]?)[k]? = (is[k]?).bind fun i => L[i]?
  | [], k, _ => by simp
  | i :: is, 0, h => by
    have := h i (by simp)
    simp [List.getElem?_eq_getElem this]
  | i :: is, k + 1, h => by
    have := h i (by simp)
    rw [List.filterMap_cons, List.getElem?_eq_getElem this]
    simp only [List.getElem?_cons_succ]
    exact sel_at is k fun j hj => h j (by simp [hj])
theorem Sep.sel (is : List Nat) (h : Sep L U w) (hl : (is.all fun i => decide (i < L.length)) = true) (hn : is.Nodup) : Sep (is.filterMap fun i => L[i]?) U w := by
  obtain ⟨Fs, h1, h2, h3⟩ := h
  have hl' : ∀ i ∈ is, i < L.length := fun i hi => of_decide_eq_true (List.all_eq_true.1 hl i hi)
  refine ⟨fun k b => ∃ i, is[k]? = some i ∧ Fs i b, fun k B hB => ?_, fun k b hb => ?_, fun j k b hjk hj hk => ?_⟩
  · rw [sel_at is k hl'] at hB
    obtain ⟨i, hi, hB⟩ := Option.bind_eq_some_iff.1 hB
    have e : (fun b => ∃ i, is[k]? = some i ∧ Fs i b) = Fs i := by
      funext b
      rw [hi]
      exact propext ⟨fun ⟨j, hj, hb⟩ => by cases hj; exact hb, fun hb => ⟨i, rfl, hb⟩⟩
    show B.p (fun b => ∃ i, is[k]? = some i ∧ Fs i b) w
    rw [e]; exact h1 i B hB
  · obtain ⟨i, _, hb⟩ := hb
    exact h2 i b hb
  · obtain ⟨i, hi, hbi⟩ := hj
    obtain ⟨i', hi', hbi'⟩ := hk
    refine h3 i i' b (fun e => ?_) hbi hbi'
    subst e
    obtain ⟨q1, q2⟩ := List.getElem?_eq_some_iff.1 hi
    obtain ⟨q3, q4⟩ := List.getElem?_eq_some_iff.1 hi'
    exact hjk ((List.getElem_inj hn).1 (q2.trans q4.symm))
theorem Sep.imp {i : Nat} {A A' : Res R} (h : Sep L U w) (hR : ∀ b, R b → b < w.heap.size) (hi : L[i]? = some A) (hA : ∀ F, A.p F w → A'.p F w) : Sep (L.set i A') U w := by
  obtain ⟨F, h1, h2, k⟩ := h.act hR hi
  exact k w F A' (Mod.refl _ _) (hA F h1) fun b hb => ⟨(h2 b hb).2, .inl hb⟩
theorem Sep.two {i j : Nat} {A B : Res R} (h : Sep L U w) (hi : L[i]? = some A) (hj : L[j]? = some B) (hn : i ≠ j) : ∃ F G, A.p F w ∧ B.p G w ∧ (∀ b, G b → ¬ F b) := by
  obtain ⟨Fs, h1, h2, h3⟩ := h
  exact ⟨Fs i, Fs j, h1 i A hi, h1 j B hj, fun b hb hx => h3 i j b hn hx hb⟩
end
/-- several as one -/
def boxR {R : Nat → Prop} (L : List (Res R)) : Res R := ⟨fun F w => Sep L F w, fun h hm hF hR => h.keep hm (fun b hb _ => hF b hb) hR⟩
theorem Sep.close {R : Nat → Prop} {L1 L2 : List (Res R)} {U : Nat → Prop} {w : World} (h : Sep (L1 ++ L2) U w) : Sep (L1 ++ [boxR L2]) U w := by
  obtain ⟨Fs, h1, h2, h3⟩ := h
  refine ⟨fun k b => if k < L1.length then Fs k b else k = L1.length ∧ ∃ j, Fs (L1.length + j) b, fun k B hB => ?_, fun k b hb => ?_, fun j k b hjk hj hk => ?_⟩
  · by_cases hk : k < L1.length
    · simp only [if_pos hk]
      rw [List.getElem?_append_left hk] at hB
      exact h1 k B (by rw [List.getElem?_append_left hk]; exact hB)
    · have hlt := (List.getElem?_eq_some_iff.1 hB).1
      simp only [List.length_append, List.length_cons, List.length_nil] at hlt
      have hk' : k = L1.length := by omega
      subst hk'
      rw [List.getElem?_append_right (Nat.le_refl _)] at hB
      simp only [Nat.sub_self, List.getElem?_cons_zero, Option.some.injEq] at hB
      subst hB
      simp only [Nat.lt_irrefl, if_false, true_and]
      exact ⟨fun j => Fs (L1.length + j), fun j A hA => h1 _ A (by rw [List.getElem?_append_right (by omega), Nat.add_sub_cancel_left]; exact hA), fun j b hb => ⟨⟨⟨j, hb⟩, (h2 _ b hb).1.2⟩, (h2 _ b hb).2⟩, fun i j b hij => h3 _ _ b (by omega)⟩
  · by_cases hk : k < L1.length
    · simp only [if_pos hk] at hb; exact h2 k b hb
    · simp only [if_neg hk] at hb
      obtain ⟨_, j, hb⟩ := hb
      exact h2 _ b hb
  · by_cases hj' : j < L1.length
    · simp only [if_pos hj'] at hj
      by_cases hk' : k < L1.length
      · simp only [if_pos hk'] at hk; exact h3 j k b hjk hj hk
      · simp only [if_neg hk'] at hk
        obtain ⟨_, m, hk⟩ := hk
        exact h3 j _ b (by omega) hj hk
    · simp only [if_neg hj'] at hj
      obtain ⟨e, m, hj⟩ := hj
      by_cases hk' : k < L1.length
      · simp only [if_pos hk'] at hk
        exact h3 _ k b (by omega) hj hk
      · simp only [if_neg hk'] at hk
        exact hjk (e.trans hk.1.symm)
theorem Sep.open {R : Nat → Prop} {L1 L2 : List (Res R)} {U : Nat → Prop} {w : World} (h : Sep (L1 ++ [boxR L2]) U w) : Sep (L1 ++ L2) U w := by
  obtain ⟨Fs, h1, h2, h3⟩ := h
  obtain ⟨Gs, g1, g2, g3⟩ := h1 L1.length (boxR L2) (by rw [List.getElem?_append_right (Nat.le_refl _)]; simp)
  refine ⟨fun k => if k < L1.length then Fs k else Gs (k - L1.length), fun k B hB => ?_, fun k b hb => ?_, fun j k b hjk hj hk => ?_⟩
  · by_cases hk : k < L1.length
    · simp only [if_pos hk]
      rw [List.getElem?_append_left hk] at hB
      exact h1 k B (by rw [List.getElem?_append_left hk]; exact hB)
    · simp only [if_neg hk]
      rw [List.getElem?_append_right (by omega)] at hB
      exact g1 _ B hB
  · by_cases hk : k < L1.length
    · simp only [if_pos hk] at hb; exact h2 k b hb
    · simp only [if_neg hk] at hb
      exact ⟨(h2 _ b (g2 _ b hb).1.1).1, (g2 _ b hb).2⟩
  · by_cases hj' : j < L1.length
    · simp only [if_pos hj'] at hj
      by_cases hk' : k < L1.length
      · simp only [if_pos hk'] at hk; exact h3 j k b hjk hj hk
      · simp only [if_neg hk'] at hk
        exact h3 j L1.length b (by omega) hj (g2 _ b hk).1.1
    · simp only [if_neg hj'] at hj
      by_cases hk' : k < L1.length
      · simp only [if_pos hk'] at hk
        exact h3 L1.length k b (by omega) (g2 _ b hj).1.1 hk
      · simp only [if_neg hk'] at hk
        exact g3 _ _ b (by omega) hj hk

/-! kinds of resources -/
section
variable {R : Nat → Prop}
def bkR (b : Nat) (cs : List Value) (e : TypeId) : Res R := ⟨fun F w => Bk w b cs e ∧ F b, fun h hm hF _ => ⟨h.1.keep hm (hF b h.2), h.2⟩⟩
def accR {α : Type} (enc : α → List Value) (e : TypeId) (sz : Nat) (v : Value) (l : List α) : Res R :=
  ⟨fun F w => ∃ g, Acc enc e sz w g v l ∧ ∀ b, b + 1 = g → F b, fun ⟨g, h1, h2⟩ hm hF _ => ⟨g, h1.keep hm fun b hb => hF b (h2 b hb.symm), h2⟩⟩
/-- slices that are read only, in blocks of one's own or in those that nobody writes -/
def slR {α : Type} (enc : α → List Value) (vs : List (Value × List α)) : Res R :=
  ⟨fun F w => ∀ x ∈ vs, Sl enc w (fun b => F b ∨ R b) x.1 x.2, fun h hm hF hR x hx => (h x hx).keep hm fun b hb => hb.elim (hF b) (hR b)⟩
def mapR {α β : Type} [DecidableEq α] (key : α → Value) (val : β → Value) (b : Nat) (m : List (α × β)) : Res R :=
  ⟨fun F w => MapO key val w b m ∧ F b, fun {F w w' M} h hm hF _ => ⟨by
    obtain ⟨⟨es, c, h1, h2⟩, hb⟩ := h
    exact ⟨es, c, hm.keep _ _ h1 (hF b hb), h2⟩, h.2⟩⟩
def itR (b : Nat) (s : Str) (pos : Nat) : Res R := ⟨fun F w => It w b s pos ∧ F b, fun h hm hF _ => ⟨hm.keep _ _ h.1 (hF b h.2), h.2⟩⟩
def lentR {α : Type} (enc : α → List Value) (e : TypeId) (b : Nat) (l r : List α) : Res R := ⟨fun F w => Lent enc e w b l r ∧ F b, fun h hm hF _ => ⟨hm.keep _ _ h.1 (hF b h.2), h.2⟩⟩
def exR {α : Type} (A : α → Res R) : Res R := ⟨fun F w => ∃ a, (A a).p F w, fun ⟨a, h⟩ hm hF hR => ⟨a, (A a).keep h hm hF hR⟩⟩
def andR (P : Prop) (A : Res R) : Res R := ⟨fun F w => P ∧ A.p F w, fun h hm hF hR => ⟨h.1, A.keep h.2 hm hF hR⟩⟩
def noR : Res R := ⟨fun _ _ => True, fun _ _ _ _ => trivial⟩
end
theorem mg_weaken {F : Nat → Prop} {b : Nat} {w w' : World} (hm : Mod (Mg (b + 1)) w w') (hb : F b) : Mod F w w' := hm.weaken fun b' hb' _ => by
  have e : b' = b := by unfold Mg at hb'; omega
  rw [e]; exact hb
/-- where a walk stands: what may have been written since the call began; what is held -/
structure St (R F0 : Nat → Prop) (w0 w : World) (L : List (Res R)) : Prop where
  mod : Mod F0 w0 w
  far : ∀ b, R b → b < w0.heap.size ∧ ¬ F0 b
  sep : Sep L (fun b => F0 b ∨ w0.heap.size ≤ b) w

section
variable {R F0 : Nat → Prop} {w0 w w' : World} {L : List (Res R)} {i j : Nat} {A B : Res R}
theorem St.rlt (h : St R F0 w0 w L) : ∀ b, R b → b < w.heap.size := fun b hb => Nat.lt_of_lt_of_le (h.far b hb).1 h.mod.size
theorem St.start (w0 : World) (hR : ∀ b, R b → b < w0.heap.size) : St R (fun _ => False) w0 w0 [] := ⟨Mod.refl _ _, fun b hb => ⟨hR b hb, id⟩, ⟨fun _ _ => False, fun i A h => by simp at h, fun _ _ h => h.elim, fun _ _ _ _ h => h.elim⟩⟩
theorem St.start0 (w0 : World) : St (fun _ => False) (fun _ => False) w0 w0 [] := St.start w0 fun _ h => h.elim
theorem St.start1 {F : Nat → Prop} (hA : A.p F w0) (hF : ∀ b, F b → b < w0.heap.size ∧ ¬ R b) (hR : ∀ b, R b → b < w0.heap.size) : St R F w0 w0 [A] := ⟨Mod.refl _ _, fun b hb => ⟨hR b hb, fun h => (hF b h).2 hb⟩, ⟨fun i b => i = 0 ∧ F b, fun i B h => by
    cases i with
    | zero =>
      simp only [List.getElem?_cons_zero, Option.some.injEq] at h
      subst h
      simpa using hA
    | succ i => simp at h, fun i b h => ⟨⟨.inl h.2, (hF b h.2).2⟩, (hF b h.2).1⟩, fun i j b hij h1 h2 => hij (h1.1.trans h2.1.symm)⟩⟩
theorem St.ext (h : St R F0 w0 w L) (hm : Ext w w') : St R F0 w0 w' L := ⟨h.mod.ext hm, h.far, h.sep.keep hm (fun _ _ _ x => x) fun _ _ x => x⟩
theorem St.get (h : St R F0 w0 w L) (hi : L[i]? = some A) : ∃ F, A.p F w ∧ ∀ b, F b → b < w.heap.size := by
  obtain ⟨Fs, h1, h2, _⟩ := h.sep
  exact ⟨Fs i, h1 i A hi, fun b hb => (h2 i b hb).2⟩
theorem St.act (h : St R F0 w0 w L) (hi : L[i]? = some A) : ∃ F, A.p F w ∧ (∀ b, F b → ((F0 b ∨ w0.heap.size ≤ b) ∧ ¬ R b) ∧ b < w.heap.size) ∧ ∀ (w' : World) (F' : Nat → Prop) (A' : Res R), Mod F w w' → A'.p F' w' → (∀ b, F' b → b < w'.heap.size ∧ (F b ∨ w.heap.size ≤ b)) → St R F0 w0 w' (L.set i A') := by
  obtain ⟨F, h1, h2, k⟩ := h.sep.act h.rlt hi
  refine ⟨F, h1, h2, fun w' F' A' hm hA' hF' => ⟨h.mod.then hm fun b hb hl => (h2 b hb).1.1.resolve_right (by omega), h.far, k w' F' A' hm hA' fun b hb => ⟨(hF' b hb).1, (hF' b hb).2.imp id fun hb => ⟨hb, .inr (Nat.le_trans h.mod.size hb)⟩⟩⟩⟩
theorem St.act2 (h : St R F0 w0 w L) (hi : L[i]? = some A) (hj : L[j]? = some B) (hn : i ≠ j) : ∃ F G, A.p F w ∧ B.p G w ∧ (∀ b, G b → ¬ F b) ∧ (∀ b, F b → ((F0 b ∨ w0.heap.size ≤ b) ∧ ¬ R b) ∧ b < w.heap.size) ∧ (∀ b, G b → b < w.heap.size) ∧ ∀ (w' : World) (F' : Nat → Prop) (A' : Res R), Mod F w w' → A'.p F' w' → (∀ b, F' b → b < w'.heap.size ∧ (F b ∨ w.heap.size ≤ b)) → St R F0 w0 w' (L.set i A') := by
  obtain ⟨Fs, h1, h2, h3⟩ := h.sep
  let U : Nat → Prop := fun b => F0 b ∨ w0.heap.size ≤ b
  have hS : Sep L U w := ⟨Fs, h1, h2, h3⟩
  refine ⟨Fs i, Fs j, h1 i A hi, h1 j B hj, fun b hb hx => h3 i j b hn hx hb, h2 i, fun b hb => (h2 j b hb).2, fun w' F' A' hm hA' hF' => ⟨h.mod.then hm fun b hb hl => (h2 i b hb).1.1.resolve_right (by omega), h.far, ?_⟩⟩
  refine ⟨fun k => if k = i then F' else Fs k, fun k B hB => ?_, fun k b hb => ?_, fun j k b hjk hj hk => ?_⟩
  · by_cases hk : k = i
    · subst hk
      rw [List.getElem?_set_self (List.getElem?_eq_some_iff.1 hi).1] at hB
      simp only [if_true]
      cases hB; exact hA'
    · rw [List.getElem?_set_ne (fun e => hk e.symm)] at hB
      simp only [if_neg hk]
      exact B.keep (h1 k B hB) hm (fun b hb hx => h3 k i b hk hb hx) fun b hb hx => (h2 i b hx).1.2 hb
  · by_cases hk : k = i
    · subst hk
      simp only [if_true] at hb
      obtain ⟨h4, h5⟩ := hF' b hb
      exact ⟨h5.elim (fun h => (h2 k b h).1) (fun hb => ⟨.inr (Nat.le_trans h.mod.size hb), fun hr => by have := h.rlt b hr; omega⟩), h4⟩
    · simp only [if_neg hk] at hb
      exact ⟨(h2 k b hb).1, Nat.lt_of_lt_of_le (h2 k b hb).2 hm.size⟩
  · by_cases hji : j = i
    · have hki : k ≠ i := fun e => hjk (hji.trans e.symm)
      simp only [if_pos hji] at hj
      simp only [if_neg hki] at hk
      rcases (hF' b hj).2 with h5 | h5
      · exact h3 i k b (fun e => hki e.symm) h5 hk
      · have := (h2 k b hk).2; omega
    · simp only [if_neg hji] at hj
      by_cases hki : k = i
      · simp only [if_pos hki] at hk
        rcases (hF' b hk).2 with h5 | h5
        · exact h3 j i b hji hj h5
        · have := (h2 j b hj).2; omega
      · simp only [if_neg hki] at hk
        exact h3 j k b hjk hj hk
theorem St.new {F : Nat → Prop} (h : St R F0 w0 w L) (hm : Ext w w') (hA : A.p F w') (hF : ∀ b, F b → w.heap.size ≤ b ∧ b < w'.heap.size) : St R F0 w0 w' (L ++ [A]) :=
  ⟨h.mod.ext hm, h.far, h.sep.new h.rlt hm hA fun b hb => ⟨.inr (Nat.le_trans h.mod.size (hF b hb).1), hF b hb⟩⟩
theorem St.sel (is : List Nat) (h : St R F0 w0 w L) (hl : (is.all fun i => decide (i < L.length)) = true) (hn : is.Nodup) : St R F0 w0 w (is.filterMap fun i => L[i]?) := ⟨h.mod, h.far, h.sep.sel is hl hn⟩
theorem St.imp {A' : Res R} (h : St R F0 w0 w L) (hi : L[i]? = some A) (hA : ∀ F, A.p F w → A'.p F w) : St R F0 w0 w (L.set i A') := ⟨h.mod, h.far, h.sep.imp h.rlt hi hA⟩
theorem St.close {L1 L2 : List (Res R)} (h : St R F0 w0 w (L1 ++ L2)) : St R F0 w0 w (L1 ++ [boxR L2]) := ⟨h.mod, h.far, h.sep.close⟩
theorem St.open {L1 L2 : List (Res R)} (h : St R F0 w0 w (L1 ++ [boxR L2])) : St R F0 w0 w (L1 ++ L2) := ⟨h.mod, h.far, h.sep.open⟩
theorem St.fin (h : St R F0 w0 w [A]) : Mod F0 w0 w ∧ ∃ F', A.p F' w ∧ ∀ b, F' b → b < w.heap.size ∧ (F0 b ∨ w0.heap.size ≤ b) := by
  obtain ⟨Fs, h1, h2, _⟩ := h.sep
  exact ⟨h.mod, Fs 0, h1 0 A rfl, fun b hb => ⟨(h2 0 b hb).2, (h2 0 b hb).1.1⟩⟩
theorem St.exo {α : Type} {A : α → Res R} (h : St R F0 w0 w L) (hi : L[i]? = some (exR A)) : ∃ a, St R F0 w0 w (L.set i (A a)) := by
  obtain ⟨F, ⟨a, ha⟩, h2, k⟩ := h.act hi
  exact ⟨a, k w F (A a) (Mod.refl _ _) ha fun b hb => ⟨(h2 b hb).2, .inl hb⟩⟩
theorem St.exi {α : Type} {A : α → Res R} (h : St R F0 w0 w L) (a : α) (hi : L[i]? = some (A a)) : St R F0 w0 w (L.set i (exR A)) := h.imp hi fun F x => ⟨a, x⟩

/-! blocks -/
theorem St.bk {b : Nat} {cs : List Value} {e : TypeId} (h : St R F0 w0 w L) (hi : L[i]? = some (bkR b cs e)) : Bk w b cs e := by
  obtain ⟨F, h1, _⟩ := h.get hi; exact h1.1
theorem St.bkK {b : Nat} {cs cs' : List Value} {e : TypeId} (h : St R F0 w0 w L) (hi : L[i]? = some (bkR b cs e)) (hm : Mod (Mg (b + 1)) w w') (hk : Bk w' b cs' e) : St R F0 w0 w' (L.set i (bkR b cs' e)) := by
  obtain ⟨F, h1, h2, k⟩ := h.act hi
  exact k w' F _ (mg_weaken hm h1.2) ⟨hk, h1.2⟩ fun b hb => ⟨Nat.lt_of_lt_of_le (h2 b hb).2 hm.size, .inl hb⟩
theorem St.newBk {b : Nat} {cs : List Value} {e : TypeId} (h : St R F0 w0 w L) (hm : Ext w w') (hb : b = w.heap.size) (hk : Bk w' b cs e) : St R F0 w0 w' (L ++ [bkR b cs e]) :=
  h.new (F := fun x => x = b) hm ⟨hk, rfl⟩ fun x hx => by have := hk.lt; omega
theorem St.map {α β : Type} [DecidableEq α] {key : α → Value} {val : β → Value} {b : Nat} {m : List (α × β)} (h : St R F0 w0 w L) (hi : L[i]? = some (mapR key val b m)) : MapO key val w b m := by
  obtain ⟨F, h1, _⟩ := h.get hi; exact h1.1
theorem St.mapK {α β : Type} [DecidableEq α] {key : α → Value} {val : β → Value} {b : Nat} {m m' : List (α × β)} (h : St R F0 w0 w L) (hi : L[i]? = some (mapR key val b m)) (hm : Mod (Mg (b + 1)) w w') (hk : MapO key val w' b m') : St R F0 w0 w' (L.set i (mapR key val b m')) := by
  obtain ⟨F, h1, h2, k⟩ := h.act hi
  exact k w' F _ (mg_weaken hm h1.2) ⟨hk, h1.2⟩ fun b hb => ⟨Nat.lt_of_lt_of_le (h2 b hb).2 hm.size, .inl hb⟩
theorem St.newMap {α β : Type} [DecidableEq α] {key : α → Value} {val : β → Value} {b : Nat} {m : List (α × β)} (h : St R F0 w0 w L) (hm : Ext w w') (hb : b = w.heap.size) (hk : MapO key val w' b m) : St R F0 w0 w' (L ++ [mapR key val b m]) :=
  h.new (F := fun x => x = b) hm ⟨hk, rfl⟩ fun x hx => by have := hk.lt; omega
theorem St.it {b : Nat} {s : Str} {pos : Nat} (h : St R F0 w0 w L) (hi : L[i]? = some (itR b s pos)) : It w b s pos := by
  obtain ⟨F, h1, _⟩ := h.get hi; exact h1.1
theorem St.itK {b : Nat} {s : Str} {pos pos' : Nat} (h : St R F0 w0 w L) (hi : L[i]? = some (itR b s pos)) (hm : Mod (Mg (b + 1)) w w') (hk : It w' b s pos') : St R F0 w0 w' (L.set i (itR b s pos')) := by
  obtain ⟨F, h1, h2, k⟩ := h.act hi
  exact k w' F _ (mg_weaken hm h1.2) ⟨hk, h1.2⟩ fun b hb => ⟨Nat.lt_of_lt_of_le (h2 b hb).2 hm.size, .inl hb⟩
theorem St.newIt {b : Nat} {s : Str} {pos : Nat} (h : St R F0 w0 w L) (hm : Ext w w') (hb : b = w.heap.size) (hk : It w' b s pos) : St R F0 w0 w' (L ++ [itR b s pos]) :=
  h.new (F := fun x => x = b) hm ⟨hk, rfl⟩ fun x hx => by have := hk.lt; omega
/-! slices -/
section
variable {α : Type} {enc : α → List Value} {e : TypeId} {sz : Nat} {v : Value} {l : List α}
theorem Acc.uniq {g g' : Nat} {w' : World} (h : Acc enc e sz w g v l) {e' : TypeId} {sz' : Nat} {l' : List α} (h' : Acc enc e' sz' w' g' v l') : g = g' := by
  rcases h with ⟨h1, _, h2⟩ | ⟨b, cap, cur, h0, h1, _⟩ <;> rcases h' with ⟨k1, _, k2⟩ | ⟨b', cap', cur', k0, k1, _⟩
  · omega
  · rw [h1] at k1; simp at k1
  · rw [h1] at k1; simp at k1
  · rw [h1] at k1
    simp only [Value.slice.injEq, Option.some.injEq, Addr.mk.injEq] at k1
    omega
theorem St.accK (h : St R F0 w0 w L) (hi : L[i]? = some (accR enc e sz v l)) : ∃ g, Acc enc e sz w g v l ∧ g ≤ w.heap.size ∧ ∀ (w' : World) (g' : Nat) (v' : Value) (l' : List α), Mod (Mg g) w w' → Acc enc e sz w' g' v' l' → (g' = g ∨ w.heap.size < g') → St R F0 w0 w' (L.set i (accR enc e sz v' l')) := by
  obtain ⟨F, ⟨g, h1, h3⟩, h2, k⟩ := h.act hi
  refine ⟨g, h1, h1.lt, fun w' g' v' l' hm ha hg => k w' (fun b => b + 1 = g') _ (hm.weaken fun b hb _ => h3 b hb) ⟨g', ha, fun b hb => hb⟩ fun b hb => ⟨?_, ?_⟩⟩
  · have := ha.lt; omega
  · rcases hg with hg | hg
    · exact .inl (h3 b (by omega))
    · exact .inr (by omega)
theorem St.acc (h : St R F0 w0 w L) (hi : L[i]? = some (accR enc e sz v l)) : ∃ g, Acc enc e sz w g v l := by
  obtain ⟨g, h1, _⟩ := h.accK hi; exact ⟨g, h1⟩
theorem St.newAcc {g : Nat} (h : St R F0 w0 w L) (hm : Ext w w') (ha : Acc enc e sz w' g v l) (hg : g = 0 ∨ w.heap.size < g) : St R F0 w0 w' (L ++ [accR enc e sz v l]) :=
  h.new (F := fun b => b + 1 = g) hm ⟨g, ha, fun b hb => hb⟩ fun b hb => by have := ha.lt; omega
theorem St.ne {b g : Nat} {cs : List Value} {e' : TypeId} (h : St R F0 w0 w L) (hi : L[i]? = some (accR enc e sz v l)) (hj : L[j]? = some (bkR b cs e')) (hij : i ≠ j) (ha : Acc enc e sz w g v l) : b + 1 ≠ g := by
  obtain ⟨F, G, ⟨g', h1, h2⟩, h3, h4⟩ := h.sep.two hi hj hij
  have := ha.uniq h1
  subst this
  intro e
  exact h4 b h3.2 (h2 b e)
theorem St.sl {vs : List (Value × List α)} {k : Nat} (h : St R F0 w0 w L) (hi : L[i]? = some (slR enc vs)) (hk : vs[k]? = some (v, l)) : Sl enc w (Iv 0 w.heap.size) v l := by
  obtain ⟨F, h1, h2⟩ := h.get hi
  exact (h1 _ (List.mem_of_getElem? hk)).mono fun b hb => ⟨Nat.zero_le _, hb.elim (h2 b) (h.rlt b)⟩
theorem St.slK {vs : List (Value × List α)} {k : Nat} (h : St R F0 w0 w L) (hi : L[i]? = some (slR enc vs)) (hk : vs[k]? = some (v, l)) : ∃ F : Nat → Prop, Sl enc w F v l ∧ ∀ v' l', Sl enc w F v' l' → St R F0 w0 w (L.set i (slR enc (vs ++ [(v', l')]))) := by
  obtain ⟨F, h1, h2, k'⟩ := h.act hi
  refine ⟨fun b => F b ∨ R b, h1 _ (List.mem_of_getElem? hk), fun v' l' hs => k' w F _ (Mod.refl _ _) (fun x hx => ?_) fun b hb => ⟨(h2 b hb).2, .inl hb⟩⟩
  rcases List.mem_append.1 hx with hx | hx
  · exact h1 x hx
  · simp only [List.mem_singleton] at hx
    subst hx; exact hs
theorem St.newSl (h : St R F0 w0 w L) (hm : Ext w w') (hs : Sl enc w' (Iv w.heap.size w'.heap.size) v l) : St R F0 w0 w' (L ++ [slR enc [(v, l)]]) :=
  h.new (F := Iv w.heap.size w'.heap.size) hm (fun x hx => by simp only [List.mem_singleton] at hx; subst hx; exact hs.mono fun b hb => .inl hb) fun b hb => hb
theorem St.newSlB {b : Nat} (h : St R F0 w0 w L) (hm : Ext w w') (hb : b = w.heap.size) (hz : w'.heap.size = w.heap.size + 1) (hs : Sl enc w' (Iv b (b + 1)) v l) : St R F0 w0 w' (L ++ [slR enc [(v, l)]]) :=
  h.newSl hm (hs.mono fun x hx => by unfold Iv at *; omega)
theorem St.view1 {vs : List (Value × List α)} {k : Nat} (h : St R F0 w0 w L) (hi : L[i]? = some (slR enc vs)) (hk : vs[k]? = some (v, l)) : St R F0 w0 w (L.set i (slR enc [(v, l)])) :=
  h.imp hi fun F hx x hx' => by
    simp only [List.mem_singleton] at hx'
    subst hx'
    exact hx _ (List.mem_of_getElem? hk)
theorem Sl.atF {F : Nat → Prop} (h : Sl enc w F v l) {P : Program} {t : TypeId} {by_ : Nat} {g : Bool} {z : List Value} (ht : P.underlying t = some (.slice e)) (he : tyI P e = some (g, sz, by_, z)) (hsz : ∀ x, (enc x).length = sz) {k : IntKind} {n : Int} (i : Nat) (hn : n = (i : Int)) (hi : i < l.length) :
    ∃ x b off, l[i]? = some x ∧ (∀ w, (Instr.indexAt t v (.int k n)).run P w = .ok (ptr b off) w) ∧ F b ∧ Row w b off (enc x) := by
  obtain ⟨b, off, h1, h2, h3⟩ := h.at ht he hsz (k := k) i hn hi
  exact ⟨l[i], b, off, by simp, h1, h2, h3⟩
/-- an element's row, wherever it was found first -/
theorem Sl.rowAt {F : Nat → Prop} (h : Sl enc w F v l) {P : Program} {t : TypeId} {by_ : Nat} {g : Bool} {z : List Value} (ht : P.underlying t = some (.slice e)) (he : tyI P e = some (g, sz, by_, z)) (hsz : ∀ x, (enc x).length = sz) {k : IntKind} {n : Int} (i : Nat) (hn : n = (i : Int)) {x : α} {b off : Nat} (hx : l[i]? = some x)
    (hr : ∀ w, (Instr.indexAt t v (.int k n)).run P w = .ok (ptr b off) w) : Row w b off (enc x) := by
  obtain ⟨x', b', off', hx', hr', _, hrow⟩ := h.atF ht he hsz (k := k) i hn (List.getElem?_eq_some_iff.1 hx).1
  have e1 := (hr w).symm.trans (hr' w)
  simp only [ptr, Result.ok.injEq, Value.pointer.injEq, Option.some.injEq, Addr.mk.injEq, and_true] at e1
  obtain ⟨rfl, rfl⟩ := e1
  rw [hx] at hx'
  cases hx'
  exact hrow
/-- an own slice that is read only from now on -/
theorem St.freeze (h : St R F0 w0 w L) (hi : L[i]? = some (accR enc e sz v l)) : St R F0 w0 w (L.set i (slR enc [(v, l)])) :=
  h.imp hi fun F hx x hx' => by
    obtain ⟨g, h1, h2⟩ := hx
    simp only [List.mem_singleton] at hx'
    subst hx'
    refine h1.sl.mono fun b hb => ?_
    rcases h1 with ⟨_, _, h4⟩ | ⟨b', cap, cur, h0, _⟩
    · unfold Iv at hb; omega
    · exact .inl (h2 b (by unfold Iv at hb; omega))
/-- what lies in blocks that nobody writes -/
theorem St.newFar {G : Nat → Prop} (h : St R F0 w0 w L) (hs : Sl enc w0 G v l) (hG : ∀ b, G b → R b) : St R F0 w0 w (L ++ [slR enc [(v, l)]]) :=
  h.new (F := fun _ => False) (Mod.refl _ _) (fun x hx => by
    simp only [List.mem_singleton] at hx
    subst hx
    exact (hs.keep h.mod fun b hb => (h.far b (hG b hb)).2).mono fun b hb => .inr (hG b hb)) fun _ hb => hb.elim
end
end
/-! what a call that holds nothing of the caller's leaves -/
section
variable {w0 w : World} {R : Nat → Prop} {L0 : List (Res (fun _ => False))} {L : List (Res R)} {i : Nat} {α : Type} {enc : α → List Value} {e : TypeId} {sz : Nat} {v : Value} {l : List α}
theorem St.slOut {vs : List (Value × List α)} {k : Nat} (h : St (fun _ => False) (fun _ => False) w0 w L0) (hi : L0[i]? = some (slR enc vs)) (hk : vs[k]? = some (v, l)) : Sl enc w (Iv w0.heap.size w.heap.size) v l := by
  obtain ⟨F, h1, h2, _⟩ := h.act hi
  exact (h1 _ (List.mem_of_getElem? hk)).mono fun b hb => ⟨(h2 b (hb.resolve_right id)).1.1.resolve_left fun x => x, (h2 b (hb.resolve_right id)).2⟩
theorem St.accOut (h : St R (fun _ => False) w0 w L) (hi : L[i]? = some (accR enc e sz v l)) : ∃ g, Acc enc e sz w g v l ∧ (g = 0 ∨ w0.heap.size < g) := by
  obtain ⟨F, ⟨g, h1, h3⟩, h2, _⟩ := h.act hi
  refine ⟨g, h1, ?_⟩
  rcases (by omega : g = 0 ∨ 0 < g) with hg | hg
  · exact .inl hg
  · have := (h2 (g - 1) (h3 _ (by omega))).1.1.resolve_left fun x => x
    exact .inr (by omega)
theorem St.accSl (h : St R (fun _ => False) w0 w L) (hi : L[i]? = some (accR enc e sz v l)) : Sl enc w (Iv w0.heap.size w.heap.size) v l := by
  obtain ⟨g, h1, h2⟩ := h.accOut hi
  exact h1.fresh h2
end
/-- what lies outside stays -/
theorem St.out {R F0 G : Nat → Prop} {w0 w : World} {L : List (Res R)} {α : Type} {enc : α → List Value} {v : Value} {l : List α} (h : St R F0 w0 w L) (hs : Sl enc w0 G v l) (hG : ∀ b, G b → ¬ F0 b) : Sl enc w G v l := hs.keep h.mod hG
end Go.Ik
namespace Go.Ik
open Go
/-- a list in a cell of its own -/
def tbR {R : Nat → Prop} {α : Type} (te e : TypeId) (sz : Nat) (enc : α → List Value) (bl : Nat) (l : List α) : Res R := exR fun v : Value => boxR [bkR bl [v] te, accR enc e sz v l]
end Go.Ik
/-
  Slices whose elements hold slices: what came in, opened.
-/
set_option linter.unusedVariables false
set_option linter.unusedSimpArgs false
namespace Go.Ik
open Go Go.WideShapes Go.ChangeShapes Go.RowKit

section
variable {H : Type} {enc : TypeId × Value → H} {P : Program} {W : World}
/-- a type whose cells, in this world, tell a value of 'α' -/
def DeepOk (P : Program) (enc : TypeId × Value → H) (W : World) (t : TypeId) {α : Type} (en : α → List Value) (ok : α → Prop) : Prop :=
  ∀ {spare : Nat → Bool} {held : Bool} (fuel : Nat) (cs : List Value) (x : DataW H × List MemPlace), DataW.trod enc P W 0 spare held fuel t cs = some x → ∃ a : α, cs = en a ∧ ok a
theorem FlatOk.deep {t : TypeId} {α : Type} {en : α → List Value} {ok : α → Prop} (h : FlatOk P t en ok) : DeepOk P enc W t en ok := fun fuel cs x hx => h fuel cs x hx
theorem open_slice_deep {t e : TypeId} {α : Type} {en : α → List Value} {ok : α → Prop} (hf : DeepOk P enc W e en ok) (ht : P.underlying t = some (.slice e)) {sz : Nat} (hC : P.cellsOf e = sz) (h0 : 0 < sz) (hsz : ∀ x, (en x).length = sz)
    {spare : Nat → Bool} {held : Bool} {fuel : Nat} {cs : List Value} {x : DataW H × List MemPlace} (h : DataW.trod enc P W 0 spare held fuel t cs = some x) :
    ∃ (v : Value) (l : List α), cs = [v] ∧ Sl en W (Iv 0 W.heap.size) v l ∧ ∀ a ∈ l, ok a := by
  rcases Deep.open_slice ht h with ⟨rfl, _⟩ | ⟨a, len, cap, m, n, D, Pl, rfl, _, hle, hmax, hm, _, hi⟩
  · exact ⟨_, [], rfl, Sl.nil, by simp⟩
  · have hlm : len ≤ m := by rw [hm]; split <;> omega
    have key : ∀ i : Nat, i < len → ∃ y : α, ok y ∧ ∃ b off, a.add (i * sz) = ⟨b, off, none⟩ ∧ b < W.heap.size ∧ Row W b off (en y) := fun i hil => by
      obtain ⟨cs', hc, ht'⟩ := hi i (by omega)
      rw [hC] at hc
      obtain ⟨b, off, ha, hb, hcl, hr⟩ := cells_row hc h0
      obtain ⟨y, rfl, hy⟩ := hf _ _ _ ht'
      exact ⟨y, hy, b, off, ha, hb, hr⟩
    by_cases hl0 : len = 0
    · subst hl0
      exact ⟨_, [], rfl, ⟨some a, cap, rfl, Nat.zero_le _, hmax, .inl rfl⟩, by simp⟩
    · have hlist : ∃ l : List α, l.length = len ∧ ∀ i (hi : i < l.length), ok l[i] ∧ ∃ b off, a.add (i * sz) = ⟨b, off, none⟩ ∧ b < W.heap.size ∧ Row W b off (en l[i]) := by
        have gen : ∀ n : Nat, n ≤ len → ∃ l : List α, l.length = n ∧ ∀ i (hi : i < l.length), ok l[i] ∧ ∃ b off, a.add (i * sz) = ⟨b, off, none⟩ ∧ b < W.heap.size ∧ Row W b off (en l[i]) := by
         intro n hn
         induction n with
         | zero => exact ⟨[], rfl, fun i hi => by simp at hi⟩
         | succ k ih =>
          obtain ⟨l, hl, hall⟩ := ih (by omega)
          obtain ⟨y, hy, hr⟩ := key k (by omega)
          refine ⟨l ++ [y], by simp [hl], fun i hi => ?_⟩
          rcases Nat.lt_or_ge i l.length with h' | h'
          · rw [List.getElem_append_left h']; exact hall i h'
          · have : i = l.length := by simp at hi; omega
            subst this
            rw [List.getElem_append_right (Nat.le_refl _)]
            simp only [Nat.sub_self, List.getElem_cons_zero, hl]
            exact ⟨hy, hr⟩
        exact gen len (Nat.le_refl _)
      obtain ⟨l, hl, hall⟩ := hlist
      obtain ⟨_, b, off, ha, hb, _⟩ := hall 0 (by omega)
      have ha0 : a = ⟨b, off, none⟩ := by rw [← ha]; unfold Addr.add; simp
      subst ha0
      refine ⟨_, l, rfl, ⟨_, cap, by rw [hl], by omega, hmax, .inr ⟨b, off, rfl, ⟨Nat.zero_le _, hb⟩, fun j v hv => ?_⟩⟩, fun y hy => ?_⟩
      · have hfl := flat_len hsz l
        have hj : j < l.length * sz := by rw [← hfl]; exact (List.getElem?_eq_some_iff.1 hv).1
        have hdiv : j / sz < l.length := Nat.div_lt_of_lt_mul (by rw [Nat.mul_comm]; exact hj)
        obtain ⟨_, b', off', ha', hb', hr'⟩ := hall (j / sz) hdiv
        rw [add_lit] at ha'
        simp only [Addr.mk.injEq, and_true] at ha'
        obtain ⟨rfl, rfl⟩ := ha'
        have hfa := (flat_at hsz l (j / sz) hdiv).1
        have hmod : j % sz < sz := Nat.mod_lt _ h0
        have hjd : j / sz * sz + j % sz = j := Nat.div_add_mod' j sz
        have hv' : (en l[j / sz])[j % sz]? = some v := by
          rw [← hfa, List.getElem?_take, if_pos hmod, List.getElem?_drop, hjd]; exact hv
        have := hr' (j % sz) v hv'
        rw [Nat.add_assoc, hjd] at this
        exact this
      · obtain ⟨i, hi', rfl⟩ := List.getElem_of_mem hy
        exact (hall i hi').1
/-- a field that is a slice: its header, what it holds -/
structure SHL (α : Type) where
  h : SH
  l : List α
def encSHL {α : Type} (x : SHL α) : List Value := [x.h.val]
theorem deep_slice {t e : TypeId} {α : Type} {en : α → List Value} {ok : α → Prop} (hf : DeepOk P enc W e en ok) (ht : P.underlying t = some (.slice e)) {sz : Nat} (hC : P.cellsOf e = sz) (h0 : 0 < sz) (hsz : ∀ x, (en x).length = sz) :
    DeepOk P enc W t (encSHL (α := α)) (fun x => Sl en W (Iv 0 W.heap.size) x.h.val x.l ∧ ∀ a ∈ x.l, ok a) := fun fuel cs x hx => by
  obtain ⟨v, l, rfl, hs, hok⟩ := open_slice_deep hf ht hC h0 hsz hx
  obtain ⟨a, c, rfl⟩ := hs.shape
  exact ⟨⟨⟨a, l.length, c⟩, l⟩, rfl, hs, hok⟩
end
end Go.Ik
/-
  Maps of the call's own whose entries bear stamps: set, deleted from, read as the kit reads them.
-/
set_option linter.unusedVariables false
set_option linter.unusedSimpArgs false
set_option linter.unusedSectionVars false
namespace Go.Ik
open Go Go.MapKept

section
variable {P : Program} {E : Env} {C : World → Prop} {d : Option Tmp} {ty : TypeId} {pos : String} {af : Array Edge} {gd : Option (Nat × Bool)} {w : World} {K : Value → World → Prop}
variable {α β : Type} [DecidableEq α] {key : α → Value} {val : β → Value} {kind : TypeDesc}

def setM : List (α × β) → α → β → List (α × β)
  | [], a, u => [(a, u)]
  | p :: m, a, u => if p.1 = a then (a, u) :: m else p :: setM m a u
def delM : List (α × β) → α → List (α × β)
  | [], _ => []
  | p :: m, a => if p.1 = a then m else p :: delM m a

def MapS (key : α → Value) (val : β → Value) (w : World) (b : Nat) (m : List (α × β)) : Prop :=
  ∃ es clock, w.heap[b]? = some (.map es clock) ∧ Stamped es clock ∧ es.toList.map (fun e => (e.key, e.val)) = m.map fun p => (key p.1, val p.2)
theorem MapS.o {b : Nat} {m : List (α × β)} (h : MapS key val w b m) : MapO key val w b m := by
  obtain ⟨es, c, h1, _, h2⟩ := h
  exact ⟨es, c, h1, h2⟩
theorem MapS.lt {b : Nat} {m : List (α × β)} (h : MapS key val w b m) : b < w.heap.size := h.o.lt
theorem MapS.keep {M : Nat → Prop} {w' : World} {b : Nat} {m : List (α × β)} (h : MapS key val w b m) (hm : Mod M w w') (hb : ¬ M b) : MapS key val w' b m := by
  obtain ⟨es, c, h1, h2, h3⟩ := h
  exact ⟨es, c, hm.keep _ _ h1 hb, h2, h3⟩

/-- keys that are the same bit by bit -/
structure KeyS (P : Program) (kt : TypeId) (key : α → Value) : Prop extends KeyOk P kt key where
  bits : ∀ a, Instr.sameBits 10000 (key a) (key a) = true
theorem keyS_str {kt : TypeId} (h : P.underlying kt = some .string) : KeyS P kt strV := ⟨keyOk_str h, fun a => sameBits_self (d := .string) (k := strV a) (by simp [strV, IsKey]) _⟩
theorem keyS_int {kt : TypeId} (h : P.underlying kt = some (.int .i64)) : KeyS P kt intV := ⟨keyOk_int h, fun a => by simp [intV, Instr.sameBits]⟩
theorem KeyOk.inj {kt : TypeId} (h : KeyOk P kt key) {a b : α} (e : key a = key b) : a = b := by
  obtain ⟨kind, _, hs⟩ := h.same
  have h1 := hs b a
  rw [e] at h1
  rw [hs b b] at h1
  simp only [Option.some.injEq, decide_true] at h1
  exact (of_decide_eq_true h1.symm).symm
theorem asc_nil (a : α) : asc ([] : List (α × β)) a = none := rfl
theorem asc_cons (p : α × β) (m : List (α × β)) (a : α) : asc (p :: m) a = if p.1 = a then some p.2 else asc m a := by
  unfold asc
  rw [List.find?_cons]
  by_cases h : p.1 = a
  · simp [h]
  · simp [h]
/-- where a key is found -/
theorem findNow_at (hs : ∀ a b : α, Instr.sameNow kind (key a) (key b) = some (decide (a = b))) (a : α) : ∀ (es : List MapEntry) (m : List (α × β)) (i : Nat), es.map (fun e => (e.key, e.val)) = m.map (fun p => (key p.1, val p.2)) →
    (asc m a = none ∧ Instr.findNow kind (key a) es i = some none ∧ (∀ u, setM m a u = m ++ [(a, u)]) ∧ delM m a = m ∧ ∀ p ∈ m, p.1 ≠ a) ∨
    (∃ j u0 e0, asc m a = some u0 ∧ es[j]? = some e0 ∧ e0.key = key a ∧ Instr.findNow kind (key a) es i = some (some (i + j, val u0)) ∧
      (∀ u, (es.modify j fun e => { e with key := key a, val := val u }).map (fun e => (e.key, e.val)) = (setM m a u).map fun p => (key p.1, val p.2)) ∧
      (es.eraseIdx j).map (fun e => (e.key, e.val)) = (delM m a).map fun p => (key p.1, val p.2))
  | [], m, i, h => by
    cases m with
    | nil => exact .inl ⟨rfl, rfl, fun _ => rfl, rfl, by simp⟩
    | cons _ _ => simp at h
  | e :: es, m, i, h => by
    cases m with
    | nil => simp at h
    | cons p m =>
      simp only [List.map_cons, List.cons.injEq, Prod.mk.injEq] at h
      obtain ⟨⟨h1, h2⟩, h3⟩ := h
      by_cases hp : p.1 = a
      · refine .inr ⟨0, p.2, e, ?_, rfl, by rw [h1, hp], ?_, fun u => ?_, ?_⟩
        · rw [asc_cons, if_pos hp]
        · unfold Instr.findNow
          rw [h1, hs a p.1, decide_eq_true hp.symm, h2]; rfl
        · simp [setM, hp, h3]
        · simp [delM, hp, h3]
      · have hp' : ¬ (a = p.1) := fun e => hp e.symm
        rcases findNow_at hs a es m (i + 1) h3 with ⟨q1, q2, q3, q4, q5⟩ | ⟨j, u0, e0, q1, q2, q3, q4, q5, q6⟩
        · refine .inl ⟨?_, ?_, fun u => ?_, ?_, ?_⟩
          · rw [asc_cons, if_neg hp]; exact q1
          · unfold Instr.findNow
            rw [h1, hs a p.1, decide_eq_false hp']; exact q2
          · simp [setM, hp, q3]
          · simp [delM, hp, q4]
          · intro x hx
            rcases List.mem_cons.1 hx with rfl | hx
            · exact hp
            · exact q5 x hx
        · refine .inr ⟨j + 1, u0, e0, ?_, q2, q3, ?_, fun u => ?_, ?_⟩
          · rw [asc_cons, if_neg hp]; exact q1
          · unfold Instr.findNow
            rw [h1, hs a p.1, decide_eq_false hp']
            simp only [q4]
            congr 3; omega
          · simp [setM, hp, h1, h2, q5]
          · simp [delM, hp, h1, h2, q6]
theorem run_find {kt : TypeId} (hk : KeyOk P kt key) (a : α) {es : Array MapEntry} {m : List (α × β)} (h : es.toList.map (fun e => (e.key, e.val)) = m.map (fun p => (key p.1, val p.2))) (w : World) :
    (asc m a = none ∧ (Instr.findKey kt (key a) es.toList).run P w = .ok none w ∧ (∀ u, setM m a u = m ++ [(a, u)]) ∧ delM m a = m ∧ ∀ x ∈ es.toList, x.key ≠ key a) ∨
    (∃ j u0 e0, asc m a = some u0 ∧ es[j]? = some e0 ∧ e0.key = key a ∧ (Instr.findKey kt (key a) es.toList).run P w = .ok (some (j, val u0)) w ∧
      (∀ u, (es.modify j fun e => { e with key := key a, val := val u }).toList.map (fun e => (e.key, e.val)) = (setM m a u).map fun p => (key p.1, val p.2)) ∧
      (es.eraseIdxIfInBounds j).toList.map (fun e => (e.key, e.val)) = (delM m a).map fun p => (key p.1, val p.2)) := by
  obtain ⟨kind, hu, hs⟩ := hk.same
  rcases findNow_at hs a es.toList m 0 h with ⟨q1, q2, q3, q4, q5⟩ | ⟨j, u0, e0, q1, q2, q3, q4, q5, q6⟩
  · refine .inl ⟨q1, ?_, q3, q4, fun x hx e => ?_⟩
    · unfold Instr.findKey
      simp only [Sem.run_bind, run_underlying hu, Result.andThen_ok, q2, Sem.run_pure]
    · have : (x.key, x.val) ∈ m.map (fun p => (key p.1, val p.2)) := by
        rw [← h]; exact List.mem_map.2 ⟨x, hx, rfl⟩
      obtain ⟨p, hp, he⟩ := List.mem_map.1 this
      simp only [Prod.mk.injEq] at he
      exact q5 p hp (hk.inj (he.1.trans e))
  · rw [Array.getElem?_toList] at q2
    have hj : j < es.size := (Array.getElem?_eq_some_iff.1 q2).1
    refine .inr ⟨j, u0, e0, q1, q2, q3, ?_, fun u => ?_, ?_⟩
    · unfold Instr.findKey
      simp only [Sem.run_bind, run_underlying hu, Result.andThen_ok, q4, Sem.run_pure, Nat.zero_add]
    · rw [Array.toList_modify]; exact q5 u
    · unfold Array.eraseIdxIfInBounds
      rw [dif_pos hj, Array.toList_eraseIdx]; exact q6
theorem set_same {w : World} {b : Nat} {o o' : Obj} (h : w.heap[b]? = some o) : (w.heap.setIfInBounds b o')[b]? = some o' := by
  have := (Array.getElem?_eq_some_iff.1 h).1
  simp [this]
/-- an entry set -/
theorem AW.mapSet {t kt et : TypeId} {x y z : Operand} {b : Nat} {m : List (α × β)} (a : α) (u : β) (hk : KeyS P kt key) (ht : P.underlying t = some (.map kt et)) (hx : ev E x = some (.map (some b))) (hy : ev E y = some (key a)) (hz : ev E z = some (val u)) (hm : MapS key val w b m)
    (hK : ∀ w', Mod (Mg (b + 1)) w w' → w'.heap.size = w.heap.size → MapS key val w' b (setM m a u) → K undef w') : AW P ⟨d, .mapUpdate t x y z, ty, pos, af, gd⟩ E w K := fun s ha => by
  obtain ⟨es, c, h1, h2, h3⟩ := hm
  have hg := run_getMap (P := P) h1
  rcases run_find (P := P) hk.toKeyOk a h3 w with ⟨q1, q2, q3, q4, q5⟩ | ⟨j, u0, e0, q1, q2, q3, q4, q5, q6⟩
  · have h := hK _ (setMap_mod w b (.map (es.push { key := key a, val := val u, born := c }) (c + 1))) (by simp) ⟨es.push { key := key a, val := val u, born := c }, c + 1, set_same h1, stamped_push h2 q5, by
      rw [q3 u]; simp [h3]⟩
    simp [execOp, ha.ev hx, ha.ev hy, ha.ev hz, Instr.mapUpdate, run_underlying ht, hg, hk.chk, q2, setObj, Sem.run, h1, out]
    exact h
  · have hst : Stamped (es.modify j fun e => { e with key := key a, val := val u }) c := stamped_modify h2 j _ (fun _ _ => rfl) fun e _ he => by
      rw [q2] at he; cases he; exact q3.symm
    have h := hK _ (setMap_mod w b (.map (es.modify j fun e => { e with key := key a, val := val u }) c)) (by simp) ⟨_, c, set_same h1, hst, q5 u⟩
    have hks : Instr.keyThatStays (key a) (key a) = (pure (key a) : Sem Value) := by
      unfold Instr.keyThatStays; rw [if_pos (hk.bits a)]
    simp [execOp, ha.ev hx, ha.ev hy, ha.ev hz, Instr.mapUpdate, run_underlying ht, hg, hk.chk, q4, q2, q3, hks, setObj, Sem.run, h1, out]
    exact h
/-- an entry deleted -/
theorem AW.mapDel {t kt et : TypeId} {ts : Array TypeId} {x y : Operand} {b : Nat} {m : List (α × β)} (a : α) (hk : KeyS P kt key) (ht : P.underlying t = some (.map kt et)) (hts : ts[0]? = some t) (hx : ev E x = some (.map (some b))) (hy : ev E y = some (key a)) (hm : MapS key val w b m)
    (hK : ∀ w', Mod (Mg (b + 1)) w w' → w'.heap.size = w.heap.size → MapS key val w' b (delM m a) → K (.tuple #[]) w') : AW P ⟨d, .call { callee := .builtin .delete, args := #[x, y], argTypes := ts }, ty, pos, af, gd⟩ E w K := fun s ha => by
  obtain ⟨es, c, h1, h2, h3⟩ := hm
  have hg := run_getMap (P := P) h1
  rcases run_find (P := P) hk.toKeyOk a h3 w with ⟨q1, q2, q3, q4, q5⟩ | ⟨j, u0, e0, q1, q2, q3, q4, q5, q6⟩
  · have h := hK _ (setMap_mod w b (.map es c)) (by simp) ⟨es, c, set_same h1, h2, by rw [q4]; exact h3⟩
    simp [execOp, resolve, invoke, builtin, ha.ev hx, ha.ev hy, Builtin.delete_, hts, run_underlying ht, hg, hk.chk, q2, setObj, Sem.run, h1, out]
    exact h
  · have h := hK _ (setMap_mod w b (.map (es.eraseIdxIfInBounds j) c)) (by simp) ⟨_, c, set_same h1, stamped_erase h2 j, q6⟩
    simp [execOp, resolve, invoke, builtin, ha.ev hx, ha.ev hy, Builtin.delete_, hts, run_underlying ht, hg, hk.chk, q4, setObj, Sem.run, h1, out]
    exact h
theorem AW.makeMapS {t : TypeId} (hK : ∀ w' b, Ext w w' → b = w.heap.size → w'.heap.size = w.heap.size + 1 → MapS key val w' b [] → K (.map (some b)) w') : AW P ⟨d, .makeMap t none, ty, pos, af, gd⟩ E w K := fun s ha => by
  have h := hK (w.alloc (.map #[] 0)) w.heap.size (Mod.alloc _ _ _) rfl (by simp) ⟨#[], 0, by
    show (w.heap.push _)[w.heap.size]? = _
    simp, stamped_empty 0, by simp⟩
  simp [execOp, Instr.makeMap, newObj, Sem.run, out]
  exact h
theorem MapS.len {b : Nat} {m : List (α × β)} {t kt et : TypeId} (h : MapS key val w b m) (ht : P.underlying t = some (.map kt et)) (ty : TypeId) : (Builtin.len_ #[t] ty #[.map (some b)]).run P w = .ok (.int .i64 m.length) w := by
  obtain ⟨es, c, h1, h2, h3⟩ := h
  have hg := run_getMap (P := P) h1
  have : es.size = m.length := by
    have := congrArg List.length h3
    simpa using this
  simp [Builtin.len_, goInt, run_underlying ht, hg, this]
theorem Q1.lenM {t kt et : TypeId} {x : Operand} {b : Nat} {m : List (α × β)} (ht : P.underlying t = some (.map kt et)) (hx : ev E x = some (.map (some b))) (hm : ∀ w, C w → MapS key val w b m) : Q1 P ⟨d, .call { callee := .builtin .len, args := #[x], argTypes := #[t] }, ty, pos, af, gd⟩ E C (.int .i64 m.length) := fun s ha w hC => by
  have := (hm w hC).len (P := P) ht ty
  simp [execOp, resolve, invoke, builtin, ha.ev hx, this]
end
section
variable {R : Nat → Prop}
/-- such a map as what is held -/
def mpR {α β : Type} [DecidableEq α] (key : α → Value) (val : β → Value) (b : Nat) (m : List (α × β)) : Res R := ⟨fun F w => MapS key val w b m ∧ F b, fun h hm hF _ => ⟨h.1.keep hm (hF b h.2), h.2⟩⟩
variable {F0 : Nat → Prop} {w0 w w' : World} {L : List (Res R)} {i : Nat}
theorem St.mp {α β : Type} [DecidableEq α] {key : α → Value} {val : β → Value} {b : Nat} {m : List (α × β)} (h : St R F0 w0 w L) (hi : L[i]? = some (mpR key val b m)) : MapS key val w b m := by
  obtain ⟨F, h1, _⟩ := h.get hi; exact h1.1
theorem St.mpK {α β : Type} [DecidableEq α] {key : α → Value} {val : β → Value} {b : Nat} {m m' : List (α × β)} (h : St R F0 w0 w L) (hi : L[i]? = some (mpR key val b m)) (hm : Mod (Mg (b + 1)) w w') (hk : MapS key val w' b m') : St R F0 w0 w' (L.set i (mpR key val b m')) := by
  obtain ⟨F, h1, h2, k⟩ := h.act hi
  exact k w' F _ (mg_weaken hm h1.2) ⟨hk, h1.2⟩ fun b hb => ⟨Nat.lt_of_lt_of_le (h2 b hb).2 hm.size, .inl hb⟩
theorem St.newMp {α β : Type} [DecidableEq α] {key : α → Value} {val : β → Value} {b : Nat} {m : List (α × β)} (h : St R F0 w0 w L) (hm : Ext w w') (hb : b = w.heap.size) (hk : MapS key val w' b m) : St R F0 w0 w' (L ++ [mpR key val b m]) :=
  h.new (F := fun x => x = b) hm ⟨hk, rfl⟩ fun x hx => by have := hk.lt; omega
end
end Go.Ik
/-
  The keys of a map of the call's own, in order: maps.Keys and slices.Sorted out of the kit's contracts, at keys that are numbers.
-/
set_option linter.unusedVariables false
set_option linter.unusedSimpArgs false
namespace Go.Ik
open Go Go.MapKept Go.Maps

def sortI (l : List Int) : List Int := l.mergeSort leI
theorem sortI_mem {l : List Int} {x : Int} : x ∈ sortI l ↔ x ∈ l := List.mem_mergeSort
theorem sortI_len (l : List Int) : (sortI l).length = l.length := List.length_mergeSort _
theorem sortI_le (l : List Int) : (sortI l).Pairwise (· ≤ ·) := by
  have h := List.pairwise_mergeSort (le := leI) (fun a b c h1 h2 => by simp only [leI, decide_eq_true_eq] at *; omega) (fun a b => by simp only [leI, Bool.or_eq_true, decide_eq_true_eq]; omega) l
  exact h.imp fun h => by simpa [leI] using h
theorem sortI_lt {l : List Int} (h : l.Nodup) : (sortI l).Pairwise (· < ·) := by
  have h1 : (sortI l).Nodup := ((List.mergeSort_perm l leI).nodup_iff).2 h
  exact (List.Pairwise.and (sortI_le l) h1).imp fun ⟨a, b⟩ => by omega
theorem wf_of_i64 {n : Int} (h : I64 n) : (Lit.int .i64 n).wf = true := by
  simp [Lit.wf, IntKind.min, IntKind.max, IntKind.signed, IntKind.bits]
  exact h

section
variable {P : Program} {k : TypeId} {w : World} {b : Nat}
def totR {H : Type} : Value → Option (DataW H × List MemPlace) := fun _ => some (.agg [], [])
theorem mapS_owns {H : Type} {β : Type} {val : β → Value} {m : List (Int × β)} (h : MapS intV val w b m) (hk : P.underlying k = some (.int .i64)) (hI : ∀ p ∈ m, I64 p.1) (hlen : m.length ≤ 1000000) :
    ∃ D : DataW H, w.ownsMap P k totR b m.length D ∧ Maps.size D ≤ m.length ∧ (intKeys D).Perm (m.map (·.1)) := by
  obtain ⟨es, c, h1, h2, h3⟩ := h
  have hs : es.size = m.length := by
    have := congrArg List.length h3
    simpa using this
  have hkey : ∀ x ∈ es.toList, ∃ n : Int, x.key = intV n ∧ I64 n := fun x hx => by
    have : (x.key, x.val) ∈ m.map (fun p => (intV p.1, val p.2)) := by rw [← h3]; exact List.mem_map.2 ⟨x, hx, rfl⟩
    obtain ⟨p, hp, he⟩ := List.mem_map.1 this
    simp only [Prod.mk.injEq] at he
    exact ⟨p.1, he.1.symm, hI p hp⟩
  have hrd : ∀ x ∈ es.toList, ∀ n : Int, x.key = intV n → I64 n → WideElems.rd P k (totR (H := H)) x = some (.int .i64 n, .agg []) := fun x hx n hn hi => by
    unfold WideElems.rd
    rw [hn, show intV n = Value.int .i64 n from rfl, keyOf_int_mk hk (wf_of_i64 hi)]; rfl
  have F : WideElems.Fit P k (totR (H := H)) es c := ⟨by rw [hs]; unfold maxLen; omega, h2, fun x hx => by
    obtain ⟨n, hn, hi⟩ := hkey x hx
    exact ⟨_, hrd x hx n hn hi⟩⟩
  refine ⟨_, ⟨es, c, h1, F, by omega, rfl⟩, ?_, ?_⟩
  · show List.length _ ≤ _
    rw [length_sorted, List.length_map, Array.length_toList]; omega
  · show (List.map (fun p : Lit × DataW H => intOf p.1) _).Perm _
    refine ((WideShapes.sorted_perm _).map _).trans ?_
    rw [List.map_map]
    have : es.toList.map ((fun p : Lit × DataW H => intOf p.1) ∘ WideElems.rg P k totR) = m.map (·.1) := by
      have e1 : es.toList.map ((fun p : Lit × DataW H => intOf p.1) ∘ WideElems.rg P k totR) = es.toList.map (fun e => (fun v : Value => match v with | .int _ n => n | _ => 0) e.key) := by
        refine List.map_congr_left fun x hx => ?_
        obtain ⟨n, hn, hi⟩ := hkey x hx
        simp only [Function.comp, WideElems.rg, hrd x hx n hn hi, Option.getD_some, intOf, hn, intV]
      rw [e1]
      have e2 := congrArg (List.map (fun p : Value × Value => (fun v : Value => match v with | .int _ n => n | _ => 0) p.1)) h3
      simp only [List.map_map] at e2
      exact e2
    rw [this]
theorem map_encZ : ∀ l : List Int, l.map encZ = l.flatMap encI
  | [] => rfl
  | a :: l => by rw [List.flatMap_cons, List.map_cons, map_encZ l]; rfl
theorem ownsRow_acc {e : TypeId} {v : Value} {l : List Int} {base : Nat} (h : w.ownsRow base e 1 v l.length (l.map encZ)) (hb : base ≤ w.heap.size) : ∃ g, Acc encI e 1 w g v l ∧ (g = 0 ∨ base < g) := by
  obtain ⟨_, ⟨rfl, h0⟩ | ⟨g, cap, cur, rfl, h1, h2, h3, h4, h5, h6⟩⟩ := h
  · exact ⟨0, .inl ⟨rfl, List.eq_nil_of_length_eq_zero h0, rfl⟩, .inl rfl⟩
  · refine ⟨g + 1, .inr ⟨g, cap, cur, rfl, rfl, h2, h3, h4, h5, ?_⟩, .inr (by omega)⟩
    rw [h6]
    exact map_encZ l
end
end Go.Ik
/-
  What the layers share, as values: queries, events.
-/
set_option linter.unusedVariables false
set_option linter.unusedSimpArgs false
namespace Go.Ml
open Go Go.Ik

structure Qry where
  text : Str
  k : Int
  n : Int
deriving DecidableEq
def encQry (q : Qry) : List Value := [strV q.text, .int .i64 q.k, .int .i64 q.n]
theorem encQry_len (x : Qry) : (encQry x).length = 3 := rfl
theorem encQry_one (x : Qry) : (encQry x).all (·.oneCell') = true := rfl
structure Qry.Ok (x : Qry) : Prop where
  text : x.text.length ≤ maxLen
  k : I64 x.k
  n : I64 x.n
structure Evt where
  kind : Int
  node : Int
  at_ : Int
  x : Int
  q : Qry
deriving DecidableEq
def encEvt (e : Evt) : List Value := [.int .i64 e.kind, .int .i64 e.node, .int .i64 e.at_, .int .i64 e.x, strV e.q.text, .int .i64 e.q.k, .int .i64 e.q.n]
theorem encEvt_len (x : Evt) : (encEvt x).length = 7 := rfl
theorem encEvt_one (x : Evt) : (encEvt x).all (·.oneCell') = true := rfl
structure Evt.Ok (e : Evt) : Prop where
  kind : I64 e.kind
  node : I64 e.node
  at_ : I64 e.at_
  x : I64 e.x
  q : e.q.Ok
end Go.Ml
/-
  Records of events as values, what is told of them; the plain law of chapter 26.
-/
set_option linter.unusedVariables false
set_option linter.unusedSimpArgs false
namespace Go.Ik
open Go

structure RSent where
  id : Int
  frm : Int
  to_ : Int
deriving DecidableEq
def encSent (s : RSent) : List Value := [.int .i64 s.id, .int .i64 s.frm, .int .i64 s.to_]
theorem encSent_len (x : RSent) : (encSent x).length = 3 := rfl
theorem encSent_one (x : RSent) : (encSent x).all (·.oneCell') = true := rfl
structure RSent.Ok (s : RSent) : Prop where
  id : I64 s.id
  frm : I64 s.frm
  to_ : I64 s.to_
/-- a record: its cells, and what its two slices hold -/
structure RRec where
  kind : Int
  node : Int
  at_ : Int
  x : Int
  qt : Str
  qk : Int
  qn : Int
  verdict : Int
  id : Int
  sh : SH
  got : Int
  lh : SH
  sent : List RSent
  lost : List Int
def encRec (r : RRec) : List Value := [.int .i64 r.kind, .int .i64 r.node, .int .i64 r.at_, .int .i64 r.x, strV r.qt, .int .i64 r.qk, .int .i64 r.qn, .int .i64 r.verdict, .int .i64 r.id, r.sh.val, .int .i64 r.got, r.lh.val]
theorem encRec_len (x : RRec) : (encRec x).length = 12 := rfl
theorem encRec_one (x : RRec) : (encRec x).all (·.oneCell') = true := rfl
/-- what a record's slices hold, in memory -/
structure RecD (w : World) (F : Nat → Prop) (r : RRec) : Prop where
  sent : Sl encSent w F r.sh.val r.sent
  lost : Sl encI w F r.lh.val r.lost
theorem RecD.keep {M F : Nat → Prop} {w w' : World} {r : RRec} (h : RecD w F r) (hm : Mod M w w') (hb : ∀ b, F b → ¬ M b) : RecD w' F r := ⟨h.sent.keep hm hb, h.lost.keep hm hb⟩
theorem RecD.iv {w w' : World} {r : RRec} (h : RecD w (Iv 0 w.heap.size) r) (hm : Ext w w') : RecD w' (Iv 0 w'.heap.size) r := by
  have h1 := h.keep hm (fun _ _ x => x)
  have := hm.size
  exact ⟨h1.sent.iv (Nat.zero_le _) this, h1.lost.iv (Nat.zero_le _) this⟩
structure RecN (r : RRec) : Prop where
  id : I64 r.id
  got : I64 r.got
  verdict : I64 r.verdict
  sent : ∀ s ∈ r.sent, s.Ok
  lost : ∀ n ∈ r.lost, I64 n

def sentIds (l : List RRec) : List Int := l.flatMap fun r => r.sent.map (·.id)
def goneIds (l : List RRec) : List Int := l.flatMap fun r => r.got :: r.lost
def putAll (m : List (Int × Bool)) (ids : List Int) : List (Int × Bool) := ids.foldl (fun m x => setM m x true) m
def delAll (m : List (Int × Bool)) (ids : List Int) : List (Int × Bool) := ids.foldl (fun m x => delM m x) m
def pendM (l : List RRec) : List Int := sortI ((delAll (putAll [] (sentIds l)) (goneIds l)).map (·.1))
def askedM (l : List RRec) : List Int := (l.filter fun r => r.verdict == 3).map (·.id)
def sentN (l : List RRec) : Nat := (l.map fun r => r.sent.length).sum
def lostN (l : List RRec) : Nat := (l.map fun r => r.lost.length).sum
def gotN (l : List RRec) : Nat := l.countP fun r => decide (0 ≤ r.got)
def verN (v : Int) (l : List RRec) : Nat := l.countP fun r => r.verdict == v

theorem sentIds_app (a b : List RRec) : sentIds (a ++ b) = sentIds a ++ sentIds b := List.flatMap_append
theorem goneIds_app (a b : List RRec) : goneIds (a ++ b) = goneIds a ++ goneIds b := List.flatMap_append
theorem putAll_app (m : List (Int × Bool)) (a b : List Int) : putAll m (a ++ b) = putAll (putAll m a) b := List.foldl_append
theorem delAll_app (m : List (Int × Bool)) (a b : List Int) : delAll m (a ++ b) = delAll (delAll m a) b := List.foldl_append
theorem setM_keys {α β : Type} [DecidableEq α] : ∀ (m : List (α × β)) (a : α) (u : β) (x : α), x ∈ (setM m a u).map (·.1) ↔ x ∈ m.map (·.1) ∨ x = a
  | [], a, u, x => by simp [setM]
  | p :: m, a, u, x => by
    unfold setM
    split
    · rename_i h
      simp only [List.map_cons, List.mem_cons]
      rw [← h]
      constructor
      · rintro (h | h)
        · exact .inr h
        · exact .inl (.inr h)
      · rintro ((h | h) | h)
        · exact .inl h
        · exact .inr h
        · exact .inl h
    · simp only [List.map_cons, List.mem_cons, setM_keys m a u x]
      exact (or_assoc).symm
theorem setM_nodup {α β : Type} [DecidableEq α] : ∀ (m : List (α × β)) (a : α) (u : β), (m.map (·.1)).Nodup → ((setM m a u).map (·.1)).Nodup
  | [], a, u, _ => by simp [setM]
  | p :: m, a, u, h => by
    rw [List.map_cons, List.nodup_cons] at h
    unfold setM
    split
    · rename_i e
      rw [List.map_cons, List.nodup_cons]
      exact ⟨by rw [← e]; exact h.1, h.2⟩
    · rename_i e
      rw [List.map_cons, List.nodup_cons, setM_keys]
      exact ⟨fun x => x.elim h.1 e, setM_nodup m a u h.2⟩
theorem delM_sub {α β : Type} [DecidableEq α] : ∀ (m : List (α × β)) (a : α), (delM m a).Sublist m
  | [], a => List.Sublist.refl _
  | p :: m, a => by
    unfold delM
    split
    · exact List.sublist_cons_self _ _
    · exact (delM_sub m a).cons_cons _
theorem delM_nodup {α β : Type} [DecidableEq α] {m : List (α × β)} {a : α} (h : (m.map (·.1)).Nodup) : ((delM m a).map (·.1)).Nodup := h.sublist ((delM_sub m a).map _)
theorem delM_keys {α β : Type} [DecidableEq α] : ∀ (m : List (α × β)) (a : α) (x : α), (m.map (·.1)).Nodup → (x ∈ (delM m a).map (·.1) ↔ x ∈ m.map (·.1) ∧ x ≠ a)
  | [], a, x, _ => by simp [delM]
  | p :: m, a, x, h => by
    rw [List.map_cons, List.nodup_cons] at h
    unfold delM
    split
    · rename_i e
      simp only [List.map_cons, List.mem_cons]
      constructor
      · intro hx
        exact ⟨.inr hx, fun e2 => h.1 (by rw [e, ← e2]; exact hx)⟩
      · rintro ⟨h1 | h1, h2⟩
        · exact absurd (h1.trans e) h2
        · exact h1
    · rename_i e
      simp only [List.map_cons, List.mem_cons, delM_keys m a x h.2]
      constructor
      · rintro (h1 | ⟨h1, h2⟩)
        · exact ⟨.inl h1, fun e2 => e (h1.symm.trans e2)⟩
        · exact ⟨.inr h1, h2⟩
      · rintro ⟨h1 | h1, h2⟩
        · exact .inl h1
        · exact .inr ⟨h1, h2⟩
theorem putAll_ok : ∀ (ids : List Int) (m : List (Int × Bool)), (m.map (·.1)).Nodup → ((putAll m ids).map (·.1)).Nodup ∧ ∀ x, x ∈ (putAll m ids).map (·.1) ↔ x ∈ m.map (·.1) ∨ x ∈ ids
  | [], m, h => ⟨h, fun x => by simp [putAll]⟩
  | a :: ids, m, h => by
    obtain ⟨h1, h2⟩ := putAll_ok ids (setM m a true) (setM_nodup m a true h)
    refine ⟨h1, fun x => ?_⟩
    show x ∈ (putAll (setM m a true) ids).map (·.1) ↔ _
    rw [h2 x, setM_keys, List.mem_cons, or_assoc]
theorem delAll_ok : ∀ (ids : List Int) (m : List (Int × Bool)), (m.map (·.1)).Nodup → ((delAll m ids).map (·.1)).Nodup ∧ ∀ x, x ∈ (delAll m ids).map (·.1) ↔ x ∈ m.map (·.1) ∧ x ∉ ids
  | [], m, h => ⟨h, fun x => by simp [delAll]⟩
  | a :: ids, m, h => by
    obtain ⟨h1, h2⟩ := delAll_ok ids (delM m a) (delM_nodup h)
    refine ⟨h1, fun x => ?_⟩
    show x ∈ (delAll (delM m a) ids).map (·.1) ↔ _
    rw [h2 x, delM_keys m a x h, List.mem_cons, not_or, and_assoc]
theorem setM_len {α β : Type} [DecidableEq α] : ∀ (m : List (α × β)) (a : α) (u : β), (setM m a u).length ≤ m.length + 1
  | [], a, u => by simp [setM]
  | p :: m, a, u => by
    unfold setM
    split
    · simp
    · have := setM_len m a u
      simp only [List.length_cons]; omega
theorem putAll_len : ∀ (ids : List Int) (m : List (Int × Bool)), (putAll m ids).length ≤ m.length + ids.length
  | [], m => by simp [putAll]
  | a :: ids, m => by
    have h1 := putAll_len ids (setM m a true)
    have h2 := setM_len m a true
    show (putAll (setM m a true) ids).length ≤ _
    simp only [List.length_cons]; omega
theorem delAll_sub : ∀ (ids : List Int) (m : List (Int × Bool)), (delAll m ids).Sublist m
  | [], m => List.Sublist.refl _
  | a :: ids, m => (delAll_sub ids (delM m a)).trans (delM_sub m a)
theorem pend_nodup (l : List RRec) : ((delAll (putAll [] (sentIds l)) (goneIds l)).map (·.1)).Nodup := (delAll_ok _ _ (putAll_ok _ _ (by simp)).1).1
theorem pendM_mem {l : List RRec} {x : Int} : x ∈ pendM l ↔ x ∈ sentIds l ∧ x ∉ goneIds l := by
  unfold pendM
  rw [sortI_mem, (delAll_ok _ _ (putAll_ok _ _ (by simp)).1).2, (putAll_ok _ _ (by simp)).2]
  simp
theorem pendM_lt (l : List RRec) : (pendM l).Pairwise (· < ·) := sortI_lt (pend_nodup l)
theorem pendM_len (l : List RRec) : (pendM l).length ≤ (sentIds l).length := by
  unfold pendM
  rw [sortI_len, List.length_map]
  have h1 := (delAll_sub (goneIds l) (putAll [] (sentIds l))).length_le
  have h2 := putAll_len (sentIds l) []
  simp at h2; omega
theorem pend_app {a b : List RRec} {x : Int} (h : x ∈ pendM (a ++ b)) : x ∈ pendM a ∨ x ∈ pendM b := by
  rw [pendM_mem, sentIds_app, goneIds_app, List.mem_append, List.mem_append, not_or] at h
  obtain ⟨h1 | h1, h2, h3⟩ := h
  · exact .inl (pendM_mem.2 ⟨h1, h2⟩)
  · exact .inr (pendM_mem.2 ⟨h1, h3⟩)
theorem asked_app (a b : List RRec) : askedM (a ++ b) = askedM a ++ askedM b := by simp [askedM]
theorem sentN_app (a b : List RRec) : sentN (a ++ b) = sentN a + sentN b := by simp [sentN]
theorem lostN_app (a b : List RRec) : lostN (a ++ b) = lostN a + lostN b := by simp [lostN]
theorem gotN_app (a b : List RRec) : gotN (a ++ b) = gotN a + gotN b := List.countP_append
theorem verN_app (v : Int) (a b : List RRec) : verN v (a ++ b) = verN v a + verN v b := List.countP_append
theorem sentIds_len (l : List RRec) : (sentIds l).length = sentN l := by
  unfold sentIds sentN
  rw [List.length_flatMap]
  congr 1
  exact List.map_congr_left fun r _ => List.length_map _
theorem sentN_le {l : List RRec} {n : Nat} (h : ∀ r ∈ l, r.sent.length ≤ n) : sentN l ≤ l.length * n := by
  unfold sentN
  induction l with
  | nil => simp
  | cons a l ih =>
    have h1 := h a (by simp)
    have h2 := ih fun r hr => h r (by simp [hr])
    simp only [List.map_cons, List.sum_cons, List.length_cons, Nat.add_mul]; omega
theorem lostN_le {l : List RRec} {n : Nat} (h : ∀ r ∈ l, r.lost.length ≤ n) : lostN l ≤ l.length * n := by
  unfold lostN
  induction l with
  | nil => simp
  | cons a l ih =>
    have h1 := h a (by simp)
    have h2 := ih fun r hr => h r (by simp [hr])
    simp only [List.map_cons, List.sum_cons, List.length_cons, Nat.add_mul]; omega
theorem take_step {α : Type} {l : List α} {i : Nat} {x : α} (h : l[i]? = some x) : l.take (i + 1) = l.take i ++ [x] := by
  rw [List.take_add_one, h]; rfl

def boolV (b : Bool) : Value := .bool b
structure RSum where
  sent : Int
  got : Int
  lost : Int
  accepted : Int
  busy : Int
  invalid : Int
deriving DecidableEq
def sumM (l : List RRec) : RSum := ⟨(sentN l : Nat), (gotN l : Nat), (lostN l : Nat), (verN 3 l : Nat), (verN 2 l : Nat), (verN 1 l : Nat)⟩
def badR (r : RRec) : Bool := decide (20 < r.sent.length) || decide (20 < r.lost.length)
def greatR (l : List RRec) : Bool := decide (100 < l.length) || l.any badR
section
variable {l a b : List RRec} {i : Nat} {x : RRec} {c : Int}
theorem gr_yes (hx : l[i]? = some x) (h : 20 < x.sent.length ∨ 20 < x.lost.length) : true = greatR l := by
  have : l.any badR = true := List.any_eq_true.2 ⟨x, List.mem_of_getElem? hx, by unfold badR; simpa using h⟩
  unfold greatR; rw [this]; simp
theorem gr_end {q : Bool} (hi : (l.take i).any badR = false) (h : l.length ≤ i ∨ 100 < l.length) (hq : q = decide (((l.length : Nat) : Int) > 100)) : q = greatR l := by
  rw [hq]; unfold greatR
  rcases h with h | h
  · rw [List.take_of_length_le h] at hi
    rw [hi, Bool.or_false]
    congr 1
    exact propext ⟨fun h => by omega, fun h => by omega⟩
  · have h1 : ((l.length : Nat) : Int) > 100 := by omega
    simp [h, h1]
theorem gr_step (hi : (l.take i).any badR = false) (hx : l[i]? = some x) (h1 : ¬ 20 < x.sent.length) (h2 : ¬ 20 < x.lost.length) : (l.take (i + 1)).any badR = false := by
  rw [take_step hx, List.any_append, hi]
  unfold badR
  simp [h1, h2]
theorem gr_bounds (h : greatR l = false) : l.length ≤ 100 ∧ sentN l ≤ 2000 ∧ lostN l ≤ 2000 := by
  unfold greatR at h
  rw [Bool.or_eq_false_iff, decide_eq_false_iff_not, List.any_eq_false] at h
  obtain ⟨h1, h2⟩ := h
  have h3 : ∀ r ∈ l, r.sent.length ≤ 20 ∧ r.lost.length ≤ 20 := fun r hr => by
    have := h2 r hr
    unfold badR at this
    simp only [Bool.or_eq_true, decide_eq_true_eq, not_or] at this
    omega
  have h4 := sentN_le (n := 20) fun r hr => (h3 r hr).1
  have h5 := lostN_le (n := 20) fun r hr => (h3 r hr).2
  omega
theorem sent_step (h : c = ((sentN (l.take i) : Nat) : Int)) (hx : l[i]? = some x) : c + ((x.sent.length : Nat) : Int) = ((sentN (l.take (i + 1)) : Nat) : Int) := by
  rw [take_step hx, sentN_app, h]; simp [sentN]
theorem lost_step (h : c = ((lostN (l.take i) : Nat) : Int)) (hx : l[i]? = some x) : c + ((x.lost.length : Nat) : Int) = ((lostN (l.take (i + 1)) : Nat) : Int) := by
  rw [take_step hx, lostN_app, h]; simp [lostN]
theorem got_y (h : c = ((gotN (l.take i) : Nat) : Int)) (hx : l[i]? = some x) (hg : x.got ≥ 0) : c + 1 = ((gotN (l.take (i + 1)) : Nat) : Int) := by
  have : 0 ≤ x.got := hg
  rw [take_step hx, gotN_app, h]; simp [gotN, this]
theorem got_n (h : c = ((gotN (l.take i) : Nat) : Int)) (hx : l[i]? = some x) (hg : ¬ x.got ≥ 0) : c = ((gotN (l.take (i + 1)) : Nat) : Int) := by
  have : ¬ 0 ≤ x.got := hg
  rw [take_step hx, gotN_app, h]; simp [gotN, this]
theorem ver_y {v : Int} (h : c = ((verN v (l.take i) : Nat) : Int)) (hx : l[i]? = some x) (hg : x.verdict = v) : c + 1 = ((verN v (l.take (i + 1)) : Nat) : Int) := by
  rw [take_step hx, verN_app, h]; simp [verN, hg]
theorem ver_n {v : Int} (h : c = ((verN v (l.take i) : Nat) : Int)) (hx : l[i]? = some x) (hg : ¬ x.verdict = v) : c = ((verN v (l.take (i + 1)) : Nat) : Int) := by
  have : (x.verdict == v) = false := beq_eq_false_iff_ne.2 hg
  rw [take_step hx, verN_app, h]; simp [verN, this]
theorem take_split (hx : l[i]? = some x) : l = l.take i ++ x :: l.drop (i + 1) := by
  obtain ⟨h, rfl⟩ := List.getElem?_eq_some_iff.1 hx
  simp
theorem sum_le (hx : l[i]? = some x) : sentN (l.take i) + x.sent.length ≤ sentN l ∧ lostN (l.take i) + x.lost.length ≤ lostN l ∧ gotN (l.take i) ≤ i ∧ verN 3 (l.take i) ≤ i ∧ verN 2 (l.take i) ≤ i ∧ verN 1 (l.take i) ≤ i := by
  have h1 : sentN l = sentN (l.take i) + sentN (x :: l.drop (i + 1)) := by rw [← sentN_app, ← take_split hx]
  have h2 : lostN l = lostN (l.take i) + lostN (x :: l.drop (i + 1)) := by rw [← lostN_app, ← take_split hx]
  have h3 : sentN (x :: l.drop (i + 1)) = x.sent.length + sentN (l.drop (i + 1)) := rfl
  have h4 : lostN (x :: l.drop (i + 1)) = x.lost.length + lostN (l.drop (i + 1)) := rfl
  have h5 : (l.take i).length ≤ i := by rw [List.length_take]; omega
  have c1 := List.countP_le_length (p := fun r : RRec => decide (0 ≤ r.got)) (l := l.take i)
  have c2 : ∀ v : Int, verN v (l.take i) ≤ (l.take i).length := fun v => List.countP_le_length
  have := c2 3; have := c2 2; have := c2 1
  unfold gotN
  omega
theorem sum_rng (l : List RRec) : (sumM l).sent = ((sentN l : Nat) : Int) ∧ (sumM l).lost = ((lostN l : Nat) : Int) ∧ 0 ≤ (sumM l).got ∧ (sumM l).got ≤ l.length ∧ 0 ≤ (sumM l).accepted ∧ (sumM l).accepted ≤ l.length ∧ 0 ≤ (sumM l).busy ∧ (sumM l).busy ≤ l.length ∧ 0 ≤ (sumM l).invalid ∧ (sumM l).invalid ≤ l.length := by
  have c1 := List.countP_le_length (p := fun r : RRec => decide (0 ≤ r.got)) (l := l)
  have c2 : ∀ v : Int, verN v l ≤ l.length := fun v => List.countP_le_length
  have := c2 3; have := c2 2; have := c2 1
  refine ⟨rfl, rfl, ?_, ?_, ?_, ?_, ?_, ?_, ?_, ?_⟩ <;> unfold sumM <;> simp only <;> (try unfold gotN) <;> omega
theorem sum_end {c0 c1 c2 c3 c4 c5 : Int} (h0 : c0 = ((sentN (l.take i) : Nat) : Int)) (h1 : c1 = ((gotN (l.take i) : Nat) : Int)) (h2 : c2 = ((lostN (l.take i) : Nat) : Int)) (h3 : c3 = ((verN 3 (l.take i) : Nat) : Int)) (h4 : c4 = ((verN 2 (l.take i) : Nat) : Int)) (h5 : c5 = ((verN 1 (l.take i) : Nat) : Int)) (hi : l.length ≤ i) : RSum.mk c0 c1 c2 c3 c4 c5 = sumM l := by
  rw [List.take_of_length_le hi] at h0 h1 h2 h3 h4 h5
  subst h0 h1 h2 h3 h4 h5; rfl
theorem sum_app (a b : List RRec) : sumM (a ++ b) = ⟨(sumM a).sent + (sumM b).sent, (sumM a).got + (sumM b).got, (sumM a).lost + (sumM b).lost, (sumM a).accepted + (sumM b).accepted, (sumM a).busy + (sumM b).busy, (sumM a).invalid + (sumM b).invalid⟩ := by
  unfold sumM
  simp [sentN_app, gotN_app, lostN_app, verN_app]
theorem asked_y {o : List Int} (h : o = askedM (l.take i)) (hx : l[i]? = some x) (hv : x.verdict = 3) : o ++ [x.id] = askedM (l.take (i + 1)) := by
  rw [take_step hx, asked_app, h]; simp [askedM, hv]
theorem asked_n {o : List Int} (h : o = askedM (l.take i)) (hx : l[i]? = some x) (hv : ¬ x.verdict = 3) : o = askedM (l.take (i + 1)) := by
  have : (x.verdict == 3) = false := beq_eq_false_iff_ne.2 hv
  rw [take_step hx, asked_app, h]; simp [askedM, this]
theorem asked_len (l : List RRec) : (askedM l).length ≤ l.length := by
  unfold askedM; rw [List.length_map]; exact List.length_filter_le _ _
theorem put_in {m m2 : List (Int × Bool)} {sl : List RSent} {j : Nat} {y : RSent} (h : m2 = putAll m ((sl.take j).map (·.id))) (hy : sl[j]? = some y) : setM m2 y.id true = putAll m ((sl.take (j + 1)).map (·.id)) := by
  rw [take_step hy, List.map_append, putAll_app, ← h]; rfl
theorem put_out {m m2 : List (Int × Bool)} {j : Nat} (hm : m = putAll [] (sentIds (l.take i))) (h : m2 = putAll m ((x.sent.take j).map (·.id))) (hx : l[i]? = some x) (hj : x.sent.length ≤ j) : m2 = putAll [] (sentIds (l.take (i + 1))) := by
  rw [List.take_of_length_le hj] at h
  rw [take_step hx, sentIds_app, putAll_app, ← hm, h]
  simp [sentIds]
theorem del_in {m m2 : List (Int × Bool)} {g : Int} {sl : List Int} {j : Nat} {y : Int} (h : m2 = delAll (delM m g) (sl.take j)) (hy : sl[j]? = some y) : delM m2 y = delAll (delM m g) (sl.take (j + 1)) := by
  rw [take_step hy, delAll_app, ← h]; rfl
theorem del_out {m0 m m2 : List (Int × Bool)} {j : Nat} (hm : m = delAll m0 (goneIds (l.take i))) (h : m2 = delAll (delM m x.got) (x.lost.take j)) (hx : l[i]? = some x) (hj : x.lost.length ≤ j) : m2 = delAll m0 (goneIds (l.take (i + 1))) := by
  rw [List.take_of_length_le hj] at h
  rw [take_step hx, goneIds_app, delAll_app, ← hm, h]
  simp [goneIds, delAll]
theorem put_all {m : List (Int × Bool)} (hm : m = putAll [] (sentIds (l.take i))) (hi : l.length ≤ i) : m = putAll [] (sentIds l) := by
  rw [List.take_of_length_le hi] at hm; exact hm
theorem del_all {m0 m : List (Int × Bool)} (hm : m = delAll m0 (goneIds (l.take i))) (hi : l.length ≤ i) : m = delAll m0 (goneIds l) := by
  rw [List.take_of_length_le hi] at hm; exact hm
/-- what the last map holds -/
theorem pend_ok {m : List (Int × Bool)} (hm : m = delAll (putAll [] (sentIds l)) (goneIds l)) (hid : ∀ r ∈ l, RecN r) (hs : sentN l ≤ 1000000) : (∀ p ∈ m, I64 p.1) ∧ m.length ≤ 1000000 ∧ sortI (m.map (·.1)) = pendM l := by
  refine ⟨fun p hp => ?_, ?_, by rw [hm]; rfl⟩
  · have h1 : p.1 ∈ (putAll [] (sentIds l)).map (·.1) := List.mem_map.2 ⟨p, (delAll_sub _ _).subset (hm ▸ hp), rfl⟩
    rw [(putAll_ok _ _ (by simp)).2] at h1
    simp only [List.map_nil, List.not_mem_nil, false_or] at h1
    unfold sentIds at h1
    obtain ⟨r, hr, h2⟩ := List.mem_flatMap.1 h1
    obtain ⟨s, hs, h3⟩ := List.mem_map.1 h2
    rw [← h3]; exact ((hid r hr).sent s hs).id
  · have h1 := (delAll_sub (goneIds l) (putAll [] (sentIds l))).length_le
    have h2 := putAll_len (sentIds l) []
    rw [← hm] at h1
    rw [sentIds_len] at h2
    simp at h2; omega
end
theorem rec_all {w0 w : World} {l : List RRec} (h : ∀ r ∈ l, RecD w0 (Iv 0 w0.heap.size) r) (hm : Ext w0 w) : ∀ r ∈ l, RecD w (Iv 0 w.heap.size) r := fun r hr => (h r hr).iv hm
theorem rec_both {w0 w : World} {a b : List RRec} (ha : ∀ r ∈ a, RecD w0 (Iv 0 w0.heap.size) r) (hb : ∀ r ∈ b, RecD w0 (Iv 0 w0.heap.size) r) (hm : Ext w0 w) : ∀ r ∈ ([] ++ a) ++ b, RecD w (Iv 0 w.heap.size) r := fun r hr => by
  rw [List.nil_append, List.mem_append] at hr
  exact hr.elim (fun h => (ha r h).iv hm) fun h => (hb r h).iv hm
theorem recN_both {a b : List RRec} (ha : ∀ r ∈ a, RecN r) (hb : ∀ r ∈ b, RecN r) : ∀ r ∈ ([] ++ a) ++ b, RecN r := fun r hr => by
  rw [List.nil_append, List.mem_append] at hr
  exact hr.elim (ha r) (hb r)
theorem sent_both {a b : List RRec} {n m : Nat} (ha : sentN a ≤ n) (hb : sentN b ≤ m) (h : n + m ≤ 1000000) : sentN (([] ++ a) ++ b) ≤ 1000000 := by rw [List.nil_append, sentN_app]; omega
theorem lost_both {a b : List RRec} {n m : Nat} (ha : lostN a ≤ n) (hb : lostN b ≤ m) (h : n + m ≤ 1000000) : lostN (([] ++ a) ++ b) ≤ 1000000 := by rw [List.nil_append, lostN_app]; omega
theorem pend_both {a b : List RRec} {i : Nat} {x : Int} (hx : (pendM (([] ++ a) ++ b))[i]? = some x) : x ∈ pendM a ∨ x ∈ pendM b := by
  rw [List.nil_append] at hx
  exact pend_app (List.mem_of_getElem? hx)
theorem pend_next {l : List RRec} {i : Nat} {x y : Int} (hx : (pendM l)[i - 1]? = some x) (hy : (pendM l)[i]? = some y) (hi : 0 < i) : x < y := by
  obtain ⟨h1, rfl⟩ := List.getElem?_eq_some_iff.1 hx
  obtain ⟨h2, rfl⟩ := List.getElem?_eq_some_iff.1 hy
  exact List.pairwise_iff_getElem.1 (pendM_lt l) (i - 1) i h1 h2 (by omega)
theorem in_more {l : List Int} {k : Nat} {x y : Int} {q : Bool} (h : q = decide (x ∈ l.take k)) (hy : l[k]? = some y) {q' : Bool} (hq : q' = (q || (y == x))) : q' = decide (x ∈ l.take (k + 1)) := by
  rw [hq, h, take_step hy]
  by_cases h1 : x ∈ l.take k
  · simp [h1]
  · by_cases h2 : y = x
    · subst h2; simp
    · have : ¬ x = y := fun e => h2 e.symm
      simp [h1, h2, this]
theorem in_more2 {p : Prop} [Decidable p] {l : List Int} {k : Nat} {x y : Int} {q : Bool} (h : q = decide (p ∨ x ∈ l.take k)) (hy : l[k]? = some y) {q' : Bool} (hq : q' = (q || (y == x))) : q' = decide (p ∨ x ∈ l.take (k + 1)) := by
  rw [hq, h, take_step hy]
  by_cases h0 : p
  · simp [h0]
  · by_cases h1 : x ∈ l.take k
    · simp [h1]
    · by_cases h2 : y = x
      · subst h2; simp
      · have : ¬ x = y := fun e => h2 e.symm
        simp [h0, h1, h2, this]
theorem in_true {l : List Int} {k : Nat} {x : Int} (h : true = decide (x ∈ l.take k)) : true = decide (x ∈ l.take (k + 1)) := by
  have h1 := of_decide_eq_true h.symm
  exact (decide_eq_true ((List.take_subset_take_left l (Nat.le_succ k)) h1)).symm
theorem in_true2 {p : Prop} [Decidable p] {l : List Int} {k : Nat} {x : Int} (h : true = decide (p ∨ x ∈ l.take k)) : true = decide (p ∨ x ∈ l.take (k + 1)) := by
  have h1 := of_decide_eq_true h.symm
  exact (decide_eq_true (h1.imp id fun h => (List.take_subset_take_left l (Nat.le_succ k)) h)).symm
theorem sortI_one (x : Int) : sortI [x] = [x] := by simp [sortI]
theorem lit_rec {w : World} {F : Nat → Prop} {x y : RRec} (h1 : Sl encSent w F x.sh.val x.sent) (h2 : Sl encI w F x.lh.val x.lost) (h3 : Sl encSent w F y.sh.val y.sent) (h4 : Sl encI w F y.lh.val y.lost) : ∀ r ∈ [x, y], RecD w F r := fun r hr => by
  simp only [List.mem_cons, List.not_mem_nil, or_false] at hr
  rcases hr with rfl | rfl
  · exact ⟨h1, h2⟩
  · exact ⟨h3, h4⟩
section
variable (h1 h2 h3 h4 : SH)
/-- the records of 'awake' -/
abbrev litR : List RRec := [RRec.mk 0 0 0 0 [] 0 0 0 0 h1 (-1) h2 [RSent.mk 0 0 1, RSent.mk 1 0 1] [], RRec.mk 0 0 0 0 [] 0 0 3 1 h3 0 h4 [] []]
theorem lit_pend : pendM (litR h1 h2 h3 h4) = [1] := by
  unfold pendM
  have : (delAll (putAll [] (sentIds (litR h1 h2 h3 h4))) (goneIds (litR h1 h2 h3 h4))).map (·.1) = [1] := rfl
  rw [this, sortI_one]
theorem lit_sum : sumM (litR h1 h2 h3 h4) = RSum.mk 2 1 0 1 0 0 := rfl
theorem lit_asked : askedM (litR h1 h2 h3 h4) = [1] := rfl
theorem lit_sent : sentN (litR h1 h2 h3 h4) = 2 := rfl
theorem lit_lost : lostN (litR h1 h2 h3 h4) = 0 := rfl
theorem lit_recN : ∀ r ∈ litR h1 h2 h3 h4, RecN r := fun r hr => by
  simp only [List.mem_cons, List.not_mem_nil, or_false] at hr
  rcases hr with rfl | rfl
  · refine ⟨by show I64 0; decide, by show I64 (-1); decide, by show I64 0; decide, fun s hs => ?_, by simp⟩
    simp only [List.mem_cons, List.not_mem_nil, or_false] at hs
    rcases hs with rfl | rfl <;> exact ⟨by unfold I64; simp, by unfold I64; simp, by unfold I64; simp⟩
  · exact ⟨by show I64 1; decide, by show I64 0; decide, by show I64 3; decide, by simp, by simp⟩
end
end Go.Ik
/-
  Conversions between bytes, runes and texts; quotients of runes.
-/
set_option linter.unusedVariables false
set_option linter.unusedSimpArgs false
set_option linter.unusedSectionVars false
namespace Go.Ik
open Go

section
variable {P : Program} {E : Env} {C : World → Prop} {d : Option Tmp} {ty : TypeId} {pos : String} {af : Array Edge} {gd : Option (Nat × Bool)} {w : World} {K : Value → World → Prop}
theorem Q1.quo32 {x y : Operand} {xt yt : TypeId} {p q : Int} (r : Int) (hx : ev E x = some (.int .i32 p)) (hy : ev E y = some (.int .i32 q)) (hr : 0 ≤ p ∧ p ≤ 2147483647 ∧ 1 ≤ q ∧ p / q = r) : Q1 P ⟨d, .binOp .quo xt x y yt, ty, pos, af, gd⟩ E C (.int .i32 r) := by
  have h := Q1.quo (P := P) (C := C) (d := d) (xt := xt) (yt := yt) (ty := ty) (pos := pos) (af := af) (gd := gd) hx hy (by omega)
  have e : IntKind.i32.wrap (p.tdiv q) = r := by
    rw [Int.tdiv_eq_ediv_of_nonneg hr.1, hr.2.2.2]
    have h0 := Int.ediv_nonneg hr.1 (by omega : 0 ≤ q)
    have h1 := Int.ediv_le_self q hr.1
    exact IntWalk.i32_in _ (by omega)
  rw [e] at h; exact h
theorem row_byte {b off : Nat} {l : Str} (hr : Row w b off (l.flatMap encB)) (j : Nat) (hj : j < l.length) : w.cell? ((⟨b, off, none⟩ : Addr).add j) = some (.int .u8 (l[j].toNat : Int)) := by
  have hf : l.flatMap encB = l.map fun c => Value.int .u8 (c.toNat : Int) := by
    clear hr hj
    induction l with
    | nil => rfl
    | cons a l ih => simp [encB, ih]
  rw [add_lit]
  exact hr.cell j _ (by rw [hf, List.getElem?_map, List.getElem?_eq_getElem hj]; rfl)
theorem AW.bytesStr {s t e : TypeId} {x : Operand} {v : Value} {F : Nat → Prop} {l : Str} (hs : P.underlying s = some (.slice e)) (he : P.underlying e = some (.int .u8)) (ht : P.underlying t = some .string) (hx : ev E x = some v) (h : Sl encB w F v l) (hK : K (strV l) w) :
    AW P ⟨d, .convert s t x, ty, pos, af, gd⟩ E w K := fun a ha => by
  obtain ⟨ad, cap, rfl, h2, h3, h4⟩ := h
  have hr : (convert s t (.slice ad l.length cap)).run P w = .ok (strV l) w := by
    rcases h4 with rfl | ⟨b, off, rfl, _, hr⟩
    · show (convert s t (.slice ad 0 cap)).run P w = _
      rw [run_convert_bytes_string w s t e ad 0 cap hs he ht]
      cases ad <;> simp [Conv.bytesToString, loadCells, loadCellsFrom, strV] <;> rfl
    · exact run_convert_bytes_back w s t e _ cap l hs he ht (row_byte hr)
  simp [execOp, ha.ev hx, hr, out]
  exact hK
end
end Go.Ik
namespace Go.Ik
open Go
/-- a byte out of a number -/
def byN (n : Int) : UInt8 := UInt8.ofNat (n % 256).toNat
theorem byN_toNat (n : Int) : ((byN n).toNat : Int) = n % 256 := by
  have h0 := Int.emod_nonneg n (by omega : (256 : Int) ≠ 0)
  have h1 := Int.emod_lt_of_pos n (by omega : (0 : Int) < 256)
  unfold byN
  rw [UInt8.toNat_ofNat']
  omega
theorem byN_nat (n : Nat) : byN (n : Int) = UInt8.ofNat n := by
  apply UInt8.toNat_inj.1
  have := byN_toNat (n : Int)
  rw [UInt8.toNat_ofNat']
  omega
section
variable {P : Program} {E : Env} {C : World → Prop} {d : Option Tmp} {ty : TypeId} {pos : String} {af : Array Edge} {gd : Option (Nat × Bool)} {w : World} {K : Value → World → Prop}
theorem Q1.convB {s t : TypeId} {x : Operand} {k : IntKind} {p : Int} (hs : (P.underlying s).isSome = true) (ht : P.underlying t = some (.int .u8)) (hx : ev E x = some (.int k p)) : Q1 P ⟨d, .convert s t x, ty, pos, af, gd⟩ E C (.int .u8 ((byN p).toNat : Int)) := by
  have h := Q1.convI (P := P) (C := C) (d := d) (ty := ty) (pos := pos) (af := af) (gd := gd) hs ht hx
  have e : IntKind.u8.wrap p = ((byN p).toNat : Int) := by rw [byN_toNat, IntKind.wrap_u8]
  rw [e] at h; exact h
end
end Go.Ik
namespace Go.Ik
open Go
section
variable {P : Program} {E : Env} {C : World → Prop} {d : Option Tmp} {ty : TypeId} {pos : String} {af : Array Edge} {gd : Option (Nat × Bool)} {w : World} {K : Value → World → Prop}
theorem runes_fold : ∀ (ns : List Int) (s : ByteArray), (ns.foldl (fun r n => r ++ Utf8.encode n) s).data.toList = s.data.toList ++ ns.flatMap encR
  | [], s => by simp
  | n :: ns, s => by
    rw [List.foldl_cons, runes_fold ns]
    simp [encR, ByteArray.data_append]
theorem AW.runesStr {s t e : TypeId} {x : Operand} {v : Value} {F : Nat → Prop} {l : List Int} (hs : P.underlying s = some (.slice e)) (he : P.underlying e = some (.int .i32)) (ht : P.underlying t = some .string) (hx : ev E x = some v) (h : Sl encRn w F v l) (hK : K (strV (l.flatMap encR)) w) :
    AW P ⟨d, .convert s t x, ty, pos, af, gd⟩ E w K := fun a ha => by
  obtain ⟨ad, cap, rfl, h2, h3, h4⟩ := h
  have hr : (convert s t (.slice ad l.length cap)).run P w = .ok (strV (l.flatMap encR)) w := by
    rcases h4 with rfl | ⟨b, off, rfl, _, hr⟩
    · show (convert s t (.slice ad 0 cap)).run P w = _
      rw [run_convert_runes_string w s t e ad 0 cap hs he ht]
      cases ad <;> simp [Conv.runesToString, loadCells, loadCellsFrom, strV] <;> rfl
    · rw [run_convert_runes_string w s t e _ _ cap hs he ht]
      have hf : l.flatMap encRn = l.map (Value.int .i32) := by
        clear hr h2 hx hK
        induction l with
        | nil => rfl
        | cons a l ih => simp [encRn, ih]
      have hl := run_loadCells_list (P := P) w ⟨b, off, none⟩ (l.map (Value.int .i32)) (fun j u hu => by
        rw [add_lit]; exact hr.cell j u (by rw [hf]; exact hu))
      rw [List.length_map] at hl
      rw [run_runesToString w _ l.length cap l hl]
      congr 1
      unfold strV
      congr 1
      apply ByteArray.ext
      apply Array.ext'
      have := runes_fold l ByteArray.empty
      unfold runesBytes
      rw [this]
      simp
  simp [execOp, ha.ev hx, hr, out]
  exact hK
end
end Go.Ik
/-
  Quiet operations on bits: 32 and 64 of them.
-/
set_option linter.unusedVariables false
set_option linter.unusedSimpArgs false
namespace Go.Ik
open Go
theorem xor_lt32 {a b : Nat} (ha : a < 4294967296) (hb : b < 4294967296) : a ^^^ b < 4294967296 := Nat.xor_lt_two_pow (n := 32) ha hb
theorem not32 {a : Nat} (ha : a < 4294967296) : 4294967295 ^^^ a = 4294967295 - a := by
  have h : (4294967295 ^^^ a) = (BitVec.ofNat 32 4294967295 ^^^ BitVec.ofNat 32 a).toNat := by
    rw [BitVec.toNat_xor, BitVec.toNat_ofNat, BitVec.toNat_ofNat, Nat.mod_eq_of_lt (by omega : a < 2 ^ 32)]
  have h2 : BitVec.ofNat 32 4294967295 = BitVec.allOnes 32 := rfl
  rw [h, h2, BitVec.allOnes_xor, BitVec.toNat_not, BitVec.toNat_ofNat, Nat.mod_eq_of_lt (by omega : a < 2 ^ 32)]
theorem or_byte {a b : Nat} (hb : b < 256) : a * 256 ||| b = a * 256 + b := by
  have := Nat.shiftLeft_add_eq_or_of_lt (i := 8) (b := b) (by omega) a
  rw [Nat.shiftLeft_eq] at this
  exact this.symm
section
variable {P : Program} {E : Env} {C : World → Prop} {d : Option Tmp} {ty : TypeId} {pos : String} {af : Array Edge} {gd : Option (Nat × Bool)} {xt yt : TypeId} {x y : Operand}
theorem Q1.xor32 {a b : Nat} (hx : ev E x = some (.int .u32 (a : Int))) (hy : ev E y = some (.int .u32 (b : Int))) (ha : a < 4294967296) (hb : b < 4294967296) : Q1 P ⟨d, .binOp .xor xt x y yt, ty, pos, af, gd⟩ E C (.int .u32 ((a ^^^ b : Nat) : Int)) := fun s hs w _ => by
  have h := u32_xor_nat a b ha hb
  simp [execOp, hs.ev hx, hs.ev hy, eqGuard, Go.binOp, intBits_xor, h]
theorem Q1.xor8 {a b : UInt8} (hx : ev E x = some (.int .u8 (a.toNat : Int))) (hy : ev E y = some (.int .u8 (b.toNat : Int))) : Q1 P ⟨d, .binOp .xor xt x y yt, ty, pos, af, gd⟩ E C (.int .u8 ((a ^^^ b).toNat : Int)) := fun s hs w _ => by
  have h := u8_xor_nat a.toNat b.toNat a.toNat_lt b.toNat_lt
  rw [← UInt8.toNat_xor] at h
  simp [execOp, hs.ev hx, hs.ev hy, eqGuard, Go.binOp, intBits_xor, h]
theorem Q1.addU {p q : Int} (r : Int) (hx : ev E x = some (.int .u64 p)) (hy : ev E y = some (.int .u64 q)) (hr : p + q = r ∧ 0 ≤ r ∧ r ≤ 18446744073709551615) : Q1 P ⟨d, .binOp .add xt x y yt, ty, pos, af, gd⟩ E C (.int .u64 r) := by
  have h := Q1.add (P := P) (C := C) (d := d) (xt := xt) (yt := yt) (ty := ty) (pos := pos) (af := af) (gd := gd) hx hy
  rw [IntWalk.u64_in _ (by omega), hr.1] at h; exact h
theorem Q1.and1 {a : Nat} (hx : ev E x = some (.int .u32 (a : Int))) (hy : ev E y = some (.int .u32 1)) (ha : a < 4294967296) : Q1 P ⟨d, .binOp .and xt x y yt, ty, pos, af, gd⟩ E C (.int .u32 ((a % 2 : Nat) : Int)) := fun s hs w _ => by
  have h := u32_and_nat a 1 ha (by omega)
  rw [Nat.and_one_is_mod] at h
  have h' : bits .and .u32 (a : Int) 1 = ((a % 2 : Nat) : Int) := h
  simp [execOp, hs.ev hx, hs.ev hy, eqGuard, Go.binOp, intBits_and, h']
theorem Q1.orB {a b : Nat} (hx : ev E x = some (.int .u64 ((a * 256 : Nat) : Int))) (hy : ev E y = some (.int .u64 (b : Int))) (ha : a * 256 < 18446744073709551616) (hb : b < 256) : Q1 P ⟨d, .binOp .or xt x y yt, ty, pos, af, gd⟩ E C (.int .u64 ((a * 256 + b : Nat) : Int)) := fun s hs w _ => by
  have h := u64_or_nat (a * 256) b ha (by omega)
  rw [or_byte hb] at h
  simp [execOp, hs.ev hx, hs.ev hy, eqGuard, Go.binOp, intBits_or]
  simpa using h
theorem Q1.not32 {a : Nat} (hx : ev E x = some (.int .u32 (a : Int))) (ha : a < 4294967296) : Q1 P ⟨d, .unOp .xor xt x, ty, pos, af, gd⟩ E C (.int .u32 ((4294967295 - a : Nat) : Int)) := fun s hs w _ => by
  have h := u32_xor_nat 4294967295 a (by omega) ha
  rw [Ik.not32 ha] at h
  have h' : bits .xor .u32 4294967295 (a : Int) = ((4294967295 - a : Nat) : Int) := h
  simp [execOp, hs.ev hx, Op.unary, intBits_xor, IntKind.signed, IntKind.max]
  exact h'
theorem Q1.shrN {k k' : IntKind} {p m : Int} (n : Nat) (hx : ev E x = some (.int k p)) (hy : ev E y = some (.int k' m)) (hm : m = (n : Int)) (hn : n ≤ k.bits) : Q1 P ⟨d, .binOp .shr xt x y yt, ty, pos, af, gd⟩ E C (.int k (p / 2 ^ n)) := fun s hs w _ => by
  subst hm
  have h := shift_shr k k' p (n : Int) (by omega) (by omega)
  simp [execOp, hs.ev hx, hs.ev hy, eqGuard, Go.binOp, h]
theorem Q1.subU32 {a b : Nat} (hx : ev E x = some (.int .u32 (a : Int))) (hy : ev E y = some (.int .u32 (b : Int))) (hb : b ≤ a) (ha : a < 4294967296) : Q1 P ⟨d, .binOp .sub xt x y yt, ty, pos, af, gd⟩ E C (.int .u32 ((a - b : Nat) : Int)) := by
  have h := Q1.sub (P := P) (C := C) (d := d) (xt := xt) (yt := yt) (ty := ty) (pos := pos) (af := af) (gd := gd) hx hy
  rw [IntWalk.u32_in _ (by omega), show (a : Int) - (b : Int) = ((a - b : Nat) : Int) from by omega] at h; exact h
theorem Q1.shl8 {k' : IntKind} {a : Nat} (hx : ev E x = some (.int .u64 (a : Int))) (hy : ev E y = some (.int k' 8)) (ha : a * 256 < 18446744073709551616) : Q1 P ⟨d, .binOp .shl xt x y yt, ty, pos, af, gd⟩ E C (.int .u64 ((a * 256 : Nat) : Int)) := fun s hs w _ => by
  have h := shift_shl .u64 k' (a : Int) 8 (by omega) (by decide)
  have e : IntKind.u64.wrap ((a : Int) * 2 ^ (8 : Int).toNat) = ((a * 256 : Nat) : Int) := by
    rw [IntKind.wrap_u64]
    have : ((a : Int) * 2 ^ (8 : Int).toNat) = ((a * 256 : Nat) : Int) := by simp
    rw [this]; omega
  rw [e] at h
  simp [execOp, hs.ev hx, hs.ev hy, eqGuard, Go.binOp, h]
theorem Q1.quoU32 {a : Nat} (b : Nat) (hx : ev E x = some (.int .u32 (a : Int))) (hy : ev E y = some (.int .u32 (b : Int))) (hb : b ≠ 0) (ha : a < 4294967296) : Q1 P ⟨d, .binOp .quo xt x y yt, ty, pos, af, gd⟩ E C (.int .u32 ((a / b : Nat) : Int)) := by
  have h := Q1.quo (P := P) (C := C) (d := d) (xt := xt) (yt := yt) (ty := ty) (pos := pos) (af := af) (gd := gd) hx hy (by omega)
  have e : IntKind.u32.wrap ((a : Int).tdiv (b : Int)) = ((a / b : Nat) : Int) := by
    rw [Int.tdiv_eq_ediv_of_nonneg (by omega), ← Int.natCast_ediv]
    have := Nat.div_le_self a b
    generalize a / b = q at *
    exact IntWalk.u32_in _ (by omega)
  rw [e] at h; exact h
end
end Go.Ik
namespace Go.Ik
open Go
section
variable {P : Program} {E : Env} {d : Option Tmp} {ty : TypeId} {pos : String} {af : Array Edge} {gd : Option (Nat × Bool)} {w : World} {K : Value → World → Prop}
/-- bytes taken for bytes of their own type: their block bears a mark from now on -/
theorem AW.convSl {s e e' : TypeId} {x : Operand} {b n c : Nat} {cs : List Value} (hs : P.underlying s = some (.slice e)) (he : P.underlying e = some (.int .u8)) (hx : ev E x = some (.slice (some ⟨b, 0, none⟩) n c)) (hb : Bk w b cs e')
    (hK : ∀ w', Mod (Mg (b + 1)) w w' → w'.heap.size = w.heap.size → Row w' b 0 cs → K (.slice (some ⟨b, 0, none⟩) n c) w') : AW P ⟨d, .convert s s x, ty, pos, af, gd⟩ E w K := fun a ha => by
  have hsh : w.shape? b = some (e', cs.length) := by
    unfold World.shape?
    rw [show w.heap[b]? = some (.cells cs.toArray e' (0, 0)) from hb]
    simp
  have hr : (convert s s (.slice (some ⟨b, 0, none⟩) n c)).run P w = .ok (.slice (some ⟨b, 0, none⟩) n c) (w.freeze ⟨b, cs.length, none⟩ 1) := by
    simp [convert, run_underlying hs, run_underlying he, markStringish, hsh]
  have hh : (w.freeze ⟨b, cs.length, none⟩ 1).heap[b]? = some (.cells cs.toArray e' (cs.length, cs.length + 1)) := by
    unfold World.freeze
    rw [if_neg (by decide)]
    simp only [Array.getElem?_modify, if_true]
    rw [show w.heap[b]? = some (.cells cs.toArray e' (0, 0)) from hb]
    rfl
  simp [execOp, ha.ev hx, hr, out]
  refine hK _ ⟨rfl, rfl, rfl, ?_, ?_⟩ ?_ ?_
  · unfold World.freeze
    rw [if_neg (by decide)]
    simp
  · intro b' o ho hn
    unfold World.freeze
    rw [if_neg (by decide)]
    simp only [Array.getElem?_modify]
    rw [if_neg (fun e => hn (by unfold Mg; omega))]
    exact ho
  · unfold World.freeze
    rw [if_neg (by decide)]
    simp
  · intro i v hv
    unfold World.cell?
    simp only [Option.isSome_none, Bool.false_eq_true, if_false]
    rw [hh]
    simpa using hv
end
theorem Sl.of_row {α : Type} {enc : α → List Value} {w : World} {b : Nat} {l : List α} (h : Row w b 0 (l.flatMap enc)) (n : Nat) (hn : n = l.length) (hm : n ≤ maxLen) : Sl enc w (Iv b (b + 1)) (.slice (some ⟨b, 0, none⟩) n n) l :=
  ⟨some ⟨b, 0, none⟩, n, by rw [hn], by omega, hm, .inr ⟨b, 0, rfl, ⟨Nat.le_refl _, by omega⟩, h⟩⟩
end Go.Ik
