/-
  Slices that are made and written: rows of zeros, elements stored, spare room that is lent.
-/
import Derived.Test.YtajedfbogchkcaaIk7
import Derived.Laws.MakeOwn
set_option linter.unusedVariables false
set_option linter.unusedSimpArgs false
namespace Go.Ik
open Go

section
variable {α : Type} {enc : α → List Value} {e : TypeId} {sz : Nat} {w : World} {g : Nat} {v : Value} {l : List α}

theorem flat_set (hsz : ∀ x, (enc x).length = sz) : ∀ (l : List α) (i : Nat) (x : α) (h : i < l.length), (l.set i x).flatMap enc = (l.flatMap enc).take (i * sz) ++ enc x ++ (l.flatMap enc).drop (i * sz + sz)
  | y :: l, 0, x, _ => by
    have e1 : (enc y ++ l.flatMap enc).drop sz = l.flatMap enc := by rw [← hsz y]; exact List.drop_left
    simp only [List.set_cons_zero, List.flatMap_cons, Nat.zero_mul, List.take_zero, List.nil_append, Nat.zero_add, e1]
  | y :: l, i + 1, x, h => by
    have ih := flat_set hsz l i x (by simpa using h)
    have e1 : (i + 1) * sz = (enc y).length + i * sz := by rw [hsz, Nat.add_mul]; omega
    have e2 : (i + 1) * sz + sz = (enc y).length + (i * sz + sz) := by rw [e1, Nat.add_assoc]
    simp only [List.set_cons_succ, List.flatMap_cons]
    rw [e1, Nat.add_assoc, List.take_append, List.drop_append, List.take_of_length_le (by omega), List.drop_of_length_le (by omega), Nat.add_sub_cancel_left, Nat.add_sub_cancel_left, ih]
    simp

/-- where an element of an own slice lies -/
theorem Acc.at (h : Acc enc e sz w g v l) {P : Program} {t : TypeId} {by_ : Nat} {gg : Bool} {z : List Value} (ht : P.underlying t = some (.slice e)) (he : tyI P e = some (gg, sz, by_, z)) {k : IntKind} {n : Int} (i : Nat) (hn : n = (i : Int)) (hi : i < l.length) :
    (∀ w, (Instr.indexAt t v (.int k n)).run P w = .ok (ptr (g - 1) (i * sz)) w) ∧ ∃ x, l[i]? = some x := by
  rcases h with ⟨_, rfl, _⟩ | ⟨b, cap, cur, rfl, rfl, h2, h3, h4, h5, h6⟩
  · simp at hi
  · refine ⟨fun w => ?_, l[i], by simp [hi]⟩
    have h0 : (0 : Int) ≤ n ∧ n < (l.length : Int) := by omega
    have e1 : n.toNat = i := by omega
    simp [Instr.indexAt, asIntOf, run_underlying ht, h0, run_sizeOf he, add_lit, ptr, e1]

theorem Acc.row (h : Acc enc e sz w g v l) (hsz : ∀ x, (enc x).length = sz) {i : Nat} {x : α} (hx : l[i]? = some x) : Row w (g - 1) (i * sz) (enc x) := by
  obtain ⟨hi, rfl⟩ := List.getElem?_eq_some_iff.1 hx
  rcases h with ⟨_, rfl, _⟩ | ⟨b, cap, cur, rfl, rfl, h2, h3, h4, h5, h6⟩
  · simp at hi
  · intro j u hu
    have hf := (flat_at hsz l i hi).1
    rw [Nat.add_sub_cancel, cell_of_row w b (i * sz + j) cur e (0, 0) h2]
    rw [← hf, ← h6, List.getElem?_take] at hu
    split at hu
    · rw [List.getElem?_drop, List.getElem?_take] at hu
      split at hu
      · simpa using hu
      · cases hu
    · cases hu

/-- a part of an element of an own slice is written -/
theorem AW.storeA {P : Program} {E : Env} {d : Option Tmp} {ty : TypeId} {pos : String} {af : Array Edge} {gd : Option (Nat × Bool)} {K : Value → World → Prop} {t : TypeId} {x y : Operand} {u : Value} {off n by_ : Nat} {gg : Bool} {z vs : List Value}
    (h : Acc enc e sz w g v l) (hsz : ∀ x, (enc x).length = sz) {i o : Nat} {old : α} (hold : l[i]? = some old) (nw : α) (ht : tyI P t = some (gg, n, by_, z)) (hx : ev E x = some (ptr (g - 1) off)) (hoff : off = i * sz + o) (hy : ev E y = some u)
    (hv : u.cells.toList = vs) (hn : vs.length = n) (h1 : vs.all (·.oneCell') = true) (ho : o + n ≤ sz) (hnw : enc nw = (enc old).take o ++ vs ++ (enc old).drop (o + n))
    (hK : ∀ w', Mod (Mg g) w w' → w'.heap.size = w.heap.size → Acc enc e sz w' g v (l.set i nw) → K undef w') : AW P ⟨d, .store t x y, ty, pos, af, gd⟩ E w K := fun a ha => by
  obtain ⟨hi, rfl⟩ := List.getElem?_eq_some_iff.1 hold
  subst hoff
  rcases h with ⟨_, rfl, _⟩ | ⟨b, cap, cur, rfl, rfl, h2, h3, h4, h5, h6⟩
  · simp at hi
  · have hfl := flat_len hsz l
    have hil : i * sz + sz ≤ l.length * sz := by
      have := Nat.mul_le_mul_right sz (show i + 1 ≤ l.length by omega)
      rw [Nat.add_mul] at this; omega
    have hlc : l.length * sz ≤ cap * sz := Nat.mul_le_mul_right _ h3
    simp only [Nat.add_sub_cancel] at hx
    have hst := run_storeCells_at P b (i * sz + o) e vs 0 cur w h2 (by omega) (fun u hu => List.all_eq_true.1 h1 u hu)
    have hsz' : u.cells.size = n := by rw [← Array.length_toList, hv]; exact hn
    have key := flat_set hsz l i nw hi
    have hfa := (flat_at hsz l i hi).1
    have h := hK (w.setRow b (cur.toList.take (i * sz + o) ++ vs ++ cur.toList.drop (i * sz + o + n)).toArray) ((setRow_mod _ _ _).weaken (fun i hi _ => by unfold Mg; omega)) (by simp [World.setRow]) (.inr ⟨b, cap, _, rfl, by simp, setRow_heap w b cur _ e (0, 0) h2, by simpa using h3, h4, by simp; omega, by
      rw [List.length_set, key, hnw]
      have hcl : cur.toList.length = cap * sz := by simpa using h5
      have e1 : (l.flatMap enc).take (i * sz) = cur.toList.take (i * sz) := by
        rw [← h6, List.take_take, Nat.min_eq_left (by omega)]
      have e2 : (enc l[i]).take o = (cur.toList.drop (i * sz)).take o := by
        rw [← hfa, List.take_take, Nat.min_eq_left (by omega), ← h6, List.drop_take, List.take_take, Nat.min_eq_left (by omega)]
      have e3 : (enc l[i]).drop (o + n) = (cur.toList.drop (i * sz + (o + n))).take (sz - (o + n)) := by
        rw [← hfa, ← h6, List.drop_take, List.drop_drop, List.drop_take, List.take_take, Nat.min_eq_left (by omega)]
      have e4 : (l.flatMap enc).drop (i * sz + sz) = (cur.toList.drop (i * sz + sz)).take (l.length * sz - (i * sz + sz)) := by
        rw [← h6, List.drop_take]
      rw [e1, e2, e3, e4]
      have e5 : cur.toList.take (i * sz + o) = cur.toList.take (i * sz) ++ (cur.toList.drop (i * sz)).take o := by rw [List.take_add]
      have e6 : (cur.toList.drop (i * sz + o + n)).take (l.length * sz - (i * sz + o + n)) = (cur.toList.drop (i * sz + (o + n))).take (sz - (o + n)) ++ (cur.toList.drop (i * sz + sz)).take (l.length * sz - (i * sz + sz)) := by
        have : l.length * sz - (i * sz + o + n) = (sz - (o + n)) + (l.length * sz - (i * sz + sz)) := by omega
        rw [this, List.take_add, List.drop_drop]
        congr 3 <;> omega
      rw [List.toList_toArray]
      rw [List.take_append, List.take_of_length_le (by simp; omega)]
      have e7 : l.length * sz - (cur.toList.take (i * sz + o) ++ vs).length = l.length * sz - (i * sz + o + n) := by
        simp only [List.length_append, List.length_take, hcl]; omega
      rw [e7, e6, e5]
      simp only [List.append_assoc]⟩)
    simp only [Nat.add_zero, hn] at hst
    simp [execOp, ha.ev hx, ha.ev hy, ptr, Instr.storeAt, Instr.sureAddr, storeVar, run_sizeOf ht, hsz', hv, hst, out]
    simpa using h

theorem Acc.shape (h : Acc enc e sz w g v l) : ∃ a c, v = .slice a l.length c := by
  obtain ⟨a, c, h1, _⟩ := h.sl
  exact ⟨a, c, h1⟩
theorem Acc.cast {l' : List α} (h : Acc enc e sz w g v l) (e' : l = l') : Acc enc e sz w g v l' := e' ▸ h
theorem made_flat (z : List Value) (hz : 0 < z.length) : ∀ n : Nat, (madeCells z.toArray (n * z.length)).toList = (List.replicate n z).flatten
  | 0 => by simp [madeCells]
  | n + 1 => by
    have ih := made_flat z hz n
    rw [List.replicate_succ', List.flatten_append, ← ih]
    unfold madeCells
    simp only [List.size_toArray, Array.toList_map, Array.toList_range, Nat.add_mul, Nat.one_mul, List.flatten_cons, List.flatten_nil, List.append_nil]
    rw [List.range_add, List.map_append]
    congr 1
    rw [List.map_map]
    refine List.ext_getElem (by simp) fun i h1 h2 => ?_
    simp only [List.length_map, List.length_range] at h1
    simp [Nat.mod_eq_of_lt h1, h1]

theorem AW.makeSlice {P : Program} {E : Env} {d : Option Tmp} {ty : TypeId} {pos : String} {af : Array Edge} {gd : Option (Nat × Bool)} {K : Value → World → Prop} {t : TypeId} {x y : Operand} {kl kc : IntKind} {by_ : Nat} {gg : Bool} {z : List Value}
    (n : Nat) (x0 : α) (ht : P.underlying t = some (.slice e)) (he : tyI P e = some (gg, sz, by_, z)) (h0 : 0 < sz) (hx0 : enc x0 = z) (hsz : ∀ x, (enc x).length = sz) {p q : Int} (hx : ev E x = some (.int kl p)) (hy : ev E y = some (.int kc q)) (hp : p = (n : Int)) (hq : q = (n : Int)) (hb : n * by_ ≤ 140737488355328) (hm : n ≤ maxLen)
    (hK : ∀ v' g' w', Ext w w' → g' = w.heap.size + 1 → w'.heap.size = w.heap.size + 1 → Acc enc e sz w' g' v' (List.replicate n x0) → K v' w') :
    AW P ⟨d, .makeSlice t x y, ty, pos, af, gd⟩ E w K := fun a ha => by
  subst hp hq
  obtain ⟨i, dd, zv, i1, i2, i3, i4, i5, i6, i7⟩ := tyI_spec he
  have hm' : (n : Int) ≤ 9223372036854775807 := by have : n ≤ 9223372036854775807 := hm; omega
  have hbb : (i.bytes : Int) * (n : Int) ≤ 281474976710656 := by
    rw [i5]
    have : ((n * by_ : Nat) : Int) ≤ 140737488355328 := by omega
    rw [Int.natCast_mul, Int.mul_comm] at this; omega
  have hr := run_make (P := P) w t e i zv ht i1 i3 kl kc (n : Int) (n : Int) (by omega) (Int.le_refl _) hbb hm'
  simp only [Int.toNat_natCast] at hr
  have hzl : z.length = sz := by rw [← hx0]; exact hsz _
  have e1 : zv.cells = z.toArray := by rw [← i6]
  have hc : (madeCells zv.cells (n * i.size)).toList = (List.replicate n z).flatten := by
    rw [e1, i4, ← hzl]; exact made_flat z (by omega) n
  have h := hK _ _ (w.alloc (.cells (madeCells zv.cells (n * i.size)) e)) (Mod.alloc _ _ _) rfl (by simp) (.inr ⟨w.heap.size, n, _, rfl, rfl, heap_alloc_new w _, by simp, hm, by rw [size_madeCells, i4], by
    rw [List.length_replicate, hc]
    have : (List.replicate n z).flatten = (List.replicate n x0).flatMap enc := by
      rw [List.flatMap_def, List.map_replicate, hx0]
    rw [this, List.take_of_length_le]
    rw [flat_len hsz, List.length_replicate]; exact Nat.le_refl _⟩)
  simp only [List.length_replicate] at h
  simp [execOp, ha.ev hx, ha.ev hy, hr, out]
  exact h

/-! spare room that is lent: a block that holds a list and, behind it, what lies in its room -/
def Lent (enc : α → List Value) (e : TypeId) (w : World) (b : Nat) (l r : List α) : Prop := Bk w b ((l ++ r).flatMap enc) e
theorem Lent.keepG {w w' : World} {b g : Nat} {l r : List α} (h : Lent enc e w b l r) (hm : Mod (Mg g) w w') (hg : b + 1 ≠ g) : Lent enc e w' b l r := Bk.keepG h hm hg
theorem Lent.ext {w w' : World} {b : Nat} {l r : List α} (h : Lent enc e w b l r) (hm : Ext w w') : Lent enc e w' b l r := Bk.ext h hm
theorem Lent.lt {b : Nat} {l r : List α} (h : Lent enc e w b l r) : b < w.heap.size := Bk.lt h
theorem Lent.sl {b : Nat} {l r : List α} (h : Lent enc e w b l r) (n : Nat) (hr : r.length = n) (hm : l.length + n ≤ maxLen) : Sl enc w (Iv b (b + 1)) (.slice (some ⟨b, 0, none⟩) l.length (l.length + n)) l := by
  refine ⟨_, l.length + n, rfl, by omega, hm, .inr ⟨b, 0, rfl, by unfold Iv; omega, ?_⟩⟩
  have h1 : Row w b 0 ((l ++ r).flatMap enc) := Bk.row h
  rw [List.flatMap_append] at h1
  exact fun i v hv => h1 i v (by rw [List.getElem?_append_left (List.getElem?_eq_some_iff.1 hv).1]; exact hv)

section
variable {P : Program} {E : Env} {d : Option Tmp} {ty : TypeId} {pos : String} {af : Array Edge} {gd : Option (Nat × Bool)} {K : Value → World → Prop} {t : TypeId} {x y : Operand} {by_ : Nat} {gg : Bool} {z : List Value}
theorem AW.makeRoom {kl kc : IntKind} (n : Nat) (x0 : α) (ht : P.underlying t = some (.slice e)) (he : tyI P e = some (gg, sz, by_, z)) (h0 : 0 < sz) (hx0 : enc x0 = z) (hsz : ∀ x, (enc x).length = sz) {p q : Int} (hx : ev E x = some (.int kl p)) (hy : ev E y = some (.int kc q)) (hp : p = 0) (hq : q = (n : Int)) (hb : n * by_ ≤ 140737488355328) (hm : n ≤ maxLen)
    (hK : ∀ w' b, Ext w w' → b = w.heap.size → w'.heap.size = w.heap.size + 1 → Lent enc e w' b [] (List.replicate n x0) → K (.slice (some ⟨b, 0, none⟩) 0 n) w') :
    AW P ⟨d, .makeSlice t x y, ty, pos, af, gd⟩ E w K := fun a ha => by
  subst hp hq
  obtain ⟨i, dd, zv, i1, i2, i3, i4, i5, i6, i7⟩ := tyI_spec he
  have hm' : (n : Int) ≤ 9223372036854775807 := by have : n ≤ 9223372036854775807 := hm; omega
  have hbb : (i.bytes : Int) * (n : Int) ≤ 281474976710656 := by
    rw [i5]
    have : ((n * by_ : Nat) : Int) ≤ 140737488355328 := by omega
    rw [Int.natCast_mul, Int.mul_comm] at this; omega
  have hr := run_make (P := P) w t e i zv ht i1 i3 kl kc 0 (n : Int) (by omega) (by omega) hbb hm'
  simp only [Int.toNat_natCast, Int.toNat_zero] at hr
  have hzl : z.length = sz := by rw [← hx0]; exact hsz _
  have e1 : zv.cells = z.toArray := by rw [← i6]
  have hc : (madeCells zv.cells (n * i.size)).toList = (List.replicate n z).flatten := by
    rw [e1, i4, ← hzl]; exact made_flat z (by omega) n
  have h := hK (w.alloc (.cells (madeCells zv.cells (n * i.size)) e)) w.heap.size (Mod.alloc _ _ _) rfl (by simp) (by
    show (w.alloc (.cells (madeCells zv.cells (n * i.size)) e)).heap[w.heap.size]? = _
    rw [heap_alloc_new]
    have : ([] ++ List.replicate n x0).flatMap enc = (madeCells zv.cells (n * i.size)).toList := by
      rw [hc, List.nil_append, List.flatMap_def, List.map_replicate, hx0]
    rw [this])
  simp [execOp, ha.ev hx, ha.ev hy, hr, out]
  exact h

theorem AW.appendRoom {b cap : Nat} {l r l2 : List α} {t ty' : TypeId} {F : Nat → Prop} {v2 : Value} (h : Lent enc e w b l r) (hcap : cap = l.length + r.length) (ht : P.underlying t = some (.slice e)) (he : tyI P e = some (gg, sz, by_, z)) (hz : z.length = sz)
    (hsz : ∀ x, (enc x).length = sz) (h1 : ∀ x, (enc x).all (·.oneCell') = true) {nl : Nat} (hnl : nl = l.length) (hx : ev E x = some (.slice (some ⟨b, 0, none⟩) nl cap)) (hy : ev E y = some v2) (hs : Sl enc w F v2 l2) (hfit : l2.length ≤ r.length)
    (hK : ∀ w', Mod (Mg (b + 1)) w w' → w'.heap.size = w.heap.size → Lent enc e w' b (l ++ l2) (r.drop l2.length) → K (.slice (some ⟨b, 0, none⟩) (l.length + l2.length) cap) w') :
    AW P ⟨d, .call { callee := .builtin .append, args := #[x, y], argTypes := #[t, t] }, ty', pos, af, gd⟩ E w K := fun a ha => by
  subst hnl hcap
  obtain ⟨i, dd, zv, i1, i2, i3, i4, i5, i6, i7⟩ := tyI_spec he
  have hnew1 : ∀ u ∈ l2.flatMap enc, u.oneCell' = true := fun u hu => by
    obtain ⟨x, _, hx⟩ := List.mem_flatMap.1 hu
    exact List.all_eq_true.1 (h1 x) u hx
  have hl2 : (l2.flatMap enc).length = l2.length * i.size := by rw [flat_len hsz, i4]
  obtain ⟨a2, cap2, rfl, hc2, hm2, hs⟩ := hs
  have key : ∃ w', (Builtin.append_ #[t, t] ty' #[.slice (some ⟨b, 0, none⟩) l.length (l.length + r.length), .slice a2 l2.length cap2]).run P w = .ok (.slice (some ⟨b, 0, none⟩) (l.length + l2.length) (l.length + r.length)) w' ∧ Mod (Mg (b + 1)) w w' ∧ w'.heap.size = w.heap.size ∧ Lent enc e w' b (l ++ l2) (r.drop l2.length) := by
    by_cases hl0 : l2 = []
    · subst hl0
      have hfc : (Builtin.firstCells i.size 0 (.slice a2 0 cap2)).run P w = .ok #[] w := by
        cases a2 <;> simp [Builtin.firstCells, loadCells, loadCellsFrom]
      exact ⟨w, by simp [Builtin.append_, run_underlying ht, sizeOf, typeInfo, i1, Builtin.lenOf, hfc, storeCells], Mod.refl _ _, rfl, by simpa using h⟩
    · obtain ⟨b2, off2, rfl, hF, hr2⟩ : ∃ b2 off2, a2 = some (⟨b2, off2, none⟩ : Addr) ∧ F b2 ∧ Row w b2 off2 (l2.flatMap enc) := by
        rcases hs with h | ⟨b2, off2, h1, h2, h3⟩
        · exact absurd h hl0
        · exact ⟨b2, off2, h1, h2, h3⟩
      have hnews : ∀ j u, (l2.flatMap enc)[j]? = some u → w.cell? ((⟨b2, off2, none⟩ : Addr).add j) = some u := fun j u hu => by
        rw [add_lit]; exact hr2.cell j u hu
      have hbl : w.heap[b]? = some (.cells ((l ++ r).flatMap enc).toArray e (0, 0)) := h
      have hll : (l.flatMap enc).length = l.length * sz := flat_len hsz l
      have hrl : (r.flatMap enc).length = r.length * sz := flat_len hsz r
      have hle : l2.length * sz ≤ r.length * sz := Nat.mul_le_mul_right _ hfit
      have hfit' : l.length * i.size + (l2.flatMap enc).length ≤ ((l ++ r).flatMap enc).toArray.size := by
        simp only [List.flatMap_append, List.size_toArray, List.length_append, hll, hrl, hl2, i4]; omega
      have hr := run_append_room (P := P) w t ty' e i ht i1 b l.length (l.length + r.length) _ hbl ⟨b2, off2, none⟩ l2.length cap2 (l2.flatMap enc) hl2 hnews hnew1 (by omega) hfit'
      refine ⟨_, hr, (setRow_mod _ _ _).weaken (fun i hi _ => by unfold Mg; omega), by simp [World.setRow], ?_⟩
      show (w.setRow b _).heap[b]? = _
      rw [setRow_heap w b _ _ e (0, 0) hbl]
      congr 3
      rw [i4, List.flatMap_append, List.flatMap_append, List.flatMap_append, ← hll]
      have e1 : (l2.flatMap enc).length = l2.length * sz := flat_len hsz l2
      simp only [List.take_left, e1]
      rw [List.drop_append, List.drop_of_length_le (by omega), Nat.add_sub_cancel_left, List.nil_append, flat_drop hsz]
  obtain ⟨w', hr, h2, h3, h4⟩ := key
  simp only [execOp, resolve, invoke, builtin, Sem.run_bind, Sem.run_pure, Result.andThen_ok, List.map_toArray, List.map_cons, List.map_nil, ha.ev hx, ha.ev hy, hr, out]
  exact hK _ h2 h3 h4

/-- the room itself -/
theorem Q1.room {C : World → Prop} {lo hi : Operand} {b nl cap n : Nat} {p q : Int} {k k' : IntKind} (ht : P.underlying t = some (.slice e)) (he : tyI P e = some (gg, sz, by_, z)) (hx : ev E x = some (.slice (some ⟨b, 0, none⟩) nl cap)) (hlo : ev E lo = some (.int k p)) (hhi : ev E hi = some (.int k' q)) (hp : p = (nl : Int)) (hq : q = ((nl + n : Nat) : Int)) (hc : cap = nl + n) (hn : 0 < n) :
    Q1 P ⟨d, .slice t x (some lo) (some hi) none, ty, pos, af, gd⟩ E C (.slice (some ⟨b, nl * sz, none⟩) n n) := fun a ha w _ => by
  subst hp hq hc
  have h1 : ¬ (nl + n = nl) := by omega
  have e1 : (Instr.sliceBound (.int k' ((nl + n : Nat) : Int)) (nl + n) .sliceAcap).run P w = .ok (nl + n) w := sliceBound_ok _ rfl (Nat.le_refl _) w
  have e2 : (Instr.sliceBound (.int k (nl : Int)) (nl + n) .sliceB).run P w = .ok nl w := sliceBound_ok _ rfl (by omega) w
  simp only [execOp, ha.ev hx, ha.ev hlo, ha.ev hhi, Option.map_some, Option.map_none, Instr.sliceAt, Instr.slice, Instr.sliceBounds, run_underlying ht, Sem.run_bind, Result.andThen_ok, Option.isSome_none, Bool.false_eq_true, if_false, if_true, Sem.run_pure, e1, e2, run_sizeOf he, h1]
  simp [add_lit]
theorem Lent.at {b : Nat} (k : IntKind) (nl n : Nat) (ht : P.underlying t = some (.slice e)) (he : tyI P e = some (gg, sz, by_, z)) {p : Int} (i : Nat) (hp : p = (i : Int)) (hi : i < n) : ∀ w, (Instr.indexAt t (.slice (some ⟨b, nl * sz, none⟩) n n) (.int k p)).run P w = .ok (ptr b (nl * sz + i * sz)) w := fun w => by
  have h0 : (0 : Int) ≤ p ∧ p < (n : Int) := by omega
  have e1 : p.toNat = i := by omega
  simp [Instr.indexAt, asIntOf, run_underlying ht, h0, run_sizeOf he, add_lit, ptr, e1]
theorem Lent.row {b : Nat} {l r : List α} (h : Lent enc e w b l r) (hsz : ∀ x, (enc x).length = sz) {i : Nat} {u : α} (hu : r[i]? = some u) : Row w b (l.length * sz + i * sz) (enc u) := by
  obtain ⟨hi, rfl⟩ := List.getElem?_eq_some_iff.1 hu
  have hlt : l.length + i < (l ++ r).length := by rw [List.length_append]; omega
  have hf := flat_at hsz (l ++ r) (l.length + i) hlt
  have := (Bk.row h).sub ((l.length + i) * sz) sz hf.2
  rw [hf.1, List.getElem_append_right (by omega)] at this
  simpa [Nat.add_mul] using this
theorem AW.storeRoom {b : Nat} {l r : List α} {u : Value} (h : Lent enc e w b l r) (hsz : ∀ x, (enc x).length = sz) {i off : Nat} (hi : i < r.length) (nw : α) (ht : tyI P t = some (gg, sz, by_, z)) (hx : ev E x = some (ptr b off)) (hoff : off = l.length * sz + i * sz) (hy : ev E y = some u)
    (hv : u.cells.toList = enc nw) (h1 : (enc nw).all (·.oneCell') = true) (hK : ∀ w', Mod (Mg (b + 1)) w w' → w'.heap.size = w.heap.size → Lent enc e w' b l (r.set i nw) → K undef w') : AW P ⟨d, .store t x y, ty, pos, af, gd⟩ E w K := by
  subst hoff
  have hlt : l.length + i < (l ++ r).length := by rw [List.length_append]; omega
  have hf := (flat_at hsz (l ++ r) (l.length + i) hlt).2
  rw [Nat.add_mul] at hf
  refine AW.store ht hx hy hv (hsz _) h1 h hf fun w' hm hz hb => hK w' hm hz ?_
  unfold Lent
  have e1 : l ++ r.set i nw = (l ++ r).set (l.length + i) nw := by rw [List.set_append_right _ _ (by omega)]; congr 2; omega
  rw [e1, flat_set hsz _ _ _ hlt, Nat.add_mul]
  exact hb
end

def roomK (x0 x : α) (k : Nat) : List α := if k = 0 then [x0, x0, x0] else if k = 1 then [x, x0, x0] else if k = 2 then [x, x, x0] else [x, x, x]
theorem room_start (x0 x : α) : List.replicate 3 x0 = roomK x0 x 0 := rfl
theorem room_len {x0 x : α} {r : List α} {k : Nat} (h : r = roomK x0 x k) : r.length = 3 := by
  subst h; unfold roomK; repeat' split
  all_goals rfl
theorem room_step {x0 x : α} {r : List α} {k : Nat} (h : r = roomK x0 x k) (hk : k < 3) : r.set k x = roomK x0 x (k + 1) := by
  subst h
  rcases (by omega : k = 0 ∨ k = 1 ∨ k = 2) with rfl | rfl | rfl <;> rfl
theorem room_end {x0 x : α} {r : List α} {k : Nat} (h : r = roomK x0 x k) (hk : 3 ≤ k) : r = List.replicate 3 x := by
  subst h; unfold roomK; rw [if_neg (by omega), if_neg (by omega), if_neg (by omega)]; rfl
theorem Lent.cast {b : Nat} {l r r' : List α} (h : Lent enc e w b l r) (h2 : r = r') : Lent enc e w b l r' := h2 ▸ h
theorem rep_at {x y : α} {n k : Nat} (h : (List.replicate n x)[k]? = some y) : y = x := by
  rw [List.getElem?_replicate] at h; split at h
  · simpa using h.symm
  · cases h
end
end Go.Ik
