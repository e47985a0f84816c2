/-
  Operations that act: new blocks, stores, appends, calls, ranges over texts.
-/
import Derived.Test.YtajedfbogchkcaaIk3
import Derived.Lib.RuneCountTail
set_option linter.unusedVariables false
set_option linter.unusedSimpArgs false
namespace Go.Ik
open Go

/-! blocks of the call's own -/
def Bk (w : World) (b : Nat) (cs : List Value) (e : TypeId) : Prop := w.heap[b]? = some (.cells cs.toArray e (0, 0))

theorem Bk.keep {M : Nat → Prop} {w w' : World} {b : Nat} {cs : List Value} {e : TypeId} (h : Bk w b cs e) (hm : Mod M w w') (hb : ¬ M b) : Bk w' b cs e := hm.keep _ _ h hb
theorem Bk.ext {w w' : World} {b : Nat} {cs : List Value} {e : TypeId} (h : Bk w b cs e) (hm : Ext w w') : Bk w' b cs e := hm.keep _ _ h (fun x => x)
theorem Bk.lt {w : World} {b : Nat} {cs : List Value} {e : TypeId} (h : Bk w b cs e) : b < w.heap.size := (Array.getElem?_eq_some_iff.1 h).1
theorem Bk.row {w : World} {b : Nat} {cs : List Value} {e : TypeId} (h : Bk w b cs e) : Row w b 0 cs := Row.of_blk h
theorem Bk.part {w : World} {b : Nat} {cs : List Value} {e : TypeId} (h : Bk w b cs e) (i n : Nat) (hn : i + n ≤ cs.length) : Row w b i ((cs.drop i).take n) := by
  have := h.row.sub i n hn; simpa using this
/-- one cell of a block -/
theorem Bk.cell {w : World} {b : Nat} {cs : List Value} {e : TypeId} (h : Bk w b cs e) (i : Nat) (v : Value) (hv : cs[i]? = some v) : Row w b i [v] := by
  have hlt : i < cs.length := (List.getElem?_eq_some_iff.1 hv).1
  have := h.part i 1 (by omega)
  have e2 : (cs.drop i).take 1 = [v] := by
    rw [List.drop_eq_getElem_cons hlt]
    have := (List.getElem?_eq_some_iff.1 hv).2
    simp [this]
  rwa [e2] at this

theorem setRow_mod (w : World) (g : Nat) (c : Array Value) : Mod (fun i => i = g) w (w.setRow g c) :=
  ⟨rfl, rfl, rfl, by simp [World.setRow], fun b o hb hne => by
    rw [setRow_other w g b c (fun e => hne e)]; exact hb⟩

section
variable {P : Program} {E : Env} {d : Option Tmp} {ty : TypeId} {pos : String} {af : Array Edge} {gd : Option (Nat × Bool)} {w : World} {K : Value → World → Prop}

theorem AW.box {t : TypeId} {x : Operand} {v : Value} (cs : List Value) (hx : ev E x = some v) (hv : v.cells.toList = cs) (hK : ∀ w' b, Ext w w' → b = w.heap.size → w'.heap.size = w.heap.size + 1 → Bk w' b cs t → K (ptr b 0) w') :
    AW P ⟨d, .box t x, ty, pos, af, gd⟩ E w K := fun a ha => by
  have h := hK (w.alloc (.cells cs.toArray t)) w.heap.size (Mod.alloc _ _ _) rfl (by simp) (by
    show (w.heap.push _)[w.heap.size]? = _
    simp)
  have e : v.cells = cs.toArray := by rw [← hv]
  simp [execOp, ha.ev hx, Instr.box, newVar, newRow, out, e]
  exact h

theorem AW.alloc {t : TypeId} {g : Bool} {n by_ : Nat} {z : List Value} (ht : tyI P t = some (g, n, by_, z)) (hK : ∀ w' b, Ext w w' → b = w.heap.size → w'.heap.size = w.heap.size + 1 → Bk w' b z t → K (ptr b 0) w') :
    AW P ⟨d, .alloc t, ty, pos, af, gd⟩ E w K := fun a ha => by
  have h := hK (w.alloc (.cells z.toArray t)) w.heap.size (Mod.alloc _ _ _) rfl (by simp) (by
    show (w.heap.push _)[w.heap.size]? = _
    simp)
  obtain ⟨zv, hz, hr⟩ := run_zero ht w
  have e : zv.cells = z.toArray := by rw [← hz]
  simp [execOp, Instr.alloc, hr, newVar, newRow, out, e]
  exact h

theorem AW.store {t e : TypeId} {x y : Operand} {v : Value} {b off n by_ : Nat} {g : Bool} {z cs vs : List Value} (ht : tyI P t = some (g, n, by_, z)) (hx : ev E x = some (ptr b off)) (hy : ev E y = some v)
    (hv : v.cells.toList = vs) (hn : vs.length = n) (h1 : vs.all (·.oneCell') = true) (hb : Bk w b cs e) (hl : off + n ≤ cs.length)
    (hK : ∀ w', Mod (fun i => i + 1 = b + 1) w w' → w'.heap.size = w.heap.size → Bk w' b (cs.take off ++ vs ++ cs.drop (off + n)) e → K undef w') : AW P ⟨d, .store t x y, ty, pos, af, gd⟩ E w K := fun a ha => by
  have hst := run_storeCells_at P b off e vs 0 cs.toArray w hb (by simp; omega) (fun u hu => List.all_eq_true.1 h1 u hu)
  have hsz : v.cells.size = n := by rw [← Array.length_toList, hv]; exact hn
  have h := hK (w.setRow b (cs.take off ++ vs ++ cs.drop (off + n)).toArray) ((setRow_mod _ _ _).weaken (fun i hi _ => by omega)) (by simp [World.setRow]) (by
    have := setRow_heap w b cs.toArray (cs.take off ++ vs ++ cs.drop (off + n)).toArray e (0, 0) hb
    exact this)
  simp only [Nat.add_zero, hn] at hst
  simp [execOp, ha.ev hx, ha.ev hy, ptr, Instr.storeAt, Instr.sureAddr, storeVar, run_sizeOf ht, hsz, hv, hst, out]
  simpa using h

/-! calls -/
def clB (P : Program) (g : FuncId) : Bool :=
  match P.funcs[g]? with
  | some fn => (!(fn.name == "runtime.NumGoroutine")) && fn.body.isSome
  | none => false

theorem run_callFunc {g : FuncId} (h : clB P g = true) (args : Array Value) (w : World) : (callFunc g args).run P w = .ok (.enter g args) w := by
  unfold clB at h
  cases hf : P.funcs[g]? with
  | none => simp [hf] at h
  | some fn =>
    simp only [hf, Bool.and_eq_true, Bool.not_eq_true'] at h
    have h1 : ¬ (fn.name = "runtime.NumGoroutine") := by simpa using h.1
    cases hb : fn.body with
    | none => simp [hb] at h
    | some c => simp [callFunc, hf, h1, hb]

def evs (E : Env) : List Operand → Option (List Value)
  | [] => some []
  | x :: r => match ev E x with
    | some v => match evs E r with
      | some vs => some (v :: vs)
      | none => none
    | none => none

theorem Has.evs {a : Act} (ha : Has E a) : ∀ {xs : List Operand} {vs : List Value}, Ik.evs E xs = some vs → xs.map a.eval = vs
  | [], vs, h => by simp [Ik.evs] at h; simp [h]
  | x :: r, vs, h => by
    simp only [Ik.evs] at h
    cases hx : Ik.ev E x with
    | none => simp [hx] at h
    | some v =>
      cases hr : Ik.evs E r with
      | none => simp [hx, hr] at h
      | some us =>
        simp only [hx, hr, Option.some.injEq] at h
        rw [← h, List.map_cons, ha.ev hx, Has.evs ha hr]

/-- what a call gives back -/
def Ret (Φ : Value → World → Prop) : Ending → World → Prop := fun e w' => ∃ v, e = .returned v ∧ Φ v w'

theorem AW.call {g : FuncId} {c : Operand} {xs : List Operand} {ts : Array TypeId} {first cap : List Value} {vs : List Value} {Φ : Value → World → Prop} (hg : clB P g = true) (hc : ev E c = some (.func (.func g) first.toArray cap.toArray))
    (hx : evs E xs = some vs) (h : Calls P g (first ++ vs ++ cap).toArray w (Ret Φ)) (hK : ∀ v w', Φ v w' → K v w') :
    AW P ⟨d, .call { callee := .value c, args := xs.toArray, argTypes := ts }, ty, pos, af, gd⟩ E w K := fun a ha => by
  have hargs : xs.toArray.map a.eval = vs.toArray := by
    apply Array.ext'
    simpa using ha.evs hx
  have : (execOp a.eval ⟨d, .call { callee := .value c, args := xs.toArray, argTypes := ts }, ty, pos, af, gd⟩).run P w = .ok (.enter g (first ++ vs ++ cap).toArray) w := by
    simp only [execOp, resolve, ha.ev hc, hargs, Deferred.ofValue, Sem.run_bind, Sem.run_pure, Result.andThen_ok, invoke]
    rw [run_callFunc hg]
    simp
  rw [this]
  exact Calls.mono h (fun e w' ⟨v, he, hv⟩ => ⟨v, he, hK _ _ hv⟩)

/-! slices that are made -/
theorem fill_all (P : Program) (sz : Nat) : ∀ (vs : List Value) (k : Nat) (pre rest : List Value), pre.length = k * sz → rest.length = vs.length * sz → (∀ v ∈ vs, v.cells.size = sz) →
    Instr.fill (fun i => some (i * sz, sz)) (pre ++ rest).toArray ((vs.zipIdx k).map fun p => (p.2, p.1)) = some (pre ++ vs.flatMap (fun v => v.cells.toList)).toArray
  | [], k, pre, rest, hp, hr, h => by
    have : rest = [] := List.eq_nil_of_length_eq_zero (by simpa using hr)
    simp [Instr.fill, this]
  | v :: vs, k, pre, rest, hp, hr, h => by
    have hv : v.cells.size = sz := h v (by simp)
    have hlen : rest.length = sz + vs.length * sz := by simpa [Nat.add_mul, Nat.add_comm] using hr
    simp only [List.zipIdx_cons, List.map_cons, Instr.fill]
    have hc : (decide (v.cells.size ≠ sz) || decide (k * sz + v.cells.size > (pre ++ rest).toArray.size)) = false := by
      simp [hv, hp, hlen]
    simp only [ne_eq] at hc
    rw [if_neg (by simpa using hc)]
    have hfold : ∀ (cs : List Value) (j : Nat) (arr : Array Value) (pre2 mid : List Value) (post : List Value), arr = (pre2 ++ mid ++ post).toArray → pre2.length = k * sz + j → mid.length = cs.length →
        (cs.zipIdx j).foldl (fun (a : Array Value) (x : Value × Nat) => a.setIfInBounds (k * sz + x.2) x.1) arr = (pre2 ++ cs ++ post).toArray := by
      intro cs
      induction cs with
      | nil => intro j arr pre2 mid post ha h1 h2; have : mid = [] := List.eq_nil_of_length_eq_zero (by simpa using h2); simp [ha, this]
      | cons c cs ih =>
        intro j arr pre2 mid post ha h1 h2
        cases mid with
        | nil => simp at h2
        | cons m mid =>
          simp only [List.zipIdx_cons, List.foldl_cons]
          have := ih (j + 1) (arr.setIfInBounds (k * sz + j) c) (pre2 ++ [c]) mid post (by
            subst ha
            apply Array.ext'
            rw [Array.toList_setIfInBounds]
            simp only [List.append_assoc, List.cons_append, List.nil_append]
            rw [← h1, List.set_append_right _ _ (Nat.le_refl _)]
            simp) (by simp [h1]; omega) (by simpa using h2)
          simpa using this
    have hf := hfold v.cells.toList 0 (pre ++ rest).toArray pre (rest.take sz) (rest.drop sz) (by simp [List.append_assoc]) (by simpa using hp) (by simp [hv]; omega)
    have hz : (v.cells.zipIdx.foldl (fun cs (x : Value × Nat) => cs.setIfInBounds (k * sz + x.2) x.1) (pre ++ rest).toArray) = (pre ++ v.cells.toList ++ rest.drop sz).toArray := by
      rw [← Array.foldl_toList, Array.toList_zipIdx]
      exact hf
    have ih := fill_all P sz vs (k + 1) (pre ++ v.cells.toList) (rest.drop sz) (by simp [hp, hv, Nat.add_mul]) (by simp [hlen]) (fun u hu => h u (by simp [hu]))
    rw [hz]
    simp only [List.flatMap_cons]
    rw [← List.append_assoc]
    exact ih

theorem zerosArr (z : Value) (n : Nat) : ((Array.range n).map fun i => z.cells[i % z.cells.size]!).toList.length = n := by simp

theorem AW.buildSlice {t e : TypeId} {len sz by_ : Nat} {g : Bool} {z : List Value} {ps : Array (Nat × Operand)} (vs : List Value) (ht : P.underlying t = some (.slice e)) (he : tyI P e = some (g, sz, by_, z))
    (hp : (ps.toList.map fun p => (ev E p.2).map (p.1, ·)) = (vs.zipIdx.map fun p => (p.2, p.1)).map some) (hlen : vs.length = len) (hsz : (vs.all fun v => v.cells.size == sz) = true) (hbig : len * sz ≤ 16777216)
    (hK : ∀ w' b, Ext w w' → b = w.heap.size → w'.heap.size = w.heap.size + 1 → Bk w' b (vs.flatMap fun v => v.cells.toList) e → K (.slice (some ⟨b, 0, none⟩) len len) w') :
    AW P ⟨d, .buildSlice t len ps, ty, pos, af, gd⟩ E w K := fun a ha => by
  have h1 : (ps.map fun (i, x) => (i, a.eval x)) = ((vs.zipIdx.map fun p => (p.2, p.1))).toArray := by
    apply Array.ext'
    rw [Array.toList_map]
    have aux : ∀ (l : List (Nat × Operand)) (r : List (Nat × Value)), (l.map fun p => (ev E p.2).map (p.1, ·)) = r.map some → l.map (fun x => (x.1, a.eval x.2)) = r := by
      intro l
      induction l with
      | nil => intro r h; cases r <;> simp_all
      | cons p l ih =>
        intro r h
        cases r with
        | nil => simp at h
        | cons q r =>
          simp only [List.map_cons, List.cons.injEq] at h ⊢
          refine ⟨?_, ih r h.2⟩
          cases hv : ev E p.2 with
          | none => simp [hv] at h
          | some u =>
            simp only [hv, Option.map_some, Option.some.injEq] at h
            rw [ha.ev hv]; exact h.1
    exact aux _ _ hp
  obtain ⟨zv, hz, hr⟩ := run_zero he w
  have hall : ∀ v ∈ vs, v.cells.size = sz := fun v hv => by have := List.all_eq_true.1 hsz v hv; simpa using this
  have hnb : ¬ (16777216 < len * sz) := by omega
  have h := hK (w.alloc (.cells (vs.flatMap fun v => v.cells.toList).toArray e)) w.heap.size (Mod.alloc _ _ _) rfl (by simp) (by
    show (w.heap.push _)[w.heap.size]? = _
    simp)
  have key : ∀ zs : Array Value, zs.size = len * sz → Instr.fill (fun i => some (i * sz, sz)) zs (vs.zipIdx.map fun p => (p.2, p.1)) = some (vs.flatMap fun v => v.cells.toList).toArray := fun zs hzs => by
    have := fill_all P sz vs 0 [] zs.toList (by simp) (by simp [hzs, hlen]) hall
    simpa using this
  by_cases h0 : len * sz = 0
  · have hk := key (Array.map (fun _ => default) (Array.range 0)) (by simpa using h0.symm)
    simp [execOp, h1, Instr.buildSlice, run_underlying ht, run_sizeOf he, h0, out, newRow, hk]
    exact h
  · have hk := key ((Array.range (len * sz)).map (zv.cells[· % zv.cells.size]!)) (by simp)
    simp [execOp, h1, Instr.buildSlice, run_underlying ht, run_sizeOf he, h0, hnb, hr, out, newRow, hk]
    exact h
end

/-! a slice of the call's own that grows -/
/-- the one block that may be written, by its number and one; 0: none -/
def Mg (g : Nat) : Nat → Prop := fun b => b + 1 = g
/-- blocks from 'lo' on, below 'hi' -/
def Iv (lo hi : Nat) : Nat → Prop := fun b => lo ≤ b ∧ b < hi

theorem Mod.ofExt {g : Nat} {w w' : World} (h : Ext w w') : Mod (Mg g) w w' := Ext.mod h _
theorem Mod.toExt {w w' : World} (h : Mod (Mg 0) w w') : Ext w w' := h.weaken (fun i hi _ => by simp [Mg] at hi)
/-- writes to what is newer than 'w0' -/
theorem Ext.thenG {g : Nat} {w0 w w' : World} (h : Ext w0 w) (k : Mod (Mg g) w w') (hg : g = 0 ∨ w0.heap.size < g) : Ext w0 w' :=
  h.then k (fun i hi hl => by unfold Mg at hi; omega)
theorem Mod.thenG {g g0 : Nat} {w0 w w' : World} (h : Mod (Mg g0) w0 w) (k : Mod (Mg g) w w') (hg : g = 0 ∨ w0.heap.size < g ∨ g = g0) : Mod (Mg g0) w0 w' :=
  h.then k (fun i hi hl => by unfold Mg at *; omega)

theorem Sl.iv {α : Type} {enc : α → List Value} {w : World} {lo hi lo' hi' : Nat} {v : Value} {l : List α} (h : Sl enc w (Iv lo hi) v l) (h1 : lo' ≤ lo) (h2 : hi ≤ hi') : Sl enc w (Iv lo' hi') v l :=
  h.mono fun b hb => by unfold Iv at *; omega
theorem Sl.keepG {α : Type} {enc : α → List Value} {w w' : World} {lo hi g : Nat} {v : Value} {l : List α} (h : Sl enc w (Iv lo hi) v l) (hm : Mod (Mg g) w w') (hg : g ≤ lo ∨ hi < g) : Sl enc w' (Iv lo hi) v l :=
  h.keep hm fun b hb hx => by unfold Iv Mg at *; omega
theorem Row.keepG {w w' : World} {b off g : Nat} {cs : List Value} (h : Row w b off cs) (hm : Mod (Mg g) w w') (hg : b + 1 ≠ g) : Row w' b off cs := h.keep hm hg
theorem Bk.keepG {w w' : World} {b g : Nat} {cs : List Value} {e : TypeId} (h : Bk w b cs e) (hm : Mod (Mg g) w w') (hg : b + 1 ≠ g) : Bk w' b cs e := h.keep hm hg

section
variable {α : Type}
/-- 'g': its block's number and one; 0: it has none -/
def Acc (enc : α → List Value) (e : TypeId) (sz : Nat) (w : World) (g : Nat) (v : Value) (l : List α) : Prop :=
  (v = .slice none 0 0 ∧ l = [] ∧ g = 0) ∨
  ∃ b cap cur, g = b + 1 ∧ v = .slice (some ⟨b, 0, none⟩) l.length cap ∧ w.heap[b]? = some (.cells cur e (0, 0)) ∧ l.length ≤ cap ∧ cap ≤ maxLen ∧ cur.size = cap * sz ∧ cur.toList.take (l.length * sz) = l.flatMap enc

variable {enc : α → List Value} {e : TypeId} {sz : Nat} {w : World} {g : Nat} {v : Value} {l : List α}
theorem Acc.nil : Acc enc e sz w 0 (.slice none 0 0) [] := .inl ⟨rfl, rfl, rfl⟩
theorem Acc.keep {M : Nat → Prop} {w' : World} (h : Acc enc e sz w g v l) (hm : Mod M w w') (hg : ∀ b, g = b + 1 → ¬ M b) : Acc enc e sz w' g v l := by
  rcases h with h | ⟨b, cap, cur, h0, h1, h2, h3⟩
  · exact .inl h
  · exact .inr ⟨b, cap, cur, h0, h1, hm.keep _ _ h2 (hg b h0), h3⟩
theorem Acc.ext {w' : World} (h : Acc enc e sz w g v l) (hm : Ext w w') : Acc enc e sz w' g v l := h.keep hm (fun _ _ x => x)
theorem Acc.keepG {g' : Nat} {w' : World} (h : Acc enc e sz w g v l) (hm : Mod (Mg g') w w') (hg : g ≠ g' ∨ g = 0) : Acc enc e sz w' g v l :=
  h.keep hm fun b hb hx => by unfold Mg at hx; omega
theorem Acc.lt (h : Acc enc e sz w g v l) : g ≤ w.heap.size := by
  rcases h with ⟨_, _, h⟩ | ⟨b, cap, cur, h0, _, h2, _⟩
  · omega
  · have := (Array.getElem?_eq_some_iff.1 h2).1; omega
theorem Acc.le (h : Acc enc e sz w g v l) : l.length ≤ 9223372036854775807 := by
  rcases h with ⟨_, h, _⟩ | ⟨b, cap, cur, _, _, _, h3, h4, _⟩
  · simp [h]
  · exact Nat.le_trans h3 h4
theorem Acc.sl (h : Acc enc e sz w g v l) : Sl enc w (Iv (g - 1) g) v l := by
  rcases h with ⟨h, h', _⟩ | ⟨b, cap, cur, h0, h1, h2, h3, h4, h5, h6⟩
  · subst h'; exact h ▸ Sl.nil
  · refine ⟨_, cap, h1, h3, h4, .inr ⟨b, 0, rfl, by unfold Iv; omega, fun i u hu => ?_⟩⟩
    rw [← h6, List.getElem?_take] at hu
    split at hu
    · rw [cell_of_row w b (0 + i) cur e (0, 0) h2]
      simpa using hu
    · cases hu
/-- handed back -/
theorem Acc.fresh {B : Nat} (h : Acc enc e sz w g v l) (hg : g = 0 ∨ B < g) : Sl enc w (Iv B w.heap.size) v l := by
  have hl := h.lt
  rcases hg with h0 | h0
  · rcases h with ⟨h, h', _⟩ | ⟨b, _, _, h1, _⟩
    · subst h'; exact h ▸ Sl.nil
    · omega
  · exact h.sl.iv (by omega) hl

theorem Acc.append {P : Program} (h : Acc enc e sz w g v l) {t ty : TypeId} {gg : Bool} {by_ : Nat} {z : List Value} (ht : P.underlying t = some (.slice e)) (he : tyI P e = some (gg, sz, by_, z)) (hz : z.length = sz)
    (hsz : ∀ x, (enc x).length = sz) (h1 : ∀ x, (enc x).all (·.oneCell') = true) {F : Nat → Prop} {v2 : Value} {l2 : List α} (hs : Sl enc w F v2 l2) (hbytes : (l.length + l2.length) * by_ ≤ 140737488355328) (hmax : l.length + l2.length ≤ maxLen) :
    ∃ v' g' w', (Builtin.append_ #[t, t] ty #[v, v2]).run P w = .ok v' w' ∧ Acc enc e sz w' g' v' (l ++ l2) ∧ Mod (Mg g) w w' ∧ (g' = g ∨ w.heap.size < g') := by
  obtain ⟨i, dd, zv, i1, i2, i3, i4, i5, i6, i7⟩ := tyI_spec he
  have hnew1 : ∀ u ∈ l2.flatMap enc, u.oneCell' = true := fun u hu => by
    obtain ⟨x, _, hx⟩ := List.mem_flatMap.1 hu
    exact List.all_eq_true.1 (h1 x) u hx
  have hl2 : (l2.flatMap enc).length = l2.length * i.size := by rw [flat_len hsz, i4]
  have hll : (l.flatMap enc).length = l.length * i.size := by rw [flat_len hsz, i4]
  have hzs : zv.cells.size = sz := by rw [← Array.length_toList, i6, hz]
  have hmax' : l.length + l2.length ≤ 9223372036854775807 := hmax
  -- the appended cells
  obtain ⟨a2, cap2, rfl, hc2, hm2, hs⟩ := hs
  by_cases hl0 : l2 = []
  · -- nothing is appended
    subst hl0
    refine ⟨v, g, w, ?_, by simpa using h, Mod.refl _ _, .inl rfl⟩
    have hfc : (Builtin.firstCells i.size 0 (.slice a2 0 cap2)).run P w = .ok #[] w := by
      cases a2 <;> simp [Builtin.firstCells, loadCells, loadCellsFrom]
    rcases h with ⟨rfl, rfl, _⟩ | ⟨b, cap, cur, _, rfl, hg, hcap, _⟩
    · simp [Builtin.append_, run_underlying ht, sizeOf, typeInfo, i1, Builtin.lenOf, hfc]
    · simp [Builtin.append_, run_underlying ht, sizeOf, typeInfo, i1, Builtin.lenOf, hcap, hfc, storeCells]
  · obtain ⟨b2, off2, rfl, hF, hr2⟩ : ∃ b2 off2, a2 = some (⟨b2, off2, none⟩ : Addr) ∧ F b2 ∧ Row w b2 off2 (l2.flatMap enc) := by
      rcases hs with h | ⟨b2, off2, h1, h2, h3⟩
      · exact absurd h hl0
      · exact ⟨b2, off2, h1, h2, h3⟩
    have hnews : ∀ j u, (l2.flatMap enc)[j]? = some u → w.cell? ((⟨b2, off2, none⟩ : Addr).add j) = some u := fun j u hu => by
      rw [add_lit]; exact hr2.cell j u hu
    have fresh : ∀ (old : Nat), old < l.length + l2.length → ∀ w2 : World, w2 = w.drew.alloc (.cells ((l.flatMap enc).toArray ++ (l2.flatMap enc).toArray ++ Builtin.zeroCells zv.cells (grownCap w (l.length + l2.length) old e - (l.length + l2.length))) e) →
        Acc enc e sz w2 (w.heap.size + 1) (.slice (some ⟨w.heap.size, 0, none⟩) (l.length + l2.length) (grownCap w (l.length + l2.length) old e)) (l ++ l2) ∧ Mod (Mg g) w w2 := by
      intro old ho w2 hw2
      subst hw2
      have hge := grownCap_ge w (l.length + l2.length) old e
      have hcm : grownCap w (l.length + l2.length) old e ≤ maxLen := grownCap_le_maxLen w (l.length + l2.length) old e hmax
      refine ⟨.inr ⟨_, _, _, rfl, by rw [List.length_append], heap_alloc_new w.drew _, by rw [List.length_append]; exact hge, hcm, ?_, ?_⟩, ?_⟩
      · simp only [Array.size_append, List.size_toArray, size_zeroCells, hzs, hll, hl2, i4, ← Nat.add_mul]
        congr 1
        omega
      · simp only [Array.toList_append, List.flatMap_append]
        have e1 : (l ++ l2).length * sz = ((l.flatMap enc) ++ (l2.flatMap enc)).length := by rw [List.length_append, List.length_append, hll, hl2, i4, Nat.add_mul]
        rw [e1]
        exact List.take_left
      · exact (Mod.drew _ w).trans (Mod.alloc _ _ _)
    rcases h with ⟨rfl, rfl, rfl⟩ | ⟨b, cap, cur, rfl, rfl, hg, hcap, hcm, hcs, htake⟩
    · by_cases h0 : l2.length = 0
      · have : l2 = [] := List.eq_nil_of_length_eq_zero h0
        subst this
        refine ⟨.slice none 0 0, 0, w, ?_, Acc.nil, Mod.refl _ _, .inl rfl⟩
        simp [Builtin.append_, run_underlying ht, sizeOf, typeInfo, i1, Builtin.lenOf, Builtin.firstCells, loadCells, loadCellsFrom]
      · have hb0 : l2.length * i.bytes ≤ 281474976710656 := by
          have hb := hbytes; simp only [List.length_nil, Nat.zero_add] at hb; rw [i5]; omega
        have hr := run_append_nil (P := P) w t ty e i zv ht i1 i3 ⟨b2, off2, none⟩ l2.length cap2 (l2.flatMap enc) hl2 hnews (by omega) (by have := hmax'; simp only [List.length_nil, Nat.zero_add] at this; omega) hb0
        have hf := fresh 0 (by simp; omega) _ rfl
        simp only [List.length_nil, Nat.zero_add, List.flatMap_nil, List.nil_append, Array.empty_append] at hf
        exact ⟨_, _, _, hr, hf.1, hf.2, .inr (Nat.lt_succ_self _)⟩
    · by_cases hroom : l.length + l2.length ≤ cap
      · have hfit : l.length * i.size + (l2.flatMap enc).length ≤ cur.size := by rw [hl2, hcs, i4, ← Nat.add_mul]; exact Nat.mul_le_mul_right _ hroom
        have hr := run_append_room (P := P) w t ty e i ht i1 b l.length cap cur hg ⟨b2, off2, none⟩ l2.length cap2 (l2.flatMap enc) hl2 hnews hnew1 hroom hfit
        refine ⟨_, b + 1, _, hr, .inr ⟨b, cap, _, rfl, by rw [List.length_append], setRow_heap w b cur _ e _ hg, by rw [List.length_append]; exact hroom, hcm, ?_, ?_⟩, (setRow_mod _ _ _).weaken (fun i hi _ => by unfold Mg; omega), .inl rfl⟩
        · simp only [List.size_toArray, List.length_append, List.length_take, List.length_drop, Array.length_toList]
          omega
        · rw [i4, htake, List.flatMap_append]
          have e1 : (l ++ l2).length * sz = ((l.flatMap enc) ++ (l2.flatMap enc)).length := by rw [List.length_append, List.length_append, hll, hl2, i4, Nat.add_mul]
          rw [e1]
          exact List.take_left
      · have holds : ∀ j u, (l.flatMap enc)[j]? = some u → w.cell? ((⟨b, 0, none⟩ : Addr).add j) = some u := fun j u hu => by
          rw [add_lit, cell_of_row w b (0 + j) cur e (0, 0) hg]
          rw [← htake, List.getElem?_take] at hu
          split at hu
          · simpa using hu
          · cases hu
        have hr := run_append_grow (P := P) w t ty e i zv ht i1 i3 ⟨b, 0, none⟩ l.length cap (l.flatMap enc) hll holds ⟨b2, off2, none⟩ l2.length cap2 (l2.flatMap enc) hl2 hnews (by omega) (by omega) (by rw [i5]; exact growslice_fits (by omega) hbytes)
        have hf := fresh cap (by omega) _ rfl
        exact ⟨_, _, _, hr, hf.1, hf.2, .inr (Nat.lt_succ_self _)⟩

theorem AW.append {P : Program} {E : Env} {d : Option Tmp} {ty : TypeId} {pos : String} {af : Array Edge} {gd : Option (Nat × Bool)} {K : Value → World → Prop} {t : TypeId} {x y : Operand} {gg : Bool} {by_ : Nat} {z : List Value} {F : Nat → Prop} {v2 : Value} {l2 : List α}
    (h : Acc enc e sz w g v l) (ht : P.underlying t = some (.slice e)) (he : tyI P e = some (gg, sz, by_, z)) (hz : z.length = sz)
    (hsz : ∀ x, (enc x).length = sz) (h1 : ∀ x, (enc x).all (·.oneCell') = true) (hx : ev E x = some v) (hy : ev E y = some v2) (hs : Sl enc w F v2 l2) (hbytes : (l.length + l2.length) * by_ ≤ 140737488355328) (hmax : l.length + l2.length ≤ maxLen)
    (hK : ∀ v' g' w', Acc enc e sz w' g' v' (l ++ l2) → Mod (Mg g) w w' → (g' = g ∨ w.heap.size < g') → w.heap.size ≤ w'.heap.size → K v' w') :
    AW P ⟨d, .call { callee := .builtin .append, args := #[x, y], argTypes := #[t, t] }, ty, pos, af, gd⟩ E w K := fun a ha => by
  obtain ⟨v', g', w', hr, h2, h3, h4⟩ := h.append (ty := ty) ht he hz hsz h1 hs hbytes hmax
  simp only [execOp, resolve, invoke, builtin, Sem.run_bind, Sem.run_pure, Result.andThen_ok, List.map_toArray, List.map_cons, List.map_nil, ha.ev hx, ha.ev hy, hr, out]
  exact hK _ _ _ h2 h3 h4 h3.size
end

/-- a slice made of literals reads as the list -/
theorem Sl.of_blk {α : Type} {enc : α → List Value} {w : World} {b : Nat} {e : TypeId} {cs : List Value} (h : Bk w b cs e) (l : List α) (n : Nat) (hc : cs = l.flatMap enc) (hn : l.length = n) (hm : n ≤ maxLen) : Sl enc w (Iv b (b + 1)) (.slice (some ⟨b, 0, none⟩) n n) l := by
  subst hn
  exact ⟨_, l.length, rfl, Nat.le_refl _, hm, .inr ⟨b, 0, rfl, by unfold Iv; omega, by rw [← hc]; exact h.row⟩⟩
/-- and grows -/
theorem Acc.of_blk {α : Type} {enc : α → List Value} {w : World} {b : Nat} {e : TypeId} {sz : Nat} {cs : List Value} (h : Bk w b cs e) (l : List α) (n : Nat) (hc : cs = l.flatMap enc) (hsz : ∀ x, (enc x).length = sz) (hn : l.length = n) (hm : n ≤ maxLen) : Acc enc e sz w (b + 1) (.slice (some ⟨b, 0, none⟩) n n) l := by
  subst hn
  have hl := flat_len hsz l
  refine .inr ⟨b, l.length, cs.toArray, rfl, rfl, h, Nat.le_refl _, hm, by rw [hc]; simpa using hl, ?_⟩
  rw [hc, ← hl]
  exact List.take_length

/-! runes of a text -/
def dec (s : Str) : Nat × Nat := Utf8.decode ⟨s.toArray⟩ 0

theorem decode_drop (s : Str) (n : Nat) : Utf8.decode ⟨s.toArray⟩ n = dec (s.drop n) := by
  have h := Lib.tail_decode ⟨s.toArray⟩ n 0
  have e : (⟨s.toArray⟩ : ByteArray).extract n (⟨s.toArray⟩ : ByteArray).size = ⟨(s.drop n).toArray⟩ := by
    rw [strExtract]
    have : (⟨s.toArray⟩ : ByteArray).size = s.length := by simp [ByteArray.size]
    rw [this, List.take_length]
  rw [e] at h
  simpa [dec] using h.symm

theorem dec_pos (s : Str) (h : s ≠ []) : 1 ≤ (dec s).2 := by
  refine Lib.decode_width_pos _ _ ?_
  cases s with
  | nil => exact absurd rfl h
  | cons a s => simp [ByteArray.size]

theorem dec_le (s : Str) (h : s ≠ []) : (dec s).2 ≤ s.length := by
  have hsz : (⟨s.toArray⟩ : ByteArray).size = s.length := by simp [ByteArray.size]
  cases s with
  | nil => exact absurd rfl h
  | cons a s =>
    unfold dec Utf8.decode
    simp only [hsz, List.length_cons]
    repeat' split
    all_goals simp_all
    all_goals omega

theorem dec_rune (s : Str) : (dec s).1 ≤ 1114111 := by
  unfold dec Utf8.decode Utf8.runeError
  simp only
  repeat' split
  all_goals simp_all [Utf8.valid]
  all_goals omega

def It (w : World) (b : Nat) (s : Str) (pos : Nat) : Prop := w.heap[b]? = some (.stringIter ⟨s.toArray⟩ pos)
theorem It.keepG {w w' : World} {b g : Nat} {s : Str} {pos : Nat} (h : It w b s pos) (hm : Mod (Mg g) w w') (hg : b + 1 ≠ g) : It w' b s pos := hm.keep _ _ h hg
theorem It.ext {w w' : World} {b : Nat} {s : Str} {pos : Nat} (h : It w b s pos) (hm : Ext w w') : It w' b s pos := hm.keep _ _ h (fun x => x)
theorem It.lt {w : World} {b : Nat} {s : Str} {pos : Nat} (h : It w b s pos) : b < w.heap.size := (Array.getElem?_eq_some_iff.1 h).1

section
variable {P : Program} {E : Env} {d : Option Tmp} {ty : TypeId} {pos : String} {af : Array Edge} {gd : Option (Nat × Bool)} {w : World} {K : Value → World → Prop}
theorem AW.rangeS {t : TypeId} {x : Operand} {s : Str} (ht : P.underlying t = some .string) (hx : ev E x = some (strV s))
    (hK : ∀ w' b, Ext w w' → b = w.heap.size → w'.heap.size = w.heap.size + 1 → It w' b s 0 → K (ptr b 0) w') : AW P ⟨d, .range t x, ty, pos, af, gd⟩ E w K := fun a ha => by
  have h := hK (w.alloc (.stringIter ⟨s.toArray⟩ 0)) w.heap.size (Mod.alloc _ _ _) rfl (by simp) (by
    show (w.heap.push _)[w.heap.size]? = _
    simp)
  simp [execOp, ha.ev hx, Instr.range, strV, run_underlying ht, out]
  exact h
theorem AW.nextS {x : Operand} {s : Str} {b i : Nat} (hx : ev E x = some (ptr b 0)) (hi : It w b s i) (hend : s.drop i = [] → K (.tuple #[.bool false]) w)
    (hK : ∀ w', s.drop i ≠ [] → Mod (Mg (b + 1)) w w' → w'.heap.size = w.heap.size → It w' b s (i + (dec (s.drop i)).2) → K (.tuple #[.bool true, .int .i64 i, .int .i32 ((dec (s.drop i)).1 : Int)]) w') :
    AW P ⟨d, .next x true, ty, pos, af, gd⟩ E w K := fun a ha => by
  have h3 : (⟨s.toArray⟩ : ByteArray).size = s.length := by simp [ByteArray.size]
  by_cases hl : i < s.length
  · have hne : s.drop i ≠ [] := fun e => by have := congrArg List.length e; simp at this; omega
    have h := hK { w with heap := w.heap.setIfInBounds b (.stringIter ⟨s.toArray⟩ (i + (dec (s.drop i)).2)) } hne
      ⟨rfl, rfl, rfl, by simp, fun k o hk hn => by
        have : b ≠ k := fun e => hn (by unfold Mg; omega)
        show (w.heap.setIfInBounds b _)[k]? = _
        rw [Array.getElem?_setIfInBounds_ne this]; exact hk⟩ (by simp) (by
        show (w.heap.setIfInBounds b _)[b]? = _
        have hb := hi.lt
        simp [hb])
    have hg : w.heap[b]? = some (.stringIter ⟨s.toArray⟩ i) := hi
    simp [execOp, ha.ev hx, ptr, Instr.next, getObj, setObj, Sem.run, hg, h3, hl, decode_drop, goInt, out]
    exact h
  · have he : s.drop i = [] := List.drop_of_length_le (by omega)
    have hg : w.heap[b]? = some (.stringIter ⟨s.toArray⟩ i) := hi
    simp [execOp, ha.ev hx, ptr, Instr.next, getObj, Sem.run, hg, h3, hl, out]
    exact hend he
end
end Go.Ik
