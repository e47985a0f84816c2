/-
  Pointers and nil, structs compared, maps of the call's own, functions made.
-/
import Derived.Test.YtajedfbogchkcaaIk8
import Derived.Laws.Pointers
import Derived.Laws.StructEq
set_option linter.unusedVariables false
set_option linter.unusedSimpArgs false
set_option linter.unusedSectionVars false
namespace Go.Ik
open Go

section
variable {P : Program} {E : Env} {C : World → Prop} {d : Option Tmp} {ty : TypeId} {pos : String} {af : Array Edge} {gd : Option (Nat × Bool)} {w : World} {K : Value → World → Prop}

/-! pointers and nil -/
theorem eqGuard_ptr (op : BinOp) (t : TypeId) (x y : Operand) (w : World) (a b : Option Addr) : (eqGuard op t x y (.pointer a) (.pointer b)).run P w = .ok () w := by
  unfold eqGuard; split <;> simp
theorem Q1.eqNil {xt yt e : TypeId} {x y : Operand} {a : Option Addr} (hu : P.underlying xt = some (.pointer e)) (hx : ev E x = some (.pointer a)) (hy : ev E y = some (.pointer none)) : Q1 P ⟨d, .binOp .eql xt x y yt, ty, pos, af, gd⟩ E C (.bool a.isNone) := fun s ha w _ => by
  have h : (Op.equal xt (.pointer a) (.pointer none)).run P w = .ok a.isNone w := by
    have key : ∀ n, (Op.equalIn (n + 1) xt (.pointer a) (.pointer none)).run P w = .ok a.isNone w := fun n => by
      cases a <;> simp [Op.equalIn, run_underlying hu]
    exact key 9999
  simp [execOp, ha.ev hx, ha.ev hy, eqGuard_ptr, Go.binOp, h]
theorem Q1.neNil {xt yt e : TypeId} {x y : Operand} {a : Option Addr} (hu : P.underlying xt = some (.pointer e)) (hx : ev E x = some (.pointer a)) (hy : ev E y = some (.pointer none)) : Q1 P ⟨d, .binOp .neq xt x y yt, ty, pos, af, gd⟩ E C (.bool (!a.isNone)) := fun s ha w _ => by
  have h : (Op.equal xt (.pointer a) (.pointer none)).run P w = .ok a.isNone w := by
    have key : ∀ n, (Op.equalIn (n + 1) xt (.pointer a) (.pointer none)).run P w = .ok a.isNone w := fun n => by
      cases a <;> simp [Op.equalIn, run_underlying hu]
    exact key 9999
  simp [execOp, ha.ev hx, ha.ev hy, eqGuard_ptr, Go.binOp, h]
theorem Q1.nilCheckP {x : Operand} {b off : Nat} (hx : ev E x = some (ptr b off)) : Q1 P ⟨d, .nilCheck x, ty, pos, af, gd⟩ E C (ptr b off) := fun a ha w _ => by
  simp [execOp, ha.ev hx, ptr]

/-! structs compared: 'q': what the kit says of two such -/
theorem Q1.eqStruct {xt yt : TypeId} {x y : Operand} {xs ys : Array Value} {q : Bool} (hg : P.eqGuardType P.depth xt = false) (hq : ∀ w, (Op.equalIn 10000 xt (.agg xs) (.agg ys)).run P w = .ok q w) (hx : ev E x = some (.agg xs)) (hy : ev E y = some (.agg ys)) : Q1 P ⟨d, .binOp .eql xt x y yt, ty, pos, af, gd⟩ E C (.bool q) := fun a ha w _ => by
  simp [execOp, ha.ev hx, ha.ev hy, run_eqGuard_agg _ _ _ _ _ _ _ hg, run_eql_struct, hq w, Result.andThen]
theorem Q1.neStruct {xt yt : TypeId} {x y : Operand} {xs ys : Array Value} {q : Bool} (hg : P.eqGuardType P.depth xt = false) (hq : ∀ w, (Op.equalIn 10000 xt (.agg xs) (.agg ys)).run P w = .ok q w) (hx : ev E x = some (.agg xs)) (hy : ev E y = some (.agg ys)) : Q1 P ⟨d, .binOp .neq xt x y yt, ty, pos, af, gd⟩ E C (.bool (!q)) := fun a ha w _ => by
  simp [execOp, ha.ev hx, ha.ev hy, run_eqGuard_agg _ _ _ _ _ _ _ hg, run_neq_struct, hq w, Result.andThen]

/-! a field of a struct in a value -/
theorem Q1.field {xt : TypeId} {x : Operand} {i : Nat} {vs : Array Value} {v : Value} (hx : ev E x = some (.agg vs)) (hr : ∀ w, (Instr.field xt (.agg vs) i).run P w = .ok v w) : Q1 P ⟨d, .field xt x i, ty, pos, af, gd⟩ E C v := fun a ha w _ => by
  simp [execOp, ha.ev hx, hr w]
theorem Q1.makeFunc {fn : Fn} {fs cs : Array Operand} {first cap : List Value} (h1 : evs E fs.toList = some first) (h2 : evs E cs.toList = some cap) : Q1 P ⟨d, .makeFunc fn fs cs, ty, pos, af, gd⟩ E C (.func fn first.toArray cap.toArray) := fun a ha w _ => by
  have e1 : fs.map a.eval = first.toArray := by
    apply Array.ext'; simpa using ha.evs h1
  have e2 : cs.map a.eval = cap.toArray := by
    apply Array.ext'; simpa using ha.evs h2
  simp [execOp, Instr.makeFunc, e1, e2]

/-! maps of the call's own -/
section
variable {α β : Type} [DecidableEq α] {key : α → Value} {val : β → Value} {kind : TypeDesc}
def MapO (key : α → Value) (val : β → Value) (w : World) (b : Nat) (m : List (α × β)) : Prop :=
  ∃ es clock, w.heap[b]? = some (.map es clock) ∧ es.toList.map (fun e => (e.key, e.val)) = m.map fun p => (key p.1, val p.2)
theorem MapO.keepG {w' : World} {b g : Nat} {m : List (α × β)} (h : MapO key val w b m) (hm : Mod (Mg g) w w') (hg : b + 1 ≠ g) : MapO key val w' b m := by
  obtain ⟨es, c, h1, h2⟩ := h
  exact ⟨es, c, hm.keep _ _ h1 hg, h2⟩
theorem MapO.ext {w' : World} {b : Nat} {m : List (α × β)} (h : MapO key val w b m) (hm : Ext w w') : MapO key val w' b m := by
  obtain ⟨es, c, h1, h2⟩ := h
  exact ⟨es, c, hm.keep _ _ h1 (fun x => x), h2⟩
theorem MapO.lt {b : Nat} {m : List (α × β)} (h : MapO key val w b m) : b < w.heap.size := by
  obtain ⟨es, c, h1, h2⟩ := h
  exact (Array.getElem?_eq_some_iff.1 h1).1
def asc (m : List (α × β)) (a : α) : Option β := (m.find? fun p => decide (p.1 = a)).map Prod.snd
theorem findNow_asc (hs : ∀ a b : α, Instr.sameNow kind (key a) (key b) = some (decide (a = b))) (a : α) : ∀ (es : List MapEntry) (m : List (α × β)) (i : Nat), es.map (fun e => (e.key, e.val)) = m.map (fun p => (key p.1, val p.2)) →
    ∃ j, Instr.findNow kind (key a) es i = some ((asc m a).map fun x => (j, val x))
  | [], m, i, h => by
    cases m with
    | nil => exact ⟨0, rfl⟩
    | cons _ _ => simp at h
  | e :: es, m, i, h => by
    cases m with
    | nil => simp at h
    | cons p m =>
      simp only [List.map_cons, List.cons.injEq, Prod.mk.injEq] at h
      obtain ⟨⟨h1, h2⟩, h3⟩ := h
      unfold Instr.findNow
      rw [h1, hs a p.1]
      by_cases hp : a = p.1
      · refine ⟨i, ?_⟩
        simp [hp, asc, h2]
      · obtain ⟨j, hj⟩ := findNow_asc hs a es m (i + 1) h3
        refine ⟨j, ?_⟩
        have hp' : ¬ (p.1 = a) := fun e => hp e.symm
        simp only [decide_eq_false hp, hj, asc, List.find?_cons, decide_eq_false hp']

/-- what a type of keys must say: nothing is checked, and two are told apart at once -/
structure KeyOk (P : Program) (kt : TypeId) (key : α → Value) : Prop where
  chk : ∀ (e : Bool) (a : α) (w : World), (Instr.checkKey e 10000 kt (key a)).run P w = .ok () w
  same : ∃ kind, P.underlying kt = some kind ∧ ∀ a b : α, Instr.sameNow kind (key a) (key b) = some (decide (a = b))
theorem keyOk_str {kt : TypeId} (h : P.underlying kt = some .string) : KeyOk P kt strV := ⟨fun e a w => by
    unfold Instr.checkKey; simp [run_underlying h, strV], ⟨_, h, fun a b => by
    simp only [strV, Instr.sameNow, Option.some.injEq]
    rw [beq_toListBytes, toList_mk, toList_mk]
    by_cases hab : a = b <;> simp [hab]⟩⟩
def intV (n : Int) : Value := .int .i64 n
theorem keyOk_int {kt : TypeId} (h : P.underlying kt = some (.int .i64)) : KeyOk P kt intV := ⟨fun e a w => by
    unfold Instr.checkKey; simp [run_underlying h, intV], ⟨_, h, fun a b => by
    simp only [intV, Instr.sameNow, Option.some.injEq, if_true]
    by_cases hab : a = b <;> simp [hab]⟩⟩

theorem run_findKey {kt : TypeId} (hk : KeyOk P kt key) (a : α) {es : List MapEntry} {m : List (α × β)} (h : es.map (fun e => (e.key, e.val)) = m.map (fun p => (key p.1, val p.2))) (w : World) :
    ∃ j, (Instr.findKey kt (key a) es).run P w = .ok ((asc m a).map fun x => (j, val x)) w := by
  obtain ⟨kind, hu, hs⟩ := hk.same
  obtain ⟨j, hj⟩ := findNow_asc hs a es m 0 h
  refine ⟨j, ?_⟩
  unfold Instr.findKey
  simp only [Sem.run_bind, run_underlying hu, Result.andThen_ok, hj, Sem.run_pure]
theorem run_getMap {b : Nat} {es : Array MapEntry} {c : Nat} (h : w.heap[b]? = some (.map es c)) : (getObj b).run P w = .ok (.map es c) w := by
  simp [getObj, Sem.run, h]

theorem Q1.lookupOk {t kt et : TypeId} {g : Bool} {n by_ : Nat} {x y : Operand} {b : Nat} {m : List (α × β)} {a : α} {z : Value} (hk : KeyOk P kt key) (ht : P.underlying t = some (.map kt et)) (hz : ∀ w, (zeroValue et).run P w = .ok z w) (hx : ev E x = some (.map (some b))) (hy : ev E y = some (key a)) (hm : ∀ w, C w → MapO key val w b m) :
    Q1 P ⟨d, .lookup t x y true, ty, pos, af, gd⟩ E C (.tuple #[(match asc m a with | some u => val u | none => z), .bool (asc m a).isSome]) := fun s ha w hC => by
  obtain ⟨es, c, h1, h2⟩ := hm w hC
  obtain ⟨j, hj⟩ := run_findKey (P := P) hk a h2 w
  have hg := run_getMap (P := P) h1
  cases hc : asc m a with
  | none =>
    rw [hc] at hj
    simp [execOp, ha.ev hx, ha.ev hy, Instr.lookup, run_underlying ht, hg, hk.chk, hj, hz]
  | some u =>
    rw [hc] at hj
    simp [execOp, ha.ev hx, ha.ev hy, Instr.lookup, run_underlying ht, hg, hk.chk, hj]
theorem Q1.lookup1 {t kt et : TypeId} {x y : Operand} {b : Nat} {m : List (α × β)} {a : α} {z : Value} (hk : KeyOk P kt key) (ht : P.underlying t = some (.map kt et)) (hz : ∀ w, (zeroValue et).run P w = .ok z w) (hx : ev E x = some (.map (some b))) (hy : ev E y = some (key a)) (hm : ∀ w, C w → MapO key val w b m) :
    Q1 P ⟨d, .lookup t x y false, ty, pos, af, gd⟩ E C (match asc m a with | some u => val u | none => z) := fun s ha w hC => by
  obtain ⟨es, c, h1, h2⟩ := hm w hC
  obtain ⟨j, hj⟩ := run_findKey (P := P) hk a h2 w
  have hg := run_getMap (P := P) h1
  cases hc : asc m a with
  | none =>
    rw [hc] at hj
    simp [execOp, ha.ev hx, ha.ev hy, Instr.lookup, run_underlying ht, hg, hk.chk, hj, hz]
  | some u =>
    rw [hc] at hj
    simp [execOp, ha.ev hx, ha.ev hy, Instr.lookup, run_underlying ht, hg, hk.chk, hj]
theorem setMap_mod (w : World) (b : Nat) (o : Obj) : Mod (Mg (b + 1)) w { w with heap := w.heap.setIfInBounds b o } :=
  ⟨rfl, rfl, rfl, by simp, fun k o' hk hn => by
    have : b ≠ k := fun e => hn (by unfold Mg; omega)
    show (w.heap.setIfInBounds b _)[k]? = _
    rw [Array.getElem?_setIfInBounds_ne this]; exact hk⟩
/-- an entry more -/
theorem AW.mapNew {t kt et : TypeId} {x y z : Operand} {b : Nat} {m : List (α × β)} {a : α} {u : β} (hk : KeyOk P kt key) (ht : P.underlying t = some (.map kt et)) (hx : ev E x = some (.map (some b))) (hy : ev E y = some (key a)) (hz : ev E z = some (val u)) (hm : MapO key val w b m) (hno : asc m a = none)
    (hK : ∀ w', Mod (Mg (b + 1)) w w' → w'.heap.size = w.heap.size → MapO key val w' b (m ++ [(a, u)]) → K undef w') : AW P ⟨d, .mapUpdate t x y z, ty, pos, af, gd⟩ E w K := fun s ha => by
  obtain ⟨es, c, h1, h2⟩ := hm
  obtain ⟨j, hj⟩ := run_findKey (P := P) hk a h2 w
  rw [hno] at hj
  have hg := run_getMap (P := P) h1
  have hlt := (Array.getElem?_eq_some_iff.1 h1).1
  have h := hK _ (setMap_mod w b (.map (es.push { key := key a, val := val u, born := c }) (c + 1))) (by simp) ⟨es.push { key := key a, val := val u, born := c }, c + 1, by
    show (w.heap.setIfInBounds b _)[b]? = _
    simp [hlt], by simp [h2]⟩
  simp [execOp, ha.ev hx, ha.ev hy, ha.ev hz, Instr.mapUpdate, run_underlying ht, hg, hk.chk, hj, setObj, Sem.run, h1, out]
  exact h
theorem AW.makeMap {t : TypeId} (hK : ∀ w' b, Ext w w' → b = w.heap.size → w'.heap.size = w.heap.size + 1 → MapO key val w' b [] → K (.map (some b)) w') : AW P ⟨d, .makeMap t none, ty, pos, af, gd⟩ E w K := fun s ha => by
  have h := hK (w.alloc (.map #[] 0)) w.heap.size (Mod.alloc _ _ _) rfl (by simp) ⟨#[], 0, by
    show (w.heap.push _)[w.heap.size]? = _
    simp, by simp⟩
  simp [execOp, Instr.makeMap, newObj, Sem.run, out]
  exact h
end
end

/-! rows that stay within blocks of an interval -/
def Rw (w : World) (lo hi b : Nat) (cs : List Value) : Prop := lo ≤ b ∧ b < hi ∧ Row w b 0 cs
theorem Rw.ext {w w' : World} {lo hi b : Nat} {cs : List Value} (h : Rw w lo hi b cs) (hm : Ext w w') : Rw w' lo hi b cs := ⟨h.1, h.2.1, h.2.2.ext hm⟩
theorem Rw.keepG {w w' : World} {lo hi b g : Nat} {cs : List Value} (h : Rw w lo hi b cs) (hm : Mod (Mg g) w w') (hg : g ≤ lo ∨ hi < g) : Rw w' lo hi b cs := ⟨h.1, h.2.1, h.2.2.keepG hm (by have := h.1; have := h.2.1; omega)⟩
theorem Rw.cell {w : World} {lo hi b : Nat} {cs : List Value} (h : Rw w lo hi b cs) (i : Nat) (v : Value) (hv : cs[i]? = some v) : Row w b i [v] := fun j u hu => by
  cases j with
  | zero =>
    simp only [List.getElem?_cons_zero, Option.some.injEq] at hu
    subst hu
    have := h.2.2 i v hv
    simpa using this
  | succ j => simp at hu

/-- a slice's header -/
structure SH where
  a : Option Addr
  n : Nat
  c : Nat
def SH.val (h : SH) : Value := .slice h.a h.n h.c

/-! two or three blocks that may be written -/
def Mg2 (g h : Nat) : Nat → Prop := fun b => b + 1 = g ∨ b + 1 = h
def Mg3 (g h k : Nat) : Nat → Prop := fun b => b + 1 = g ∨ b + 1 = h ∨ b + 1 = k
theorem Mod.thenG2 {g g1 g2 : Nat} {w0 w w' : World} (h : Mod (Mg2 g1 g2) w0 w) (k : Mod (Mg g) w w') (hg : g = 0 ∨ w0.heap.size < g ∨ g = g1 ∨ g = g2) : Mod (Mg2 g1 g2) w0 w' :=
  h.then k (fun i hi hl => by unfold Mg at hi; unfold Mg2; omega)
theorem Mod.thenG3 {g g1 g2 g3 : Nat} {w0 w w' : World} (h : Mod (Mg3 g1 g2 g3) w0 w) (k : Mod (Mg g) w w') (hg : g = 0 ∨ w0.heap.size < g ∨ g = g1 ∨ g = g2 ∨ g = g3) : Mod (Mg3 g1 g2 g3) w0 w' :=
  h.then k (fun i hi hl => by unfold Mg at hi; unfold Mg3; omega)

/-! structs of plain cells compared -/
inductive FK where
  | int (k : IntKind)
  | str
  | bool
/-- a struct's fields: where each lies, what it is (of fields that are numbers, texts, truths; none by the name '_') -/
def fkOf (P : Program) (f : Field) : Option (Nat × FK) :=
  match P.underlying f.type with
  | some (.int k) => if f.name ≠ "_" then some (f.offset, .int k) else none
  | some .string => if f.name ≠ "_" then some (f.offset, .str) else none
  | some .bool => if f.name ≠ "_" then some (f.offset, .bool) else none
  | _ => none
def cellEq : FK → Value → Value → Option Bool
  | .int k, .int j a, .int j' b => if j = k ∧ j' = k then some (a == b) else none
  | .str, .string a, .string b => some (a.toList == b.toList)
  | .bool, .bool a, .bool b => some (a == b)
  | _, _, _ => none
def eqCells : List (Nat × FK) → Array Value → Array Value → Option Bool
  | [], _, _ => some true
  | (o, k) :: r, xs, ys =>
    match xs[o]?, ys[o]? with
    | some x, some y => match cellEq k x y with
      | some true => eqCells r xs ys
      | some false => some false
      | none => none
    | _, _ => none
def fksOf (P : Program) : List Field → Option (List (Nat × FK))
  | [] => some []
  | f :: r => match fkOf P f, fksOf P r with
    | some k, some ks => some (k :: ks)
    | _, _ => none
theorem run_eqFields {P : Program} {xs ys : Array Value} {n : Nat} (w : World) : ∀ (fs : List Field) (ks : List (Nat × FK)) (q : Bool), fksOf P fs = some ks → eqCells ks xs ys = some q → (Op.eqFields (n + 1) xs ys fs).run P w = .ok q w
  | [], ks, q, h1, h2 => by
    simp only [fksOf, Option.some.injEq] at h1
    subst h1
    simp only [eqCells, Option.some.injEq] at h2
    subst h2
    simp [Op.eqFields]
  | f :: fs, ks, q, h1, h2 => by
    unfold fksOf at h1
    cases hk : fkOf P f with
    | none => simp [hk] at h1
    | some k =>
      cases hks : fksOf P fs with
      | none => simp [hk, hks] at h1
      | some ks' =>
        simp only [hk, hks, Option.some.injEq] at h1
        subst h1
        obtain ⟨o, k⟩ := k
        unfold eqCells at h2
        have key : ∀ (d : TypeDesc), P.underlying f.type = some d → f.name ≠ "_" → f.offset = o → (∀ s, d ≠ .struct s) → (∀ a b, d ≠ .array a b) → (∀ x y r, cellEq k x y = some r → (Op.equalIn (n + 1) f.type x y).run P w = .ok r w) → (Op.eqFields (n + 1) xs ys (f :: fs)).run P w = .ok q w := by
          intro d hu hn ho hs ha he
          cases hx : xs[o]? with
          | none => simp [hx] at h2
          | some x =>
            cases hy : ys[o]? with
            | none => simp [hx, hy] at h2
            | some y =>
              simp only [hx, hy] at h2
              have hag : ∀ cs : Array Value, (part f.type cs f.offset).run P w = (match cs[f.offset]? with | some v => .ok v w | none => ((stuck "part: no such cell" : Sem Value)).run P w) := by
                intro cs
                unfold part isAgg
                simp only [Sem.run_bind, run_underlying hu, Result.andThen_ok]
                cases d <;> simp_all <;> (split <;> simp_all)
              have hpx := hag xs; have hpy := hag ys
              rw [ho] at hpx hpy
              rw [hx] at hpx; rw [hy] at hpy
              cases hc : cellEq k x y with
              | none => simp [hc] at h2
              | some r =>
                have hr := he x y r hc
                rw [hc] at h2
                have ih := fun h => run_eqFields (P := P) (xs := xs) (ys := ys) (n := n) w fs ks' q hks h
                cases r with
                | false =>
                  simp only [Option.some.injEq] at h2
                  subst h2
                  simp [Op.eqFields, hn, ho, hpx, hpy, hr]
                | true =>
                  have := ih h2
                  simp [Op.eqFields, hn, ho, hpx, hpy, hr, this]
        unfold fkOf at hk
        cases hu : P.underlying f.type with
        | none => simp [hu] at hk
        | some d =>
          cases d <;> simp only [hu, reduceCtorEq] at hk <;> (split at hk) <;> (try cases hk) <;> rename_i hn
          all_goals refine key _ hu hn rfl (by intro s h; cases h) (by intro a b h; cases h) fun x y r hc => ?_
          all_goals (cases x <;> simp only [cellEq, reduceCtorEq] at hc <;> cases y <;> simp only [cellEq, reduceCtorEq, Option.some.injEq] at hc)
          all_goals first
            | (split at hc
               · rename_i hj
                 obtain ⟨rfl, rfl⟩ := hj
                 simp only [Option.some.injEq] at hc
                 subst hc
                 exact run_equalIn_int w n _ _ _ _ _ hu
               · cases hc)
            | (subst hc; exact run_equalIn_bool' w n _ _ _ hu)
            | (subst hc; exact run_equalIn_string w n _ _ _ hu)
theorem run_eq_flat {P : Program} {t : TypeId} {xs ys : Array Value} {ks : List (Nat × FK)} {q : Bool} (hf : P.underlying t = some (.struct (P.fieldsOf t))) (hp : P.stoodInHeld t = false) (hk : fksOf P (P.fieldsOf t).toList = some ks) (hq : eqCells ks xs ys = some q) (w : World) :
    (Op.equalIn 10000 t (.agg xs) (.agg ys)).run P w = .ok q w :=
  (run_equalIn_agg w 9999 t xs ys hf hp).trans (run_eqFields (n := 9998) w _ ks q hk hq)
theorem ndec_t {p : Prop} [Decidable p] (h : true = !decide p) : ¬ p := by
  intro hp; simp [hp] at h
theorem ndec_f {p : Prop} [Decidable p] (h : false = !decide p) : p := by
  by_cases hp : p
  · exact hp
  · simp [hp] at h
end Go.Ik
