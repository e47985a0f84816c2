/-
  A layer over the kit's walk: slots as a list of facts, code as a list of items still to run, regions in text order or in any order.
-/
import Derived.WalkKit
import Derived.ProofKit
import Derived.Still
set_option linter.unusedVariables false
set_option linter.unusedSimpArgs false
namespace Go.Ik
open Go

/-! slots -/
abbrev Env := List (Nat × Value)

def lk : Nat → Env → Option Value
  | _, [] => none
  | i, p :: r => match Nat.beq i p.1 with
    | true => some p.2
    | false => lk i r

def ev (E : Env) : Operand → Option Value
  | .tmp t => lk t E
  | .const v => some v
  | .global g => some (.pointer (some ⟨g, 0, none⟩))
  | .func f => some (.func (.func f) #[] #[])

/-- what is known of the slots -/
def Has (E : Env) (a : Act) : Prop := ∀ i v, lk i E = some v → a.tmps.getD i undef = v

structure Sat (n : Nat) (E : Env) (a : Act) : Prop where
  size : a.tmps.size = n
  defers : a.defers = []
  has : Has E a

def pu : Option Tmp → Value → Env → Env
  | some d, v, E => (d, v) :: E
  | none, _, E => E

def dstOk (n : Nat) : Option Tmp → Bool
  | some d => Nat.blt d n
  | none => true

theorem Sat.put {n : Nat} {E : Env} {a : Act} (h : Sat n E a) {d : Option Tmp} (hd : dstOk n d = true) (v : Value) : Sat n (pu d v E) (a.put d v) := by
  cases d with
  | none => exact h
  | some d =>
    have hd' : d < n := Nat.lt_of_succ_le (Nat.le_of_ble_eq_true hd)
    refine ⟨by simp [Act.put, h.size], h.defers, fun i u hu => ?_⟩
    simp only [pu, lk] at hu
    cases hb : Nat.beq i d with
    | true =>
      have : i = d := Nat.eq_of_beq_eq_true hb
      subst this
      simp only [hb] at hu
      simp only [Option.some.injEq] at hu
      subst hu
      simp [Act.put, h.size, hd']
    | false =>
      simp only [hb] at hu
      have hne : d ≠ i := fun e => by subst e; simp [Nat.beq_refl] at hb
      have := h.has i u hu
      simpa [Act.put, Array.getElem?_setIfInBounds_ne hne] using this

theorem Has.ev {E : Env} {a : Act} (h : Has E a) {x : Operand} {v : Value} (hx : Ik.ev E x = some v) : a.eval x = v := by
  cases x with
  | tmp t => exact h t v hx
  | const u => simpa [Ik.ev, Act.eval] using hx
  | global g => simpa [Ik.ev, Act.eval] using hx
  | func f => simpa [Ik.ev, Act.eval] using hx

/-- fewer facts -/
def sub : Env → Env → Prop
  | [], _ => True
  | p :: r, E => lk p.1 E = some p.2 ∧ sub r E

theorem sub_lk : ∀ {E' E : Env}, sub E' E → ∀ i v, lk i E' = some v → lk i E = some v
  | [], _, _, _, _, h => by simp [lk] at h
  | p :: r, E, ⟨h1, h2⟩, i, v, h => by
    simp only [lk] at h
    cases hb : Nat.beq i p.1 with
    | true =>
      have : i = p.1 := Nat.eq_of_beq_eq_true hb
      simp only [hb] at h
      simp only [Option.some.injEq] at h
      rw [this, h1, h]
    | false =>
      simp only [hb] at h
      exact sub_lk h2 i v h

theorem Sat.sub {n : Nat} {E E' : Env} {a : Act} (h : Sat n E a) (hs : Ik.sub E' E) : Sat n E' a :=
  ⟨h.size, h.defers, fun i v hv => h.has i v (sub_lk hs i v hv)⟩

/-! worlds: what a call leaves as it was -/
structure Mod (M : Nat → Prop) (w w' : World) : Prop where
  os : w'.os = w.os
  tape : w'.tape = w.tape
  output : w'.output = w.output
  size : w.heap.size ≤ w'.heap.size
  keep : ∀ (b : Nat) (o : Obj), w.heap[b]? = some o → ¬ M b → w'.heap[b]? = some o

abbrev Ext (w w' : World) : Prop := Mod (fun _ => False) w w'

theorem Mod.refl (M : Nat → Prop) (w : World) : Mod M w w := ⟨rfl, rfl, rfl, Nat.le_refl _, fun _ _ h _ => h⟩
theorem Mod.trans {M : Nat → Prop} {a b c : World} (h : Mod M a b) (k : Mod M b c) : Mod M a c :=
  ⟨k.os.trans h.os, k.tape.trans h.tape, k.output.trans h.output, Nat.le_trans h.size k.size, fun i o hi hm => k.keep i o (h.keep i o hi hm) hm⟩
theorem Mod.weaken {M M' : Nat → Prop} {a b : World} (h : Mod M a b) (hm : ∀ i, M i → i < a.heap.size → M' i) : Mod M' a b :=
  ⟨h.os, h.tape, h.output, h.size, fun i o hi hn => h.keep i o hi (fun hx => hn (hm i hx (Array.getElem?_eq_some_iff.1 hi).1))⟩
/-- first M, then more that is new -/
theorem Mod.then {M N : Nat → Prop} {a b c : World} (h : Mod M a b) (k : Mod N b c) (hN : ∀ i, N i → i < a.heap.size → M i) : Mod M a c :=
  ⟨k.os.trans h.os, k.tape.trans h.tape, k.output.trans h.output, Nat.le_trans h.size k.size,
    fun i o hi hm => k.keep i o (h.keep i o hi hm) (fun hx => hm (hN i hx (Array.getElem?_eq_some_iff.1 hi).1))⟩
theorem Mod.ext {M : Nat → Prop} {a b c : World} (h : Mod M a b) (k : Ext b c) : Mod M a c := h.then k (fun _ h _ => h.elim)
theorem Ext.mod {a b : World} (h : Ext a b) (M : Nat → Prop) : Mod M a b := h.weaken (fun _ h _ => h.elim)
theorem Mod.drew (M : Nat → Prop) (w : World) : Mod M w w.drew := ⟨rfl, rfl, rfl, Nat.le_refl _, fun _ _ h _ => h⟩
theorem Mod.alloc (M : Nat → Prop) (w : World) (o : Obj) : Mod M w (w.alloc o) :=
  ⟨rfl, rfl, rfl, by simp, fun b x h _ => by
    have hl := (Array.getElem?_eq_some_iff.1 h).1
    show (w.heap.push o)[b]? = _
    rw [Array.getElem?_push, if_neg (by omega)]; exact h⟩
theorem Mod.below {w w' : World} (h : Ext w w') : Go.RowKit.Below w.heap.size w w' :=
  ⟨h.os, h.tape, h.output, h.size, fun k hk => by
    have e : w.heap[k]? = some w.heap[k] := by simp [hk]
    rw [e]; exact h.keep k _ e (fun x => x)⟩
theorem Mod.of_below {w w' : World} (h : Go.RowKit.Below w.heap.size w w') : Ext w w' :=
  ⟨h.os, h.tape, h.output, h.size, fun b o hb _ => by rw [h.block b (Array.getElem?_eq_some_iff.1 hb).1]; exact hb⟩

/-! code: what is still to run -/
section
variable {P : Program} {f : FuncId} {R : Ending → World → Prop} {n : Nat}

def Run (P : Program) (f : FuncId) (R : Ending → World → Prop) (k : List Item) (a : Act) (w : World) : Prop :=
  ∀ b : Frame, b.fn = f → b.kind = .normal → ∀ cs, ∃ e w' fr, R e w' ∧ Comes P (lone (b.at a k) cs w) (lone fr cs w') e ∧ fr.fn = f ∧ fr.leaving P w' e

theorem Run.head {k k' : List Item} {a : Act} {w : World} (hs : ∀ (b : Frame) cs, step P (lone (b.at a k) cs w) = .next (lone (b.at a k') cs w))
    (h : Run P f R k' a w) : Run P f R k a w := fun b hf hk cs =>
  let ⟨e, w', fr, hR, hc, r⟩ := h b hf hk cs
  ⟨e, w', fr, hR, Comes.of_steps (.one (hs b cs)) hc, r⟩

theorem run_code {c : Code} {k : List Item} {a : Act} {w : World} (h : c.wp P (fun e a w => e = .normal ∧ Run P f R k a w) a w) : Run P f R (.code c :: k) a w := by
  intro b hf hk cs
  obtain ⟨e, a', w', ⟨rfl, hr⟩, harr⟩ := h b k cs
  obtain ⟨e, w'', fr, hR, hc, r⟩ := hr b hf hk cs
  exact ⟨e, w'', fr, hR, Comes.of_steps harr hc, r⟩

theorem calls_of_run {fn : Func} {c : Code} {args : Array Value} {w : World} (hf : P.funcs[f]? = some fn) (hb : fn.body = some c)
    (h : Run P f R [.code c] { tmps := args ++ Array.replicate (fn.ntmps - args.size) undef, defers := [] } w) : Calls P f args w R := by
  intro cs
  let b : Frame := { (default : Frame) with fn := f, kind := .normal }
  have henter : Frame.enter P f args .normal =
      b.at { tmps := args ++ Array.replicate (fn.ntmps - args.size) undef, defers := [] } [.code c] := by
    simp [Frame.enter, Frame.at, hf, hb, b]
  rw [henter]
  exact h b rfl rfl cs

/-- the judgement over slots' facts -/
def RunE (P : Program) (f : FuncId) (R : Ending → World → Prop) (n : Nat) (E : Env) (k : List Item) (w : World) : Prop := ∀ a, Sat n E a → Run P f R k a w

theorem RunE.sub {E E' : Env} {k : List Item} {w : World} (h : RunE P f R n E' k w) (hs : Ik.sub E' E) : RunE P f R n E k w := fun a ha => h a (ha.sub hs)

theorem r_seq {E : Env} {x y : Code} {k : List Item} {w : World} (h : RunE P f R n E (.code x :: .code y :: k) w) : RunE P f R n E (.code (.seq x y) :: k) w :=
  fun a ha => Run.head (fun _ _ => step_seq) (h a ha)
theorem r_skip {E : Env} {k : List Item} {w : World} (h : RunE P f R n E k w) : RunE P f R n E (.code .skip :: k) w :=
  fun a ha => Run.head (fun _ _ => step_skip) (h a ha)
theorem r_block {E : Env} {id : Nat} {c : Code} {k : List Item} {w : World} (h : RunE P f R n E (.code c :: .inBlock id :: k) w) : RunE P f R n E (.code (.block id c) :: k) w :=
  fun a ha => Run.head (fun _ _ => step_block) (h a ha)
theorem r_inBlock {E : Env} {id : Nat} {k : List Item} {w : World} (h : RunE P f R n E k w) : RunE P f R n E (.inBlock id :: k) w :=
  fun a ha => Run.head (fun _ _ => step_inBlock) (h a ha)
theorem r_exit {E : Env} {id : Nat} {k k' : List Item} {w : World} (hk : exitTo id k = some k') (h : RunE P f R n E k' w) : RunE P f R n E (.code (.exit id) :: k) w :=
  fun a ha => Run.head (fun _ _ => step_exit hk) (h a ha)
theorem r_cond_t {E : Env} {c : Operand} {x y : Code} {k : List Item} {w : World} (hc : ev E c = some (.bool true)) (h : RunE P f R n E (.code x :: k) w) : RunE P f R n E (.code (.cond c x y) :: k) w :=
  fun a ha => Run.head (fun _ _ => step_cond (t := true) (ha.has.ev hc)) (h a ha)
theorem r_cond_f {E : Env} {c : Operand} {x y : Code} {k : List Item} {w : World} (hc : ev E c = some (.bool false)) (h : RunE P f R n E (.code y :: k) w) : RunE P f R n E (.code (.cond c x y) :: k) w :=
  fun a ha => Run.head (fun _ _ => step_cond (t := false) (ha.has.ev hc)) (h a ha)
theorem r_cond {E : Env} {c : Operand} {x y : Code} {k : List Item} {w : World} (b : Bool) (hc : ev E c = some (.bool b)) (ht : b = true → RunE P f R n E (.code x :: k) w) (hf : b = false → RunE P f R n E (.code y :: k) w) : RunE P f R n E (.code (.cond c x y) :: k) w := by
  cases b with
  | true => exact r_cond_t hc (ht rfl)
  | false => exact r_cond_f hc (hf rfl)

theorem r_inLoop {E : Env} {c : Code} {k : List Item} {w : World} (h : RunE P f R n E (.code c :: .inLoop c :: k) w) : RunE P f R n E (.inLoop c :: k) w :=
  fun a ha => Run.head (fun _ _ => step_inLoop) (h a ha)

/-- A loop: 'I m E w': what holds at a round's head, m going down. -/
theorem r_loop {E : Env} {c : Code} {k : List Item} {w : World} (I : Nat → Env → World → Prop)
    (h0 : ∃ m E', I m E' w ∧ Ik.sub E' E)
    (hr : ∀ m E w, I m E w → (∀ m' E' w', I m' E' w' → m' < m → RunE P f R n E' (.inLoop c :: k) w') → RunE P f R n E (.code c :: .inLoop c :: k) w) :
    RunE P f R n E (.code (.loop c) :: k) w := by
  have key : ∀ m E w, I m E w → RunE P f R n E (.code c :: .inLoop c :: k) w := by
    intro m
    induction m using Nat.strongRecOn with
    | _ m ih => exact fun E w hI => hr m E w hI fun m' E' w' hI' hlt => r_inLoop (ih m' hlt E' w' hI')
  obtain ⟨m, E', hI, hs⟩ := h0
  exact fun a ha => Run.head (fun _ _ => step_loop) (key m E' w hI a (ha.sub hs))

/-- Ways that meet again: what holds where they meet. -/
theorem r_join {E : Env} {x : Item} {k : List Item} {w : World} (J : Env → World → Prop)
    (hk : ∀ E w, J E w → RunE P f R n E k w) (hx : (∀ E w, J E w → RunE P f R n E k w) → RunE P f R n E (x :: k) w) : RunE P f R n E (x :: k) w := hx hk

theorem leave_ret {n : Nat} {E : Env} {a : Act} {b : Frame} {k : List Item} {w : World} {fn : Func} {v : Value} (ha : Sat n E a) (hf : P.funcs[f]? = some fn) (hb : b.fn = f) (hk : b.kind = .normal)
    (hr : (results fn a.tmps).run P w = .ok v w) : Frame.leaving P { b.at a k with mode := .returning } w (.returned v) :=
  ⟨rfl, ha.defers, hk, fn, by show P.funcs[b.fn]? = _; rw [hb]; exact hf, hr⟩
theorem r_ret1 {E : Env} {k : List Item} {w : World} {fn : Func} {t : Tmp} {v : Value} (hf : P.funcs[f]? = some fn) (hres : fn.results = #[.tmp t])
    (hv : lk t E = some v) (hR : R (.returned v) w) : RunE P f R n E (.code .ret :: k) w := fun a ha b hb hk cs =>
  ⟨.returned v, w, { b.at a (.code .ret :: k) with mode := .returning }, hR, .one step_ret, hb, leave_ret ha hf hb hk (by
    rw [results_tmp hres, ha.has t v hv])⟩
theorem r_ret2 {E : Env} {k : List Item} {w : World} {fn : Func} {t u : Tmp} {v x : Value} (hf : P.funcs[f]? = some fn) (hres : fn.results = #[.tmp t, .tmp u])
    (hv : lk t E = some v) (hx : lk u E = some x) (hR : R (.returned (.tuple #[v, x])) w) : RunE P f R n E (.code .ret :: k) w := fun a ha b hb hk cs =>
  ⟨.returned _, w, { b.at a (.code .ret :: k) with mode := .returning }, hR, .one step_ret, hb, leave_ret ha hf hb hk (by
    rw [results_tmp2 hres, ha.has t v hv, ha.has u x hx])⟩
theorem r_ret3 {E : Env} {k : List Item} {w : World} {fn : Func} {t u s : Tmp} {v x y : Value} (hf : P.funcs[f]? = some fn) (hres : fn.results = #[.tmp t, .tmp u, .tmp s])
    (hv : lk t E = some v) (hx : lk u E = some x) (hy : lk s E = some y) (hR : R (.returned (.tuple #[v, x, y])) w) : RunE P f R n E (.code .ret :: k) w := fun a ha b hb hk cs =>
  ⟨.returned _, w, { b.at a (.code .ret :: k) with mode := .returning }, hR, .one step_ret, hb, leave_ret ha hf hb hk (by
    have h3 : (results fn a.tmps).run P w = .ok (.tuple #[a.tmps.getD t undef, a.tmps.getD u undef, a.tmps.getD s undef]) w := by simp [results, hres]
    rw [h3, ha.has t v hv, ha.has u x hx, ha.has s y hy])⟩
/-- a function without results runs to its end -/
theorem r_end0 {E : Env} {w : World} {fn : Func} (hf : P.funcs[f]? = some fn) (hres : fn.results = #[])
    (hR : R (.returned (.tuple #[])) w) : RunE P f R n E [] w := fun a ha b hb hk cs =>
  ⟨.returned _, w, { b.at a [] with mode := .returning }, hR, .one step_end, hb, leave_ret ha hf hb hk (results_none hres _ _ _)⟩
theorem r_ret0 {E : Env} {k : List Item} {w : World} {fn : Func} (hf : P.funcs[f]? = some fn) (hres : fn.results = #[])
    (hR : R (.returned (.tuple #[])) w) : RunE P f R n E (.code .ret :: k) w := fun a ha b hb hk cs =>
  ⟨.returned _, w, { b.at a (.code .ret :: k) with mode := .returning }, hR, .one step_ret, hb, leave_ret ha hf hb hk (results_none hres _ _ _)⟩
end

/-! operations -/
section
variable {P : Program} {f : FuncId} {R : Ending → World → Prop} {n : Nat}

/-- is a guarded operation wanted? -/
def want (n : Nat) (ops : Array Oper) (E : Env) : Option (Nat × Bool) → Option Bool
  | none => some true
  | some (j, b) => match (ops[j]?).bind (·.dst) with
    | some d => match lk d E with
      | some (.bool c) => match Nat.blt d n with
        | true => some (c == b)
        | false => none
      | some (.tuple _) => some false
      | _ => none
    | none => none

theorem want_spec {ops : Array Oper} {E : Env} {a : Act} (hs : Sat n E a) {o : Oper} {b : Bool} (h : want n ops E o.guard = some b) :
    Region.wanted o (yielded ops a.tmps) = b := by
  unfold Region.wanted
  cases hg : o.guard with
  | none => simpa [want, hg] using h
  | some gw =>
    obtain ⟨j, c⟩ := gw
    simp only [hg, want] at h
    cases hd : (ops[j]?).bind (·.dst) with
    | none => simp [hd] at h
    | some d =>
      simp only [hd] at h
      cases hl : lk d E with
      | none => simp [hl] at h
      | some v =>
        rw [hl] at h
        cases v <;> simp only [reduceCtorEq] at h
        case tuple vs =>
          have hv := hs.has d _ hl
          have hy : yielded ops a.tmps j = none := by
            unfold yielded
            rw [hd]
            simp only [Option.bind_some]
            cases ht : a.tmps[d]? with
            | none => rfl
            | some u =>
              have : u = .tuple vs := by
                rw [← hv]; simp [ht]
              rw [this]
          simp only [hy]
          simp only [Option.some.injEq] at h
          subst h
          cases c <;> rfl
        rename_i x
        cases hlt : Nat.blt d n with
        | false => simp [hlt] at h
        | true =>
          simp only [hlt, Option.some.injEq] at h
          have hlt' : d < a.tmps.size := by
            rw [hs.size]; exact Nat.lt_of_succ_le (Nat.le_of_ble_eq_true hlt)
          have hv := hs.has d _ hl
          have hy : yielded ops a.tmps j = some x := by
            unfold yielded
            rw [hd]
            simp only [Option.bind_some]
            have : a.tmps[d]? = some (.bool x) := by
              rw [← hv]; simp [hlt']
            rw [this]
          simp only [hy]
          subst h
          cases x <;> cases c <;> rfl

/-- a quiet operation: one value, in every world of the class -/
def Q1 (P : Program) (o : Oper) (E : Env) (C : World → Prop) (v : Value) : Prop :=
  ∀ a, Has E a → ∀ w, C w → (execOp a.eval o).run P w = .ok (.value v) w
/-- what is asked of an operation's outcome -/
def out (P : Program) (K : Value → World → Prop) : Result Next → Prop
  | .ok (.value v) w' => K v w'
  | .ok .skip w' => K undef w'
  | .ok (.enter f args) w' => Calls P f args w' (fun e w'' => ∃ v, e = .returned v ∧ K v w'')
  | .ok (.row row args) w' => Rows P row args w' K
  | _ => False

theorem out_mono {K K' : Value → World → Prop} {r : Result Next} (h : ∀ v w, K v w → K' v w) (hh : out P K r) : out P K' r := by
  cases r with
  | ok x w' =>
    cases x <;> simp only [out] at hh ⊢ <;> first
      | exact h _ _ hh
      | exact Calls.mono hh (fun e w'' ⟨v, he, hk⟩ => ⟨v, he, h _ _ hk⟩)
      | exact Rows.mono hh (fun v w'' hk => h _ _ hk)
  | halt x w' => simp only [out] at hh

theorem out_some {K : Value → World → Prop} {r : Result Next} (hh : out P K r) : ∃ v w, K v w := by
  cases r with
  | ok x w' =>
    cases x <;> simp only [out] at hh <;> first
      | exact ⟨_, _, hh⟩
      | (obtain ⟨e, w'', fr, ⟨v, _, hk⟩, _⟩ := hh []
         exact ⟨_, _, hk⟩)
      | (obtain ⟨v, w'', hk, _⟩ := hh default []
         exact ⟨_, _, hk⟩)
  | halt x w' => simp only [out] at hh

theorem out_upon {o : Oper} {a : Act} {K : Value → World → Prop} {next : Act → World → Prop} {Q : Exit → Act → World → Prop} {r : Result Next}
    (h : ∀ v w, K v w → next (a.put o.dst v) w) (hh : out P K r) : o.upon P a next Q r := by
  cases r with
  | ok x w' =>
    cases x <;> simp only [out] at hh <;> simp only [Oper.upon] <;> first
      | exact h _ _ hh
      | exact Calls.mono hh (fun e w'' ⟨v, he, hk⟩ => by subst he; exact h _ _ hk)
      | exact Rows.mono hh (fun v w'' hk => h _ _ hk)
  | halt x w' => simp only [out] at hh

/-- any other operation -/
def AW (P : Program) (o : Oper) (E : Env) (w : World) (K : Value → World → Prop) : Prop :=
  ∀ a, Has E a → out P K ((execOp a.eval o).run P w)

theorem AW.mono {o : Oper} {E : Env} {w : World} {K K' : Value → World → Prop} (h : AW P o E w K) (hk : ∀ v w', K v w' → K' v w') : AW P o E w K' :=
  fun a ha => out_mono hk (h a ha)

/-- a region in the text's order -/
def OL (P : Program) (f : FuncId) (R : Ending → World → Prop) (n : Nat) (ops : Array Oper) (l : List Oper) (E : Env) (k : List Item) (w : World) : Prop :=
  ∀ a, Sat n E a → wpList P ops (fun e a w => e = .normal ∧ Run P f R k a w) l a w

theorem r_region {id : Nat} {l : List Oper} {E : Env} {k : List Item} {w : World} (h : OL P f R n l.toArray l E k w) : RunE P f R n E (.code (.region id l.toArray false) :: k) w :=
  fun a ha => run_code (wp_region_lit (h a ha))

theorem OL.nil {ops : Array Oper} {E : Env} {k : List Item} {w : World} (h : RunE P f R n E k w) : OL P f R n ops [] E k w := fun a ha => ⟨rfl, h a ha⟩
theorem OL.sub {ops : Array Oper} {l : List Oper} {E E' : Env} {k : List Item} {w : World} (h : OL P f R n ops l E' k w) (hs : Ik.sub E' E) : OL P f R n ops l E k w := fun a ha => h a (ha.sub hs)

theorem OL.q {ops : Array Oper} {o : Oper} {l : List Oper} {E : Env} {k : List Item} {w : World} {v : Value} (hq : Q1 P o E (fun w' => w' = w) v)
    (hw : want n ops E o.guard = some true) (hd : dstOk n o.dst = true) (h : OL P f R n ops l (pu o.dst v E) k w) : OL P f R n ops (o :: l) E k w := by
  intro a ha
  refine wpList_step fun K hK => ?_
  rw [want_spec ha hw, if_pos rfl]
  unfold Oper.wp
  rw [hq a ha.has w rfl]
  exact hK _ _ (h _ (ha.put hd v))

theorem OL.sk {ops : Array Oper} {o : Oper} {l : List Oper} {E : Env} {k : List Item} {w : World}
    (hw : want n ops E o.guard = some false) (hd : dstOk n o.dst = true) (h : OL P f R n ops l (pu o.dst undef E) k w) : OL P f R n ops (o :: l) E k w := by
  intro a ha
  refine wpList_step fun K hK => ?_
  rw [want_spec ha hw, if_neg (by simp)]
  exact hK _ _ (h _ (ha.put hd undef))

theorem OL.act {ops : Array Oper} {o : Oper} {l : List Oper} {E : Env} {k : List Item} {w : World}
    (hw : want n ops E o.guard = some true) (hd : dstOk n o.dst = true) (ha : AW P o E w (fun v w' => OL P f R n ops l (pu o.dst v E) k w')) : OL P f R n ops (o :: l) E k w := by
  intro a hsat
  refine wpList_step fun K hK => ?_
  rw [want_spec hsat hw, if_pos rfl]
  exact out_upon (fun v w' hv => hK _ _ (hv _ (hsat.put hd v))) (ha a hsat.has)
end
end Go.Ik
