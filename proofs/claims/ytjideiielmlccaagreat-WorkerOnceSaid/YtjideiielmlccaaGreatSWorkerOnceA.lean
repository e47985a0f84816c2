/-
  What the law WorkerOnce needs, part 1 of 7: theory, and walks through the code.
-/
import Derived.WalkKit
import Derived.ProofKit
import Derived.Still
import Derived.Laws.Strings
import Derived.Laws.Small
import Derived.Laws.AppendOwn
import Derived.Lib.RuneCountTail
import Derived.Lib.Bytealg
import Derived.OpenShut
import Derived.SliceStrings
import Derived.Lib.SmallJoins
import Derived.Carry
import Derived.Laws.MakeOwn
import Derived.Laws.Pointers
import Derived.Laws.StructEq
import Derived.Lib.Join
import Derived.Room.Shelf.Join48
import Derived.Shelf.SlSortCmp.NoneTotal
import Derived.Shelf.SlicesE.Compact
import Derived.Laws.BytesArg
import Derived.Laws.IdiomStrings
import Derived.Laws.Cover4
import Derived.Laws.BitsAllLaws
import Derived.MapKept
import Derived.Deep.AppendSrc
import Derived.Test.YtjideiielmlccaaGreatProg
import Derived.Ground.NamesProg
set_option linter.unusedVariables false
set_option linter.unusedSimpArgs false
namespace Go.Ik
open Go
abbrev Env := List (Nat × Value)
def lk : Nat → Env → Option Value
  | _, [] => none
  | i, p :: r => match Nat.beq i p.1 with
    | true => some p.2
    | false => lk i r
def ev (E : Env) : Operand → Option Value
  | .tmp t => lk t E
  | .const v => some v
  | .global g => some (.pointer (some ⟨g, 0, none⟩))
  | .func f => some (.func (.func f) #[] #[])
/-- what is known of the slots -/
def Has (E : Env) (a : Act) : Prop := ∀ i v, lk i E = some v → a.tmps.getD i undef = v
structure Sat (n : Nat) (E : Env) (a : Act) : Prop where
  size : a.tmps.size = n
  defers : a.defers = []
  has : Has E a
def pu : Option Tmp → Value → Env → Env
  | some d, v, E => (d, v) :: E
  | none, _, E => E
def dstOk (n : Nat) : Option Tmp → Bool
  | some d => Nat.blt d n
  | none => true
theorem Sat.put {n : Nat} {E : Env} {a : Act} (h : Sat n E a) {d : Option Tmp} (hd : dstOk n d = true) (v : Value) : Sat n (pu d v E) (a.put d v) := by
  cases d with
  | none => exact h
  | some d =>
    have hd' : d < n := Nat.lt_of_succ_le (Nat.le_of_ble_eq_true hd)
    refine ⟨by simp [Act.put, h.size], h.defers, fun i u hu => ?_⟩
    simp only [pu, lk] at hu
    cases hb : Nat.beq i d with
    | true =>
      have : i = d := Nat.eq_of_beq_eq_true hb
      subst this
      simp only [hb] at hu
      simp only [Option.some.injEq] at hu
      subst hu
      simp [Act.put, h.size, hd']
    | false =>
      simp only [hb] at hu
      have hne : d ≠ i := fun e => by subst e; simp [Nat.beq_refl] at hb
      have := h.has i u hu
      simpa [Act.put, Array.getElem?_setIfInBounds_ne hne] using this
theorem Has.ev {E : Env} {a : Act} (h : Has E a) {x : Operand} {v : Value} (hx : Ik.ev E x = some v) : a.eval x = v := by
  cases x with
  | tmp t => exact h t v hx
  | const u => simpa [Ik.ev, Act.eval] using hx
  | global g => simpa [Ik.ev, Act.eval] using hx
  | func f => simpa [Ik.ev, Act.eval] using hx
/-- fewer facts -/
def sub : Env → Env → Prop
  | [], _ => True
  | p :: r, E => lk p.1 E = some p.2 ∧ sub r E
theorem sub_lk : ∀ {E' E : Env}, sub E' E → ∀ i v, lk i E' = some v → lk i E = some v
  | [], _, _, _, _, h => by simp [lk] at h
  | p :: r, E, ⟨h1, h2⟩, i, v, h => by
    simp only [lk] at h
    cases hb : Nat.beq i p.1 with
    | true =>
      have : i = p.1 := Nat.eq_of_beq_eq_true hb
      simp only [hb] at h
      simp only [Option.some.injEq] at h
      rw [this, h1, h]
    | false =>
      simp only [hb] at h
      exact sub_lk h2 i v h
theorem Sat.sub {n : Nat} {E E' : Env} {a : Act} (h : Sat n E a) (hs : Ik.sub E' E) : Sat n E' a :=
  ⟨h.size, h.defers, fun i v hv => h.has i v (sub_lk hs i v hv)⟩
structure Mod (M : Nat → Prop) (w w' : World) : Prop where
  os : w'.os = w.os
  tape : w'.tape = w.tape
  output : w'.output = w.output
  size : w.heap.size ≤ w'.heap.size
  keep : ∀ (b : Nat) (o : Obj), w.heap[b]? = some o → ¬ M b → w'.heap[b]? = some o
abbrev Ext (w w' : World) : Prop := Mod (fun _ => False) w w'
theorem Mod.refl (M : Nat → Prop) (w : World) : Mod M w w := ⟨rfl, rfl, rfl, Nat.le_refl _, fun _ _ h _ => h⟩
theorem Mod.trans {M : Nat → Prop} {a b c : World} (h : Mod M a b) (k : Mod M b c) : Mod M a c :=
  ⟨k.os.trans h.os, k.tape.trans h.tape, k.output.trans h.output, Nat.le_trans h.size k.size, fun i o hi hm => k.keep i o (h.keep i o hi hm) hm⟩
theorem Mod.weaken {M M' : Nat → Prop} {a b : World} (h : Mod M a b) (hm : ∀ i, M i → i < a.heap.size → M' i) : Mod M' a b :=
  ⟨h.os, h.tape, h.output, h.size, fun i o hi hn => h.keep i o hi (fun hx => hn (hm i hx (Array.getElem?_eq_some_iff.1 hi).1))⟩
/-- first M, then more that is new -/
theorem Mod.then {M N : Nat → Prop} {a b c : World} (h : Mod M a b) (k : Mod N b c) (hN : ∀ i, N i → i < a.heap.size → M i) : Mod M a c :=
  ⟨k.os.trans h.os, k.tape.trans h.tape, k.output.trans h.output, Nat.le_trans h.size k.size,
    fun i o hi hm => k.keep i o (h.keep i o hi hm) (fun hx => hm (hN i hx (Array.getElem?_eq_some_iff.1 hi).1))⟩
theorem Mod.ext {M : Nat → Prop} {a b c : World} (h : Mod M a b) (k : Ext b c) : Mod M a c := h.then k (fun _ h _ => h.elim)
theorem Ext.mod {a b : World} (h : Ext a b) (M : Nat → Prop) : Mod M a b := h.weaken (fun _ h _ => h.elim)
theorem Mod.drew (M : Nat → Prop) (w : World) : Mod M w w.drew := ⟨rfl, rfl, rfl, Nat.le_refl _, fun _ _ h _ => h⟩
theorem Mod.alloc (M : Nat → Prop) (w : World) (o : Obj) : Mod M w (w.alloc o) :=
  ⟨rfl, rfl, rfl, by simp, fun b x h _ => by
    have hl := (Array.getElem?_eq_some_iff.1 h).1
    show (w.heap.push o)[b]? = _
    rw [Array.getElem?_push, if_neg (by omega)]; exact h⟩
theorem Mod.below {w w' : World} (h : Ext w w') : Go.RowKit.Below w.heap.size w w' :=
  ⟨h.os, h.tape, h.output, h.size, fun k hk => by
    have e : w.heap[k]? = some w.heap[k] := by simp [hk]
    rw [e]; exact h.keep k _ e (fun x => x)⟩
theorem Mod.of_below {w w' : World} (h : Go.RowKit.Below w.heap.size w w') : Ext w w' :=
  ⟨h.os, h.tape, h.output, h.size, fun b o hb _ => by rw [h.block b (Array.getElem?_eq_some_iff.1 hb).1]; exact hb⟩
section
variable {P : Program} {f : FuncId} {R : Ending → World → Prop} {n : Nat}
def Run (P : Program) (f : FuncId) (R : Ending → World → Prop) (k : List Item) (a : Act) (w : World) : Prop :=
  ∀ b : Frame, b.fn = f → b.kind = .normal → ∀ cs, ∃ e w' fr, R e w' ∧ Comes P (lone (b.at a k) cs w) (lone fr cs w') e ∧ fr.fn = f ∧ fr.leaving P w' e
theorem Run.head {k k' : List Item} {a : Act} {w : World} (hs : ∀ (b : Frame) cs, step P (lone (b.at a k) cs w) = .next (lone (b.at a k') cs w))
    (h : Run P f R k' a w) : Run P f R k a w := fun b hf hk cs =>
  let ⟨e, w', fr, hR, hc, r⟩ := h b hf hk cs
  ⟨e, w', fr, hR, Comes.of_steps (.one (hs b cs)) hc, r⟩
theorem run_code {c : Code} {k : List Item} {a : Act} {w : World} (h : c.wp P (fun e a w => e = .normal ∧ Run P f R k a w) a w) : Run P f R (.code c :: k) a w := by
  intro b hf hk cs
  obtain ⟨e, a', w', ⟨rfl, hr⟩, harr⟩ := h b k cs
  obtain ⟨e, w'', fr, hR, hc, r⟩ := hr b hf hk cs
  exact ⟨e, w'', fr, hR, Comes.of_steps harr hc, r⟩
theorem calls_of_run {fn : Func} {c : Code} {args : Array Value} {w : World} (hf : P.funcs[f]? = some fn) (hb : fn.body = some c)
    (h : Run P f R [.code c] { tmps := args ++ Array.replicate (fn.ntmps - args.size) undef, defers := [] } w) : Calls P f args w R := by
  intro cs
  let b : Frame := { (default : Frame) with fn := f, kind := .normal }
  have henter : Frame.enter P f args .normal =
      b.at { tmps := args ++ Array.replicate (fn.ntmps - args.size) undef, defers := [] } [.code c] := by
    simp [Frame.enter, Frame.at, hf, hb, b]
  rw [henter]
  exact h b rfl rfl cs
/-- the judgement over slots' facts -/
def RunE (P : Program) (f : FuncId) (R : Ending → World → Prop) (n : Nat) (E : Env) (k : List Item) (w : World) : Prop := ∀ a, Sat n E a → Run P f R k a w
theorem RunE.sub {E E' : Env} {k : List Item} {w : World} (h : RunE P f R n E' k w) (hs : Ik.sub E' E) : RunE P f R n E k w := fun a ha => h a (ha.sub hs)
theorem r_seq {E : Env} {x y : Code} {k : List Item} {w : World} (h : RunE P f R n E (.code x :: .code y :: k) w) : RunE P f R n E (.code (.seq x y) :: k) w :=
  fun a ha => Run.head (fun _ _ => step_seq) (h a ha)
theorem r_skip {E : Env} {k : List Item} {w : World} (h : RunE P f R n E k w) : RunE P f R n E (.code .skip :: k) w :=
  fun a ha => Run.head (fun _ _ => step_skip) (h a ha)
theorem r_block {E : Env} {id : Nat} {c : Code} {k : List Item} {w : World} (h : RunE P f R n E (.code c :: .inBlock id :: k) w) : RunE P f R n E (.code (.block id c) :: k) w :=
  fun a ha => Run.head (fun _ _ => step_block) (h a ha)
theorem r_inBlock {E : Env} {id : Nat} {k : List Item} {w : World} (h : RunE P f R n E k w) : RunE P f R n E (.inBlock id :: k) w :=
  fun a ha => Run.head (fun _ _ => step_inBlock) (h a ha)
theorem r_exit {E : Env} {id : Nat} {k k' : List Item} {w : World} (hk : exitTo id k = some k') (h : RunE P f R n E k' w) : RunE P f R n E (.code (.exit id) :: k) w :=
  fun a ha => Run.head (fun _ _ => step_exit hk) (h a ha)
theorem r_cond_t {E : Env} {c : Operand} {x y : Code} {k : List Item} {w : World} (hc : ev E c = some (.bool true)) (h : RunE P f R n E (.code x :: k) w) : RunE P f R n E (.code (.cond c x y) :: k) w :=
  fun a ha => Run.head (fun _ _ => step_cond (t := true) (ha.has.ev hc)) (h a ha)
theorem r_cond_f {E : Env} {c : Operand} {x y : Code} {k : List Item} {w : World} (hc : ev E c = some (.bool false)) (h : RunE P f R n E (.code y :: k) w) : RunE P f R n E (.code (.cond c x y) :: k) w :=
  fun a ha => Run.head (fun _ _ => step_cond (t := false) (ha.has.ev hc)) (h a ha)
theorem r_inLoop {E : Env} {c : Code} {k : List Item} {w : World} (h : RunE P f R n E (.code c :: .inLoop c :: k) w) : RunE P f R n E (.inLoop c :: k) w :=
  fun a ha => Run.head (fun _ _ => step_inLoop) (h a ha)
/-- A loop: 'I m E w': what holds at a round's head, m going down. -/
theorem r_loop {E : Env} {c : Code} {k : List Item} {w : World} (I : Nat → Env → World → Prop)
    (h0 : ∃ m E', I m E' w ∧ Ik.sub E' E)
    (hr : ∀ m E w, I m E w → (∀ m' E' w', I m' E' w' → m' < m → RunE P f R n E' (.inLoop c :: k) w') → RunE P f R n E (.code c :: .inLoop c :: k) w) :
    RunE P f R n E (.code (.loop c) :: k) w := by
  have key : ∀ m E w, I m E w → RunE P f R n E (.code c :: .inLoop c :: k) w := by
    intro m
    induction m using Nat.strongRecOn with
    | _ m ih => exact fun E w hI => hr m E w hI fun m' E' w' hI' hlt => r_inLoop (ih m' hlt E' w' hI')
  obtain ⟨m, E', hI, hs⟩ := h0
  exact fun a ha => Run.head (fun _ _ => step_loop) (key m E' w hI a (ha.sub hs))
/-- Ways that meet again: what holds where they meet. -/
theorem r_join {E : Env} {x : Item} {k : List Item} {w : World} (J : Env → World → Prop)
    (hk : ∀ E w, J E w → RunE P f R n E k w) (hx : (∀ E w, J E w → RunE P f R n E k w) → RunE P f R n E (x :: k) w) : RunE P f R n E (x :: k) w := hx hk
theorem leave_ret {n : Nat} {E : Env} {a : Act} {b : Frame} {k : List Item} {w : World} {fn : Func} {v : Value} (ha : Sat n E a) (hf : P.funcs[f]? = some fn) (hb : b.fn = f) (hk : b.kind = .normal)
    (hr : (results fn a.tmps).run P w = .ok v w) : Frame.leaving P { b.at a k with mode := .returning } w (.returned v) :=
  ⟨rfl, ha.defers, hk, fn, by show P.funcs[b.fn]? = _; rw [hb]; exact hf, hr⟩
theorem r_ret1 {E : Env} {k : List Item} {w : World} {fn : Func} {t : Tmp} {v : Value} (hf : P.funcs[f]? = some fn) (hres : fn.results = #[.tmp t])
    (hv : lk t E = some v) (hR : R (.returned v) w) : RunE P f R n E (.code .ret :: k) w := fun a ha b hb hk cs =>
  ⟨.returned v, w, { b.at a (.code .ret :: k) with mode := .returning }, hR, .one step_ret, hb, leave_ret ha hf hb hk (by
    rw [results_tmp hres, ha.has t v hv])⟩
theorem r_ret2 {E : Env} {k : List Item} {w : World} {fn : Func} {t u : Tmp} {v x : Value} (hf : P.funcs[f]? = some fn) (hres : fn.results = #[.tmp t, .tmp u])
    (hv : lk t E = some v) (hx : lk u E = some x) (hR : R (.returned (.tuple #[v, x])) w) : RunE P f R n E (.code .ret :: k) w := fun a ha b hb hk cs =>
  ⟨.returned _, w, { b.at a (.code .ret :: k) with mode := .returning }, hR, .one step_ret, hb, leave_ret ha hf hb hk (by
    rw [results_tmp2 hres, ha.has t v hv, ha.has u x hx])⟩
/-- a function without results runs to its end -/
theorem r_end0 {E : Env} {w : World} {fn : Func} (hf : P.funcs[f]? = some fn) (hres : fn.results = #[])
    (hR : R (.returned (.tuple #[])) w) : RunE P f R n E [] w := fun a ha b hb hk cs =>
  ⟨.returned _, w, { b.at a [] with mode := .returning }, hR, .one step_end, hb, leave_ret ha hf hb hk (results_none hres _ _ _)⟩
theorem r_ret0 {E : Env} {k : List Item} {w : World} {fn : Func} (hf : P.funcs[f]? = some fn) (hres : fn.results = #[])
    (hR : R (.returned (.tuple #[])) w) : RunE P f R n E (.code .ret :: k) w := fun a ha b hb hk cs =>
  ⟨.returned _, w, { b.at a (.code .ret :: k) with mode := .returning }, hR, .one step_ret, hb, leave_ret ha hf hb hk (results_none hres _ _ _)⟩
end
section
variable {P : Program} {f : FuncId} {R : Ending → World → Prop} {n : Nat}
/-- is a guarded operation wanted? -/
def want (n : Nat) (ops : Array Oper) (E : Env) : Option (Nat × Bool) → Option Bool
  | none => some true
  | some (j, b) => match (ops[j]?).bind (·.dst) with
    | some d => match lk d E with
      | some (.bool c) => match Nat.blt d n with
        | true => some (c == b)
        | false => none
      | some (.tuple _) => some false
      | _ => none
    | none => none
theorem want_spec {ops : Array Oper} {E : Env} {a : Act} (hs : Sat n E a) {o : Oper} {b : Bool} (h : want n ops E o.guard = some b) :
    Region.wanted o (yielded ops a.tmps) = b := by
  unfold Region.wanted
  cases hg : o.guard with
  | none => simpa [want, hg] using h
  | some gw =>
    obtain ⟨j, c⟩ := gw
    simp only [hg, want] at h
    cases hd : (ops[j]?).bind (·.dst) with
    | none => simp [hd] at h
    | some d =>
      simp only [hd] at h
      cases hl : lk d E with
      | none => simp [hl] at h
      | some v =>
        rw [hl] at h
        cases v <;> simp only [reduceCtorEq] at h
        case tuple vs =>
          have hv := hs.has d _ hl
          have hy : yielded ops a.tmps j = none := by
            unfold yielded
            rw [hd]
            simp only [Option.bind_some]
            cases ht : a.tmps[d]? with
            | none => rfl
            | some u =>
              have : u = .tuple vs := by
                rw [← hv]; simp [ht]
              rw [this]
          simp only [hy]
          simp only [Option.some.injEq] at h
          subst h
          cases c <;> rfl
        rename_i x
        cases hlt : Nat.blt d n with
        | false => simp [hlt] at h
        | true =>
          simp only [hlt, Option.some.injEq] at h
          have hlt' : d < a.tmps.size := by
            rw [hs.size]; exact Nat.lt_of_succ_le (Nat.le_of_ble_eq_true hlt)
          have hv := hs.has d _ hl
          have hy : yielded ops a.tmps j = some x := by
            unfold yielded
            rw [hd]
            simp only [Option.bind_some]
            have : a.tmps[d]? = some (.bool x) := by
              rw [← hv]; simp [hlt']
            rw [this]
          simp only [hy]
          subst h
          cases x <;> cases c <;> rfl
/-- a quiet operation: one value, in every world of the class -/
def Q1 (P : Program) (o : Oper) (E : Env) (C : World → Prop) (v : Value) : Prop :=
  ∀ a, Has E a → ∀ w, C w → (execOp a.eval o).run P w = .ok (.value v) w
/-- what is asked of an operation's outcome -/
def out (P : Program) (K : Value → World → Prop) : Result Next → Prop
  | .ok (.value v) w' => K v w'
  | .ok .skip w' => K undef w'
  | .ok (.enter f args) w' => Calls P f args w' (fun e w'' => ∃ v, e = .returned v ∧ K v w'')
  | .ok (.row row args) w' => Rows P row args w' K
  | _ => False
theorem out_mono {K K' : Value → World → Prop} {r : Result Next} (h : ∀ v w, K v w → K' v w) (hh : out P K r) : out P K' r := by
  cases r with
  | ok x w' =>
    cases x <;> simp only [out] at hh ⊢ <;> first
      | exact h _ _ hh
      | exact Calls.mono hh (fun e w'' ⟨v, he, hk⟩ => ⟨v, he, h _ _ hk⟩)
      | exact Rows.mono hh (fun v w'' hk => h _ _ hk)
  | halt x w' => simp only [out] at hh
theorem out_some {K : Value → World → Prop} {r : Result Next} (hh : out P K r) : ∃ v w, K v w := by
  cases r with
  | ok x w' =>
    cases x <;> simp only [out] at hh <;> first
      | exact ⟨_, _, hh⟩
      | (obtain ⟨e, w'', fr, ⟨v, _, hk⟩, _⟩ := hh []
         exact ⟨_, _, hk⟩)
      | (obtain ⟨v, w'', hk, _⟩ := hh default []
         exact ⟨_, _, hk⟩)
  | halt x w' => simp only [out] at hh
theorem out_upon {o : Oper} {a : Act} {K : Value → World → Prop} {next : Act → World → Prop} {Q : Exit → Act → World → Prop} {r : Result Next}
    (h : ∀ v w, K v w → next (a.put o.dst v) w) (hh : out P K r) : o.upon P a next Q r := by
  cases r with
  | ok x w' =>
    cases x <;> simp only [out] at hh <;> simp only [Oper.upon] <;> first
      | exact h _ _ hh
      | exact Calls.mono hh (fun e w'' ⟨v, he, hk⟩ => by subst he; exact h _ _ hk)
      | exact Rows.mono hh (fun v w'' hk => h _ _ hk)
  | halt x w' => simp only [out] at hh
/-- any other operation -/
def AW (P : Program) (o : Oper) (E : Env) (w : World) (K : Value → World → Prop) : Prop :=
  ∀ a, Has E a → out P K ((execOp a.eval o).run P w)
/-- a region in the text's order -/
def OL (P : Program) (f : FuncId) (R : Ending → World → Prop) (n : Nat) (ops : Array Oper) (l : List Oper) (E : Env) (k : List Item) (w : World) : Prop :=
  ∀ a, Sat n E a → wpList P ops (fun e a w => e = .normal ∧ Run P f R k a w) l a w
theorem r_region {id : Nat} {l : List Oper} {E : Env} {k : List Item} {w : World} (h : OL P f R n l.toArray l E k w) : RunE P f R n E (.code (.region id l.toArray false) :: k) w :=
  fun a ha => run_code (wp_region_lit (h a ha))
theorem OL.nil {ops : Array Oper} {E : Env} {k : List Item} {w : World} (h : RunE P f R n E k w) : OL P f R n ops [] E k w := fun a ha => ⟨rfl, h a ha⟩
theorem OL.q {ops : Array Oper} {o : Oper} {l : List Oper} {E : Env} {k : List Item} {w : World} {v : Value} (hq : Q1 P o E (fun w' => w' = w) v)
    (hw : want n ops E o.guard = some true) (hd : dstOk n o.dst = true) (h : OL P f R n ops l (pu o.dst v E) k w) : OL P f R n ops (o :: l) E k w := by
  intro a ha
  refine wpList_step fun K hK => ?_
  rw [want_spec ha hw, if_pos rfl]
  unfold Oper.wp
  rw [hq a ha.has w rfl]
  exact hK _ _ (h _ (ha.put hd v))
theorem OL.sk {ops : Array Oper} {o : Oper} {l : List Oper} {E : Env} {k : List Item} {w : World}
    (hw : want n ops E o.guard = some false) (hd : dstOk n o.dst = true) (h : OL P f R n ops l (pu o.dst undef E) k w) : OL P f R n ops (o :: l) E k w := by
  intro a ha
  refine wpList_step fun K hK => ?_
  rw [want_spec ha hw, if_neg (by simp)]
  exact hK _ _ (h _ (ha.put hd undef))
theorem OL.act {ops : Array Oper} {o : Oper} {l : List Oper} {E : Env} {k : List Item} {w : World}
    (hw : want n ops E o.guard = some true) (hd : dstOk n o.dst = true) (ha : AW P o E w (fun v w' => OL P f R n ops l (pu o.dst v E) k w')) : OL P f R n ops (o :: l) E k w := by
  intro a hsat
  refine wpList_step fun K hK => ?_
  rw [want_spec hsat hw, if_pos rfl]
  exact out_upon (fun v w' hv => hK _ _ (hv _ (hsat.put hd v))) (ha a hsat.has)
end
end Go.Ik
namespace Go.Ik
open Go
section
variable {P : Program} {ops : Array Oper} {C : World → Prop} {A : Nat → Bool} {Z : Nat}
/-- operation 'i' comes up -/
def dOp (P : Program) (ops : Array Oper) (C : World → Prop) (A : Nat → Bool) (Z : Nat) (i : Nat) (K : Act → World → Prop) (a : Act) (w : World) : Prop :=
  match ops[i]? with
  | none => K a w
  | some o =>
    if Region.wanted o (yielded ops a.tmps) = true then
      if A i = true then out P (fun v w' => (i = Z ∨ C w') ∧ K (a.put o.dst v) w') ((execOp a.eval o).run P w)
      else ∃ v, (∀ w', C w' → (execOp a.eval o).run P w' = .ok (.value v) w') ∧ K (a.put o.dst v) w
    else K (a.put o.dst undef) w
def wd (P : Program) (ops : Array Oper) (C : World → Prop) (A : Nat → Bool) (Z : Nat) (Q : Act → World → Prop) : List Nat → Act → World → Prop
  | [], a, w => Q a w
  | i :: r, a, w => dOp P ops C A Z i (wd P ops C A Z Q r) a w
/-- whatever order is picked -/
def anyD (P : Program) (ops : Array Oper) (C : World → Prop) (A : Nat → Bool) (Z : Nat) (Q : Act → World → Prop) : Nat → Array Bool → Act → World → Prop
  | 0, listed, a, w => Region.ready .any ops listed = [] ∧ Q a w
  | fuel + 1, listed, a, w =>
    (Region.ready .any ops listed = [] → Q a w) ∧
    ∀ i ∈ Region.ready .any ops listed, dOp P ops C A Z i (anyD P ops C A Z Q fuel (listed.setIfInBounds i true)) a w
/-- quiet 'i' in state 'a' yields 'v' in every world of the class -/
def Yl (P : Program) (ops : Array Oper) (C : World → Prop) (A : Nat → Bool) (i : Nat) (o : Oper) (v : Value) (a : Act) : Prop :=
  (Region.wanted o (yielded ops a.tmps) = true ∧ A i = false ∧ ∀ w', C w' → (execOp a.eval o).run P w' = .ok (.value v) w') ∨
  (Region.wanted o (yielded ops a.tmps) = false ∧ v = undef)
theorem Yl.dOp {i : Nat} {o : Oper} {v : Value} {a : Act} {w : World} {K : Act → World → Prop} (hi : ops[i]? = some o) (hy : Yl P ops C A i o v a) (h : K (a.put o.dst v) w) : dOp P ops C A Z i K a w := by
  unfold Ik.dOp
  simp only [hi]
  rcases hy with ⟨hw, hA, hv⟩ | ⟨hw, rfl⟩
  · simp only [hw, hA, if_true, Bool.false_eq_true, if_false]; exact ⟨v, hv, h⟩
  · simp only [hw, Bool.false_eq_true, if_false]; exact h
theorem Yl.of_same {i : Nat} {o : Oper} {v : Value} {a a' : Act} (hy : Yl P ops C A i o v a) (he : execOp a'.eval o = execOp a.eval o)
    (hw : Region.wanted o (yielded ops a'.tmps) = Region.wanted o (yielded ops a.tmps)) : Yl P ops C A i o v a' := by
  unfold Yl at *
  rw [he, hw]
  exact hy
/-- one quiet operation moved ahead of another one 'j' -/
theorem dOp_put {i j : Nat} {oi oj : Oper} {v : Value} (hj : ops[j]? = some oj) (hap : oi.apart ops oj = true)
    (hsi : ∀ cs b, oi.op ≠ .select cs b) (hsj : ∀ cs b, oj.op ≠ .select cs b) {K : Act → World → Prop} {a : Act} {w : World}
    (hy : Yl P ops C A i oi v a) (h : dOp P ops C A Z j K (a.put oi.dst v) w) :
    dOp P ops C A Z j (fun a' w' => Yl P ops C A i oi v a' ∧ K (a'.put oi.dst v) w') a w := by
  obtain ⟨h1, h2, h3⟩ := Oper.apart_spec hap
  have keep : ∀ u, Yl P ops C A i oi v (a.put oj.dst u) := fun u =>
    hy.of_same (execOp_put oi hsi a oj.dst u h3) (wanted_put oi a oj.dst u h3)
  unfold dOp at *
  simp only [hj] at *
  rw [wanted_put oj a oi.dst v h1, execOp_put oj hsj a oi.dst v h1] at h
  split
  · rename_i hw
    simp only [hw, if_true] at h
    split
    · rename_i hA
      simp only [hA, if_true] at h
      exact out_mono (fun u w' hu => ⟨hu.1, keep u, by rw [← Act.put_comm a v u h2]; exact hu.2⟩) h
    · rename_i hA
      simp only [hA] at h
      obtain ⟨u, hu, hk⟩ := h
      exact ⟨u, hu, keep u, by rw [← Act.put_comm a v u h2]; exact hk⟩
  · rename_i hw
    simp only [hw] at h
    exact ⟨keep _, by rw [← Act.put_comm a v undef h2]; exact h⟩
theorem dOp_mono {i : Nat} {K K' : Act → World → Prop} {a : Act} {w : World} (hne : i ≠ Z) (h : ∀ a w, C w → K a w → K' a w) (hC : C w) (hh : dOp P ops C A Z i K a w) : dOp P ops C A Z i K' a w := by
  unfold dOp at *
  split
  · exact h _ _ hC (by simpa [*] using hh)
  · rename_i o ho
    simp only [ho] at hh
    split
    · rename_i hw
      simp only [hw, if_true] at hh
      split
      · rename_i hA
        simp only [hA, if_true] at hh
        exact out_mono (fun v w' hv => ⟨hv.1, h _ _ (hv.1.resolve_left hne) hv.2⟩) hh
      · rename_i hA
        simp only [hA] at hh
        obtain ⟨v, h1, h2⟩ := hh
        exact ⟨v, h1, h _ _ hC h2⟩
    · rename_i hw
      simp only [hw] at hh
      exact h _ _ hC hh
/-- 'm j' as bits: all that operation 'j' comes behind -/
def closedB (ops : Array Oper) (m : Array Nat) : Bool :=
  (List.range ops.size).all fun j => match ops[j]? with
    | some o => m.getD j 0 == o.after.foldl (fun s e => if Region.binds .any e then s ||| 2 ^ e.on ||| m.getD e.on 0 else s) 0
    | none => true
def DC (m : Array Nat) (listed : Array Bool) : Prop := ∀ j k, listed.getD j false = true → (m.getD j 0).testBit k = true → listed.getD k false = true
theorem foldl_bits (m : Array Nat) (k : Nat) : ∀ (l : List Edge) (s : Nat), (l.foldl (fun s e => if Region.binds .any e then s ||| 2 ^ e.on ||| m.getD e.on 0 else s) s).testBit k = true →
    s.testBit k = true ∨ ∃ e ∈ l, Region.binds .any e = true ∧ (e.on = k ∨ (m.getD e.on 0).testBit k = true)
  | [], s, h => .inl h
  | e :: l, s, h => by
    rcases foldl_bits m k l _ h with h | ⟨e', he', h⟩
    · by_cases hb : Region.binds .any e = true
      · simp only [hb, if_true, Nat.testBit_or, Bool.or_eq_true] at h
        rcases h with (h | h) | h
        · exact .inl h
        · refine .inr ⟨e, by simp, hb, .inl ?_⟩
          rw [Nat.testBit_two_pow] at h
          simpa using h
        · exact .inr ⟨e, by simp, hb, .inr h⟩
      · simp only [hb] at h
        exact .inl h
    · exact .inr ⟨e', by simp [he'], h⟩
theorem ready_closed {m : Array Nat} {listed : Array Bool} (hcl : closedB ops m = true) (hd : DC m listed) {j : Nat} (hj : j ∈ Region.ready .any ops listed) {k : Nat} (hk : (m.getD j 0).testBit k = true) : listed.getD k false = true := by
  obtain ⟨_, o, ho, hall⟩ := mem_ready.1 hj
  have hlt : j < ops.size := (Array.getElem?_eq_some_iff.1 ho).1
  have h1 := List.all_eq_true.1 hcl j (List.mem_range.2 hlt)
  simp only [ho, beq_iff_eq] at h1
  rw [h1, ← Array.foldl_toList] at hk
  rcases foldl_bits m k _ _ hk with h | ⟨e, he, hb, h⟩
  · simp at h
  · have hl := hall e (Array.mem_toList_iff.1 he) hb
    rcases h with rfl | h
    · exact hl
    · exact hd _ _ hl h
theorem getD_set_self {listed : Array Bool} {i j : Nat} (h : (listed.setIfInBounds i true).getD j false = true) : j = i ∨ listed.getD j false = true := by
  by_cases hij : i = j
  · exact .inl hij.symm
  · rw [getD_set_ne false hij] at h; exact .inr h
theorem DC.set {m : Array Nat} {listed : Array Bool} (hcl : closedB ops m = true) (hd : DC m listed) {j : Nat} (hj : j ∈ Region.ready .any ops listed) : DC m (listed.setIfInBounds j true) := by
  intro a k ha hk
  rcases getD_set_self ha with rfl | ha
  · exact getD_set_true (ready_closed hcl hd hj hk)
  · exact getD_set_true (hd a k ha hk)
theorem listed_lt {listed : Array Bool} {i : Nat} (h : listed.getD i true = false) : listed.getD i false = false := by
  rcases Nat.lt_or_ge i listed.size with h' | h'
  · simpa [h'] using h
  · simp [Array.getElem?_eq_none h'] at h
/-- 'Z' comes behind all others -/
def ZC (ops : Array Oper) (m : Array Nat) (Z : Nat) : Prop := ∀ k, Z < ops.size → k < ops.size → k ≠ Z → (m.getD Z 0).testBit k = true
theorem ready_lt {listed : Array Bool} {j : Nat} (hj : j ∈ Region.ready .any ops listed) : j < ops.size := by
  obtain ⟨_, o, ho, _⟩ := mem_ready.1 hj
  exact (Array.getElem?_eq_some_iff.1 ho).1
theorem getD_lt {listed : Array Bool} {k : Nat} (h : listed.getD k false = true) : listed.getD k true = true := by
  rcases Nat.lt_or_ge k listed.size with h' | h'
  · simpa [h'] using h
  · simp [Array.getElem?_eq_none h'] at h
theorem Z_last {m : Array Nat} {listed : Array Bool} (hcl : closedB ops m = true) (hz : ZC ops m Z) (hd : DC m listed) (hj : Z ∈ Region.ready .any ops listed) {k : Nat} (hk : k < ops.size) (hne : k ≠ Z) : listed.getD k true = true :=
  getD_lt (ready_closed hcl hd hj (hz k (ready_lt hj) hk hne))
theorem Z_done {m : Array Nat} {listed : Array Bool} (hcl : closedB ops m = true) (hz : ZC ops m Z) (hd : DC m listed) (hj : Z ∈ Region.ready .any ops listed) : Region.ready .any ops (listed.setIfInBounds Z true) = [] := by
  cases hr : Region.ready .any ops (listed.setIfInBounds Z true) with
  | nil => rfl
  | cons a l =>
    exfalso
    have ha : a ∈ Region.ready .any ops (listed.setIfInBounds Z true) := by rw [hr]; simp
    have hlt := ready_lt ha
    have h1 := (mem_ready.1 ha).1
    by_cases haz : a = Z
    · subst haz
      have hzl := (mem_ready.1 hj).1
      have hsz : a < listed.size := by
        rcases Nat.lt_or_ge a listed.size with h | h
        · exact h
        · simp [Array.getElem?_eq_none h] at hzl
      simp [hsz] at h1
    · rw [getD_set_ne true (Ne.symm haz)] at h1
      rw [Z_last hcl hz hd hj hlt haz] at h1
      cases h1
theorem wpAny_of_anyD {m : Array Nat} (hcl : closedB ops m = true) (hz : ZC ops m Z) {Q : Act → World → Prop} {Q' : Exit → Act → World → Prop} (hQ : ∀ a w, Q a w → Q' .normal a w) : ∀ (fuel : Nat) (listed : Array Bool) (a : Act) (w : World), (C w ∨ Region.ready .any ops listed = []) → DC m listed →
    anyD P ops C A Z Q fuel listed a w → wpAny P .any ops Q' fuel listed a w
  | 0, _, _, _, _, _, h => ⟨h.1, hQ _ _ h.2⟩
  | fuel + 1, listed, a, w, hC, hdc, h => ⟨fun h0 => hQ _ _ (h.1 h0), fun i hi => by
      have hC' : C w := by
        rcases hC with h | h
        · exact h
        · rw [h] at hi; cases hi
      have hdc' := hdc.set hcl hi
      have h2 := h.2 i hi
      unfold dOp at h2
      unfold wpOp
      split
      · rename_i ho
        simp only [ho] at h2
        exact wpAny_of_anyD hcl hz hQ fuel _ _ _ (.inl hC') hdc' h2
      · rename_i o ho
        simp only [ho] at h2
        split
        · rename_i hw
          simp only [hw, if_true] at h2
          refine .inl ?_
          split at h2
          · refine out_upon (fun v w' hv => wpAny_of_anyD hcl hz hQ fuel _ _ _ ?_ hdc' hv.2) h2
            rcases hv.1 with e | e
            · subst e; exact .inr (Z_done hcl hz hdc hi)
            · exact .inl e
          · obtain ⟨v, h3, h4⟩ := h2
            unfold Oper.wp
            rw [h3 w hC']
            exact wpAny_of_anyD hcl hz hQ fuel _ _ _ (.inl hC') hdc' h4
        · rename_i hw
          simp only [hw] at h2
          exact wpAny_of_anyD hcl hz hQ fuel _ _ _ (.inl hC') hdc' h2⟩
/-- a quiet operation that is ready may come first -/
theorem first_quiet {m : Array Nat} (hcl : closedB ops m = true) (hz : ZC ops m Z) {Q : Act → World → Prop} {i : Nat} {oi : Oper} {v : Value} (hi : ops[i]? = some oi) (hsel : ∀ (j : Nat) (o : Oper) cs b, ops[j]? = some o → o.op ≠ .select cs b) :
    ∀ (fuel : Nat) (listed : Array Bool) (a : Act) (w : World), C w → DC m listed →
      (∀ j oj, ops[j]? = some oj → j ≠ i → listed.getD j true = false → (m.getD j 0).testBit i = false → oi.apart ops oj = true) →
      i ∈ Region.ready .any ops listed → Yl P ops C A i oi v a →
      anyD P ops C A Z Q fuel (listed.setIfInBounds i true) (a.put oi.dst v) w → anyD P ops C A Z Q (fuel + 1) listed a w := by
  intro fuel
  induction fuel with
  | zero =>
    intro listed a w hC _ _ hr hy H
    refine ⟨fun h => (by rw [h] at hr; cases hr), fun j hj => ?_⟩
    by_cases hji : j = i
    · subst hji; exact hy.dOp hi H
    · have := ready_mono hj hji
      rw [H.1] at this
      cases this
  | succ fuel ih =>
    intro listed a w hC hdc hfree hr hy H
    refine ⟨fun h => (by rw [h] at hr; cases hr), fun j hj => ?_⟩
    by_cases hji : j = i
    · subst hji; exact hy.dOp hi H
    · have h1 := H.2 j (ready_mono hj hji)
      obtain ⟨hjun, oj, hoj, hall⟩ := mem_ready.1 hj
      have hnot : (m.getD j 0).testBit i = false := by
        cases hb : (m.getD j 0).testBit i with
        | false => rfl
        | true =>
          have h2 := ready_closed hcl hdc hj hb
          rw [listed_lt (mem_ready.1 hr).1] at h2
          cases h2
      have h2 := dOp_put hoj (hfree j oj hoj hji hjun hnot) (fun cs b => hsel i oi cs b hi) (fun cs b => hsel j oj cs b hoj) hy h1
      have hfree' : ∀ k ok, ops[k]? = some ok → k ≠ i → (listed.setIfInBounds j true).getD k true = false →
          (m.getD k 0).testBit i = false → oi.apart ops ok = true := fun k ok hk hki hun hno => by
        refine hfree k ok hk hki ?_ hno
        by_cases hjk : j = k
        · subst hjk; exact hjun
        · rw [getD_set_ne true hjk] at hun; exact hun
      have hjz : j ≠ Z := fun e => by
        subst e
        have h5 := Z_last hcl hz hdc hj (ready_lt hr) (Ne.symm hji)
        rw [(mem_ready.1 hr).1] at h5; cases h5
      refine dOp_mono hjz (fun a' w' hC' h3 => ih (listed.setIfInBounds j true) a' w' hC' (hdc.set hcl hj) hfree' (ready_mono hr (Ne.symm hji)) h3.1 ?_) hC h2
      rw [Array.setIfInBounds_comm _ _ hji]
      exact h3.2
/-- an acting operation that is ready may come first -/
theorem first_act {m : Array Nat} (hcl : closedB ops m = true) (hz : ZC ops m Z) {Q : Act → World → Prop} {i : Nat} {oi : Oper} (hi : ops[i]? = some oi) (hA : A i = true) (hsel : ∀ (j : Nat) (o : Oper) cs b, ops[j]? = some o → o.op ≠ .select cs b) :
    ∀ (fuel : Nat) (listed : Array Bool) (a : Act) (w : World), C w → DC m listed →
      (∀ j oj, ops[j]? = some oj → j ≠ i → listed.getD j true = false → (m.getD j 0).testBit i = false → oi.apart ops oj = true ∧ A j = false) →
      i ∈ Region.ready .any ops listed → Region.wanted oi (yielded ops a.tmps) = true →
      out P (fun v w' => (i = Z ∨ C w') ∧ anyD P ops C A Z Q fuel (listed.setIfInBounds i true) (a.put oi.dst v) w') ((execOp a.eval oi).run P w) → anyD P ops C A Z Q (fuel + 1) listed a w := by
  intro fuel
  induction fuel with
  | zero =>
    intro listed a w hC _ _ hr hw H
    refine ⟨fun h => (by rw [h] at hr; cases hr), fun j hj => ?_⟩
    by_cases hji : j = i
    · subst hji; unfold dOp; simp only [hi, hw, hA, if_true]; exact H
    · obtain ⟨v, w', _, hk⟩ := out_some H
      have := ready_mono hj hji
      rw [hk.1] at this
      cases this
  | succ fuel ih =>
    intro listed a w hC hdc hfree hr hw H
    refine ⟨fun h => (by rw [h] at hr; cases hr), fun j hj => ?_⟩
    by_cases hji : j = i
    · subst hji; unfold dOp; simp only [hi, hw, hA, if_true]; exact H
    · obtain ⟨hjun, oj, hoj, hall⟩ := mem_ready.1 hj
      have hnot : (m.getD j 0).testBit i = false := by
        cases hb : (m.getD j 0).testBit i with
        | false => rfl
        | true =>
          have h2 := ready_closed hcl hdc hj hb
          rw [listed_lt (mem_ready.1 hr).1] at h2
          cases h2
      obtain ⟨hap, hAj⟩ := hfree j oj hoj hji hjun hnot
      obtain ⟨p1, p2, p3⟩ := Oper.apart_spec hap
      have hfree' : ∀ k ok, ops[k]? = some ok → k ≠ i → (listed.setIfInBounds j true).getD k true = false →
          (m.getD k 0).testBit i = false → oi.apart ops ok = true ∧ A k = false := fun k ok hk hki hun hno => by
        refine hfree k ok hk hki ?_ hno
        by_cases hjk : j = k
        · subst hjk; exact hjun
        · rw [getD_set_ne true hjk] at hun; exact hun
      have hsi := fun cs b => hsel i oi cs b hi
      have hsj := fun cs b => hsel j oj cs b hoj
      -- what 'j' yields, whatever 'i' left
      have after : ∀ v w', anyD P ops C A Z Q (fuel + 1) (listed.setIfInBounds i true) (a.put oi.dst v) w' →
          dOp P ops C A Z j (anyD P ops C A Z Q fuel ((listed.setIfInBounds i true).setIfInBounds j true)) (a.put oi.dst v) w' := fun v w' hk => hk.2 j (ready_mono hj hji)
      unfold dOp
      simp only [hoj, hAj, Bool.false_eq_true, if_false]
      by_cases hwj : Region.wanted oj (yielded ops a.tmps) = true
      · simp only [hwj, if_true]
        have get : ∀ v w', anyD P ops C A Z Q (fuel + 1) (listed.setIfInBounds i true) (a.put oi.dst v) w' →
            ∃ u, (∀ w', C w' → (execOp a.eval oj).run P w' = .ok (.value u) w') ∧ anyD P ops C A Z Q fuel ((listed.setIfInBounds i true).setIfInBounds j true) ((a.put oi.dst v).put oj.dst u) w' := fun v w' hk => by
          have h1 := after v w' hk
          unfold dOp at h1
          simp only [hoj, hAj, Bool.false_eq_true, if_false] at h1
          rw [wanted_put oj a oi.dst v p1, hwj, if_pos rfl, execOp_put oj hsj a oi.dst v p1] at h1
          exact h1
        have hiz : i ≠ Z := fun e => by
          subst e
          have h5 := Z_last hcl hz hdc hr (ready_lt hj) hji
          rw [hjun] at h5; cases h5
        obtain ⟨v0, w0, hC0, hk0⟩ := out_some H
        obtain ⟨u, hu, _⟩ := get v0 w0 hk0
        refine ⟨u, hu, ih (listed.setIfInBounds j true) (a.put oj.dst u) w hC (hdc.set hcl hj) hfree' (ready_mono hr (Ne.symm hji)) ?_ ?_⟩
        · rw [wanted_put oi a oj.dst u p3]; exact hw
        · rw [execOp_put oi hsi a oj.dst u p3]
          refine out_mono (fun v w' ⟨hc, hk⟩ => ⟨hc, ?_⟩) H
          obtain ⟨u', hu', hk'⟩ := get v w' hk
          have e : u' = u := by
            have h1 := hu w hC
            rw [hu' w hC] at h1
            simpa using h1
          subst e
          rw [Array.setIfInBounds_comm _ _ hji, ← Act.put_comm a v u' p2]
          exact hk'
      · simp only [hwj, Bool.false_eq_true, if_false]
        refine ih (listed.setIfInBounds j true) (a.put oj.dst undef) w hC (hdc.set hcl hj) hfree' (ready_mono hr (Ne.symm hji)) ?_ ?_
        · rw [wanted_put oi a oj.dst undef p3]; exact hw
        · rw [execOp_put oi hsi a oj.dst undef p3]
          refine out_mono (fun v w' ⟨hc, hk⟩ => ⟨hc, ?_⟩) H
          have h1 := after v w' hk
          unfold dOp at h1
          simp only [hoj] at h1
          rw [wanted_put oj a oi.dst v p1, if_neg (by simpa using hwj)] at h1
          rw [Array.setIfInBounds_comm _ _ hji, ← Act.put_comm a v undef p2]
          exact h1
/-- the check of the text's order -/
def freeB (ops : Array Oper) (m : Array Nat) (A : Nat → Bool) (listed : Array Bool) (i : Nat) : Bool :=
  (List.range ops.size).all fun j => j == i || listed.getD j true || (m.getD j 0).testBit i ||
    (match ops[i]?, ops[j]? with
     | some oi, some oj => oi.apart ops oj && !(A i && A j)
     | _, _ => true)
def lexD (ops : Array Oper) (m : Array Nat) (A : Nat → Bool) : Nat → Nat → Array Bool → Bool
  | 0, _, listed => (Region.ready .any ops listed).isEmpty
  | fuel + 1, k, listed => (Region.ready .any ops listed).contains k && freeB ops m A listed k && lexD ops m A fuel (k + 1) (listed.setIfInBounds k true)
def ZB (ops : Array Oper) (m : Array Nat) (Z : Nat) : Bool := Nat.ble ops.size Z || (List.range ops.size).all fun k => k == Z || (m.getD Z 0).testBit k
theorem ZB_spec {m : Array Nat} (h : ZB ops m Z = true) : ZC ops m Z := fun k hz hk hne => by
  unfold ZB at h
  rcases Bool.or_eq_true _ _ ▸ h with h | h
  · have := Nat.le_of_ble_eq_true h; omega
  · have := List.all_eq_true.1 h k (List.mem_range.2 hk)
    simp only [Bool.or_eq_true, beq_iff_eq] at this
    exact this.resolve_left hne
def drawB (ops : Array Oper) (A : Nat → Bool) (Z : Nat) : Bool :=
  ZB ops (Region.before ops) Z && Region.noSelect ops && closedB ops (Region.before ops) && lexD ops (Region.before ops) A ops.size 0 (Array.replicate ops.size false)
theorem freeB_spec {m : Array Nat} {listed : Array Bool} {i : Nat} {oi : Oper} (hi : ops[i]? = some oi) (h : freeB ops m A listed i = true) :
    ∀ j oj, ops[j]? = some oj → j ≠ i → listed.getD j true = false → (m.getD j 0).testBit i = false → oi.apart ops oj = true ∧ (A i && A j) = false := by
  intro j oj hj hne hl hm
  have h1 := List.all_eq_true.1 h j (List.mem_range.2 (Array.getElem?_eq_some_iff.1 hj).1)
  simp only [hi, hj, hl, hm, Bool.or_false, Bool.or_eq_true, beq_iff_eq, Bool.and_eq_true, Bool.not_eq_true'] at h1
  rcases h1 with h1 | h1
  · exact absurd h1 hne
  · exact h1
theorem anyD_lex {m : Array Nat} (hcl : closedB ops m = true) (hz : ZC ops m Z) {Q : Act → World → Prop} (hs : Region.noSelect ops = true) : ∀ (fuel k : Nat) (listed : Array Bool) (a : Act) (w : World), (C w ∨ fuel = 0) → DC m listed →
    k + fuel = ops.size → lexD ops m A fuel k listed = true → wd P ops C A Z Q (List.range' k fuel) a w → anyD P ops C A Z Q fuel listed a w
  | 0, _, _, _, _, _, _, _, hB, h => ⟨by simpa [lexD] using hB, h⟩
  | fuel + 1, k, listed, a, w, hC0, hdc, hsz, hB, h => by
    have hC : C w := hC0.resolve_right (by omega)
    have hlt : k < ops.size := by omega
    have h0 : ops[k]? = some ops[k] := by simp [hlt]
    simp only [lexD, Bool.and_eq_true, List.contains_iff_mem] at hB
    obtain ⟨⟨hr, hf⟩, hB'⟩ := hB
    have hfr := freeB_spec h0 hf
    rw [List.range'_succ] at h
    simp only [wd] at h
    have hdc' := hdc.set hcl hr
    have hfin : k = Z → fuel = 0 := fun e => by
      subst e
      have hd := Z_done hcl hz hdc hr
      cases fuel with
      | zero => rfl
      | succ f =>
        simp only [lexD, Bool.and_eq_true, List.contains_iff_mem] at hB'
        rw [hd] at hB'
        exact absurd hB'.1.1 (by simp)
    have hrec : ∀ a w, (C w ∨ fuel = 0) → wd P ops C A Z Q (List.range' (k + 1) fuel) a w → anyD P ops C A Z Q fuel (listed.setIfInBounds k true) a w := fun a w hc hk =>
      anyD_lex hcl hz hs fuel (k + 1) _ a w hc hdc' (by omega) hB' hk
    unfold dOp at h
    simp only [h0] at h
    by_cases hw : Region.wanted ops[k] (yielded ops a.tmps) = true
    · simp only [hw, if_true] at h
      by_cases hA : A k = true
      · simp only [hA, if_true] at h
        exact first_act hcl hz h0 hA (Region.noSelect_spec hs) fuel listed a w hC hdc (fun j oj hj hne hl hm => ⟨(hfr j oj hj hne hl hm).1, by have := (hfr j oj hj hne hl hm).2; simpa [hA] using this⟩) hr hw
          (out_mono (fun v w' hv => ⟨hv.1, hrec _ _ (hv.1.elim (fun e => .inr (hfin e)) .inl) hv.2⟩) h)
      · simp only [hA] at h
        obtain ⟨v, hv, hk⟩ := h
        exact first_quiet hcl hz h0 (Region.noSelect_spec hs) fuel listed a w hC hdc (fun j oj hj hne hl hm => (hfr j oj hj hne hl hm).1) hr (.inl ⟨hw, by simpa using hA, hv⟩) (hrec _ _ (.inl hC) hk)
    · simp only [hw] at h
      exact first_quiet (A := A) (v := undef) hcl hz h0 (Region.noSelect_spec hs) fuel listed a w hC hdc (fun j oj hj hne hl hm => (hfr j oj hj hne hl hm).1) hr (.inr ⟨by simpa using hw, rfl⟩) (hrec _ _ (.inl hC) h)
theorem wp_region_D {id : Nat} {Q : Exit → Act → World → Prop} {a : Act} {w : World} (hm : P.follows .mixedOrders = true) (hB : drawB ops A Z = true) (hC : C w.drew)
    (h : wd P ops C A Z (fun a' w' => Q .normal a' w') (List.range' 0 ops.size) a w.drew) : (Code.region id ops true).wp P Q a w := by
  simp only [drawB, Bool.and_eq_true] at hB
  have hz := ZB_spec hB.1.1.1
  have hdc : DC (Region.before ops) (Array.replicate ops.size false) := fun j k hj => by
    simp only [Array.getD_eq_getD_getElem?, Array.getElem?_replicate] at hj
    split at hj <;> simp at hj
  refine wp_region_any hm (wpAny_of_anyD (C := C) (A := A) (Z := Z) hB.1.2 hz (Q := fun a' w' => Q .normal a' w') (fun _ _ h => h) _ _ _ _ (.inl hC) hdc ?_)
  exact anyD_lex hB.1.2 hz hB.1.1.2 ops.size 0 _ a _ (.inl hC) hdc (by omega) hB.2 h
variable {f : FuncId} {R : Ending → World → Prop} {n : Nat}
def OD (P : Program) (f : FuncId) (R : Ending → World → Prop) (n : Nat) (C : World → Prop) (A : Nat → Bool) (Z : Nat) (ops : Array Oper) (l : List Nat) (E : Env) (k : List Item) (w : World) : Prop :=
  ∀ a, Sat n E a → wd P ops C A Z (fun a w => Run P f R k a w) l a w
theorem r_draw (A : Nat → Bool) (Z : Nat) (C : World → Prop) {id : Nat} {ops : Array Oper} {E : Env} {k : List Item} {w : World} (hm : P.follows .mixedOrders = true) (hB : drawB ops A Z = true)
    (h : C w.drew ∧ OD P f R n C A Z ops (List.range' 0 ops.size) E k w.drew) : RunE P f R n E (.code (.region id ops true) :: k) w :=
  fun a ha => run_code (wp_region_D (A := A) (C := C) (Z := Z) hm hB h.1 (by
    have := h.2 a ha
    refine cast ?_ this
    congr
    funext a' w'
    simp))
theorem OD.nil {ops : Array Oper} {E : Env} {k : List Item} {w : World} (h : RunE P f R n E k w) : OD P f R n C A Z ops [] E k w := fun a ha => h a ha
theorem OD.q {ops : Array Oper} {o : Oper} {i : Nat} {l : List Nat} {E : Env} {k : List Item} {w : World} {v : Value} (ho : ops[i]? = some o) (hA : A i = false) (hq : Q1 P o E C v)
    (hw : want n ops E o.guard = some true) (hd : dstOk n o.dst = true) (h : OD P f R n C A Z ops l (pu o.dst v E) k w) : OD P f R n C A Z ops (i :: l) E k w := by
  intro a ha
  simp only [wd, dOp, ho, want_spec ha hw, hA, if_true, Bool.false_eq_true, if_false]
  exact ⟨v, hq a ha.has, h _ (ha.put hd v)⟩
theorem OD.sk {ops : Array Oper} {o : Oper} {i : Nat} {l : List Nat} {E : Env} {k : List Item} {w : World} (ho : ops[i]? = some o)
    (hw : want n ops E o.guard = some false) (hd : dstOk n o.dst = true) (h : OD P f R n C A Z ops l (pu o.dst undef E) k w) : OD P f R n C A Z ops (i :: l) E k w := by
  intro a ha
  simp only [wd, dOp, ho, want_spec ha hw, Bool.false_eq_true, if_false]
  exact h _ (ha.put hd undef)
theorem OD.act {ops : Array Oper} {o : Oper} {i : Nat} {l : List Nat} {E : Env} {k : List Item} {w : World} (ho : ops[i]? = some o) (hA : A i = true)
    (hw : want n ops E o.guard = some true) (hd : dstOk n o.dst = true) (ha : AW P o E w (fun v w' => (i = Z ∨ C w') ∧ OD P f R n C A Z ops l (pu o.dst v E) k w')) : OD P f R n C A Z ops (i :: l) E k w := by
  intro a hs
  simp only [wd, dOp, ho, want_spec hs hw, hA, if_true]
  exact out_mono (fun v w' hv => ⟨hv.1, hv.2 _ (hs.put hd v)⟩) (ha a hs.has)
end
end Go.Ik
namespace Go.Ik
open Go
abbrev Str := List UInt8
def strV (s : Str) : Value := .string ⟨s.toArray⟩
def ptr (b off : Nat) : Value := .pointer (some ⟨b, off, none⟩)
theorem strV_of (s : ByteArray) : Value.string s = strV s.data.toList := by simp [strV]
def Row (w : World) (b off : Nat) (cs : List Value) : Prop := ∀ i v, cs[i]? = some v → w.cell? ⟨b, off + i, none⟩ = some v
theorem cell_keep {M : Nat → Prop} {w w' : World} {b o : Nat} {v : Value} (h : w.cell? ⟨b, o, none⟩ = some v) (hm : Mod M w w') (hb : ¬ M b) : w'.cell? ⟨b, o, none⟩ = some v := by
  unfold World.cell? at h ⊢
  simp only [Option.isSome_none, Bool.false_eq_true, if_false] at h ⊢
  cases hh : w.heap[b]? with
  | none => rw [hh] at h; cases h
  | some ob =>
    rw [hm.keep b ob hh hb]
    rw [hh] at h
    exact h
theorem Row.keep {M : Nat → Prop} {w w' : World} {b off : Nat} {cs : List Value} (h : Row w b off cs) (hm : Mod M w w') (hb : ¬ M b) : Row w' b off cs := fun i v hv => cell_keep (h i v hv) hm hb
theorem Row.ext {w w' : World} {b off : Nat} {cs : List Value} (h : Row w b off cs) (hm : Ext w w') : Row w' b off cs := h.keep hm (fun x => x)
theorem Row.of_blk {w : World} {b : Nat} {cs : List Value} {e : TypeId} {fz : Nat × Nat} (h : w.heap[b]? = some (.cells cs.toArray e fz)) : Row w b 0 cs := fun i v hv => by
  simp [World.cell?, h, hv]
theorem Row.sub {w : World} {b off : Nat} {cs : List Value} (h : Row w b off cs) (i n : Nat) (hn : i + n ≤ cs.length) : Row w b (off + i) ((cs.drop i).take n) := fun j v hv => by
  rw [List.getElem?_take] at hv
  split at hv
  · rw [List.getElem?_drop] at hv
    rw [Nat.add_assoc]; exact h _ _ hv
  · cases hv
theorem Row.cell {w : World} {b off : Nat} {cs : List Value} (h : Row w b off cs) (i : Nat) (v : Value) (hv : cs[i]? = some v) : w.cell? ⟨b, off + i, none⟩ = some v := h i v hv
theorem add_lit (b off i : Nat) : (⟨b, off, none⟩ : Addr).add i = ⟨b, off + i, none⟩ := by unfold Addr.add; split <;> simp_all
/-- of a type: is it a struct or an array; its cells; its bytes; its zero value's cells -/
def tyI (P : Program) (t : TypeId) : Option (Bool × Nat × Nat × List Value) :=
  match P.info? t, P.underlying t with
  | some i, some d => match i.zero with
    | some z => some ((match d with | .struct _ => true | .array _ _ => true | _ => false), i.size, i.bytes, z.cells.toList)
    | none => none
  | _, _ => none
section
variable {P : Program}
theorem tyI_spec {t : TypeId} {g : Bool} {n by_ : Nat} {z : List Value} (h : tyI P t = some (g, n, by_, z)) :
    ∃ i d zv, P.info? t = some i ∧ P.underlying t = some d ∧ i.zero = some zv ∧ i.size = n ∧ i.bytes = by_ ∧ zv.cells.toList = z ∧ (match d with | .struct _ => true | .array _ _ => true | _ => false) = g := by
  unfold tyI at h
  cases hi : P.info? t with
  | none => simp [hi] at h
  | some i =>
    cases hd : P.underlying t with
    | none => simp [hi, hd] at h
    | some d =>
      cases hz : i.zero with
      | none => simp [hi, hd, hz] at h
      | some zv =>
        simp only [hi, hd, hz, Option.some.injEq, Prod.mk.injEq] at h
        exact ⟨i, d, zv, rfl, rfl, hz, h.2.1, h.2.2.1, h.2.2.2, h.1⟩
theorem run_isAgg {t : TypeId} {g : Bool} {n by_ : Nat} {z : List Value} (h : tyI P t = some (g, n, by_, z)) (w : World) : (isAgg t).run P w = .ok g w := by
  obtain ⟨i, d, zv, h1, h2, h3, h4, h5, h6, h7⟩ := tyI_spec h
  unfold isAgg
  simp only [Sem.run_bind, run_underlying h2, Result.andThen_ok]
  cases d <;> simp_all
theorem run_sizeOf {t : TypeId} {g : Bool} {n by_ : Nat} {z : List Value} (h : tyI P t = some (g, n, by_, z)) (w : World) : (sizeOf t).run P w = .ok n w := by
  obtain ⟨i, d, zv, h1, h2, h3, h4, h5, h6, h7⟩ := tyI_spec h
  simp [sizeOf, typeInfo, h1, h4]
theorem run_zero {t : TypeId} {g : Bool} {n by_ : Nat} {z : List Value} (h : tyI P t = some (g, n, by_, z)) (w : World) : ∃ zv, zv.cells.toList = z ∧ (zeroValue t).run P w = .ok zv w := by
  obtain ⟨i, d, zv, h1, h2, h3, h4, h5, h6, h7⟩ := tyI_spec h
  exact ⟨zv, h6, by simp [zeroValue, typeInfo, h1, h3]⟩
theorem run_loadVar_agg {t : TypeId} {n by_ : Nat} {z : List Value} (h : tyI P t = some (true, n, by_, z)) {w : World} {b off : Nat} {cs : List Value} (hr : Row w b off cs) (hn : cs.length = n) :
    (loadVar t ⟨b, off, none⟩).run P w = .ok (.agg cs.toArray) w := by
  unfold loadVar
  have hl := run_loadCells_list (P := P) w ⟨b, off, none⟩ cs (fun j v hv => by rw [add_lit]; exact hr.cell j v hv)
  rw [hn] at hl
  simp [run_isAgg h, run_sizeOf h, hl]
theorem run_loadVar_one {t : TypeId} {n by_ : Nat} {z : List Value} (h : tyI P t = some (false, n, by_, z)) {w : World} {b off : Nat} {v : Value} (hr : Row w b off [v]) :
    (loadVar t ⟨b, off, none⟩).run P w = .ok v w := by
  unfold loadVar
  have := hr.cell 0 v rfl
  simp only [Nat.add_zero] at this
  simp [run_isAgg h, this]
variable {E : Env} {C : World → Prop} {d : Option Tmp} {ty : TypeId} {pos : String} {af : Array Edge} {gd : Option (Nat × Bool)}
theorem Q1.move {x : Operand} {v : Value} (hx : ev E x = some v) : Q1 P ⟨d, .move x, ty, pos, af, gd⟩ E C v := fun a ha w _ => by
  simp [execOp, ha.ev hx]
theorem Q1.assign {x : Operand} {v : Value} (hx : ev E x = some v) : Q1 P ⟨d, .assign x, ty, pos, af, gd⟩ E C v := fun a ha w _ => by
  simp [execOp, ha.ev hx]
theorem Q1.pick {c x y : Operand} {t : Bool} {v : Value} (hc : ev E c = some (.bool t)) (hx : t = true → ev E x = some v) (hy : t = false → ev E y = some v) :
    Q1 P ⟨d, .pick c x y, ty, pos, af, gd⟩ E C v := fun a ha w _ => by
  cases t with
  | true => simp [execOp, ha.ev hc, ha.ev (hx rfl), asBool]
  | false => simp [execOp, ha.ev hc, ha.ev (hy rfl), asBool]
theorem Q1.pick_t {c x y : Operand} {v : Value} (hc : ev E c = some (.bool true)) (hx : ev E x = some v) :
    Q1 P ⟨d, .pick c x y, ty, pos, af, gd⟩ E C v := Q1.pick hc (fun _ => hx) (fun h => by cases h)
theorem Q1.pick_f {c x y : Operand} {v : Value} (hc : ev E c = some (.bool false)) (hx : ev E y = some v) :
    Q1 P ⟨d, .pick c x y, ty, pos, af, gd⟩ E C v := Q1.pick hc (fun h => by cases h) (fun _ => hx)
section
variable {x y : Operand} {xt yt : TypeId} {k : IntKind} {p q : Int}
theorem eqGuard_int (op : BinOp) (t : TypeId) (x y : Operand) (w : World) : (eqGuard op t x y (.int k p) (.int k q)).run P w = .ok () w := by
  unfold eqGuard; split <;> simp
theorem eqGuard_str (op : BinOp) (t : TypeId) (x y : Operand) (w : World) (s s' : ByteArray) : (eqGuard op t x y (.string s) (.string s')).run P w = .ok () w := by
  unfold eqGuard; split <;> simp
theorem Q1.add (hx : ev E x = some (.int k p)) (hy : ev E y = some (.int k q)) : Q1 P ⟨d, .binOp .add xt x y yt, ty, pos, af, gd⟩ E C (.int k (k.wrap (p + q))) := fun a ha w _ => by
  simp [execOp, ha.ev hx, ha.ev hy, eqGuard_int, Go.binOp, Op.intArith]
theorem Q1.sub (hx : ev E x = some (.int k p)) (hy : ev E y = some (.int k q)) : Q1 P ⟨d, .binOp .sub xt x y yt, ty, pos, af, gd⟩ E C (.int k (k.wrap (p - q))) := fun a ha w _ => by
  simp [execOp, ha.ev hx, ha.ev hy, eqGuard_int, Go.binOp, Op.intArith]
theorem Q1.mul (hx : ev E x = some (.int k p)) (hy : ev E y = some (.int k q)) : Q1 P ⟨d, .binOp .mul xt x y yt, ty, pos, af, gd⟩ E C (.int k (k.wrap (p * q))) := fun a ha w _ => by
  simp [execOp, ha.ev hx, ha.ev hy, eqGuard_int, Go.binOp, Op.intArith]
theorem Q1.rem (hx : ev E x = some (.int k p)) (hy : ev E y = some (.int k q)) (h0 : q ≠ 0) : Q1 P ⟨d, .binOp .rem xt x y yt, ty, pos, af, gd⟩ E C (.int k (p.tmod q)) := fun a ha w _ => by
  simp [execOp, ha.ev hx, ha.ev hy, eqGuard_int, Go.binOp, Op.intDiv, h0]
/-- in range -/
theorem Q1.addI (r : Int) (hx : ev E x = some (.int .i64 p)) (hy : ev E y = some (.int .i64 q)) (hr : p + q = r ∧ -9223372036854775808 ≤ r ∧ r ≤ 9223372036854775807) : Q1 P ⟨d, .binOp .add xt x y yt, ty, pos, af, gd⟩ E C (.int .i64 r) := by
  have h := Q1.add (P := P) (C := C) (d := d) (xt := xt) (yt := yt) (ty := ty) (pos := pos) (af := af) (gd := gd) hx hy
  rw [IntWalk.i64_in _ (by omega), hr.1] at h; exact h
theorem Q1.subI (r : Int) (hx : ev E x = some (.int .i64 p)) (hy : ev E y = some (.int .i64 q)) (hr : p - q = r ∧ -9223372036854775808 ≤ r ∧ r ≤ 9223372036854775807) : Q1 P ⟨d, .binOp .sub xt x y yt, ty, pos, af, gd⟩ E C (.int .i64 r) := by
  have h := Q1.sub (P := P) (C := C) (d := d) (xt := xt) (yt := yt) (ty := ty) (pos := pos) (af := af) (gd := gd) hx hy
  rw [IntWalk.i64_in _ (by omega), hr.1] at h; exact h
theorem Q1.mulI (r : Int) (hx : ev E x = some (.int .i64 p)) (hy : ev E y = some (.int .i64 q)) (hr : p * q = r ∧ -9223372036854775808 ≤ r ∧ r ≤ 9223372036854775807) : Q1 P ⟨d, .binOp .mul xt x y yt, ty, pos, af, gd⟩ E C (.int .i64 r) := by
  have h := Q1.mul (P := P) (C := C) (d := d) (xt := xt) (yt := yt) (ty := ty) (pos := pos) (af := af) (gd := gd) hx hy
  rw [IntWalk.i64_in _ (by rw [hr.1]; omega), hr.1] at h; exact h
theorem Q1.remI (r : Int) (hx : ev E x = some (.int k p)) (hy : ev E y = some (.int k q)) (hr : 0 ≤ p ∧ q ≠ 0 ∧ p % q = r) : Q1 P ⟨d, .binOp .rem xt x y yt, ty, pos, af, gd⟩ E C (.int k r) := by
  have h := Q1.rem (P := P) (C := C) (d := d) (xt := xt) (yt := yt) (ty := ty) (pos := pos) (af := af) (gd := gd) hx hy hr.2.1
  rw [Int.tmod_eq_emod_of_nonneg hr.1, hr.2.2] at h; exact h
theorem Q1.eq (hx : ev E x = some (.int k p)) (hy : ev E y = some (.int k q)) : Q1 P ⟨d, .binOp .eql xt x y yt, ty, pos, af, gd⟩ E C (.bool (p == q)) := fun a ha w _ => by
  simp [execOp, ha.ev hx, ha.ev hy, eqGuard_int, Go.binOp, Op.intCmp]
theorem Q1.ne (hx : ev E x = some (.int k p)) (hy : ev E y = some (.int k q)) : Q1 P ⟨d, .binOp .neq xt x y yt, ty, pos, af, gd⟩ E C (.bool (p != q)) := fun a ha w _ => by
  simp [execOp, ha.ev hx, ha.ev hy, eqGuard_int, Go.binOp, Op.intCmp]
theorem Q1.lt (hx : ev E x = some (.int k p)) (hy : ev E y = some (.int k q)) : Q1 P ⟨d, .binOp .lss xt x y yt, ty, pos, af, gd⟩ E C (.bool (decide (p < q))) := fun a ha w _ => by
  simp [execOp, ha.ev hx, ha.ev hy, eqGuard_int, Go.binOp, Op.intCmp]
theorem Q1.le (hx : ev E x = some (.int k p)) (hy : ev E y = some (.int k q)) : Q1 P ⟨d, .binOp .leq xt x y yt, ty, pos, af, gd⟩ E C (.bool (decide (p ≤ q))) := fun a ha w _ => by
  simp [execOp, ha.ev hx, ha.ev hy, eqGuard_int, Go.binOp, Op.intCmp]
theorem Q1.gt (hx : ev E x = some (.int k p)) (hy : ev E y = some (.int k q)) : Q1 P ⟨d, .binOp .gtr xt x y yt, ty, pos, af, gd⟩ E C (.bool (decide (q < p))) := fun a ha w _ => by
  simp [execOp, ha.ev hx, ha.ev hy, eqGuard_int, Go.binOp, Op.intCmp]
theorem Q1.ge (hx : ev E x = some (.int k p)) (hy : ev E y = some (.int k q)) : Q1 P ⟨d, .binOp .geq xt x y yt, ty, pos, af, gd⟩ E C (.bool (decide (q ≤ p))) := fun a ha w _ => by
  simp [execOp, ha.ev hx, ha.ev hy, eqGuard_int, Go.binOp, Op.intCmp]
theorem toList_mk (s : Str) : (⟨s.toArray⟩ : ByteArray).toList = s := by
  rw [ByteArray.toList_eq]
theorem Q1.eqS {s t : Str} (hx : ev E x = some (strV s)) (hy : ev E y = some (strV t)) : Q1 P ⟨d, .binOp .eql xt x y yt, ty, pos, af, gd⟩ E C (.bool (s == t)) := fun a ha w _ => by
  simp [execOp, ha.ev hx, ha.ev hy, strV, eqGuard_str, Go.binOp, Op.stringOp]
theorem Q1.neS {s t : Str} (hx : ev E x = some (strV s)) (hy : ev E y = some (strV t)) : Q1 P ⟨d, .binOp .neq xt x y yt, ty, pos, af, gd⟩ E C (.bool (!(s == t))) := fun a ha w _ => by
  simp [execOp, ha.ev hx, ha.ev hy, strV, eqGuard_str, Go.binOp, Op.stringOp]
theorem Q1.catS {s t : Str} (hx : ev E x = some (strV s)) (hy : ev E y = some (strV t)) (hl : s.length + t.length ≤ 9223372036854775807) : Q1 P ⟨d, .binOp .add xt x y yt, ty, pos, af, gd⟩ E C (strV (s ++ t)) := fun a ha w _ => by
  have h1 : ¬ ((9223372036854775807 : Int) < ((s.length : Int) + (t.length : Int))) := by omega
  have h2 : (⟨s.toArray⟩ : ByteArray) ++ ⟨t.toArray⟩ = ⟨(s ++ t).toArray⟩ := by
    apply ByteArray.ext
    simp
  have h3 : (⟨s.toArray⟩ : ByteArray).size = s.length := by simp [ByteArray.size]
  have h4 : (⟨t.toArray⟩ : ByteArray).size = t.length := by simp [ByteArray.size]
  simp [execOp, ha.ev hx, ha.ev hy, strV, eqGuard_str, Go.binOp, Op.stringOp, h2, h3, h4, IntKind.max, IntKind.signed, IntKind.bits, h1]
theorem eqGuard_bool (op : BinOp) (t : TypeId) (x y : Operand) (w : World) (a b : Bool) : (eqGuard op t x y (.bool a) (.bool b)).run P w = .ok () w := by
  unfold eqGuard; split <;> simp
theorem Q1.eqB {s t : Bool} (hu : P.underlying xt = some .bool) (hx : ev E x = some (.bool s)) (hy : ev E y = some (.bool t)) : Q1 P ⟨d, .binOp .eql xt x y yt, ty, pos, af, gd⟩ E C (.bool (s == t)) := fun a ha w _ => by
  simp [execOp, ha.ev hx, ha.ev hy, eqGuard_bool, Go.binOp, run_equal_bool w xt s t hu]
theorem Q1.neB {s t : Bool} (hu : P.underlying xt = some .bool) (hx : ev E x = some (.bool s)) (hy : ev E y = some (.bool t)) : Q1 P ⟨d, .binOp .neq xt x y yt, ty, pos, af, gd⟩ E C (.bool (!(s == t))) := fun a ha w _ => by
  simp [execOp, ha.ev hx, ha.ev hy, eqGuard_bool, Go.binOp, run_equal_bool w xt s t hu]
theorem Q1.not {s : Bool} (hx : ev E x = some (.bool s)) : Q1 P ⟨d, .unOp .not xt x, ty, pos, af, gd⟩ E C (.bool (!s)) := fun a ha w _ => by
  simp [execOp, ha.ev hx, Op.unary]
end
/-- a struct's field in a value -/
theorem Q1.extract {x : Operand} {vs : Array Value} {i : Nat} {v : Value} (hx : ev E x = some (.tuple vs)) (hv : vs[i]? = some v) : Q1 P ⟨d, .extract x i, ty, pos, af, gd⟩ E C v := fun a ha w _ => by
  simp [execOp, ha.ev hx, Instr.extract, hv]
/-- a struct's field: where it lies (of a field that has cells) -/
def fldI (P : Program) (t : TypeId) (i : Nat) : Option Nat :=
  match P.underlying t with
  | some (.struct fs) => match fs[i]? with
    | some f => match P.info? f.type with
      | some j => match Nat.beq j.size 0 with
        | true => none
        | false => some f.offset
      | none => none
    | none => none
  | _ => none
theorem Q1.fieldAddr {t : TypeId} {x : Operand} {i b off o : Nat} (hf : fldI P t i = some o) (hx : ev E x = some (ptr b off)) :
    Q1 P ⟨d, .fieldAddr t x i, ty, pos, af, gd⟩ E C (ptr b (off + o)) := fun a ha w _ => by
  unfold fldI at hf
  split at hf
  · rename_i fs hu
    split at hf
    · rename_i f hfs
      split at hf
      · rename_i j hj
        split at hf
        · cases hf
        · rename_i hb
          simp only [Option.some.injEq] at hf
          have h0 : ¬ j.size = 0 := fun e => by rw [e] at hb; cases hb
          simp [execOp, ha.ev hx, ptr, Instr.fieldAt, Instr.sureAddr, run_underlying hu, hfs, fieldPlace, sizeOf, typeInfo, hj, h0, add_lit, hf]
      · cases hf
    · cases hf
  · cases hf
theorem Q1.load {t : TypeId} {x : Operand} {b off : Nat} {v : Value} (hx : ev E x = some (ptr b off)) (hl : ∀ w, C w → (loadVar t ⟨b, off, none⟩).run P w = .ok v w) :
    Q1 P ⟨d, .load t x, ty, pos, af, gd⟩ E C v := fun a ha w hC => by
  simp [execOp, ha.ev hx, ptr, Instr.loadAt, Instr.sureAddr, hl w hC]
/-- a variable of one cell -/
theorem Q1.load1 {t : TypeId} {x : Operand} {b off n by_ : Nat} {z : List Value} {v : Value} (ht : tyI P t = some (false, n, by_, z)) (hx : ev E x = some (ptr b off)) (hr : ∀ w, C w → Row w b off [v]) :
    Q1 P ⟨d, .load t x, ty, pos, af, gd⟩ E C v := Q1.load hx fun w hw => run_loadVar_one ht (hr w hw)
/-- a struct's variable -/
theorem Q1.loadN {t : TypeId} {x : Operand} {b off n by_ : Nat} {z cs : List Value} (ht : tyI P t = some (true, n, by_, z)) (hx : ev E x = some (ptr b off)) (hr : ∀ w, C w → Row w b off cs) (hn : cs.length = n) :
    Q1 P ⟨d, .load t x, ty, pos, af, gd⟩ E C (.agg cs.toArray) := Q1.load hx fun w hw => run_loadVar_agg ht (hr w hw) hn
end
section
variable {α : Type}
def Sl (enc : α → List Value) (w : World) (F : Nat → Prop) (v : Value) (l : List α) : Prop :=
  ∃ a cap, v = .slice a l.length cap ∧ l.length ≤ cap ∧ cap ≤ maxLen ∧ (l = [] ∨ ∃ b off, a = some ⟨b, off, none⟩ ∧ F b ∧ Row w b off (l.flatMap enc))
variable {enc : α → List Value} {w : World} {F : Nat → Prop} {v : Value} {l : List α}
theorem Sl.nil : Sl enc w F (.slice none 0 0) [] := ⟨none, 0, rfl, Nat.le_refl _, Nat.zero_le _, .inl rfl⟩
theorem Sl.keep {M : Nat → Prop} {w' : World} (h : Sl enc w F v l) (hm : Mod M w w') (hF : ∀ b, F b → ¬ M b) : Sl enc w' F v l := by
  obtain ⟨a, cap, h1, h2, h3, h4⟩ := h
  refine ⟨a, cap, h1, h2, h3, ?_⟩
  rcases h4 with h4 | ⟨b, off, h5, h6, h7⟩
  · exact .inl h4
  · exact .inr ⟨b, off, h5, h6, h7.keep hm (hF b h6)⟩
theorem Sl.ext {w' : World} (h : Sl enc w F v l) (hm : Ext w w') : Sl enc w' F v l := h.keep hm (fun _ _ h => h)
theorem Sl.mono {F' : Nat → Prop} (h : Sl enc w F v l) (hF : ∀ b, F b → F' b) : Sl enc w F' v l := by
  obtain ⟨a, cap, h1, h2, h3, h4⟩ := h
  refine ⟨a, cap, h1, h2, h3, ?_⟩
  rcases h4 with h4 | ⟨b, off, h5, h6, h7⟩
  · exact .inl h4
  · exact .inr ⟨b, off, h5, hF b h6, h7⟩
theorem Sl.le (h : Sl enc w F v l) : l.length ≤ 9223372036854775807 := by
  obtain ⟨a, cap, h1, h2, h3, h4⟩ := h
  exact Nat.le_trans h2 h3
theorem Sl.shape (h : Sl enc w F v l) : ∃ a cap, v = .slice a l.length cap := by
  obtain ⟨a, cap, h1, h2, h3, h4⟩ := h
  exact ⟨a, cap, h1⟩
/-- the cells of one element within a row -/
theorem flat_at {sz : Nat} (hsz : ∀ x, (enc x).length = sz) : ∀ (l : List α) (i : Nat) (h : i < l.length), ((l.flatMap enc).drop (i * sz)).take sz = enc l[i] ∧ i * sz + sz ≤ (l.flatMap enc).length
  | x :: l, 0, _ => by
    refine ⟨?_, by simp [List.flatMap_cons, hsz]⟩
    simp only [Nat.zero_mul, List.drop_zero, List.flatMap_cons, List.getElem_cons_zero]
    rw [← hsz x, List.take_left']
    rfl
  | x :: l, i + 1, h => by
    have ih := flat_at hsz l i (by simpa using h)
    simp only [List.flatMap_cons, List.getElem_cons_succ]
    have e : (i + 1) * sz = (enc x).length + i * sz := by rw [hsz, Nat.add_mul]; omega
    rw [e, List.drop_append, List.drop_of_length_le (by omega), Nat.add_sub_cancel_left, List.nil_append]
    refine ⟨ih.1, ?_⟩
    rw [List.length_append]; have := ih.2; omega
theorem flat_len {sz : Nat} (hsz : ∀ x, (enc x).length = sz) (l : List α) : (l.flatMap enc).length = l.length * sz := by
  induction l with
  | nil => simp
  | cons x l ih => simp only [List.flatMap_cons, List.length_append, hsz, ih, List.length_cons, Nat.add_mul]; omega
theorem flat_drop {sz : Nat} (hsz : ∀ x, (enc x).length = sz) (l : List α) (i : Nat) : (l.flatMap enc).drop (i * sz) = (l.drop i).flatMap enc := by
  induction i generalizing l with
  | zero => simp
  | succ i ih =>
    cases l with
    | nil => simp
    | cons x l =>
      have e : (i + 1) * sz = (enc x).length + i * sz := by rw [hsz, Nat.add_mul]; omega
      simp only [List.flatMap_cons, List.drop_succ_cons]
      rw [e, List.drop_append, List.drop_of_length_le (by omega), Nat.add_sub_cancel_left, List.nil_append, ih]
theorem flat_take {sz : Nat} (hsz : ∀ x, (enc x).length = sz) (l : List α) (i : Nat) : (l.flatMap enc).take (i * sz) = (l.take i).flatMap enc := by
  induction i generalizing l with
  | zero => simp
  | succ i ih =>
    cases l with
    | nil => simp
    | cons x l =>
      have e : (i + 1) * sz = (enc x).length + i * sz := by rw [hsz, Nat.add_mul]; omega
      simp only [List.flatMap_cons, List.take_succ_cons]
      rw [e, List.take_append, List.take_of_length_le (by omega), Nat.add_sub_cancel_left, ih]
section
variable {P : Program} {t e : TypeId}
/-- where an element lies -/
theorem Sl.at {sz by_ : Nat} {g : Bool} {z : List Value} (h : Sl enc w F v l) (ht : P.underlying t = some (.slice e)) (he : tyI P e = some (g, sz, by_, z)) (hsz : ∀ x, (enc x).length = sz) {k : IntKind} {n : Int} (i : Nat) (hn : n = (i : Int)) (hi : i < l.length) :
    ∃ b off, (∀ w, (Instr.indexAt t v (.int k n)).run P w = .ok (ptr b off) w) ∧ F b ∧ Row w b off (enc l[i]) := by
  obtain ⟨a, cap, rfl, h2, h3, h4⟩ := h
  rcases h4 with rfl | ⟨b, off, rfl, h5, h6⟩
  · simp at hi
  · refine ⟨b, off + i * sz, fun w => ?_, h5, ?_⟩
    · have : (0 : Int) ≤ n ∧ n < (l.length : Int) := by omega
      have e : n.toNat = i := by omega
      simp [Instr.indexAt, asIntOf, run_underlying ht, this, run_sizeOf he, add_lit, ptr, e]
    · have hf := flat_at hsz l i hi
      have := h6.sub (i * sz) sz hf.2
      rw [hf.1] at this
      exact this
end
variable {P : Program} {E : Env} {C : World → Prop} {d : Option Tmp} {ty : TypeId} {pos : String} {af : Array Edge} {gd : Option (Nat × Bool)}
theorem Q1.indexAddr {t : TypeId} {x y : Operand} {v u p : Value} (hx : ev E x = some v) (hy : ev E y = some u) (h : ∀ w, (Instr.indexAt t v u).run P w = .ok p w) : Q1 P ⟨d, .indexAddr t x y, ty, pos, af, gd⟩ E C p := fun a ha w _ => by
  simp [execOp, ha.ev hx, ha.ev hy, h w]
theorem Q1.len {t e : TypeId} {x : Operand} {a : Option Addr} {n c : Nat} (hu : P.underlying t = some (.slice e)) (hx : ev E x = some (.slice a n c)) : Q1 P ⟨d, .call { callee := .builtin .len, args := #[x], argTypes := #[t] }, ty, pos, af, gd⟩ E C (.int .i64 n) := fun s ha w _ => by
  simp [execOp, resolve, invoke, builtin, ha.ev hx, Builtin.len_, goInt, run_underlying hu]
theorem Q1.lenSl {t e : TypeId} {x : Operand} (hu : P.underlying t = some (.slice e)) (h : Sl enc w F v l) (hx : ev E x = some v) : Q1 P ⟨d, .call { callee := .builtin .len, args := #[x], argTypes := #[t] }, ty, pos, af, gd⟩ E C (.int .i64 l.length) := by
  obtain ⟨a, c, rfl⟩ := h.shape
  exact Q1.len hu hx
theorem Q1.lenS {t : TypeId} {x : Operand} {s : Str} (hu : P.underlying t = some .string) (hx : ev E x = some (strV s)) : Q1 P ⟨d, .call { callee := .builtin .len, args := #[x], argTypes := #[t] }, ty, pos, af, gd⟩ E C (.int .i64 s.length) := fun a ha w _ => by
  have h3 : (⟨s.toArray⟩ : ByteArray).size = s.length := by simp [ByteArray.size]
  simp [execOp, resolve, invoke, builtin, ha.ev hx, strV, Builtin.len_, goInt, run_underlying hu, h3]
theorem min2_eq (k : IntKind) (p q : Int) (w : World) : (Builtin.min2 (.int k p) (.int k q)).run P w = .ok (.int k (min p q)) w := by
  simp only [Builtin.min2, Sem.run_pure]
  rw [Int.min_def]
  split <;> split <;> first | rfl | omega
theorem max2_eq (k : IntKind) (p q : Int) (w : World) : (Builtin.max2 (.int k p) (.int k q)).run P w = .ok (.int k (max p q)) w := by
  simp only [Builtin.max2, Sem.run_pure]
  rw [Int.max_def]
  split <;> split <;> first | rfl | (congr 2; omega) | omega
theorem Q1.min {x y : Operand} {k : IntKind} {p q : Int} {ts : Array TypeId} (hx : ev E x = some (.int k p)) (hy : ev E y = some (.int k q)) : Q1 P ⟨d, .call { callee := .builtin .min, args := #[x, y], argTypes := ts }, ty, pos, af, gd⟩ E C (.int k (Min.min p q)) := fun a ha w _ => by
  simp [execOp, resolve, invoke, builtin, ha.ev hx, ha.ev hy, Builtin.min_, min2_eq]
theorem Q1.max {x y : Operand} {k : IntKind} {p q : Int} {ts : Array TypeId} (hx : ev E x = some (.int k p)) (hy : ev E y = some (.int k q)) : Q1 P ⟨d, .call { callee := .builtin .max, args := #[x, y], argTypes := ts }, ty, pos, af, gd⟩ E C (.int k (Max.max p q)) := fun a ha w _ => by
  simp [execOp, resolve, invoke, builtin, ha.ev hx, ha.ev hy, Builtin.max_, max2_eq]
theorem Q1.min4 {x y z u : Operand} {k : IntKind} {p q r t : Int} {ts : Array TypeId} (hx : ev E x = some (.int k p)) (hy : ev E y = some (.int k q)) (hz : ev E z = some (.int k r)) (hu : ev E u = some (.int k t)) : Q1 P ⟨d, .call { callee := .builtin .min, args := #[x, y, z, u], argTypes := ts }, ty, pos, af, gd⟩ E C (.int k (Min.min (Min.min (Min.min p q) r) t)) := fun a ha w _ => by
  simp [execOp, resolve, invoke, builtin, ha.ev hx, ha.ev hy, ha.ev hz, ha.ev hu, Builtin.min_, min2_eq]
/-- between integers -/
theorem Q1.convI {s t : TypeId} {x : Operand} {k k' : IntKind} {p : Int} (hs : (P.underlying s).isSome = true) (ht : P.underlying t = some (.int k')) (hx : ev E x = some (.int k p)) : Q1 P ⟨d, .convert s t x, ty, pos, af, gd⟩ E C (.int k' (k'.wrap p)) := fun a ha w _ => by
  obtain ⟨ds, hs'⟩ := Option.isSome_iff_exists.1 hs
  simp [execOp, ha.ev hx, convert, run_underlying hs', run_underlying ht, Conv.intToInt]
/-- a rune's text -/
def encR (r : Int) : Str := (Utf8.encode r).data.toList
theorem Q1.convRS {s t : TypeId} {x : Operand} {k : IntKind} {p : Int} (hs : (P.underlying s).isSome = true) (ht : P.underlying t = some .string) (hx : ev E x = some (.int k p)) : Q1 P ⟨d, .convert s t x, ty, pos, af, gd⟩ E C (strV (encR p)) := fun a ha w _ => by
  simp [execOp, ha.ev hx, run_convert_int_string w s t k p hs ht, strV, encR]
/-- a part of a text -/
theorem sliceBound_ok {k : IntKind} {n : Int} {y i : Nat} (code : BoundsCode) (hn : n = (i : Int)) (hi : i ≤ y) (w : World) : (Instr.sliceBound (.int k n) y code).run P w = .ok i w := by
  have h1 : 0 ≤ n ∧ n ≤ (y : Int) := by omega
  have h2 : n.toNat = i := by omega
  simp [Instr.sliceBound, asIntOf, h1, h2]
theorem strExtract (s : Str) (i j : Nat) : (⟨s.toArray⟩ : ByteArray).extract i j = ⟨((s.take j).drop i).toArray⟩ := by
  apply ByteArray.ext
  rw [ByteArray.data_extract]
  apply Array.ext'
  simp [List.drop_take]
theorem Q1.sliceS_lo {t : TypeId} {x y : Operand} {s : Str} {k : IntKind} {n : Int} (i : Nat) (ht : P.underlying t = some .string) (hx : ev E x = some (strV s)) (hy : ev E y = some (.int k n)) (hn : n = (i : Int)) (hi : i ≤ s.length) :
    Q1 P ⟨d, .slice t x (some y) none none, ty, pos, af, gd⟩ E C (strV (s.drop i)) := fun a ha w _ => by
  have h3 : (⟨s.toArray⟩ : ByteArray).size = s.length := by simp [ByteArray.size]
  simp [execOp, ha.ev hx, ha.ev hy, Instr.sliceAt, Instr.slice, Instr.sliceBounds, strV, run_underlying ht, h3, sliceBound_ok _ hn hi, strExtract]
theorem Q1.sliceS_hi {t : TypeId} {x y : Operand} {s : Str} {k : IntKind} {n : Int} (i : Nat) (ht : P.underlying t = some .string) (hx : ev E x = some (strV s)) (hy : ev E y = some (.int k n)) (hn : n = (i : Int)) (hi : i ≤ s.length) :
    Q1 P ⟨d, .slice t x none (some y) none, ty, pos, af, gd⟩ E C (strV (s.take i)) := fun a ha w _ => by
  have h3 : (⟨s.toArray⟩ : ByteArray).size = s.length := by simp [ByteArray.size]
  simp [execOp, ha.ev hx, ha.ev hy, Instr.sliceAt, Instr.slice, Instr.sliceBounds, strV, run_underlying ht, h3, sliceBound_ok _ hn hi, strExtract]
/-- a part of a slice -/
theorem Sl.part {t e : TypeId} {sz by_ : Nat} {g : Bool} {z : List Value} (h : Sl enc w F v l) (ht : P.underlying t = some (.slice e)) (he : tyI P e = some (g, sz, by_, z)) (hsz : ∀ x, (enc x).length = sz)
    {lo hi : Option Value} (i j : Nat) (hlo : (lo = none ∧ i = 0) ∨ ∃ k n, lo = some (.int k n) ∧ n = (i : Int)) (hhi : (hi = none ∧ j = l.length) ∨ ∃ k n, hi = some (.int k n) ∧ n = (j : Int)) (hij : i ≤ j) (hj : j ≤ l.length) :
    ∃ v', (∀ w, (Instr.sliceAt t v lo hi none).run P w = .ok v' w) ∧ Sl enc w F v' ((l.take j).drop i) := by
  have hb : ∀ (cap : Nat) (hc : l.length ≤ cap) (w : World), (Instr.sliceBounds true l.length cap lo hi none).run P w = .ok (i, j, cap) w := by
    intro cap hc w
    rcases hlo with ⟨rfl, rfl⟩ | ⟨k, n, rfl, hn⟩ <;> rcases hhi with ⟨rfl, rfl⟩ | ⟨k', m, rfl, hm⟩
    · simp [Instr.sliceBounds]
    · simp [Instr.sliceBounds, sliceBound_ok _ hm (Nat.le_trans hj hc)]
    · simp [Instr.sliceBounds, sliceBound_ok _ hn hij]
    · simp [Instr.sliceBounds, sliceBound_ok _ hm (Nat.le_trans hj hc), sliceBound_ok _ hn hij]
  obtain ⟨a, cap, rfl, h2, h3, h4⟩ := h
  have hlen : ((l.take j).drop i).length = j - i := by rw [List.length_drop, List.length_take]; omega
  refine ⟨.slice (if cap = i then a else a.map (·.add (i * sz))) (j - i) (cap - i), fun w => ?_, ?_⟩
  · simp [Instr.sliceAt, Instr.slice, run_underlying ht, hb cap h2 w, run_sizeOf he]
  · refine ⟨_, cap - i, by rw [hlen], by omega, by omega, ?_⟩
    by_cases hn : (l.take j).drop i = []
    · exact .inl hn
    · rcases h4 with h4 | ⟨b, off, rfl, h5, h6⟩
      · exact absurd (by subst h4; simp) hn
      · have hji : i < j := by
          rcases Nat.lt_or_ge i j with h | h
          · exact h
          · exact absurd (List.eq_nil_of_length_eq_zero (by omega)) hn
        have hc : cap ≠ i := by omega
        refine .inr ⟨b, off + i * sz, by rw [if_neg hc]; simp [add_lit], h5, ?_⟩
        have hfl := flat_len hsz l
        have hle : i * sz + (j - i) * sz ≤ (l.flatMap enc).length := by
          rw [hfl, ← Nat.add_mul]
          exact Nat.mul_le_mul_right _ (by omega)
        have := h6.sub (i * sz) ((j - i) * sz) hle
        rw [flat_drop hsz, flat_take hsz, ← List.drop_take] at this
        exact this
theorem Q1.sliceV {t : TypeId} {x : Operand} {lo hi mx : Option Operand} {v v' : Value} {lo' hi' : Option Value} (hx : ev E x = some v) (hlo : lo.map (ev E) = lo'.map some) (hhi : hi.map (ev E) = hi'.map some) (hmx : mx = none)
    (h : ∀ w, (Instr.sliceAt t v lo' hi' none).run P w = .ok v' w) : Q1 P ⟨d, .slice t x lo hi mx, ty, pos, af, gd⟩ E C v' := fun a ha w _ => by
  have h1 : lo.map a.eval = lo' := by
    cases lo <;> cases lo' <;> simp at hlo ⊢
    exact ha.ev hlo
  have h2 : hi.map a.eval = hi' := by
    cases hi <;> cases hi' <;> simp at hhi ⊢
    exact ha.ev hhi
  subst hmx
  simp [execOp, ha.ev hx, h1, h2, h w]
/-- a struct made of its parts -/
theorem Q1.build {t : TypeId} {ps : Array (Nat × Operand)} {vs : Array (Nat × Value)} {v : Value} (hp : (ps.toList.map fun p => (ev E p.2).map (p.1, ·)) = vs.toList.map some) (hr : ∀ w, (Instr.build t vs).run P w = .ok v w) :
    Q1 P ⟨d, .build t ps, ty, pos, af, gd⟩ E C v := fun a ha w _ => by
  have h1 : (ps.map fun (i, x) => (i, a.eval x)) = vs := by
    apply Array.ext'
    rw [Array.toList_map]
    have aux : ∀ (l : List (Nat × Operand)) (r : List (Nat × Value)), (l.map fun p => (ev E p.2).map (p.1, ·)) = r.map some → l.map (fun x => (x.1, a.eval x.2)) = r := by
      intro l
      induction l with
      | nil => intro r h; cases r <;> simp_all
      | cons p l ih =>
        intro r h
        cases r with
        | nil => simp at h
        | cons q r =>
          simp only [List.map_cons, List.cons.injEq] at h ⊢
          refine ⟨?_, ih r h.2⟩
          cases he : ev E p.2 with
          | none => simp [he] at h
          | some u =>
            simp only [he, Option.map_some, Option.some.injEq] at h
            rw [ha.ev he]; exact h.1
    exact aux _ _ hp
  simp only [execOp, h1, Sem.run_bind, hr w, Result.andThen_ok, Sem.run_pure]
end
end Go.Ik
namespace Go.Ik
open Go
def Bk (w : World) (b : Nat) (cs : List Value) (e : TypeId) : Prop := w.heap[b]? = some (.cells cs.toArray e (0, 0))
theorem Bk.keep {M : Nat → Prop} {w w' : World} {b : Nat} {cs : List Value} {e : TypeId} (h : Bk w b cs e) (hm : Mod M w w') (hb : ¬ M b) : Bk w' b cs e := hm.keep _ _ h hb
theorem Bk.ext {w w' : World} {b : Nat} {cs : List Value} {e : TypeId} (h : Bk w b cs e) (hm : Ext w w') : Bk w' b cs e := hm.keep _ _ h (fun x => x)
theorem Bk.lt {w : World} {b : Nat} {cs : List Value} {e : TypeId} (h : Bk w b cs e) : b < w.heap.size := (Array.getElem?_eq_some_iff.1 h).1
theorem Bk.row {w : World} {b : Nat} {cs : List Value} {e : TypeId} (h : Bk w b cs e) : Row w b 0 cs := Row.of_blk h
theorem Bk.part {w : World} {b : Nat} {cs : List Value} {e : TypeId} (h : Bk w b cs e) (i n : Nat) (hn : i + n ≤ cs.length) : Row w b i ((cs.drop i).take n) := by
  have := h.row.sub i n hn; simpa using this
/-- one cell of a block -/
theorem Bk.cell {w : World} {b : Nat} {cs : List Value} {e : TypeId} (h : Bk w b cs e) (i : Nat) (v : Value) (hv : cs[i]? = some v) : Row w b i [v] := by
  have hlt : i < cs.length := (List.getElem?_eq_some_iff.1 hv).1
  have := h.part i 1 (by omega)
  have e2 : (cs.drop i).take 1 = [v] := by
    rw [List.drop_eq_getElem_cons hlt]
    have := (List.getElem?_eq_some_iff.1 hv).2
    simp [this]
  rwa [e2] at this
theorem setRow_mod (w : World) (g : Nat) (c : Array Value) : Mod (fun i => i = g) w (w.setRow g c) :=
  ⟨rfl, rfl, rfl, by simp [World.setRow], fun b o hb hne => by
    rw [setRow_other w g b c (fun e => hne e)]; exact hb⟩
section
variable {P : Program} {E : Env} {d : Option Tmp} {ty : TypeId} {pos : String} {af : Array Edge} {gd : Option (Nat × Bool)} {w : World} {K : Value → World → Prop}
theorem AW.box {t : TypeId} {x : Operand} {v : Value} (cs : List Value) (hx : ev E x = some v) (hv : v.cells.toList = cs) (hK : ∀ w' b, Ext w w' → b = w.heap.size → w'.heap.size = w.heap.size + 1 → Bk w' b cs t → K (ptr b 0) w') :
    AW P ⟨d, .box t x, ty, pos, af, gd⟩ E w K := fun a ha => by
  have h := hK (w.alloc (.cells cs.toArray t)) w.heap.size (Mod.alloc _ _ _) rfl (by simp) (by
    show (w.heap.push _)[w.heap.size]? = _
    simp)
  have e : v.cells = cs.toArray := by rw [← hv]
  simp [execOp, ha.ev hx, Instr.box, newVar, newRow, out, e]
  exact h
theorem AW.alloc {t : TypeId} {g : Bool} {n by_ : Nat} {z : List Value} (ht : tyI P t = some (g, n, by_, z)) (hK : ∀ w' b, Ext w w' → b = w.heap.size → w'.heap.size = w.heap.size + 1 → Bk w' b z t → K (ptr b 0) w') :
    AW P ⟨d, .alloc t, ty, pos, af, gd⟩ E w K := fun a ha => by
  have h := hK (w.alloc (.cells z.toArray t)) w.heap.size (Mod.alloc _ _ _) rfl (by simp) (by
    show (w.heap.push _)[w.heap.size]? = _
    simp)
  obtain ⟨zv, hz, hr⟩ := run_zero ht w
  have e : zv.cells = z.toArray := by rw [← hz]
  simp [execOp, Instr.alloc, hr, newVar, newRow, out, e]
  exact h
theorem AW.store {t e : TypeId} {x y : Operand} {v : Value} {b off n by_ : Nat} {g : Bool} {z cs vs : List Value} (ht : tyI P t = some (g, n, by_, z)) (hx : ev E x = some (ptr b off)) (hy : ev E y = some v)
    (hv : v.cells.toList = vs) (hn : vs.length = n) (h1 : vs.all (·.oneCell') = true) (hb : Bk w b cs e) (hl : off + n ≤ cs.length)
    (hK : ∀ w', Mod (fun i => i + 1 = b + 1) w w' → w'.heap.size = w.heap.size → Bk w' b (cs.take off ++ vs ++ cs.drop (off + n)) e → K undef w') : AW P ⟨d, .store t x y, ty, pos, af, gd⟩ E w K := fun a ha => by
  have hst := run_storeCells_at P b off e vs 0 cs.toArray w hb (by simp; omega) (fun u hu => List.all_eq_true.1 h1 u hu)
  have hsz : v.cells.size = n := by rw [← Array.length_toList, hv]; exact hn
  have h := hK (w.setRow b (cs.take off ++ vs ++ cs.drop (off + n)).toArray) ((setRow_mod _ _ _).weaken (fun i hi _ => by omega)) (by simp [World.setRow]) (by
    have := setRow_heap w b cs.toArray (cs.take off ++ vs ++ cs.drop (off + n)).toArray e (0, 0) hb
    exact this)
  simp only [Nat.add_zero, hn] at hst
  simp [execOp, ha.ev hx, ha.ev hy, ptr, Instr.storeAt, Instr.sureAddr, storeVar, run_sizeOf ht, hsz, hv, hst, out]
  simpa using h
def clB (P : Program) (g : FuncId) : Bool :=
  match P.funcs[g]? with
  | some fn => (!(fn.name == "runtime.NumGoroutine")) && fn.body.isSome
  | none => false
theorem run_callFunc {g : FuncId} (h : clB P g = true) (args : Array Value) (w : World) : (callFunc g args).run P w = .ok (.enter g args) w := by
  unfold clB at h
  cases hf : P.funcs[g]? with
  | none => simp [hf] at h
  | some fn =>
    simp only [hf, Bool.and_eq_true, Bool.not_eq_true'] at h
    have h1 : ¬ (fn.name = "runtime.NumGoroutine") := by simpa using h.1
    cases hb : fn.body with
    | none => simp [hb] at h
    | some c => simp [callFunc, hf, h1, hb]
def evs (E : Env) : List Operand → Option (List Value)
  | [] => some []
  | x :: r => match ev E x with
    | some v => match evs E r with
      | some vs => some (v :: vs)
      | none => none
    | none => none
theorem Has.evs {a : Act} (ha : Has E a) : ∀ {xs : List Operand} {vs : List Value}, Ik.evs E xs = some vs → xs.map a.eval = vs
  | [], vs, h => by simp [Ik.evs] at h; simp [h]
  | x :: r, vs, h => by
    simp only [Ik.evs] at h
    cases hx : Ik.ev E x with
    | none => simp [hx] at h
    | some v =>
      cases hr : Ik.evs E r with
      | none => simp [hx, hr] at h
      | some us =>
        simp only [hx, hr, Option.some.injEq] at h
        rw [← h, List.map_cons, ha.ev hx, Has.evs ha hr]
/-- what a call gives back -/
def Ret (Φ : Value → World → Prop) : Ending → World → Prop := fun e w' => ∃ v, e = .returned v ∧ Φ v w'
theorem AW.call {g : FuncId} {c : Operand} {xs : List Operand} {ts : Array TypeId} {first cap : List Value} {vs : List Value} {Φ : Value → World → Prop} (hg : clB P g = true) (hc : ev E c = some (.func (.func g) first.toArray cap.toArray))
    (hx : evs E xs = some vs) (h : Calls P g (first ++ vs ++ cap).toArray w (Ret Φ)) (hK : ∀ v w', Φ v w' → K v w') :
    AW P ⟨d, .call { callee := .value c, args := xs.toArray, argTypes := ts }, ty, pos, af, gd⟩ E w K := fun a ha => by
  have hargs : xs.toArray.map a.eval = vs.toArray := by
    apply Array.ext'
    simpa using ha.evs hx
  have : (execOp a.eval ⟨d, .call { callee := .value c, args := xs.toArray, argTypes := ts }, ty, pos, af, gd⟩).run P w = .ok (.enter g (first ++ vs ++ cap).toArray) w := by
    simp only [execOp, resolve, ha.ev hc, hargs, Deferred.ofValue, Sem.run_bind, Sem.run_pure, Result.andThen_ok, invoke]
    rw [run_callFunc hg]
    simp
  rw [this]
  exact Calls.mono h (fun e w' ⟨v, he, hv⟩ => ⟨v, he, hK _ _ hv⟩)
theorem fill_all (P : Program) (sz : Nat) : ∀ (vs : List Value) (k : Nat) (pre rest : List Value), pre.length = k * sz → rest.length = vs.length * sz → (∀ v ∈ vs, v.cells.size = sz) →
    Instr.fill (fun i => some (i * sz, sz)) (pre ++ rest).toArray ((vs.zipIdx k).map fun p => (p.2, p.1)) = some (pre ++ vs.flatMap (fun v => v.cells.toList)).toArray
  | [], k, pre, rest, hp, hr, h => by
    have : rest = [] := List.eq_nil_of_length_eq_zero (by simpa using hr)
    simp [Instr.fill, this]
  | v :: vs, k, pre, rest, hp, hr, h => by
    have hv : v.cells.size = sz := h v (by simp)
    have hlen : rest.length = sz + vs.length * sz := by simpa [Nat.add_mul, Nat.add_comm] using hr
    simp only [List.zipIdx_cons, List.map_cons, Instr.fill]
    have hc : (decide (v.cells.size ≠ sz) || decide (k * sz + v.cells.size > (pre ++ rest).toArray.size)) = false := by
      simp [hv, hp, hlen]
    simp only [ne_eq] at hc
    rw [if_neg (by simpa using hc)]
    have hfold : ∀ (cs : List Value) (j : Nat) (arr : Array Value) (pre2 mid : List Value) (post : List Value), arr = (pre2 ++ mid ++ post).toArray → pre2.length = k * sz + j → mid.length = cs.length →
        (cs.zipIdx j).foldl (fun (a : Array Value) (x : Value × Nat) => a.setIfInBounds (k * sz + x.2) x.1) arr = (pre2 ++ cs ++ post).toArray := by
      intro cs
      induction cs with
      | nil => intro j arr pre2 mid post ha h1 h2; have : mid = [] := List.eq_nil_of_length_eq_zero (by simpa using h2); simp [ha, this]
      | cons c cs ih =>
        intro j arr pre2 mid post ha h1 h2
        cases mid with
        | nil => simp at h2
        | cons m mid =>
          simp only [List.zipIdx_cons, List.foldl_cons]
          have := ih (j + 1) (arr.setIfInBounds (k * sz + j) c) (pre2 ++ [c]) mid post (by
            subst ha
            apply Array.ext'
            rw [Array.toList_setIfInBounds]
            simp only [List.append_assoc, List.cons_append, List.nil_append]
            rw [← h1, List.set_append_right _ _ (Nat.le_refl _)]
            simp) (by simp [h1]; omega) (by simpa using h2)
          simpa using this
    have hf := hfold v.cells.toList 0 (pre ++ rest).toArray pre (rest.take sz) (rest.drop sz) (by simp [List.append_assoc]) (by simpa using hp) (by simp [hv]; omega)
    have hz : (v.cells.zipIdx.foldl (fun cs (x : Value × Nat) => cs.setIfInBounds (k * sz + x.2) x.1) (pre ++ rest).toArray) = (pre ++ v.cells.toList ++ rest.drop sz).toArray := by
      rw [← Array.foldl_toList, Array.toList_zipIdx]
      exact hf
    have ih := fill_all P sz vs (k + 1) (pre ++ v.cells.toList) (rest.drop sz) (by simp [hp, hv, Nat.add_mul]) (by simp [hlen]) (fun u hu => h u (by simp [hu]))
    rw [hz]
    simp only [List.flatMap_cons]
    rw [← List.append_assoc]
    exact ih
theorem AW.buildSlice {t e : TypeId} {len sz by_ : Nat} {g : Bool} {z : List Value} {ps : Array (Nat × Operand)} (vs : List Value) (ht : P.underlying t = some (.slice e)) (he : tyI P e = some (g, sz, by_, z))
    (hp : (ps.toList.map fun p => (ev E p.2).map (p.1, ·)) = (vs.zipIdx.map fun p => (p.2, p.1)).map some) (hlen : vs.length = len) (hsz : (vs.all fun v => v.cells.size == sz) = true) (hbig : len * sz ≤ 16777216)
    (hK : ∀ w' b, Ext w w' → b = w.heap.size → w'.heap.size = w.heap.size + 1 → Bk w' b (vs.flatMap fun v => v.cells.toList) e → K (.slice (some ⟨b, 0, none⟩) len len) w') :
    AW P ⟨d, .buildSlice t len ps, ty, pos, af, gd⟩ E w K := fun a ha => by
  have h1 : (ps.map fun (i, x) => (i, a.eval x)) = ((vs.zipIdx.map fun p => (p.2, p.1))).toArray := by
    apply Array.ext'
    rw [Array.toList_map]
    have aux : ∀ (l : List (Nat × Operand)) (r : List (Nat × Value)), (l.map fun p => (ev E p.2).map (p.1, ·)) = r.map some → l.map (fun x => (x.1, a.eval x.2)) = r := by
      intro l
      induction l with
      | nil => intro r h; cases r <;> simp_all
      | cons p l ih =>
        intro r h
        cases r with
        | nil => simp at h
        | cons q r =>
          simp only [List.map_cons, List.cons.injEq] at h ⊢
          refine ⟨?_, ih r h.2⟩
          cases hv : ev E p.2 with
          | none => simp [hv] at h
          | some u =>
            simp only [hv, Option.map_some, Option.some.injEq] at h
            rw [ha.ev hv]; exact h.1
    exact aux _ _ hp
  obtain ⟨zv, hz, hr⟩ := run_zero he w
  have hall : ∀ v ∈ vs, v.cells.size = sz := fun v hv => by have := List.all_eq_true.1 hsz v hv; simpa using this
  have hnb : ¬ (16777216 < len * sz) := by omega
  have h := hK (w.alloc (.cells (vs.flatMap fun v => v.cells.toList).toArray e)) w.heap.size (Mod.alloc _ _ _) rfl (by simp) (by
    show (w.heap.push _)[w.heap.size]? = _
    simp)
  have key : ∀ zs : Array Value, zs.size = len * sz → Instr.fill (fun i => some (i * sz, sz)) zs (vs.zipIdx.map fun p => (p.2, p.1)) = some (vs.flatMap fun v => v.cells.toList).toArray := fun zs hzs => by
    have := fill_all P sz vs 0 [] zs.toList (by simp) (by simp [hzs, hlen]) hall
    simpa using this
  by_cases h0 : len * sz = 0
  · have hk := key (Array.map (fun _ => default) (Array.range 0)) (by simpa using h0.symm)
    simp [execOp, h1, Instr.buildSlice, run_underlying ht, run_sizeOf he, h0, out, newRow, hk]
    exact h
  · have hk := key ((Array.range (len * sz)).map (zv.cells[· % zv.cells.size]!)) (by simp)
    simp [execOp, h1, Instr.buildSlice, run_underlying ht, run_sizeOf he, h0, hnb, hr, out, newRow, hk]
    exact h
end
/-- the one block that may be written, by its number and one; 0: none -/
def Mg (g : Nat) : Nat → Prop := fun b => b + 1 = g
/-- blocks from 'lo' on, below 'hi' -/
def Iv (lo hi : Nat) : Nat → Prop := fun b => lo ≤ b ∧ b < hi
theorem Mod.ofExt {g : Nat} {w w' : World} (h : Ext w w') : Mod (Mg g) w w' := Ext.mod h _
/-- writes to what is newer than 'w0' -/
theorem Ext.thenG {g : Nat} {w0 w w' : World} (h : Ext w0 w) (k : Mod (Mg g) w w') (hg : g = 0 ∨ w0.heap.size < g) : Ext w0 w' :=
  h.then k (fun i hi hl => by unfold Mg at hi; omega)
theorem Sl.iv {α : Type} {enc : α → List Value} {w : World} {lo hi lo' hi' : Nat} {v : Value} {l : List α} (h : Sl enc w (Iv lo hi) v l) (h1 : lo' ≤ lo) (h2 : hi ≤ hi') : Sl enc w (Iv lo' hi') v l :=
  h.mono fun b hb => by unfold Iv at *; omega
theorem Sl.keepG {α : Type} {enc : α → List Value} {w w' : World} {lo hi g : Nat} {v : Value} {l : List α} (h : Sl enc w (Iv lo hi) v l) (hm : Mod (Mg g) w w') (hg : g ≤ lo ∨ hi < g) : Sl enc w' (Iv lo hi) v l :=
  h.keep hm fun b hb hx => by unfold Iv Mg at *; omega
theorem Row.keepG {w w' : World} {b off g : Nat} {cs : List Value} (h : Row w b off cs) (hm : Mod (Mg g) w w') (hg : b + 1 ≠ g) : Row w' b off cs := h.keep hm hg
theorem Bk.keepG {w w' : World} {b g : Nat} {cs : List Value} {e : TypeId} (h : Bk w b cs e) (hm : Mod (Mg g) w w') (hg : b + 1 ≠ g) : Bk w' b cs e := h.keep hm hg
section
variable {α : Type}
/-- 'g': its block's number and one; 0: it has none -/
def Acc (enc : α → List Value) (e : TypeId) (sz : Nat) (w : World) (g : Nat) (v : Value) (l : List α) : Prop :=
  (v = .slice none 0 0 ∧ l = [] ∧ g = 0) ∨
  ∃ b cap cur, g = b + 1 ∧ v = .slice (some ⟨b, 0, none⟩) l.length cap ∧ w.heap[b]? = some (.cells cur e (0, 0)) ∧ l.length ≤ cap ∧ cap ≤ maxLen ∧ cur.size = cap * sz ∧ cur.toList.take (l.length * sz) = l.flatMap enc
variable {enc : α → List Value} {e : TypeId} {sz : Nat} {w : World} {g : Nat} {v : Value} {l : List α}
theorem Acc.nil : Acc enc e sz w 0 (.slice none 0 0) [] := .inl ⟨rfl, rfl, rfl⟩
theorem Acc.keep {M : Nat → Prop} {w' : World} (h : Acc enc e sz w g v l) (hm : Mod M w w') (hg : ∀ b, g = b + 1 → ¬ M b) : Acc enc e sz w' g v l := by
  rcases h with h | ⟨b, cap, cur, h0, h1, h2, h3⟩
  · exact .inl h
  · exact .inr ⟨b, cap, cur, h0, h1, hm.keep _ _ h2 (hg b h0), h3⟩
theorem Acc.ext {w' : World} (h : Acc enc e sz w g v l) (hm : Ext w w') : Acc enc e sz w' g v l := h.keep hm (fun _ _ x => x)
theorem Acc.keepG {g' : Nat} {w' : World} (h : Acc enc e sz w g v l) (hm : Mod (Mg g') w w') (hg : g ≠ g' ∨ g = 0) : Acc enc e sz w' g v l :=
  h.keep hm fun b hb hx => by unfold Mg at hx; omega
theorem Acc.lt (h : Acc enc e sz w g v l) : g ≤ w.heap.size := by
  rcases h with ⟨_, _, h⟩ | ⟨b, cap, cur, h0, _, h2, _⟩
  · omega
  · have := (Array.getElem?_eq_some_iff.1 h2).1; omega
theorem Acc.le (h : Acc enc e sz w g v l) : l.length ≤ 9223372036854775807 := by
  rcases h with ⟨_, h, _⟩ | ⟨b, cap, cur, _, _, _, h3, h4, _⟩
  · simp [h]
  · exact Nat.le_trans h3 h4
theorem Acc.sl (h : Acc enc e sz w g v l) : Sl enc w (Iv (g - 1) g) v l := by
  rcases h with ⟨h, h', _⟩ | ⟨b, cap, cur, h0, h1, h2, h3, h4, h5, h6⟩
  · subst h'; exact h ▸ Sl.nil
  · refine ⟨_, cap, h1, h3, h4, .inr ⟨b, 0, rfl, by unfold Iv; omega, fun i u hu => ?_⟩⟩
    rw [← h6, List.getElem?_take] at hu
    split at hu
    · rw [cell_of_row w b (0 + i) cur e (0, 0) h2]
      simpa using hu
    · cases hu
/-- handed back -/
theorem Acc.fresh {B : Nat} (h : Acc enc e sz w g v l) (hg : g = 0 ∨ B < g) : Sl enc w (Iv B w.heap.size) v l := by
  have hl := h.lt
  rcases hg with h0 | h0
  · rcases h with ⟨h, h', _⟩ | ⟨b, _, _, h1, _⟩
    · subst h'; exact h ▸ Sl.nil
    · omega
  · exact h.sl.iv (by omega) hl
theorem Acc.append {P : Program} (h : Acc enc e sz w g v l) {t ty : TypeId} {gg : Bool} {by_ : Nat} {z : List Value} (ht : P.underlying t = some (.slice e)) (he : tyI P e = some (gg, sz, by_, z)) (hz : z.length = sz)
    (hsz : ∀ x, (enc x).length = sz) (h1 : ∀ x, (enc x).all (·.oneCell') = true) {F : Nat → Prop} {v2 : Value} {l2 : List α} (hs : Sl enc w F v2 l2) (hbytes : (l.length + l2.length) * by_ ≤ 140737488355328) (hmax : l.length + l2.length ≤ maxLen) :
    ∃ v' g' w', (Builtin.append_ #[t, t] ty #[v, v2]).run P w = .ok v' w' ∧ Acc enc e sz w' g' v' (l ++ l2) ∧ Mod (Mg g) w w' ∧ (g' = g ∨ w.heap.size < g') := by
  obtain ⟨i, dd, zv, i1, i2, i3, i4, i5, i6, i7⟩ := tyI_spec he
  have hnew1 : ∀ u ∈ l2.flatMap enc, u.oneCell' = true := fun u hu => by
    obtain ⟨x, _, hx⟩ := List.mem_flatMap.1 hu
    exact List.all_eq_true.1 (h1 x) u hx
  have hl2 : (l2.flatMap enc).length = l2.length * i.size := by rw [flat_len hsz, i4]
  have hll : (l.flatMap enc).length = l.length * i.size := by rw [flat_len hsz, i4]
  have hzs : zv.cells.size = sz := by rw [← Array.length_toList, i6, hz]
  have hmax' : l.length + l2.length ≤ 9223372036854775807 := hmax
  -- the appended cells
  obtain ⟨a2, cap2, rfl, hc2, hm2, hs⟩ := hs
  by_cases hl0 : l2 = []
  · -- nothing is appended
    subst hl0
    refine ⟨v, g, w, ?_, by simpa using h, Mod.refl _ _, .inl rfl⟩
    have hfc : (Builtin.firstCells i.size 0 (.slice a2 0 cap2)).run P w = .ok #[] w := by
      cases a2 <;> simp [Builtin.firstCells, loadCells, loadCellsFrom]
    rcases h with ⟨rfl, rfl, _⟩ | ⟨b, cap, cur, _, rfl, hg, hcap, _⟩
    · simp [Builtin.append_, run_underlying ht, sizeOf, typeInfo, i1, Builtin.lenOf, hfc]
    · simp [Builtin.append_, run_underlying ht, sizeOf, typeInfo, i1, Builtin.lenOf, hcap, hfc, storeCells]
  · obtain ⟨b2, off2, rfl, hF, hr2⟩ : ∃ b2 off2, a2 = some (⟨b2, off2, none⟩ : Addr) ∧ F b2 ∧ Row w b2 off2 (l2.flatMap enc) := by
      rcases hs with h | ⟨b2, off2, h1, h2, h3⟩
      · exact absurd h hl0
      · exact ⟨b2, off2, h1, h2, h3⟩
    have hnews : ∀ j u, (l2.flatMap enc)[j]? = some u → w.cell? ((⟨b2, off2, none⟩ : Addr).add j) = some u := fun j u hu => by
      rw [add_lit]; exact hr2.cell j u hu
    have fresh : ∀ (old : Nat), old < l.length + l2.length → ∀ w2 : World, w2 = w.drew.alloc (.cells ((l.flatMap enc).toArray ++ (l2.flatMap enc).toArray ++ Builtin.zeroCells zv.cells (grownCap w (l.length + l2.length) old e - (l.length + l2.length))) e) →
        Acc enc e sz w2 (w.heap.size + 1) (.slice (some ⟨w.heap.size, 0, none⟩) (l.length + l2.length) (grownCap w (l.length + l2.length) old e)) (l ++ l2) ∧ Mod (Mg g) w w2 := by
      intro old ho w2 hw2
      subst hw2
      have hge := grownCap_ge w (l.length + l2.length) old e
      have hcm : grownCap w (l.length + l2.length) old e ≤ maxLen := grownCap_le_maxLen w (l.length + l2.length) old e hmax
      refine ⟨.inr ⟨_, _, _, rfl, by rw [List.length_append], heap_alloc_new w.drew _, by rw [List.length_append]; exact hge, hcm, ?_, ?_⟩, ?_⟩
      · simp only [Array.size_append, List.size_toArray, size_zeroCells, hzs, hll, hl2, i4, ← Nat.add_mul]
        congr 1
        omega
      · simp only [Array.toList_append, List.flatMap_append]
        have e1 : (l ++ l2).length * sz = ((l.flatMap enc) ++ (l2.flatMap enc)).length := by rw [List.length_append, List.length_append, hll, hl2, i4, Nat.add_mul]
        rw [e1]
        exact List.take_left
      · exact (Mod.drew _ w).trans (Mod.alloc _ _ _)
    rcases h with ⟨rfl, rfl, rfl⟩ | ⟨b, cap, cur, rfl, rfl, hg, hcap, hcm, hcs, htake⟩
    · by_cases h0 : l2.length = 0
      · have : l2 = [] := List.eq_nil_of_length_eq_zero h0
        subst this
        refine ⟨.slice none 0 0, 0, w, ?_, Acc.nil, Mod.refl _ _, .inl rfl⟩
        simp [Builtin.append_, run_underlying ht, sizeOf, typeInfo, i1, Builtin.lenOf, Builtin.firstCells, loadCells, loadCellsFrom]
      · have hb0 : l2.length * i.bytes ≤ 281474976710656 := by
          have hb := hbytes; simp only [List.length_nil, Nat.zero_add] at hb; rw [i5]; omega
        have hr := run_append_nil (P := P) w t ty e i zv ht i1 i3 ⟨b2, off2, none⟩ l2.length cap2 (l2.flatMap enc) hl2 hnews (by omega) (by have := hmax'; simp only [List.length_nil, Nat.zero_add] at this; omega) hb0
        have hf := fresh 0 (by simp; omega) _ rfl
        simp only [List.length_nil, Nat.zero_add, List.flatMap_nil, List.nil_append, Array.empty_append] at hf
        exact ⟨_, _, _, hr, hf.1, hf.2, .inr (Nat.lt_succ_self _)⟩
    · by_cases hroom : l.length + l2.length ≤ cap
      · have hfit : l.length * i.size + (l2.flatMap enc).length ≤ cur.size := by rw [hl2, hcs, i4, ← Nat.add_mul]; exact Nat.mul_le_mul_right _ hroom
        have hr := run_append_room (P := P) w t ty e i ht i1 b l.length cap cur hg ⟨b2, off2, none⟩ l2.length cap2 (l2.flatMap enc) hl2 hnews hnew1 hroom hfit
        refine ⟨_, b + 1, _, hr, .inr ⟨b, cap, _, rfl, by rw [List.length_append], setRow_heap w b cur _ e _ hg, by rw [List.length_append]; exact hroom, hcm, ?_, ?_⟩, (setRow_mod _ _ _).weaken (fun i hi _ => by unfold Mg; omega), .inl rfl⟩
        · simp only [List.size_toArray, List.length_append, List.length_take, List.length_drop, Array.length_toList]
          omega
        · rw [i4, htake, List.flatMap_append]
          have e1 : (l ++ l2).length * sz = ((l.flatMap enc) ++ (l2.flatMap enc)).length := by rw [List.length_append, List.length_append, hll, hl2, i4, Nat.add_mul]
          rw [e1]
          exact List.take_left
      · have holds : ∀ j u, (l.flatMap enc)[j]? = some u → w.cell? ((⟨b, 0, none⟩ : Addr).add j) = some u := fun j u hu => by
          rw [add_lit, cell_of_row w b (0 + j) cur e (0, 0) hg]
          rw [← htake, List.getElem?_take] at hu
          split at hu
          · simpa using hu
          · cases hu
        have hr := run_append_grow (P := P) w t ty e i zv ht i1 i3 ⟨b, 0, none⟩ l.length cap (l.flatMap enc) hll holds ⟨b2, off2, none⟩ l2.length cap2 (l2.flatMap enc) hl2 hnews (by omega) (by omega) (by rw [i5]; exact growslice_fits (by omega) hbytes)
        have hf := fresh cap (by omega) _ rfl
        exact ⟨_, _, _, hr, hf.1, hf.2, .inr (Nat.lt_succ_self _)⟩
theorem AW.append {P : Program} {E : Env} {d : Option Tmp} {ty : TypeId} {pos : String} {af : Array Edge} {gd : Option (Nat × Bool)} {K : Value → World → Prop} {t : TypeId} {x y : Operand} {gg : Bool} {by_ : Nat} {z : List Value} {F : Nat → Prop} {v2 : Value} {l2 : List α}
    (h : Acc enc e sz w g v l) (ht : P.underlying t = some (.slice e)) (he : tyI P e = some (gg, sz, by_, z)) (hz : z.length = sz)
    (hsz : ∀ x, (enc x).length = sz) (h1 : ∀ x, (enc x).all (·.oneCell') = true) (hx : ev E x = some v) (hy : ev E y = some v2) (hs : Sl enc w F v2 l2) (hbytes : (l.length + l2.length) * by_ ≤ 140737488355328) (hmax : l.length + l2.length ≤ maxLen)
    (hK : ∀ v' g' w', Acc enc e sz w' g' v' (l ++ l2) → Mod (Mg g) w w' → (g' = g ∨ w.heap.size < g') → w.heap.size ≤ w'.heap.size → K v' w') :
    AW P ⟨d, .call { callee := .builtin .append, args := #[x, y], argTypes := #[t, t] }, ty, pos, af, gd⟩ E w K := fun a ha => by
  obtain ⟨v', g', w', hr, h2, h3, h4⟩ := h.append (ty := ty) ht he hz hsz h1 hs hbytes hmax
  simp only [execOp, resolve, invoke, builtin, Sem.run_bind, Sem.run_pure, Result.andThen_ok, List.map_toArray, List.map_cons, List.map_nil, ha.ev hx, ha.ev hy, hr, out]
  exact hK _ _ _ h2 h3 h4 h3.size
end
/-- a slice made of literals reads as the list -/
theorem Sl.of_blk {α : Type} {enc : α → List Value} {w : World} {b : Nat} {e : TypeId} {cs : List Value} (h : Bk w b cs e) (l : List α) (n : Nat) (hc : cs = l.flatMap enc) (hn : l.length = n) (hm : n ≤ maxLen) : Sl enc w (Iv b (b + 1)) (.slice (some ⟨b, 0, none⟩) n n) l := by
  subst hn
  exact ⟨_, l.length, rfl, Nat.le_refl _, hm, .inr ⟨b, 0, rfl, by unfold Iv; omega, by rw [← hc]; exact h.row⟩⟩
/-- and grows -/
theorem Acc.of_blk {α : Type} {enc : α → List Value} {w : World} {b : Nat} {e : TypeId} {sz : Nat} {cs : List Value} (h : Bk w b cs e) (l : List α) (n : Nat) (hc : cs = l.flatMap enc) (hsz : ∀ x, (enc x).length = sz) (hn : l.length = n) (hm : n ≤ maxLen) : Acc enc e sz w (b + 1) (.slice (some ⟨b, 0, none⟩) n n) l := by
  subst hn
  have hl := flat_len hsz l
  refine .inr ⟨b, l.length, cs.toArray, rfl, rfl, h, Nat.le_refl _, hm, by rw [hc]; simpa using hl, ?_⟩
  rw [hc, ← hl]
  exact List.take_length
def dec (s : Str) : Nat × Nat := Utf8.decode ⟨s.toArray⟩ 0
theorem decode_drop (s : Str) (n : Nat) : Utf8.decode ⟨s.toArray⟩ n = dec (s.drop n) := by
  have h := Lib.tail_decode ⟨s.toArray⟩ n 0
  have e : (⟨s.toArray⟩ : ByteArray).extract n (⟨s.toArray⟩ : ByteArray).size = ⟨(s.drop n).toArray⟩ := by
    rw [strExtract]
    have : (⟨s.toArray⟩ : ByteArray).size = s.length := by simp [ByteArray.size]
    rw [this, List.take_length]
  rw [e] at h
  simpa [dec] using h.symm
theorem dec_pos (s : Str) (h : s ≠ []) : 1 ≤ (dec s).2 := by
  refine Lib.decode_width_pos _ _ ?_
  cases s with
  | nil => exact absurd rfl h
  | cons a s => simp [ByteArray.size]
theorem dec_le (s : Str) (h : s ≠ []) : (dec s).2 ≤ s.length := by
  have hsz : (⟨s.toArray⟩ : ByteArray).size = s.length := by simp [ByteArray.size]
  cases s with
  | nil => exact absurd rfl h
  | cons a s =>
    unfold dec Utf8.decode
    simp only [hsz, List.length_cons]
    repeat' split
    all_goals simp_all
    all_goals omega
theorem dec_rune (s : Str) : (dec s).1 ≤ 1114111 := by
  unfold dec Utf8.decode Utf8.runeError
  simp only
  repeat' split
  all_goals simp_all [Utf8.valid]
  all_goals omega
def It (w : World) (b : Nat) (s : Str) (pos : Nat) : Prop := w.heap[b]? = some (.stringIter ⟨s.toArray⟩ pos)
theorem It.keepG {w w' : World} {b g : Nat} {s : Str} {pos : Nat} (h : It w b s pos) (hm : Mod (Mg g) w w') (hg : b + 1 ≠ g) : It w' b s pos := hm.keep _ _ h hg
theorem It.ext {w w' : World} {b : Nat} {s : Str} {pos : Nat} (h : It w b s pos) (hm : Ext w w') : It w' b s pos := hm.keep _ _ h (fun x => x)
theorem It.lt {w : World} {b : Nat} {s : Str} {pos : Nat} (h : It w b s pos) : b < w.heap.size := (Array.getElem?_eq_some_iff.1 h).1
section
variable {P : Program} {E : Env} {d : Option Tmp} {ty : TypeId} {pos : String} {af : Array Edge} {gd : Option (Nat × Bool)} {w : World} {K : Value → World → Prop}
theorem AW.rangeS {t : TypeId} {x : Operand} {s : Str} (ht : P.underlying t = some .string) (hx : ev E x = some (strV s))
    (hK : ∀ w' b, Ext w w' → b = w.heap.size → w'.heap.size = w.heap.size + 1 → It w' b s 0 → K (ptr b 0) w') : AW P ⟨d, .range t x, ty, pos, af, gd⟩ E w K := fun a ha => by
  have h := hK (w.alloc (.stringIter ⟨s.toArray⟩ 0)) w.heap.size (Mod.alloc _ _ _) rfl (by simp) (by
    show (w.heap.push _)[w.heap.size]? = _
    simp)
  simp [execOp, ha.ev hx, Instr.range, strV, run_underlying ht, out]
  exact h
theorem AW.nextS {x : Operand} {s : Str} {b i : Nat} (hx : ev E x = some (ptr b 0)) (hi : It w b s i) (hend : s.drop i = [] → K (.tuple #[.bool false]) w)
    (hK : ∀ w', s.drop i ≠ [] → Mod (Mg (b + 1)) w w' → w'.heap.size = w.heap.size → It w' b s (i + (dec (s.drop i)).2) → K (.tuple #[.bool true, .int .i64 i, .int .i32 ((dec (s.drop i)).1 : Int)]) w') :
    AW P ⟨d, .next x true, ty, pos, af, gd⟩ E w K := fun a ha => by
  have h3 : (⟨s.toArray⟩ : ByteArray).size = s.length := by simp [ByteArray.size]
  by_cases hl : i < s.length
  · have hne : s.drop i ≠ [] := fun e => by have := congrArg List.length e; simp at this; omega
    have h := hK { w with heap := w.heap.setIfInBounds b (.stringIter ⟨s.toArray⟩ (i + (dec (s.drop i)).2)) } hne
      ⟨rfl, rfl, rfl, by simp, fun k o hk hn => by
        have : b ≠ k := fun e => hn (by unfold Mg; omega)
        show (w.heap.setIfInBounds b _)[k]? = _
        rw [Array.getElem?_setIfInBounds_ne this]; exact hk⟩ (by simp) (by
        show (w.heap.setIfInBounds b _)[b]? = _
        have hb := hi.lt
        simp [hb])
    have hg : w.heap[b]? = some (.stringIter ⟨s.toArray⟩ i) := hi
    simp [execOp, ha.ev hx, ptr, Instr.next, getObj, setObj, Sem.run, hg, h3, hl, decode_drop, goInt, out]
    exact h
  · have he : s.drop i = [] := List.drop_of_length_le (by omega)
    have hg : w.heap[b]? = some (.stringIter ⟨s.toArray⟩ i) := hi
    simp [execOp, ha.ev hx, ptr, Instr.next, getObj, Sem.run, hg, h3, hl, out]
    exact hend he
end
end Go.Ik
namespace Go.Ik
open Go
section
variable {P : Program} {f : FuncId} {R : Ending → World → Prop} {n : Nat}
def argE : Nat → List Value → Env
  | _, [] => []
  | i, v :: r => (i, v) :: argE (i + 1) r
theorem lk_argE : ∀ (vs : List Value) (j i : Nat) (v : Value), lk i (argE j vs) = some v → j ≤ i ∧ vs[i - j]? = some v
  | [], _, _, _, h => by simp [argE, lk] at h
  | u :: r, j, i, v, h => by
    simp only [argE, lk] at h
    cases hb : Nat.beq i j with
    | true =>
      have := Nat.eq_of_beq_eq_true hb
      simp only [hb, Option.some.injEq] at h
      subst this
      simp [h]
    | false =>
      simp only [hb] at h
      obtain ⟨h1, h2⟩ := lk_argE r (j + 1) i v h
      refine ⟨by omega, ?_⟩
      have : i - j = (i - (j + 1)) + 1 := by omega
      rw [this]
      simpa using h2
theorem calls_enter {fn : Func} {c : Code} {vs : List Value} {w : World} (hf : P.funcs[f]? = some fn) (hb : fn.body = some c) (hn : fn.ntmps = n) (hle : Nat.ble vs.length n = true)
    (h : RunE P f R n (argE 0 vs) [.code c] w) : Calls P f vs.toArray w R :=
  calls_of_run hf hb (h _ ⟨by have := Nat.le_of_ble_eq_true hle; simp [hn]; omega, rfl, fun i v hv => by
    obtain ⟨_, h2⟩ := lk_argE vs 0 i v hv
    simp only [Nat.sub_zero] at h2
    have hlt := (List.getElem?_eq_some_iff.1 h2).1
    simp only [Array.getD_eq_getD_getElem?]
    rw [Array.getElem?_append_left (by simpa using hlt)]
    simp [h2]⟩)
theorem OL.qb {ops : Array Oper} {o : Oper} {l : List Oper} {E : Env} {k : List Item} {w : World} {b0 : Bool} (hq : Q1 P o E (fun w' => w' = w) (.bool b0))
    (hw : want n ops E o.guard = some true) (hd : dstOk n o.dst = true) (h : ∀ b : Bool, b = b0 → OL P f R n ops l (pu o.dst (.bool b) E) k w) : OL P f R n ops (o :: l) E k w :=
  OL.q hq hw hd (h b0 rfl)
theorem OD.qb {C : World → Prop} {A : Nat → Bool} {Z : Nat} {ops : Array Oper} {o : Oper} {i : Nat} {l : List Nat} {E : Env} {k : List Item} {w : World} {b0 : Bool} (ho : ops[i]? = some o) (hA : A i = false) (hq : Q1 P o E C (.bool b0))
    (hw : want n ops E o.guard = some true) (hd : dstOk n o.dst = true) (h : ∀ b : Bool, b = b0 → OD P f R n C A Z ops l (pu o.dst (.bool b) E) k w) : OD P f R n C A Z ops (i :: l) E k w :=
  OD.q ho hA hq hw hd (h b0 rfl)
theorem r_draw1 (A : Nat → Bool) (Z : Nat) (C : World → Prop) {id : Nat} {ops : Array Oper} {E : Env} {k : List Item} {w : World} (hm : P.follows .mixedOrders = true) (hB : drawB ops A Z = true)
    (h : ∀ w1, Ext w w1 → C w1 ∧ OD P f R n C A Z ops (List.range' 0 ops.size) E k w1) : RunE P f R n E (.code (.region id ops true) :: k) w :=
  r_draw A Z C hm hB (h w.drew (Mod.drew _ _))
end
section
variable {P : Program} {E : Env} {d : Option Tmp} {ty : TypeId} {pos : String} {af : Array Edge} {gd : Option (Nat × Bool)} {w : World} {K : Value → World → Prop}
theorem AW.callF {g : FuncId} {xs : List Operand} {ts : Array TypeId} {vs : List Value} {Φ : Value → World → Prop} (hg : clB P g = true)
    (hx : evs E xs = some vs) (h : Calls P g vs.toArray w (Ret Φ)) (hK : ∀ v w', Φ v w' → K v w') :
    AW P ⟨d, .call { callee := .value (.func g), args := xs.toArray, argTypes := ts }, ty, pos, af, gd⟩ E w K :=
  AW.call (first := []) (cap := []) hg rfl hx (by simpa using h) hK
/-- a row outside Go -/
theorem AW.callX {g : FuncId} {fn : Func} {e : Array Value → Sem Value} {xs : List Operand} {ts : Array TypeId} {vs : List Value} {v : Value} (hf : P.funcs[g]? = some fn) (hname : (fn.name == "runtime.NumGoroutine") = false)
    (hb : fn.body.isNone = true) (hn : Extern.findNext fn = none) (he : Extern.find fn = some e) (hx : evs E xs = some vs) (hr : (e vs.toArray).run P w = .ok v w) (hK : K v w) :
    AW P ⟨d, .call { callee := .value (.func g), args := xs.toArray, argTypes := ts }, ty, pos, af, gd⟩ E w K := fun a ha => by
  have hargs : xs.toArray.map a.eval = vs.toArray := by
    apply Array.ext'
    simpa using ha.evs hx
  have : (execOp a.eval ⟨d, .call { callee := .value (.func g), args := xs.toArray, argTypes := ts }, ty, pos, af, gd⟩).run P w = .ok (.value v) w := by
    have hef : a.eval (.func g) = .func (.func g) #[] #[] := rfl
    simp only [execOp, resolve, hef, hargs, Deferred.ofValue, Sem.run_bind, Sem.run_pure, Result.andThen_ok, invoke, Array.append_empty, Array.empty_append]
    rw [run_callFunc_extern hf hname hb hn he, hr]
    rfl
  rw [this]
  exact hK
end
/-- an element by name -/
theorem Sl.at' {α : Type} {enc : α → List Value} {w : World} {lo up : Nat} {v : Value} {l : List α} (h : Sl enc w (Iv lo up) v l) {P : Program} {t e : TypeId} {sz by_ : Nat} {g : Bool} {z : List Value} (ht : P.underlying t = some (.slice e)) (he : tyI P e = some (g, sz, by_, z)) (hsz : ∀ x, (enc x).length = sz) {k : IntKind} {n : Int} (i : Nat) (hn : n = (i : Int)) (hi : i < l.length) :
    ∃ x b off, l[i]? = some x ∧ (∀ w, (Instr.indexAt t v (.int k n)).run P w = .ok (ptr b off) w) ∧ lo ≤ b ∧ b < up ∧ Row w b off (enc x) := by
  obtain ⟨b, off, h1, h2, h3⟩ := h.at ht he hsz (k := k) i hn hi
  exact ⟨l[i], b, off, by simp, h1, h2.1, h2.2, h3⟩
theorem Sl.cast {α : Type} {enc : α → List Value} {w : World} {F : Nat → Prop} {v : Value} {l l' : List α} (h : Sl enc w F v l) (e : l = l') : Sl enc w F v l' := e ▸ h
def encI (n : Int) : List Value := [.int .i64 n]
def encB (b : UInt8) : List Value := [.int .u8 (b.toNat : Int)]
def encRn (n : Int) : List Value := [.int .i32 n]
def encS (s : Str) : List Value := [strV s]
theorem encI_len (x : Int) : (encI x).length = 1 := rfl
theorem encB_len (x : UInt8) : (encB x).length = 1 := rfl
theorem encRn_len (x : Int) : (encRn x).length = 1 := rfl
theorem encS_len (x : Str) : (encS x).length = 1 := rfl
theorem encI_one (x : Int) : (encI x).all (·.oneCell') = true := rfl
theorem encB_one (x : UInt8) : (encB x).all (·.oneCell') = true := rfl
theorem encRn_one (x : Int) : (encRn x).all (·.oneCell') = true := rfl
theorem encS_one (x : Str) : (encS x).all (·.oneCell') = true := rfl
/-- integers of 64 bits -/
abbrev I64 (n : Int) : Prop := -9223372036854775808 ≤ n ∧ n ≤ 9223372036854775807
theorem Ret.mk {Φ : Value → World → Prop} {v : Value} {w : World} (h : Φ v w) : Ret Φ (.returned v) w := ⟨v, rfl, h⟩
theorem nbeq_t {α : Type} [BEq α] [LawfulBEq α] {a b : α} (h : true = !(a == b)) : a ≠ b := fun e => by subst e; simp at h
theorem nbeq_f {α : Type} [BEq α] [LawfulBEq α] {a b : α} (h : false = !(a == b)) : a = b := by
  cases hb : a == b with
  | true => exact eq_of_beq hb
  | false => rw [hb] at h; cases h
end Go.Ik
namespace Go.Ik
open Go Go.WideShapes Go.ChangeShapes Go.RowKit
section
variable {H : Type} {enc : TypeId × Value → H} {P : Program} {W : World}
theorem wf_i64 {n : Int} (h : (Lit.int .i64 n).wf = true) : I64 n := by
  simp [Lit.wf, IntKind.min, IntKind.max, IntKind.signed, IntKind.bits] at h
  unfold I64; omega
def readB (P : Program) (ts : List TypeId) : Bool := ts.all fun t => P.readableRec t && decide (t < P.types.size)
theorem args_stay (hl : laidOutB P = true) {W' : World} (hext : Ext W W') : ∀ (ts : List TypeId) (vs : List Value) (ds : List (DataW H)) (ps : List MemPlace), readB P ts = true →
    DataW.TrodAll enc P W 0 (fun _ => true) true ts vs ds ps → DataW.TrodAll enc P W' 0 (fun b => decide (b < W.heap.size)) true ts vs ds ps
  | [], [], [], _, _, h => h
  | t :: ts, v :: vs, d :: ds, ps, hr, h => by
    obtain ⟨p, q, h1, h2, h3⟩ := h
    simp only [readB, List.all_cons, Bool.and_eq_true, decide_eq_true_eq] at hr
    have hlt : ∀ x ∈ p, x.block < W.heap.size := by
      obtain ⟨fuel, hf⟩ := h1
      exact fun x hx => DataW.trod_lt _ _ _ _ hf x hx
    exact ⟨p, q, Below.trod hl hr.1.1 hr.1.2 h1 hext.below hlt, args_stay hl hext ts vs ds q (by simpa [readB] using hr.2) h2, h3⟩
  | [], _ :: _, _, _, _, h => h.elim
  | [], [], _ :: _, _, _, h => h.elim
  | _ :: _, [], _, _, _, h => h.elim
  | _ :: _, _ :: _, [], _, _, h => h.elim
theorem law_post {f : Func} {s : ChangeSpec} {args : Array Value} {ds gs : List (DataW H)} {before : List MemPlace} {W' : World} {tb : TypeId} (hl : laidOutB P = true) (hr : readB P f.params.toList = true)
    (hres : f.resultTypes = #[tb]) (hb : P.underlying tb = some .bool) (hvars : s.vars = []) (hW : DataW.Whole enc P f.params.toList s.vars false W args.toList ds gs before) (hext : Ext W W')
    (hfn : s.fn H (ds ++ gs) = { results := [.lit (.bool true)], args := ds }) : ChangeSpec.post enc P f s false true false false W args (.bool true) W' := by
  have hW' := hW
  obtain ⟨p, q, hA, hV, rfl, hfz, hnd⟩ := hW
  have hq : gs = [] ∧ q = [] := by
    rw [hvars] at hV
    cases gs with
    | nil => exact ⟨rfl, hV⟩
    | cons _ _ => exact hV.elim
  obtain ⟨rfl, rfl⟩ := hq
  refine ⟨ds, [], p ++ [], [], p, [], hW', ?_, ?_, ?_, hext.below.frame _, fun h => by cases h⟩
  · rw [hfn, hres]
    exact trodAll_cons_mk (shut_bool hb true) trodAll_mk0
  · rw [hfn]
    exact args_stay hl hext _ _ _ _ hr hA
  · rw [hvars, hfn]
    rfl
end
end Go.Ik
namespace Go.Ml
open Go.Ik
def runesF : Nat → Str → List Nat
  | 0, _ => []
  | n + 1, s => match s with
    | [] => []
    | a :: r => (dec (a :: r)).1 :: runesF n ((a :: r).drop (dec (a :: r)).2)
def runes (s : Str) : List Nat := runesF s.length s
theorem runesF_enough : ∀ (n m : Nat) (s : Str), s.length ≤ n → s.length ≤ m → runesF n s = runesF m s
  | 0, 0, _, _, _ => rfl
  | 0, m + 1, s, h, _ => by
    have : s = [] := List.eq_nil_of_length_eq_zero (by omega)
    subst this; rfl
  | n + 1, 0, s, _, h => by
    have : s = [] := List.eq_nil_of_length_eq_zero (by omega)
    subst this; rfl
  | n + 1, m + 1, [], _, _ => rfl
  | n + 1, m + 1, a :: r, h1, h2 => by
    simp only [runesF]
    have hp := dec_pos (a :: r) (by simp)
    rw [runesF_enough n m _ (by simp only [List.length_drop, List.length_cons] at *; omega) (by simp only [List.length_drop, List.length_cons] at *; omega)]
theorem runes_nil : runes [] = [] := rfl
theorem runes_cons {s : Str} (h : s ≠ []) : runes s = (dec s).1 :: runes (s.drop (dec s).2) := by
  cases s with
  | nil => exact absurd rfl h
  | cons a r =>
    have hp := dec_pos (a :: r) (by simp)
    show (dec (a :: r)).1 :: runesF r.length ((a :: r).drop (dec (a :: r)).2) = _
    rw [runesF_enough r.length ((a :: r).drop (dec (a :: r)).2).length _ (by simp only [List.length_drop, List.length_cons]; omega) (Nat.le_refl _)]
    rfl
theorem runes_length (s : Str) : (runes s).length ≤ s.length := by
  have : ∀ n (s : Str), s.length ≤ n → (runes s).length ≤ s.length := by
    intro n
    induction n with
    | zero => intro s h; have : s = [] := List.eq_nil_of_length_eq_zero (by omega); subst this; simp [runes_nil]
    | succ n ih =>
      intro s h
      by_cases hs : s = []
      · subst hs; simp [runes_nil]
      · rw [runes_cons hs]
        have hp := dec_pos s hs
        have hl := dec_le s hs
        have := ih (s.drop (dec s).2) (by rw [List.length_drop]; omega)
        rw [List.length_drop] at this
        rw [List.length_cons]; omega
  exact this _ s (Nat.le_refl _)
/-- a walk over a text: 'pre' has been read, position p -/
structure Scan (s : Str) (p : Nat) (pre : List Nat) : Prop where
  all : runes s = pre ++ runes (s.drop p)
  le : p ≤ s.length
  len : pre.length ≤ p
theorem Scan.start (s : Str) : Scan s 0 [] := ⟨by simp, Nat.zero_le _, by simp⟩
theorem Scan.next {s : Str} {p : Nat} {pre : List Nat} (h : Scan s p pre) (he : s.drop p ≠ []) : Scan s (p + (dec (s.drop p)).2) (pre ++ [(dec (s.drop p)).1]) := by
  have hl := dec_le _ he
  have hp := dec_pos _ he
  rw [List.length_drop] at hl
  have := h.le
  have hlt : p < s.length := by
    rcases Nat.lt_or_ge p s.length with h | h
    · exact h
    · exact absurd (List.drop_of_length_le h) he
  refine ⟨?_, by omega, by have := h.len; simp; omega⟩
  rw [h.all, runes_cons he, List.drop_drop]
  simp
theorem Scan.done {s : Str} {p : Nat} {pre : List Nat} (h : Scan s p pre) (he : s.drop p = []) : runes s = pre := by
  rw [h.all, he, runes_nil, List.append_nil]
theorem Scan.mem {s : Str} {p : Nat} {pre : List Nat} (h : Scan s p pre) (he : s.drop p ≠ []) : (dec (s.drop p)).1 ∈ runes s := by
  rw [h.all, runes_cons he]; simp
def lenT (s : Str) : Int := if 65533 ∈ runes s then -1 else ((runes s).length : Int)
def word (s : Str) : Bool := decide (lenT s ≥ 1) && decide (lenT s ≤ 12)
def asked (s : Str) : Bool := decide (lenT s ≥ 0) && decide (lenT s ≤ 16)
structure LenInv (s : Str) (p k : Nat) : Prop where
  ex : ∃ pre, Scan s p pre ∧ pre.length = k ∧ 65533 ∉ pre
  le : p ≤ s.length
  kp : k ≤ p
theorem LenInv.start (s : Str) : LenInv s 0 0 := ⟨⟨[], Scan.start s, rfl, by simp⟩, Nat.zero_le _, Nat.le_refl _⟩
theorem LenInv.odd {s : Str} {p k : Nat} (h : LenInv s p k) (he : s.drop p ≠ []) (hd : ((dec (s.drop p)).1 : Int) = 65533) : (-1 : Int) = lenT s := by
  obtain ⟨pre, h1, h2, h3⟩ := h.ex
  have hm := h1.mem he
  have : (dec (s.drop p)).1 = 65533 := by omega
  rw [this] at hm
  simp [lenT, hm]
theorem LenInv.next {s : Str} {p k : Nat} (h : LenInv s p k) (he : s.drop p ≠ []) (hd : ((dec (s.drop p)).1 : Int) ≠ 65533) : LenInv s (p + (dec (s.drop p)).2) (k + 1) := by
  obtain ⟨pre, h1, h2, h3⟩ := h.ex
  have hn := h1.next he
  refine ⟨⟨_, hn, by simp [h2], ?_⟩, hn.le, by have := hn.len; simp [h2] at this; exact this⟩
  simp only [List.mem_append, List.mem_singleton, not_or]
  exact ⟨h3, fun e => hd (by omega)⟩
theorem LenInv.fin {s : Str} {p k : Nat} (h : LenInv s p k) (he : s.drop p = []) : ((k : Nat) : Int) = lenT s := by
  obtain ⟨pre, h1, h2, h3⟩ := h.ex
  have := h1.done he
  simp [lenT, this, h3, h2]
theorem LenInv.lt {s : Str} {p k : Nat} (h : LenInv s p k) (he : s.drop p ≠ []) : k < s.length := by
  have := h.kp
  have : p < s.length := by
    rcases Nat.lt_or_ge p s.length with h | h
    · exact h
    · exact absurd (List.drop_of_length_le h) he
  omega
theorem lenT_ge (s : Str) : -1 ≤ lenT s := by unfold lenT; split <;> omega
theorem lenT_le (s : Str) : lenT s ≤ s.length := by
  unfold lenT; have := runes_length s; split <;> omega
def rising : List Str → Bool
  | [] => true
  | [_] => true
  | a :: b :: r => decide (Lib.compareBytes a b < 0) && rising (b :: r)
def goodL (l : List Str) : Int := if l.length > 60 then 3 else if l.all word = true then (if rising l = true then 0 else 7) else 6
/-- long texts -/
def LOk (l : List Str) : Prop := ∀ s ∈ l, s.length ≤ 9223372036854775807
theorem LOk.at {l : List Str} (h : LOk l) {k : Nat} {x : Str} (hx : l[k]? = some x) : x.length ≤ 9223372036854775807 := h x (List.mem_of_getElem? hx)
theorem all_take_succ {α : Type} {p : α → Bool} {l : List α} {k : Nat} {x : α} (h : (l.take k).all p = true) (hx : l[k]? = some x) (hp : p x = true) : (l.take (k + 1)).all p = true := by
  rw [List.take_add_one, hx]; simp_all
theorem all_of_take {α : Type} {p : α → Bool} {l : List α} {k : Nat} (h : (l.take k).all p = true) (hk : l.length ≤ k) : l.all p = true := by
  rwa [List.take_of_length_le hk] at h
theorem not_all {α : Type} {p : α → Bool} {l : List α} {k : Nat} {x : α} (hx : l[k]? = some x) (hp : p x = false) : l.all p = false := by
  rw [List.all_eq_false]; exact ⟨x, List.mem_of_getElem? hx, by simp [hp]⟩
theorem rising_take_succ : ∀ {l : List Str} {k : Nat} {x y : Str}, rising (l.take (k + 1)) = true → l[k]? = some x → l[k + 1]? = some y → Lib.compareBytes x y < 0 → rising (l.take (k + 2)) = true
  | [], k, x, y, _, hx, _, _ => by simp at hx
  | a :: l, 0, x, y, h, hx, hy, hc => by
    cases l with
    | nil => simp at hy
    | cons b l =>
      simp only [List.getElem?_cons_zero, Option.some.injEq] at hx
      simp only [Nat.zero_add, List.getElem?_cons_succ, List.getElem?_cons_zero, Option.some.injEq] at hy
      subst hx; subst hy
      simp [rising, hc]
  | a :: l, k + 1, x, y, h, hx, hy, hc => by
    cases l with
    | nil => simp at hx
    | cons b l =>
      simp only [List.take_succ_cons, rising, Bool.and_eq_true, decide_eq_true_eq] at h ⊢
      refine ⟨h.1, ?_⟩
      have := rising_take_succ (l := b :: l) (k := k) (x := x) (y := y) (by simpa using h.2) (by simpa using hx) (by simpa using hy) hc
      simpa using this
theorem rising_not : ∀ {l : List Str} {k : Nat} {x y : Str}, l[k]? = some x → l[k + 1]? = some y → ¬ Lib.compareBytes x y < 0 → rising l = false
  | [], k, x, y, hx, _, _ => by simp at hx
  | a :: l, 0, x, y, hx, hy, hc => by
    cases l with
    | nil => simp at hy
    | cons b l =>
      simp only [List.getElem?_cons_zero, Option.some.injEq] at hx
      simp only [Nat.zero_add, List.getElem?_cons_succ, List.getElem?_cons_zero, Option.some.injEq] at hy
      subst hx; subst hy
      simp [rising, hc]
  | a :: l, k + 1, x, y, hx, hy, hc => by
    cases l with
    | nil => simp at hx
    | cons b l =>
      have := rising_not (l := b :: l) (k := k) (x := x) (y := y) (by simpa using hx) (by simpa using hy) hc
      simp [rising, this]
theorem rising_one (l : List Str) : rising (l.take 1) = true := by
  cases l <;> rfl
theorem goodL_word {l : List Str} {k : Nat} {x : Str} (h60 : ¬ (((l.length : Nat) : Int) > 60)) (hx : l[k]? = some x) (hw : word x = false) : (6 : Int) = goodL l := by
  unfold goodL; rw [if_neg (by omega), if_neg (by rw [not_all hx hw]; simp)]
theorem goodL_sort {l : List Str} {k : Nat} {x y : Str} (h60 : ¬ (((l.length : Nat) : Int) > 60)) (ha : l.all word = true) (hx : l[k]? = some x) (hy : l[k + 1]? = some y) (hc : ¬ Lib.compareBytes x y < 0) : (7 : Int) = goodL l := by
  unfold goodL; rw [if_neg (by omega), if_pos ha, if_neg (by rw [rising_not hx hy hc]; simp)]
theorem goodL_ok {l : List Str} {k : Nat} (h60 : ¬ (((l.length : Nat) : Int) > 60)) (ha : l.all word = true) (h : rising (l.take k) = true) (hk : l.length ≤ k) : (0 : Int) = goodL l := by
  rw [List.take_of_length_le hk] at h
  unfold goodL; rw [if_neg (by omega), if_pos ha, if_pos h]
theorem dec_lt {s : Str} {p : Nat} (h : s.drop p ≠ []) : 1 ≤ (dec (s.drop p)).2 ∧ p + (dec (s.drop p)).2 ≤ s.length := by
  have h1 := dec_pos _ h
  have h2 := dec_le _ h
  rw [List.length_drop] at h2
  have : p < s.length := by
    rcases Nat.lt_or_ge p s.length with h' | h'
    · exact h'
    · exact absurd (List.drop_of_length_le h') h
  omega
theorem lenT_I64 {s : Str} (h : s.length ≤ 9223372036854775807) : I64 (lenT s) := by
  have h1 := lenT_ge s; have h2 := lenT_le s; unfold I64; omega
theorem cmp_range : ∀ (a b : Str), -1 ≤ Lib.compareBytes a b ∧ Lib.compareBytes a b ≤ 1
  | [], [] => by simp [Lib.compareBytes]
  | [], _ :: _ => by simp [Lib.compareBytes]
  | _ :: _, [] => by simp [Lib.compareBytes]
  | a :: x, b :: y => by
    unfold Lib.compareBytes
    split
    · omega
    · split
      · omega
      · exact cmp_range x y
theorem cmp_I64 (a b : Str) : I64 (Lib.compareBytes a b) := by have := cmp_range a b; unfold I64; omega
theorem rising_step {l : List Str} {j : Nat} {x y : Str} (h : rising (l.take j) = true) (hj : 1 ≤ j) (hx : l[j - 1]? = some x) (hy : l[j]? = some y) (hc : Lib.compareBytes x y < 0) : rising (l.take (j + 1)) = true := by
  obtain ⟨k, rfl⟩ : ∃ k, j = k + 1 := ⟨j - 1, by omega⟩
  exact rising_take_succ h (by simpa using hx) hy hc
theorem goodL_full {l : List Str} (h : ((l.length : Nat) : Int) > 60) : (3 : Int) = goodL l := by
  unfold goodL; rw [if_pos (by omega)]
theorem goodL_sort' {l : List Str} {j : Nat} {x y : Str} (h60 : ¬ (((l.length : Nat) : Int) > 60)) (ha : l.all word = true) (hj : 1 ≤ j) (hx : l[j - 1]? = some x) (hy : l[j]? = some y) (hc : ¬ Lib.compareBytes x y < 0) : (7 : Int) = goodL l := by
  obtain ⟨k, rfl⟩ : ∃ k, j = k + 1 := ⟨j - 1, by omega⟩
  exact goodL_sort h60 ha (by simpa using hx) hy hc
theorem goodL_range (l : List Str) : 0 ≤ goodL l ∧ goodL l ≤ 7 := by
  unfold goodL
  repeat' split
  all_goals omega
def within (x least most : Int) : Bool := decide (x ≥ least) && decide (x ≤ most)
structure Key where
  len : Int
  text : Str
  deriving DecidableEq, Repr
def encKey (k : Key) : List Value := [.int .i64 k.len, strV k.text]
theorem encKey_len (x : Key) : (encKey x).length = 2 := rfl
structure Cfg where
  words : List Str
  cuts : List Key
  workers : Int
  copies : Int
  slots : Int
  batch : Int
  lease : Int
  hedge : Int
  first : Int
  cap : Int
  jitter : Int
  net : Int
  deriving DecidableEq
/-- the numbers of a configuration are numbers of Go -/
structure Cfg.Ok (c : Cfg) : Prop where
  workers : I64 c.workers
  copies : I64 c.copies
  slots : I64 c.slots
  batch : I64 c.batch
  lease : I64 c.lease
  hedge : I64 c.hedge
  first : I64 c.first
  cap : I64 c.cap
  jitter : I64 c.jitter
  net : I64 c.net
  words : LOk c.words
  cuts : ∀ k ∈ c.cuts, I64 k.len ∧ k.text.length ≤ 9223372036854775807
def cmpI (x y : Int) : Int := if x < y then -1 else if x > y then 1 else 0
def orI : List Int → Int
  | [] => 0
  | x :: r => if x ≠ 0 then x else orI r
theorem orI_drop {l : List Int} {k : Nat} {x : Int} (h : orI l = orI (l.drop k)) (hx : l[k]? = some x) (h0 : x = 0) : orI l = orI (l.drop (k + 1)) := by
  have hk : k < l.length := (List.getElem?_eq_some_iff.1 hx).1
  have e : l[k] = x := (List.getElem?_eq_some_iff.1 hx).2
  rw [h, List.drop_eq_getElem_cons hk, e]
  simp [orI, h0]
theorem orI_found {l : List Int} {k : Nat} {x : Int} (h : orI l = orI (l.drop k)) (hx : l[k]? = some x) (h0 : x ≠ 0) : x = orI l := by
  have hk : k < l.length := (List.getElem?_eq_some_iff.1 hx).1
  have e : l[k] = x := (List.getElem?_eq_some_iff.1 hx).2
  rw [h, List.drop_eq_getElem_cons hk, e]
  simp [orI, h0]
theorem orI_end {l : List Int} {k : Nat} (h : orI l = orI (l.drop k)) (hk : l.length ≤ k) : (0 : Int) = orI l := by
  rw [h, List.drop_of_length_le hk]; rfl
def keyCmp (a b : Key) : Int := orI [cmpI a.len b.len, Lib.compareBytes a.text b.text]
def keyLess (a b : Key) : Bool := decide (keyCmp a b < 0)
def keyOk (c : Key) : Bool := !(decide (c.len < 1) || decide (c.len > 12) || decide (lenT c.text < 0) || decide (lenT c.text > 12))
def keysRise : List Key → Bool
  | [] => true
  | [_] => true
  | a :: b :: r => keyLess a b && keysRise (b :: r)
def goodC (l : List Key) : Int := if l.length > 5 then 3 else if l.all keyOk = true then (if keysRise l = true then 0 else 7) else 2
def belowN (l : List Key) (k : Key) : Nat := (l.filter fun c => !keyLess k c).length
def ofM (cuts : List Key) (w : Str) : Int := if word w then (belowN cuts ⟨lenT w, w⟩ : Int) else -1
def slP (cuts : List Key) (shard : Int) (w : Str) : Bool := decide (ofM cuts w ≥ 0) && (ofM cuts w == shard)
theorem slP_yes {cuts : List Key} {shard : Int} {w : Str} (h1 : 0 ≤ ofM cuts w) (h2 : ofM cuts w = shard) : slP cuts shard w = true := by simp [slP, ← h2, h1]
theorem slP_no1 {cuts : List Key} {shard : Int} {w : Str} (h1 : ¬ 0 ≤ ofM cuts w) : slP cuts shard w = false := by simp [slP, h1]
theorem slP_no2 {cuts : List Key} {shard : Int} {w : Str} (h2 : ofM cuts w ≠ shard) : slP cuts shard w = false := by simp [slP, h2]
def sliceM (cuts : List Key) (words : List Str) (shard : Int) : List Str := words.filter (slP cuts shard)
theorem keysRise_one (l : List Key) : keysRise (l.take 1) = true := by
  cases l <;> rfl
theorem keysRise_take_succ : ∀ {l : List Key} {k : Nat} {x y : Key}, keysRise (l.take (k + 1)) = true → l[k]? = some x → l[k + 1]? = some y → keyLess x y = true → keysRise (l.take (k + 2)) = true
  | [], k, x, y, _, hx, _, _ => by simp at hx
  | a :: l, 0, x, y, h, hx, hy, hc => by
    cases l with
    | nil => simp at hy
    | cons b l =>
      simp only [List.getElem?_cons_zero, Option.some.injEq] at hx
      simp only [Nat.zero_add, List.getElem?_cons_succ, List.getElem?_cons_zero, Option.some.injEq] at hy
      subst hx; subst hy
      simp [keysRise, hc]
  | a :: l, k + 1, x, y, h, hx, hy, hc => by
    cases l with
    | nil => simp at hx
    | cons b l =>
      simp only [List.take_succ_cons, keysRise, Bool.and_eq_true] at h ⊢
      refine ⟨h.1, ?_⟩
      have := keysRise_take_succ (l := b :: l) (k := k) (x := x) (y := y) (by simpa using h.2) (by simpa using hx) (by simpa using hy) hc
      simpa using this
theorem keysRise_not : ∀ {l : List Key} {k : Nat} {x y : Key}, l[k]? = some x → l[k + 1]? = some y → keyLess x y = false → keysRise l = false
  | [], k, x, y, hx, _, _ => by simp at hx
  | a :: l, 0, x, y, hx, hy, hc => by
    cases l with
    | nil => simp at hy
    | cons b l =>
      simp only [List.getElem?_cons_zero, Option.some.injEq] at hx
      simp only [Nat.zero_add, List.getElem?_cons_succ, List.getElem?_cons_zero, Option.some.injEq] at hy
      subst hx; subst hy
      simp [keysRise, hc]
  | a :: l, k + 1, x, y, hx, hy, hc => by
    cases l with
    | nil => simp at hx
    | cons b l =>
      have := keysRise_not (l := b :: l) (k := k) (x := x) (y := y) (by simpa using hx) (by simpa using hy) hc
      simp [keysRise, this]
theorem keysRise_step {l : List Key} {j : Nat} {x y : Key} (h : keysRise (l.take j) = true) (hj : 1 ≤ j) (hx : l[j - 1]? = some x) (hy : l[j]? = some y) (hc : keyLess x y = true) : keysRise (l.take (j + 1)) = true := by
  obtain ⟨k, rfl⟩ : ∃ k, j = k + 1 := ⟨j - 1, by omega⟩
  exact keysRise_take_succ h (by simpa using hx) hy hc
theorem goodC_full {l : List Key} (h : ((l.length : Nat) : Int) > 5) : (3 : Int) = goodC l := by
  unfold goodC; rw [if_pos (by omega)]
theorem goodC_key {l : List Key} {k : Nat} {x : Key} (h5 : ¬ (((l.length : Nat) : Int) > 5)) (hx : l[k]? = some x) (hw : keyOk x = false) : (2 : Int) = goodC l := by
  unfold goodC; rw [if_neg (by omega), if_neg (by rw [not_all hx hw]; simp)]
theorem goodC_sort {l : List Key} {j : Nat} {x y : Key} (h5 : ¬ (((l.length : Nat) : Int) > 5)) (ha : l.all keyOk = true) (hj : 1 ≤ j) (hx : l[j - 1]? = some x) (hy : l[j]? = some y) (hc : keyLess x y = false) : (7 : Int) = goodC l := by
  obtain ⟨k, rfl⟩ : ∃ k, j = k + 1 := ⟨j - 1, by omega⟩
  unfold goodC; rw [if_neg (by omega), if_pos ha, if_neg (by rw [keysRise_not (by simpa using hx) hy hc]; simp)]
theorem goodC_ok {l : List Key} {k : Nat} (h5 : ¬ (((l.length : Nat) : Int) > 5)) (ha : l.all keyOk = true) (h : keysRise (l.take k) = true) (hk : l.length ≤ k) : (0 : Int) = goodC l := by
  rw [List.take_of_length_le hk] at h
  unfold goodC; rw [if_neg (by omega), if_pos ha, if_pos h]
theorem filter_take_yes {α : Type} {p : α → Bool} {l : List α} {k : Nat} {x : α} (hx : l[k]? = some x) (hp : p x = true) : (l.take (k + 1)).filter p = (l.take k).filter p ++ [x] := by
  rw [List.take_add_one, hx]; simp [List.filter_append, hp]
theorem filter_take_no {α : Type} {p : α → Bool} {l : List α} {k : Nat} {x : α} (hx : l[k]? = some x) (hp : p x = false) : (l.take (k + 1)).filter p = (l.take k).filter p := by
  rw [List.take_add_one, hx]; simp [List.filter_append, hp]
theorem filter_take_all {α : Type} {p : α → Bool} {l : List α} {k : Nat} (h : l.length ≤ k) : (l.take k).filter p = l.filter p := by
  rw [List.take_of_length_le h]
def nodesM (c : Cfg) : Bool := within c.workers 1 5 && within c.copies 1 (min 3 c.workers)
def sizesM (c : Cfg) : Bool := within c.slots 1 4 && within c.batch 1 5 && within c.net 8 64
def timesM (c : Cfg) : Bool := within c.lease 1 1000 && within c.hedge 1 1000 && within c.first 1 10 && within c.cap c.first 50 && within c.jitter 0 10
def may (c : Cfg) : Bool := (goodL c.words == 0) && (goodC c.cuts == 0) && (nodesM c && sizesM c && timesM c)
def shards (c : Cfg) : Nat := if may c = true then c.cuts.length + 1 else 0
def copiesM (c : Cfg) (shard : Int) : List Int := if within shard 0 ((shards c : Int) - 1) = true then (List.range c.copies.toNat).map (fun j : Nat => 1 + (shard + (j : Int)) % c.workers) else []
def keepsM (c : Cfg) (worker : Int) : List Int := ((List.range (shards c)).filter (fun s : Nat => (copiesM c (s : Int)).contains worker)).map (fun s : Nat => (s : Int))
def wordsM (c : Cfg) (shard : Int) : List Str := sliceM c.cuts c.words shard
def lowM (x n : Int) : Int := (IntKind.u64.wrap x) % n
theorem same_take {α : Type} {a b : List α} {k : Nat} {x y : α} (h : a.take k = b.take k) (hx : a[k]? = some x) (hy : b[k]? = some y) (e : x = y) : a.take (k + 1) = b.take (k + 1) := by
  rw [List.take_add_one, List.take_add_one, hx, hy, h, e]
theorem same_all {α : Type} {a b : List α} {k : Nat} (h : a.take k = b.take k) (hk : a.length ≤ k) (hl : a.length = b.length) : a = b := by
  rwa [List.take_of_length_le hk, List.take_of_length_le (by omega)] at h
theorem same_not {α : Type} {a b : List α} {k : Nat} {x y : α} (hx : a[k]? = some x) (hy : b[k]? = some y) (e : x ≠ y) : a ≠ b := fun h => by
  subst h; rw [hx] at hy; exact e (by simpa using hy)
def indexI : List Int → Int → Int
  | [], _ => -1
  | x :: r, v => if v = x then 0 else (if indexI r v < 0 then -1 else indexI r v + 1)
theorem indexI_ge : ∀ (l : List Int) (v : Int), -1 ≤ indexI l v
  | [], _ => by simp [indexI]
  | x :: r, v => by unfold indexI; have := indexI_ge r v; split <;> (try split) <;> omega
structure IndexInv (s : List Int) (v : Int) (k : Nat) : Prop where
  none : ∀ x ∈ s.take k, v ≠ x
theorem IndexInv.start (s : List Int) (v : Int) : IndexInv s v 0 := ⟨by simp⟩
theorem IndexInv.next {s : List Int} {v : Int} {k : Nat} {x : Int} (h : IndexInv s v k) (hx : s[k]? = some x) (hne : v ≠ x) : IndexInv s v (k + 1) := by
  refine ⟨fun y hy => ?_⟩
  rw [List.take_add_one, hx] at hy
  simp only [Option.toList_some, List.mem_append, List.mem_singleton] at hy
  rcases hy with hy | rfl
  · exact h.none y hy
  · exact hne
theorem indexI_at : ∀ (s : List Int) (v : Int) (k : Nat), (∀ x ∈ s.take k, v ≠ x) → s[k]? = some v → indexI s v = (k : Int)
  | [], _, _, _, h => by simp at h
  | x :: r, v, 0, _, h => by
    simp only [List.getElem?_cons_zero, Option.some.injEq] at h
    simp [indexI, h]
  | x :: r, v, k + 1, hn, h => by
    have h1 : v ≠ x := hn x (by simp)
    have ih := indexI_at r v k (fun y hy => hn y (by simp [hy])) (by simpa using h)
    rw [indexI, if_neg h1, ih, if_neg (by omega)]; rfl
theorem indexI_none : ∀ (s : List Int) (v : Int), (∀ x ∈ s, v ≠ x) → indexI s v = -1
  | [], _, _ => rfl
  | x :: r, v, hn => by
    rw [indexI, if_neg (hn x (by simp)), indexI_none r v (fun y hy => hn y (by simp [hy])), if_pos (by omega)]
theorem IndexInv.found {s : List Int} {v : Int} {k : Nat} {x : Int} (h : IndexInv s v k) (hx : s[k]? = some x) (he : v = x) : ((k : Nat) : Int) = indexI s v := by
  subst he; exact (indexI_at s v k h.none hx).symm
theorem IndexInv.fin {s : List Int} {v : Int} {k : Nat} (h : IndexInv s v k) (hk : s.length ≤ k) : (-1 : Int) = indexI s v := by
  have := h.none; rw [List.take_of_length_le hk] at this
  exact (indexI_none s v this).symm
theorem contains_index : ∀ (s : List Int) (v : Int), s.contains v = decide (indexI s v ≥ 0)
  | [], _ => by simp [indexI]
  | x :: r, v => by
    have ih := contains_index r v
    by_cases h : v = x
    · subst h; simp [indexI]
    · have hb : (v == x) = false := by simpa using h
      rw [List.contains_cons, hb, Bool.false_or, ih, indexI, if_neg h]
      by_cases h2 : indexI r v < 0
      · rw [if_pos h2]; simp; omega
      · rw [if_neg h2]; simp; omega
theorem may_cuts {c : Cfg} (h : may c = true) : c.cuts.length ≤ 5 := by
  simp only [may, Bool.and_eq_true, beq_iff_eq] at h
  have h2 := h.1.2
  unfold goodC at h2
  by_cases hl : c.cuts.length > 5
  · rw [if_pos hl] at h2; omega
  · omega
theorem may_words {c : Cfg} (h : may c = true) : c.words.length ≤ 60 := by
  simp only [may, Bool.and_eq_true, beq_iff_eq] at h
  have h2 := h.1.1
  unfold goodL at h2
  by_cases hl : c.words.length > 60
  · rw [if_pos hl] at h2; omega
  · omega
theorem shards_le (c : Cfg) : shards c ≤ 6 := by
  unfold shards
  split
  · rename_i h; have := may_cuts h; omega
  · omega
theorem keeps_yes {c : Cfg} {worker : Int} {k : Nat} {l : List Int} (h : l = ((List.range k).filter (fun s : Nat => (copiesM c (s : Int)).contains worker)).map (fun s : Nat => (s : Int))) (hc : (copiesM c (k : Int)).contains worker = true) :
    l ++ [(k : Int)] = ((List.range (k + 1)).filter (fun s : Nat => (copiesM c (s : Int)).contains worker)).map (fun s : Nat => (s : Int)) := by
  rw [h, List.range_succ, List.filter_append, List.map_append, List.filter_cons, if_pos hc]; rfl
theorem keeps_no {c : Cfg} {worker : Int} {k : Nat} {l : List Int} (h : l = ((List.range k).filter (fun s : Nat => (copiesM c (s : Int)).contains worker)).map (fun s : Nat => (s : Int))) (hc : (copiesM c (k : Int)).contains worker = false) :
    l = ((List.range (k + 1)).filter (fun s : Nat => (copiesM c (s : Int)).contains worker)).map (fun s : Nat => (s : Int)) := by
  rw [h, List.range_succ, List.filter_append, List.map_append, List.filter_cons, if_neg (by rw [hc]; exact Bool.false_ne_true)]; simp
theorem u64_range (x : Int) : 0 ≤ IntKind.u64.wrap x ∧ IntKind.u64.wrap x ≤ 18446744073709551615 := by
  simp only [IntKind.wrap, IntKind.bits, IntKind.signed]
  simp
  omega
theorem u64_same (n : Int) (h : 0 ≤ n ∧ n ≤ 9223372036854775807) : IntKind.u64.wrap n = n := IntWalk.u64_in n (by omega)
theorem low_range (x n : Int) (h : 1 ≤ n) : 0 ≤ lowM x n ∧ lowM x n < n := ⟨Int.emod_nonneg _ (by omega), Int.emod_lt_of_pos _ (by omega)⟩
theorem low_eq {x n : Int} (h : 1 ≤ n) (hn : I64 n) : IntKind.i64.wrap (IntKind.u64.wrap x % IntKind.u64.wrap n) = lowM x n := by
  have h1 := u64_same n ⟨by omega, hn.2⟩
  have h2 := low_range x n h
  rw [h1]
  exact IntWalk.i64_in _ ⟨by unfold lowM at h2; omega, by have := hn.2; unfold lowM at h2; omega⟩
theorem within_true {x l m : Int} (h : within x l m = true) : l ≤ x ∧ x ≤ m := by
  simp only [within, Bool.and_eq_true, decide_eq_true_eq] at h; omega
theorem within_false {x l m : Int} (h : within x l m = false) : x < l ∨ m < x := by
  simp only [within, Bool.and_eq_false_iff, decide_eq_false_iff_not] at h; omega
theorem may_bounds {c : Cfg} (h : may c = true) : 1 ≤ c.workers ∧ c.workers ≤ 5 ∧ 1 ≤ c.copies ∧ c.copies ≤ 3 ∧ c.copies ≤ c.workers ∧ c.words.length ≤ 60 ∧ c.cuts.length ≤ 5 := by
  have h1 := may_cuts h
  have h2 := may_words h
  simp only [may, nodesM, Bool.and_eq_true] at h
  have h3 := within_true h.2.1.1.1
  have h4 := within_true h.2.1.1.2
  omega
theorem may_of_shards {c : Cfg} (h : 0 < shards c) : may c = true := by
  unfold shards at h
  split at h
  · assumption
  · omega
theorem copies_yes {c : Cfg} {shard : Int} {j : Nat} {l : List Int} (hw : within shard 0 ((shards c : Int) - 1) = true) (hi : l = (List.range j).map (fun j : Nat => 1 + (shard + (j : Int)) % c.workers)) (hj : j = c.copies.toNat) : l = copiesM c shard := by
  subst hj; rw [hi, copiesM, if_pos hw]
theorem copies_no {c : Cfg} {shard : Int} (hw : within shard 0 ((shards c : Int) - 1) = false) : [] = copiesM c shard := by
  rw [copiesM, if_neg (by rw [hw]; exact Bool.false_ne_true)]
def Cfg.okB (c : Cfg) : Bool :=
  decide (I64 c.workers) && decide (I64 c.copies) && decide (I64 c.slots) && decide (I64 c.batch) && decide (I64 c.lease) && decide (I64 c.hedge) && decide (I64 c.first) && decide (I64 c.cap) && decide (I64 c.jitter) && decide (I64 c.net) &&
  (c.words.all fun s => decide (s.length ≤ 9223372036854775807)) && (c.cuts.all fun k => decide (I64 k.len) && decide (k.text.length ≤ 9223372036854775807))
theorem Cfg.ok_of {c : Cfg} (h : c.okB = true) : c.Ok := by
  simp only [Cfg.okB, Bool.and_eq_true, decide_eq_true_eq, List.all_eq_true] at h
  obtain ⟨⟨⟨⟨⟨⟨⟨⟨⟨⟨⟨h1, h2⟩, h3⟩, h4⟩, h5⟩, h6⟩, h7⟩, h8⟩, h9⟩, h10⟩, h11⟩, h12⟩ := h
  exact ⟨h1, h2, h3, h4, h5, h6, h7, h8, h9, h10, h11, h12⟩
theorem head_cons {α : Type} {l : List α} {x : α} (h : l[0]? = some x) : l = x :: l.drop 1 := by
  cases l with
  | nil => simp at h
  | cons a l => simp at h; subst h; rfl
end Go.Ml
namespace Go.Ik
open Go
def byteAt (s : Str) (k : Nat) : Nat := (s[k]?.getD 0).toNat
theorem byteAt_lt (s : Str) (k : Nat) : byteAt s k < 256 := by unfold byteAt; exact (s[k]?.getD 0).toNat_lt
section
variable {P : Program} {E : Env} {C : World → Prop} {d : Option Tmp} {ty : TypeId} {pos : String} {af : Array Edge} {gd : Option (Nat × Bool)}
/-- between integers, in range -/
theorem Q1.convN {s t : TypeId} {x : Operand} {k k' : IntKind} {p : Int} (hs : (P.underlying s).isSome = true) (ht : P.underlying t = some (.int k')) (hx : ev E x = some (.int k p)) (hw : k'.wrap p = p) : Q1 P ⟨d, .convert s t x, ty, pos, af, gd⟩ E C (.int k' p) := by
  have h := Q1.convI (P := P) (E := E) (C := C) (d := d) (ty := ty) (pos := pos) (af := af) (gd := gd) hs ht hx
  rwa [hw] at h
/-- halves -/
theorem Q1.shr1 {xt yt : TypeId} {x y : Operand} {k k' : IntKind} {p : Int} (r : Int) (hx : ev E x = some (.int k p)) (hy : ev E y = some (.int k' 1)) (hr : p / 2 = r) : Q1 P ⟨d, .binOp .shr xt x y yt, ty, pos, af, gd⟩ E C (.int k r) := fun a ha w _ => by
  have e : p.fdiv 2 = r := by rw [← hr]; exact Int.fdiv_eq_ediv_of_nonneg _ (by omega)
  have hk : Min.min 1 k.bits = 1 := by cases k <;> rfl
  simp [execOp, ha.ev hx, ha.ev hy, eqGuard, Go.binOp, Op.shift, hk, e]
end
/-- two lists, place by place -/
inductive All2 {α β : Type} (R : α → β → Prop) : List α → List β → Prop
  | nil : All2 R [] []
  | cons {a : α} {b : β} {l : List α} {m : List β} : R a b → All2 R l m → All2 R (a :: l) (b :: m)
theorem All2.imp {α β : Type} {R S : α → β → Prop} (h : ∀ a b, R a b → S a b) {l : List α} {m : List β} (k : All2 R l m) : All2 S l m := by
  induction k with
  | nil => exact .nil
  | cons h1 _ ih => exact .cons (h _ _ h1) ih
theorem All2.get {α β : Type} {R : α → β → Prop} {l : List α} {m : List β} (k : All2 R l m) : l.length = m.length ∧ ∀ (i : Nat) (a : α) (b : β), l[i]? = some a → m[i]? = some b → R a b := by
  induction k with
  | nil => exact ⟨rfl, by simp⟩
  | cons h1 _ ih =>
    refine ⟨by simp [ih.1], fun i x y hx hy => ?_⟩
    cases i with
    | zero => simp only [List.getElem?_cons_zero, Option.some.injEq] at hx hy; subst hx hy; exact h1
    | succ i => exact ih.2 i x y (by simpa using hx) (by simpa using hy)
theorem All2.app {α β : Type} {R : α → β → Prop} {l l2 : List α} {m m2 : List β} (k : All2 R l m) (k2 : All2 R l2 m2) : All2 R (l ++ l2) (m ++ m2) := by
  induction k with
  | nil => exact k2
  | cons h1 _ ih => exact .cons h1 ih
end Go.Ik
namespace Go.Ml
open Go.Ik
def contAt (s : Str) (k : Nat) : Bool := decide (k < s.length ∧ 128 ≤ byteAt s k ∧ byteAt s k ≤ 191)
theorem get_at (s : Str) (k : Nat) : ((⟨s.toArray⟩ : ByteArray).get! k).toNat = byteAt s k := by
  unfold byteAt
  show (s.toArray[k]!).toNat = _
  simp [List.getElem!_eq_getElem?_getD]
  rfl
theorem cont_b (L i c : Nat) (hc : c < 256) : (decide (i < L) && (c / 64 == 2)) = decide (i < L ∧ 128 ≤ c ∧ c ≤ 191) := by
  rw [Bool.eq_iff_iff]
  simp only [Bool.and_eq_true, decide_eq_true_eq, beq_iff_eq]
  omega
/-- the plain arithmetic of it -/
def decA (c0 c1 c2 c3 : Nat) (k1 k2 k3 : Bool) : Nat × Nat :=
  if c0 < 128 then (c0, 1)
  else if (c0 / 32 == 6 && k1) = true then (if c0 % 32 * 64 + c1 % 64 ≥ 128 then (c0 % 32 * 64 + c1 % 64, 2) else (65533, 1))
  else if (c0 / 16 == 14 && k1 && k2) = true then (if (decide (c0 % 16 * 4096 + c1 % 64 * 64 + c2 % 64 ≥ 2048) && Utf8.valid ((c0 % 16 * 4096 + c1 % 64 * 64 + c2 % 64 : Nat) : Int)) = true then (c0 % 16 * 4096 + c1 % 64 * 64 + c2 % 64, 3) else (65533, 1))
  else if (c0 / 8 == 30 && k1 && k2 && k3) = true then (if (decide (c0 % 8 * 262144 + c1 % 64 * 4096 + c2 % 64 * 64 + c3 % 64 ≥ 65536) && Utf8.valid ((c0 % 8 * 262144 + c1 % 64 * 4096 + c2 % 64 * 64 + c3 % 64 : Nat) : Int)) = true then (c0 % 8 * 262144 + c1 % 64 * 4096 + c2 % 64 * 64 + c3 % 64, 4) else (65533, 1))
  else (65533, 1)
theorem dec_A (s : Str) (i : Nat) : dec (s.drop i) = decA (byteAt s i) (byteAt s (i + 1)) (byteAt s (i + 2)) (byteAt s (i + 3)) (contAt s (i + 1)) (contAt s (i + 2)) (contAt s (i + 3)) := by
  have hsz : (⟨s.toArray⟩ : ByteArray).size = s.length := by simp [ByteArray.size]
  rw [← decode_drop]
  unfold Utf8.decode decA contAt
  simp only [get_at, hsz, Nat.add_zero, Utf8.runeError]
  rw [cont_b _ _ _ (byteAt_lt s (i + 1)), cont_b _ _ _ (byteAt_lt s (i + 2)), cont_b _ _ _ (byteAt_lt s (i + 3))]
theorem valid_P (n : Nat) : Utf8.valid (n : Int) = decide (n < 55296 ∨ (57344 ≤ n ∧ n ≤ 1114111)) := by
  unfold Utf8.valid
  rw [Bool.eq_iff_iff]
  simp only [Bool.or_eq_true, Bool.and_eq_true, decide_eq_true_eq]
  omega
theorem cont_iff {s : Str} {i : Nat} : contAt s i = true ↔ (i < s.length ∧ 128 ≤ byteAt s i ∧ byteAt s i ≤ 191) := by unfold contAt; exact decide_eq_true_iff
/-- runes, read one by one -/
structure RunInv (s : Str) (i : Nat) (l : List Int) : Prop where
  ex : ∃ pre, Scan s i pre ∧ l = pre.map (fun n : Nat => (n : Int)) ∧ 65533 ∉ pre
def runesI (s : Str) : List Int := (runes s).map fun n : Nat => (n : Int)
def fineT (s : Str) : Bool := decide (65533 ∉ runes s)
theorem RunInv.start (s : Str) : RunInv s 0 [] := ⟨⟨[], Scan.start s, rfl, by simp⟩⟩
theorem RunInv.len {s : Str} {i : Nat} {l : List Int} (h : RunInv s i l) : l.length ≤ i := by
  obtain ⟨pre, h1, h2, h3⟩ := h.ex
  rw [h2, List.length_map]; exact h1.len
def runesM (s : Str) : List Int := if fineT s = true then runesI s else []
theorem runesM_no {s : Str} (h : false = fineT s) : [] = runesM s := by unfold runesM; rw [← h]; rfl
theorem runesM_yes {s : Str} (h : true = fineT s) : runesI s = runesM s := by unfold runesM; rw [← h]; rfl
theorem byteAt_eq {s : Str} {i : Nat} (h : i < s.length) : byteAt s i = s[i].toNat := by unfold byteAt; rw [List.getElem?_eq_getElem h]; rfl
end Go.Ml
namespace Go.Ml
open Go.Ik
/-- a rune that may stand in a text -/
def goodN (c : Nat) : Prop := c ≤ 1114111 ∧ (c < 55296 ∨ 57343 < c) ∧ c ≠ 65533
def by8 (n : Nat) : UInt8 := UInt8.ofNat n
/-- its bytes -/
def encL (c : Nat) : Str :=
  if c < 128 then [by8 c] else if c < 2048 then [by8 (192 + c / 64), by8 (128 + c % 64)]
  else if c < 65536 then [by8 (224 + c / 4096), by8 (128 + c / 64 % 64), by8 (128 + c % 64)]
  else [by8 (240 + c / 262144), by8 (128 + c / 4096 % 64), by8 (128 + c / 64 % 64), by8 (128 + c % 64)]
theorem encR_gen (r : Int) (h : Utf8.valid r = true) : encR r = encL r.toNat := by
  unfold encR Utf8.encode encL by8
  simp only [h, if_true]
  by_cases h1 : r.toNat < 128
  · rw [if_pos h1, if_pos h1]
  · rw [if_neg h1, if_neg h1]
    by_cases h2 : r.toNat < 2048
    · rw [if_pos h2, if_pos h2]
    · rw [if_neg h2, if_neg h2]
      by_cases h3 : r.toNat < 65536
      · rw [if_pos h3, if_pos h3]
      · rw [if_neg h3, if_neg h3]
theorem encR_L {c : Nat} (h : goodN c) : encR (c : Int) = encL c := by
  have hv : Utf8.valid (c : Int) = true := by rw [valid_P]; exact decide_eq_true (by unfold goodN at h; omega)
  have := encR_gen _ hv
  rwa [Int.toNat_natCast] at this
theorem by8_toNat (n : Nat) : (by8 n).toNat = n % 256 := by unfold by8; simp
theorem by8_at (s : Str) (k : Nat) (h : k < s.length) : by8 (byteAt s k) = s[k] := by
  rw [byteAt_eq h]; unfold by8; simp
theorem by8_congr {a b : Nat} (h : a = b) : by8 a = by8 b := by rw [h]
theorem take_one {s : Str} (h : 1 ≤ s.length) : s.take 1 = [by8 (byteAt s 0)] := by
  rw [by8_at s 0 (by omega)]
  match s, h with
  | a :: r, _ => rfl
theorem take_two {s : Str} (h : 2 ≤ s.length) : s.take 2 = [by8 (byteAt s 0), by8 (byteAt s 1)] := by
  rw [by8_at s 0 (by omega), by8_at s 1 (by omega)]
  match s, h with
  | a :: b :: r, _ => rfl
theorem take_three {s : Str} (h : 3 ≤ s.length) : s.take 3 = [by8 (byteAt s 0), by8 (byteAt s 1), by8 (byteAt s 2)] := by
  rw [by8_at s 0 (by omega), by8_at s 1 (by omega), by8_at s 2 (by omega)]
  match s, h with
  | a :: b :: c :: r, _ => rfl
theorem take_four {s : Str} (h : 4 ≤ s.length) : s.take 4 = [by8 (byteAt s 0), by8 (byteAt s 1), by8 (byteAt s 2), by8 (byteAt s 3)] := by
  rw [by8_at s 0 (by omega), by8_at s 1 (by omega), by8_at s 2 (by omega), by8_at s 3 (by omega)]
  match s, h with
  | a :: b :: c :: d :: r, _ => rfl
/-- a decoded rune that is well made, encoded again, is the bytes that were read -/
theorem enc_dec {s : Str} (hs : s ≠ []) (h : (dec s).1 ≠ 65533) : goodN (dec s).1 ∧ encL (dec s).1 = s.take (dec s).2 := by
  have hl : 1 ≤ s.length := by cases s with | nil => exact absurd rfl hs | cons a r => simp
  have hd := dec_A s 0
  rw [List.drop_zero] at hd
  rw [hd] at h ⊢
  have b0 := byteAt_lt s 0; have b1 := byteAt_lt s 1; have b2 := byteAt_lt s 2; have b3 := byteAt_lt s 3
  have c1 : contAt s 1 = true → 1 < s.length ∧ 128 ≤ byteAt s 1 ∧ byteAt s 1 ≤ 191 := fun h => cont_iff.1 h
  have c2 : contAt s 2 = true → 2 < s.length ∧ 128 ≤ byteAt s 2 ∧ byteAt s 2 ≤ 191 := fun h => cont_iff.1 h
  have c3 : contAt s 3 = true → 3 < s.length ∧ 128 ≤ byteAt s 3 ∧ byteAt s 3 ≤ 191 := fun h => cont_iff.1 h
  simp only [Nat.zero_add] at h ⊢
  unfold decA at h ⊢
  simp only [valid_P, Bool.and_eq_true, beq_iff_eq, decide_eq_true_eq] at h ⊢
  split
  · rename_i h0
    refine ⟨⟨by omega, by omega, by omega⟩, ?_⟩
    unfold encL
    rw [if_pos h0, take_one hl]
  · rename_i h0
    rw [if_neg h0] at h
    split
    · rename_i h1
      rw [if_pos h1] at h
      have := c1 h1.2
      split
      · rename_i h2
        rw [if_pos h2] at h
        refine ⟨⟨by omega, by omega, h⟩, ?_⟩
        simp only
        unfold encL
        rw [if_neg (by omega), if_pos (by omega), take_two (by omega)]
        congr 1
        · exact by8_congr (by omega)
        · congr 1; exact by8_congr (by omega)
      · rename_i h2; rw [if_neg h2] at h; exact absurd rfl h
    · rename_i h1
      rw [if_neg h1] at h
      split
      · rename_i h2
        rw [if_pos h2] at h
        have := c1 h2.1.2; have := c2 h2.2
        split
        · rename_i h3
          rw [if_pos h3] at h
          simp only at h
          refine ⟨⟨by omega, by omega, h⟩, ?_⟩
          simp only
          unfold encL
          rw [if_neg (by omega), if_neg (by omega), if_pos (by omega), take_three (by omega)]
          congr 1
          · exact by8_congr (by omega)
          · congr 1
            · exact by8_congr (by omega)
            · congr 1; exact by8_congr (by omega)
        · rename_i h3; rw [if_neg h3] at h; exact absurd rfl h
      · rename_i h2
        rw [if_neg h2] at h
        split
        · rename_i h3
          rw [if_pos h3] at h
          have := c1 h3.1.1.2; have := c2 h3.1.2; have := c3 h3.2
          split
          · rename_i h4
            rw [if_pos h4] at h
            simp only at h
            refine ⟨⟨by omega, by omega, h⟩, ?_⟩
            simp only
            unfold encL
            rw [if_neg (by omega), if_neg (by omega), if_neg (by omega), take_four (by omega)]
            congr 1
            · exact by8_congr (by omega)
            · congr 1
              · exact by8_congr (by omega)
              · congr 1
                · exact by8_congr (by omega)
                · congr 1; exact by8_congr (by omega)
          · rename_i h4; rw [if_neg h4] at h; exact absurd rfl h
        · rename_i h3; rw [if_neg h3] at h; exact absurd rfl h
theorem at0 (a : UInt8) (s : Str) : byteAt (a :: s) 0 = a.toNat := rfl
theorem at1 (a b : UInt8) (s : Str) : byteAt (a :: b :: s) 1 = b.toNat := rfl
theorem at2 (a b c : UInt8) (s : Str) : byteAt (a :: b :: c :: s) 2 = c.toNat := rfl
theorem at3 (a b c d : UInt8) (s : Str) : byteAt (a :: b :: c :: d :: s) 3 = d.toNat := rfl
theorem cont_pos {s : Str} {k : Nat} (h : k < s.length ∧ 128 ≤ byteAt s k ∧ byteAt s k ≤ 191) : contAt s k = true := cont_iff.2 h
/-- a rune's bytes, read, are the rune -/
theorem dec_enc {c : Nat} (h : goodN c) (t : Str) : dec (encL c ++ t) = (c, (encL c).length) := by
  have hd := dec_A (encL c ++ t) 0
  rw [List.drop_zero] at hd
  rw [hd]
  obtain ⟨h1, h2, h3⟩ := h
  unfold encL
  simp only [Nat.zero_add]
  split
  · rename_i h0
    simp only [List.cons_append, List.nil_append, at0, by8_toNat]
    unfold decA
    rw [if_pos (by omega)]
    simp only [List.length_cons, List.length_nil, Prod.mk.injEq, and_true]; omega
  · rename_i h0
    split
    · rename_i h00
      have k1 : contAt ([by8 (192 + c / 64), by8 (128 + c % 64)] ++ t) 1 = true := cont_pos (by simp only [List.cons_append, List.nil_append, at1, by8_toNat, List.length_cons]; omega)
      rw [k1]
      simp only [List.cons_append, List.nil_append, at0, at1, by8_toNat]
      unfold decA
      rw [if_neg (by omega), if_pos (by simp only [Bool.and_true, beq_iff_eq]; omega), if_pos (by omega)]
      simp only [List.length_cons, List.length_nil, Prod.mk.injEq, and_true]; omega
    · rename_i h00
      split
      · rename_i h000
        have k1 : contAt ([by8 (224 + c / 4096), by8 (128 + c / 64 % 64), by8 (128 + c % 64)] ++ t) 1 = true := cont_pos (by simp only [List.cons_append, List.nil_append, at1, by8_toNat, List.length_cons]; omega)
        have k2 : contAt ([by8 (224 + c / 4096), by8 (128 + c / 64 % 64), by8 (128 + c % 64)] ++ t) 2 = true := cont_pos (by simp only [List.cons_append, List.nil_append, at2, by8_toNat, List.length_cons]; omega)
        rw [k1, k2]
        simp only [List.cons_append, List.nil_append, at0, at1, at2, by8_toNat]
        unfold decA
        rw [if_neg (by omega), if_neg (by simp only [Bool.and_true, beq_iff_eq]; omega), if_pos (by simp only [Bool.and_true, beq_iff_eq]; omega), if_pos (by rw [valid_P]; simp only [Bool.and_eq_true, decide_eq_true_eq]; omega)]
        simp only [List.length_cons, List.length_nil, Prod.mk.injEq, and_true]; omega
      · rename_i h000
        have k1 : contAt ([by8 (240 + c / 262144), by8 (128 + c / 4096 % 64), by8 (128 + c / 64 % 64), by8 (128 + c % 64)] ++ t) 1 = true := cont_pos (by simp only [List.cons_append, List.nil_append, at1, by8_toNat, List.length_cons]; omega)
        have k2 : contAt ([by8 (240 + c / 262144), by8 (128 + c / 4096 % 64), by8 (128 + c / 64 % 64), by8 (128 + c % 64)] ++ t) 2 = true := cont_pos (by simp only [List.cons_append, List.nil_append, at2, by8_toNat, List.length_cons]; omega)
        have k3 : contAt ([by8 (240 + c / 262144), by8 (128 + c / 4096 % 64), by8 (128 + c / 64 % 64), by8 (128 + c % 64)] ++ t) 3 = true := cont_pos (by simp only [List.cons_append, List.nil_append, at3, by8_toNat, List.length_cons]; omega)
        rw [k1, k2, k3]
        simp only [List.cons_append, List.nil_append, at0, at1, at2, at3, by8_toNat]
        unfold decA
        rw [if_neg (by omega), if_neg (by simp only [Bool.and_true, beq_iff_eq]; omega), if_neg (by simp only [Bool.and_true, beq_iff_eq]; omega), if_pos (by simp only [Bool.and_true, beq_iff_eq]; omega), if_pos (by rw [valid_P]; simp only [Bool.and_eq_true, decide_eq_true_eq]; omega)]
        simp only [List.length_cons, List.length_nil, Prod.mk.injEq, and_true]; omega
/-- a text without odd bytes -/
def Fine (s : Str) : Prop := 65533 ∉ runes s
theorem fine_cons {s : Str} (hs : s ≠ []) : Fine s ↔ (dec s).1 ≠ 65533 ∧ Fine (s.drop (dec s).2) := by
  unfold Fine
  rw [runes_cons hs, List.mem_cons, not_or]
  exact ⟨fun h => ⟨fun e => h.1 e.symm, h.2⟩, fun h => ⟨fun e => h.1 e.symm, h.2⟩⟩
theorem Fine.split {s : Str} (h : Fine s) (hs : s ≠ []) : goodN (dec s).1 ∧ s = encL (dec s).1 ++ s.drop (dec s).2 ∧ Fine (s.drop (dec s).2) := by
  have h1 := (fine_cons hs).1 h
  have h2 := enc_dec hs h1.1
  exact ⟨h2.1, by rw [h2.2, List.take_append_drop], h1.2⟩
theorem encL_ne (c : Nat) : encL c ≠ [] := by
  unfold encL; repeat' split
  all_goals simp
theorem encL_pos (c : Nat) : 1 ≤ (encL c).length := by
  unfold encL; repeat' split
  all_goals simp
theorem Fine.app {c : Nat} {t : Str} (hc : goodN c) (ht : Fine t) : Fine (encL c ++ t) := by
  have hne : encL c ++ t ≠ [] := by simp [encL_ne]
  rw [fine_cons hne, dec_enc hc t]
  simp only [List.drop_left]
  exact ⟨hc.2.2, ht⟩
theorem runes_app {c : Nat} (hc : goodN c) (t : Str) : runes (encL c ++ t) = c :: runes t := by
  have hne : encL c ++ t ≠ [] := by simp [encL_ne]
  rw [runes_cons hne, dec_enc hc t]
  simp only [List.drop_left]
/-- a text of runes -/
def encT (rs : List Nat) : Str := rs.flatMap encL
theorem runes_encT : ∀ (rs : List Nat), (∀ c ∈ rs, goodN c) → runes (encT rs) = rs
  | [], _ => runes_nil
  | c :: rs, h => by
    show runes (encL c ++ encT rs) = _
    rw [runes_app (h c (by simp)), runes_encT rs fun c hc => h c (by simp [hc])]
theorem fine_ind {p : Str → Prop} (h0 : p []) (h1 : ∀ c t, goodN c → Fine t → p t → p (encL c ++ t)) : ∀ s, Fine s → p s := by
  have : ∀ n s, s.length ≤ n → Fine s → p s := by
    intro n
    induction n with
    | zero => intro s hs _; have : s = [] := List.eq_nil_of_length_eq_zero (by omega); subst this; exact h0
    | succ n ih =>
      intro s hs hf
      by_cases he : s = []
      · subst he; exact h0
      · obtain ⟨g1, g2, g3⟩ := hf.split he
        have := dec_pos s he
        rw [g2]
        exact h1 _ _ g1 g3 (ih _ (by rw [List.length_drop]; omega) g3)
  exact fun s hf => this _ s (Nat.le_refl _) hf
theorem encT_runes (s : Str) (h : Fine s) : encT (runes s) = s ∧ ∀ c ∈ runes s, goodN c := by
  revert s
  refine fine_ind ⟨by rw [runes_nil]; rfl, by rw [runes_nil]; simp⟩ ?_
  intro c t hc ht ih
  rw [runes_app hc]
  refine ⟨by show encL c ++ encT (runes t) = _; rw [ih.1], fun d hd => ?_⟩
  rcases List.mem_cons.1 hd with rfl | hd
  · exact hc
  · exact ih.2 d hd
theorem lenT_fine {s : Str} (h : Fine s) : lenT s = ((runes s).length : Int) := by unfold lenT; rw [if_neg h]
theorem fine_of_len {s : Str} (h : 0 ≤ lenT s) : Fine s := by
  unfold lenT at h
  split at h
  · omega
  · assumption
theorem fine_of_word {s : Str} (h : word s = true) : Fine s ∧ 1 ≤ (runes s).length ∧ (runes s).length ≤ 12 := by
  unfold word at h
  simp only [Bool.and_eq_true, decide_eq_true_eq] at h
  have hf := fine_of_len (by omega : 0 ≤ lenT s)
  rw [lenT_fine hf] at h
  exact ⟨hf, by omega, by omega⟩
end Go.Ml
namespace Go.Ml
open Go.Ik
def ltT (a b : Str) : Prop := Lib.compareBytes a b < 0
theorem cmp_refl : ∀ (a : Str), Lib.compareBytes a a = 0
  | [] => rfl
  | a :: x => by unfold Lib.compareBytes; rw [if_neg (by simp), if_neg (by simp)]; exact cmp_refl x
theorem cmp_eq : ∀ {a b : Str}, Lib.compareBytes a b = 0 → a = b
  | [], [], _ => rfl
  | [], _ :: _, h => by simp [Lib.compareBytes] at h
  | _ :: _, [], h => by simp [Lib.compareBytes] at h
  | a :: x, b :: y, h => by
    unfold Lib.compareBytes at h
    split at h
    · simp at h
    · split at h
      · simp at h
      · rename_i h1 h2
        have : a = b := by
          apply UInt8.le_antisymm
          · exact UInt8.not_lt.1 h2
          · exact UInt8.not_lt.1 h1
        rw [this, cmp_eq h]
theorem cmp_anti : ∀ (a b : Str), Lib.compareBytes a b = - Lib.compareBytes b a
  | [], [] => rfl
  | [], _ :: _ => by simp [Lib.compareBytes]
  | _ :: _, [] => by simp [Lib.compareBytes]
  | a :: x, b :: y => by
    unfold Lib.compareBytes
    by_cases h1 : a < b
    · have h2 : ¬ b < a := UInt8.lt_asymm h1
      simp [h1, h2]
    · by_cases h2 : b < a
      · simp [h1, h2]
      · simp only [h1, h2, if_false]; exact cmp_anti x y
theorem lt_trans : ∀ {a b c : Str}, ltT a b → ltT b c → ltT a c
  | [], [], _, h, _ => by simp [ltT, Lib.compareBytes] at h
  | [], _ :: _, [], _, h => by simp [ltT, Lib.compareBytes] at h
  | [], _ :: _, _ :: _, _, _ => by simp [ltT, Lib.compareBytes]
  | _ :: _, [], _, h, _ => by simp [ltT, Lib.compareBytes] at h
  | _ :: _, _ :: _, [], _, h => by simp [ltT, Lib.compareBytes] at h
  | a :: x, b :: y, c :: z, h1, h2 => by
    unfold ltT Lib.compareBytes at *
    by_cases ab : a < b
    · by_cases bc : b < c
      · simp [UInt8.lt_trans ab bc]
      · by_cases cb : c < b
        · simp [bc, cb] at h2
        · have : b = c := UInt8.le_antisymm (UInt8.not_lt.1 cb) (UInt8.not_lt.1 bc)
          subst this; simp [ab]
    · by_cases ba : b < a
      · simp [ab, ba] at h1
      · have : a = b := UInt8.le_antisymm (UInt8.not_lt.1 ba) (UInt8.not_lt.1 ab)
        subst this
        simp only [ab, if_false] at h1
        by_cases bc : a < c
        · simp [bc]
        · by_cases cb : c < a
          · simp [bc, cb] at h2
          · simp only [bc, cb, if_false] at h2 ⊢
            exact lt_trans (a := x) (b := y) (c := z) h1 h2
theorem lt_irrefl (a : Str) : ¬ ltT a a := by unfold ltT; rw [cmp_refl]; omega
theorem lt_tri {a b : Str} (h : ¬ Lib.compareBytes a b < 0) (hn : a ≠ b) : ltT b a := by
  have h1 := cmp_anti b a
  have h2 : Lib.compareBytes a b ≠ 0 := fun e => hn (cmp_eq e)
  unfold ltT; omega
/-- in order, each once -/
def Sorted (l : List Str) : Prop := l.Pairwise ltT
theorem rising_sorted : ∀ {l : List Str}, rising l = true → Sorted l
  | [], _ => List.Pairwise.nil
  | [a], _ => by simp [Sorted]
  | a :: b :: r, h => by
    simp only [rising, Bool.and_eq_true, decide_eq_true_eq] at h
    have ih := rising_sorted h.2
    refine List.Pairwise.cons (fun x hx => ?_) ih
    rcases List.mem_cons.1 hx with rfl | hx
    · exact h.1
    · exact lt_trans h.1 (List.rel_of_pairwise_cons ih hx)
theorem sorted_rising : ∀ {l : List Str}, Sorted l → rising l = true
  | [], _ => rfl
  | [a], _ => rfl
  | a :: b :: r, h => by
    have h' := List.pairwise_cons.1 h
    simp only [rising, Bool.and_eq_true, decide_eq_true_eq]
    exact ⟨h'.1 b (by simp), sorted_rising h'.2⟩
theorem good_words {l : List Str} (h : goodL l = 0) : l.length ≤ 60 ∧ (∀ w ∈ l, word w = true) ∧ Sorted l := by
  unfold goodL at h
  split at h
  · omega
  · split at h
    · split at h
      · rename_i h1 h2 h3
        exact ⟨by omega, fun w hw => List.all_eq_true.1 h2 w hw, rising_sorted h3⟩
      · omega
    · omega
end Go.Ml
namespace Go.Ml
open Go.Ik
structure Ed where
  rune : Int
  to : Int
  deriving DecidableEq, Repr
def encE (x : Ed) : List Value := [.int .i32 x.rune, .int .i64 x.to]
theorem encE_len (x : Ed) : (encE x).length = 2 := rfl
theorem encE_one (x : Ed) : (encE x).all (·.oneCell') = true := rfl
def hdN (s : Str) : Nat := (dec s).1
def wdN (s : Str) : Nat := (dec s).2
def pfx (s : Str) : Str := s.take (dec s).2
def stripP (p : Str) (l : List Str) : List Str := (l.takeWhile fun t => p.isPrefixOf t).map fun t => t.drop p.length
def moreP (p : Str) (l : List Str) : List Str := l.dropWhile fun t => p.isPrefixOf t
def groupsF : Nat → List Str → List (Nat × List Str)
  | 0, _ => []
  | _ + 1, [] => []
  | n + 1, s :: r => (hdN s, stripP (pfx s) (s :: r)) :: groupsF n (moreP (pfx s) (s :: r))
def groups (l : List Str) : List (Nat × List Str) := groupsF l.length l
theorem pfx_is (s : Str) : (pfx s).isPrefixOf s = true := by
  rw [List.isPrefixOf_iff_prefix]; exact List.take_prefix _ _
theorem more_len (s : Str) (r : List Str) : (moreP (pfx s) (s :: r)).length ≤ r.length := by
  unfold moreP
  rw [List.dropWhile_cons, if_pos (pfx_is s)]
  exact (List.dropWhile_suffix _).length_le
theorem groupsF_enough : ∀ (n m : Nat) (l : List Str), l.length ≤ n → l.length ≤ m → groupsF n l = groupsF m l
  | 0, 0, _, _, _ => rfl
  | 0, m + 1, l, h, _ => by have : l = [] := List.eq_nil_of_length_eq_zero (by omega); subst this; rfl
  | n + 1, 0, l, _, h => by have : l = [] := List.eq_nil_of_length_eq_zero (by omega); subst this; rfl
  | n + 1, m + 1, [], _, _ => rfl
  | n + 1, m + 1, s :: r, h1, h2 => by
    have := more_len s r
    simp only [List.length_cons] at h1 h2
    simp only [groupsF]
    rw [groupsF_enough n m _ (by omega) (by omega)]
theorem groups_nil : groups [] = [] := rfl
theorem groups_cons (s : Str) (r : List Str) : groups (s :: r) = (hdN s, stripP (pfx s) (s :: r)) :: groups (moreP (pfx s) (s :: r)) := by
  have := more_len s r
  show groupsF (r.length + 1) (s :: r) = _
  simp only [groupsF]
  rw [groupsF_enough r.length _ _ this (Nat.le_refl _)]
  rfl
theorem cmp_cons (a b : UInt8) (s t : Str) : Lib.compareBytes (a :: s) (b :: t) = if a < b then -1 else if b < a then 1 else Lib.compareBytes s t := rfl
theorem cmp_app (p s t : Str) : Lib.compareBytes (p ++ s) (p ++ t) = Lib.compareBytes s t := by
  induction p with
  | nil => rfl
  | cons a p ih => simp only [List.cons_append, cmp_cons]; rw [if_neg (by simp), if_neg (by simp), ih]
/-- what stands between two that begin alike begins so too -/
theorem between : ∀ (p a b u : Str), Lib.compareBytes (p ++ a) u < 0 → Lib.compareBytes u (p ++ b) < 0 → p.isPrefixOf u = true
  | [], _, _, _, _, _ => rfl
  | x :: p, a, b, [], h, _ => by simp [Lib.compareBytes] at h
  | x :: p, a, b, y :: u, h1, h2 => by
    simp only [List.cons_append, cmp_cons] at h1 h2
    by_cases hxy : x < y
    · have : ¬ y < x := UInt8.lt_asymm hxy
      rw [if_neg this, if_pos hxy] at h2; omega
    · rw [if_neg hxy] at h1
      by_cases hyx : y < x
      · rw [if_pos hyx] at h1; omega
      · have e : x = y := UInt8.le_antisymm (UInt8.not_lt.1 hyx) (UInt8.not_lt.1 hxy)
        subst e
        rw [if_neg hyx] at h1
        rw [if_neg hyx, if_neg hyx] at h2
        simp only [List.isPrefixOf, beq_self_eq_true, Bool.true_and]
        exact between p a b u h1 h2
/-- rests that may be: in order, made well -/
structure GoodR (l : List Str) : Prop where
  sorted : Sorted l
  fine : ∀ s ∈ l, Fine s
theorem GoodR.tail {s : Str} {r : List Str} (h : GoodR (s :: r)) : GoodR r := ⟨(List.pairwise_cons.1 h.sorted).2, fun t ht => h.fine t (by simp [ht])⟩
theorem sorted_suffix {l m : List Str} (h : Sorted l) (hs : m <:+ l) : Sorted m := h.sublist hs.sublist
theorem GoodR.more {l : List Str} (h : GoodR l) (p : Str) : GoodR (moreP p l) :=
  ⟨sorted_suffix h.sorted (List.dropWhile_suffix _), fun t ht => h.fine t ((List.dropWhile_suffix _).subset ht)⟩
theorem mem_takeWhile {α : Type} {p : α → Bool} : ∀ {l : List α} {x : α}, x ∈ l.takeWhile p → p x = true ∧ x ∈ l
  | [], x, h => by simp at h
  | y :: l, x, h => by
    rw [List.takeWhile_cons] at h
    split at h
    · rename_i hy
      rcases List.mem_cons.1 h with rfl | h
      · exact ⟨hy, by simp⟩
      · exact ⟨(mem_takeWhile h).1, by simp [(mem_takeWhile h).2]⟩
    · simp at h
theorem prefix_drop {p t : Str} (h : p.isPrefixOf t = true) : t = p ++ t.drop p.length := by
  rw [List.isPrefixOf_iff_prefix] at h
  obtain ⟨u, rfl⟩ := h
  simp
theorem strip_mem {p : Str} {l : List Str} {t : Str} (h : t ∈ stripP p l) : p ++ t ∈ l := by
  unfold stripP at h
  obtain ⟨u, hu, rfl⟩ := List.mem_map.1 h
  have := mem_takeWhile hu
  rw [← prefix_drop this.1]; exact this.2
theorem strip_app (p : Str) (l : List Str) : (stripP p l).map (p ++ ·) ++ moreP p l = l := by
  unfold stripP moreP
  rw [List.map_map]
  have : (l.takeWhile fun t => p.isPrefixOf t).map ((p ++ ·) ∘ fun t => t.drop p.length) = l.takeWhile fun t => p.isPrefixOf t := by
    conv => rhs; rw [← List.map_id (l.takeWhile fun t => p.isPrefixOf t)]
    exact List.map_congr_left fun t ht => (prefix_drop (mem_takeWhile ht).1).symm
  rw [this, List.takeWhile_append_dropWhile]
/-- behind a beginning's group nothing begins so -/
theorem more_not {s : Str} {r : List Str} (h : GoodR (s :: r)) {p : Str} (hp : p.isPrefixOf s = true) : ∀ t ∈ moreP p (s :: r), p.isPrefixOf t = false := by
  intro t ht
  cases hb : p.isPrefixOf t with
  | false => rfl
  | true =>
    exfalso
    have hs : moreP p (s :: r) <:+ s :: r := List.dropWhile_suffix _
    cases hm : moreP p (s :: r) with
    | nil => rw [hm] at ht; simp at ht
    | cons u m =>
      have hu : p.isPrefixOf u = false := by
        have := List.head?_dropWhile_not (fun t => p.isPrefixOf t) (s :: r)
        unfold moreP at hm
        rw [hm] at this
        simpa using this
      rw [hm] at ht
      have hso := sorted_suffix h.sorted hs
      rw [hm] at hso
      have hus : u ≠ s := fun e => by rw [e, hp] at hu; cases hu
      have hum : u ∈ s :: r := hs.subset (by rw [hm]; simp)
      have h1 : ltT s u := by
        rcases List.mem_cons.1 hum with e | e
        · exact absurd e hus
        · exact (List.pairwise_cons.1 h.sorted).1 u e
      rcases List.mem_cons.1 ht with rfl | ht
      · rw [hb] at hu; cases hu
      · have h2 : ltT u t := (List.pairwise_cons.1 hso).1 t ht
        have e1 := prefix_drop hp
        have e2 := prefix_drop hb
        have := between p (s.drop p.length) (t.drop p.length) u (by rw [← e1]; exact h1) (by rw [← e2]; exact h2)
        rw [this] at hu; cases hu
theorem strip_good {s : Str} {r : List Str} (h : GoodR (s :: r)) (hs : s ≠ []) : GoodR (stripP (pfx s) (s :: r)) := by
  have hsp := (h.fine s (by simp)).split hs
  have hp : pfx s = encL (hdN s) := (enc_dec hs ((fine_cons hs).1 (h.fine s (by simp))).1).2.symm
  refine ⟨?_, fun t ht => ?_⟩
  · have : Sorted ((stripP (pfx s) (s :: r)).map (pfx s ++ ·)) := h.sorted.sublist (by
      conv => rhs; rw [← strip_app (pfx s) (s :: r)]
      exact List.sublist_append_left _ _)
    unfold Sorted at this ⊢
    rw [List.pairwise_map] at this
    exact this.imp fun {a b} hab => by unfold ltT at hab ⊢; rwa [cmp_app] at hab
  · have hm := h.fine _ (strip_mem ht)
    rw [hp] at hm
    have h2 := (fine_cons (by simp [encL_ne]) : Fine (encL (hdN s) ++ t) ↔ _).1 hm
    have e := dec_enc hsp.1 t
    unfold hdN at h2
    rw [e] at h2
    simpa using h2.2
/-- what groups are: all of them, in order, by runes that part -/
structure GroupsOk (l : List Str) (gs : List (Nat × List Str)) : Prop where
  all : gs.flatMap (fun g => g.2.map (encL g.1 ++ ·)) = l
  good : ∀ g ∈ gs, goodN g.1 ∧ g.2 ≠ [] ∧ GoodR g.2
  part : gs.Pairwise fun a b => a.1 ≠ b.1
theorem groups_ok : ∀ (n : Nat) (l : List Str), l.length ≤ n → GoodR l → (∀ s ∈ l, s ≠ []) → GroupsOk l (groups l)
  | _, [], _, _, _ => ⟨rfl, by simp [groups_nil], by simp [groups_nil]⟩
  | 0, s :: r, h, _, _ => by simp at h
  | n + 1, s :: r, hn, h, hne => by
    have hl := more_len s r
    simp only [List.length_cons] at hn
    have hs := hne s (by simp)
    have hf := h.fine s (by simp)
    have hsp := hf.split hs
    have hp : pfx s = encL (hdN s) := (enc_dec hs ((fine_cons hs).1 hf).1).2.symm
    have ih := groups_ok n (moreP (pfx s) (s :: r)) (by omega) (h.more _) (fun t ht => hne t ((List.dropWhile_suffix _).subset ht))
    rw [groups_cons]
    refine ⟨?_, ?_, ?_⟩
    · simp only [List.flatMap_cons]
      rw [ih.all, ← hp, strip_app]
    · intro g hg
      rcases List.mem_cons.1 hg with rfl | hg
      · refine ⟨hsp.1, ?_, strip_good h hs⟩
        unfold stripP
        rw [List.takeWhile_cons, if_pos (pfx_is s)]; simp
      · exact ih.good g hg
    · refine List.pairwise_cons.2 ⟨fun g hg e => ?_, ih.part⟩
      have hgg := ih.good g hg
      obtain ⟨t, ht⟩ : ∃ t, t ∈ g.2 := by
        cases hg2 : g.2 with
        | nil => exact absurd hg2 hgg.2.1
        | cons t _ => exact ⟨t, by simp⟩
      have hm : encL g.1 ++ t ∈ moreP (pfx s) (s :: r) := by
        rw [← ih.all]
        exact List.mem_flatMap.2 ⟨g, hg, List.mem_map.2 ⟨t, ht, rfl⟩⟩
      have := more_not h (pfx_is s) _ hm
      rw [hp, ← e] at this
      have hpre : (encL (hdN s)).isPrefixOf (encL (hdN s) ++ t) = true := by rw [List.isPrefixOf_iff_prefix]; exact List.prefix_append _ _
      simp only at this
      rw [hpre] at this; cases this
abbrev GS := List (List Str × List Ed)
def dropE : List Str → List Str
  | [] :: r => r
  | l => l
def edgesM (add : GS → List Str → GS × Nat) : GS → List (Nat × List Str) → GS × List Ed
  | s, [] => (s, [])
  | s, g :: gs => ((edgesM add (add s g.2).1 gs).1, ⟨(g.1 : Int), ((add s g.2).2 : Int)⟩ :: (edgesM add (add s g.2).1 gs).2)
def addM : Nat → GS → List Str → GS × Nat
  | 0, s, _ => (s, 0)
  | f + 1, s, rests =>
    match s.findIdx? fun x => x.1 == rests with
    | some i => (s, i)
    | none => ((edgesM (addM f) (s ++ [(rests, [])]) (groups (dropE rests))).1.set s.length (rests, (edgesM (addM f) (s ++ [(rests, [])]) (groups (dropE rests))).2), s.length)
/-- the graph of words -/
def graphM (words : List Str) : GS := (addM 13 [] words).1
/-- a node's edges lead, rune by rune, to the nodes of its rests' groups -/
def Corr (s : GS) (x : List Str × List Ed) : Prop := All2 (fun g e => e.rune = (g.1 : Int) ∧ ∃ (j : Nat) (es : List Ed), e.to = (j : Int) ∧ s[j]? = some (g.2, es)) (groups (dropE x.1)) x.2
def Deep (n : Nat) (l : List Str) : Prop := ∀ t ∈ l, (runes t).length ≤ n
structure NodeOk (s : GS) (n : Nat) (x : List Str × List Ed) : Prop where
  corr : Corr s x
  good : GoodR x.1
  ne : x.1 ≠ []
  deep : Deep n x.1
def names (s : GS) : List (List Str) := s.map Prod.fst
theorem findIdx_some {s : GS} {r : List Str} {i : Nat} (h : (s.findIdx? fun x => x.1 == r) = some i) : ∃ es, s[i]? = some (r, es) := by
  obtain ⟨h1, h2, _⟩ := List.findIdx?_eq_some_iff_getElem.1 h
  refine ⟨s[i].2, ?_⟩
  rw [List.getElem?_eq_getElem h1]
  have : s[i].1 = r := by simpa using h2
  rw [← this]
theorem findIdx_none {s : GS} {r : List Str} (h : (s.findIdx? fun x => x.1 == r) = none) : r ∉ names s := by
  intro hm
  obtain ⟨x, hx, rfl⟩ := List.mem_map.1 hm
  have := List.findIdx?_eq_none_iff.1 h x hx
  simp at this
theorem dropE_good {l : List Str} (h : GoodR l) : GoodR (dropE l) ∧ (∀ s ∈ dropE l, s ≠ []) := by
  cases l with
  | nil => exact ⟨h, by simp [dropE]⟩
  | cons a r =>
    cases a with
    | nil =>
      refine ⟨h.tail, fun s hs e => ?_⟩
      have := (List.pairwise_cons.1 h.sorted).1 s hs
      subst e
      exact lt_irrefl _ this
    | cons x a =>
      refine ⟨h, fun s hs e => ?_⟩
      subst e
      rcases List.mem_cons.1 hs with e | hs
      · cases e
      · have := (List.pairwise_cons.1 h.sorted).1 _ hs
        simp [ltT, Lib.compareBytes] at this
theorem dropE_mem {l : List Str} {t : Str} (h : t ∈ dropE l) : t ∈ l := by
  cases l with
  | nil => exact h
  | cons a r =>
    cases a with
    | nil => exact List.mem_cons_of_mem _ h
    | cons x a => exact h
theorem deep_groups {n : Nat} {l : List Str} (hg : GoodR l) (h : Deep (n + 1) l) : ∀ g ∈ groups (dropE l), Deep n g.2 := by
  intro g hgm t ht
  have hd := dropE_good hg
  have ok := groups_ok _ _ (Nat.le_refl _) hd.1 hd.2
  have hm : encL g.1 ++ t ∈ dropE l := by
    rw [← ok.all]
    exact List.mem_flatMap.2 ⟨g, hgm, List.mem_map.2 ⟨t, ht, rfl⟩⟩
  have := h _ (dropE_mem hm)
  rw [runes_app (ok.good g hgm).1] at this
  simp only [List.length_cons] at this
  omega
theorem Corr.grow {s s' : GS} {x : List Str × List Ed} (h : Corr s x) (hs : ∀ (j : Nat) (r : List Str) (es : List Ed), s[j]? = some (r, es) → ∃ es', s'[j]? = some (r, es')) : Corr s' x :=
  All2.imp (fun g e ⟨h1, j, es, h2, h3⟩ => ⟨h1, j, (hs j _ _ h3).choose, h2, (hs j _ _ h3).choose_spec⟩) h
theorem NodeOk.grow {s s' : GS} {n m : Nat} {x : List Str × List Ed} (h : NodeOk s n x) (hs : ∀ (j : Nat) (r : List Str) (es : List Ed), s[j]? = some (r, es) → ∃ es', s'[j]? = some (r, es')) (hm : n ≤ m) : NodeOk s' m x :=
  ⟨h.corr.grow hs, h.good, h.ne, fun t ht => Nat.le_trans (h.deep t ht) hm⟩
theorem grow_app (s t : GS) : ∀ (j : Nat) (r : List Str) (es : List Ed), s[j]? = some (r, es) → ∃ es', (s ++ t)[j]? = some (r, es') := fun j r es h => ⟨es, by rw [List.getElem?_append_left (List.getElem?_eq_some_iff.1 h).1]; exact h⟩
/-- what adding does: nodes behind those that were there, all as they should be -/
structure AddOk (n : Nat) (s : GS) (rests : List Str) (q : GS × Nat) : Prop where
  tail : ∃ t, q.1 = s ++ t ∧ ∀ x ∈ t, NodeOk q.1 n x
  here : ∃ es, q.1[q.2]? = some (rests, es)
  apart : (names q.1).Nodup
structure EdgesOk (n : Nat) (s : GS) (gs : List (Nat × List Str)) (q : GS × List Ed) : Prop where
  tail : ∃ t, q.1 = s ++ t ∧ ∀ x ∈ t, NodeOk q.1 n x
  edges : All2 (fun g e => e.rune = ((g.1 : Nat) : Int) ∧ ∃ (j : Nat) (es : List Ed), e.to = (j : Int) ∧ q.1[j]? = some (g.2, es)) gs q.2
  apart : (names q.1).Nodup
theorem edgesM_ok {n : Nat} {add : GS → List Str → GS × Nat} : ∀ (gs : List (Nat × List Str)) (s : GS), (∀ g ∈ gs, ∀ s, (names s).Nodup → AddOk n s g.2 (add s g.2)) → (names s).Nodup → EdgesOk n s gs (edgesM add s gs)
  | [], s, _, hd => ⟨⟨[], by simp [edgesM], by simp⟩, .nil, hd⟩
  | g :: gs, s, hadd, hd => by
    have h1 := hadd g (by simp) s hd
    have h2 := edgesM_ok gs (add s g.2).1 (fun g' hg' => hadd g' (by simp [hg'])) h1.apart
    obtain ⟨t1, e1, k1⟩ := h1.tail
    obtain ⟨t2, e2, k2⟩ := h2.tail
    refine ⟨⟨t1 ++ t2, ?_, ?_⟩, ?_, h2.apart⟩
    · show (edgesM add (add s g.2).1 gs).1 = _
      rw [e2, e1, List.append_assoc]
    · intro x hx
      show NodeOk (edgesM add (add s g.2).1 gs).1 n x
      rcases List.mem_append.1 hx with hx | hx
      · rw [e2]
        exact (k1 x hx).grow (grow_app _ _) (Nat.le_refl _)
      · exact k2 x hx
    · refine .cons ⟨rfl, (add s g.2).2, ?_⟩ h2.edges
      obtain ⟨es, he⟩ := h1.here
      refine ⟨es, rfl, ?_⟩
      show (edgesM add (add s g.2).1 gs).1[_]? = _
      rw [e2, List.getElem?_append_left (List.getElem?_eq_some_iff.1 he).1]; exact he
theorem names_set {s : GS} {i : Nat} {r : List Str} {es es' : List Ed} (h : s[i]? = some (r, es)) : names (s.set i (r, es')) = names s := by
  unfold names
  rw [List.map_set]
  refine List.ext_getElem? fun j => ?_
  rw [List.getElem?_set]
  split
  · rename_i hij
    subst hij
    have hlt := (List.getElem?_eq_some_iff.1 h).1
    rw [if_pos (by simpa using hlt), List.getElem?_map, h]; rfl
  · rfl
theorem addM_ok : ∀ (f : Nat) (s : GS) (rests : List Str), Deep f rests → GoodR rests → rests ≠ [] → (names s).Nodup → AddOk f s rests (addM (f + 1) s rests)
  | f, s, rests, hd, hg, hne, hn => by
    unfold addM
    cases hi : s.findIdx? fun x => x.1 == rests with
    | some i => exact ⟨⟨[], by simp, by simp⟩, findIdx_some hi, hn⟩
    | none =>
      simp only
      have hno := findIdx_none hi
      have hn1 : (names (s ++ [(rests, [])])).Nodup := by
        unfold names
        rw [List.map_append, List.nodup_append]
        refine ⟨hn, by simp, fun a ha b hb => ?_⟩
        simp only [List.map_cons, List.map_nil, List.mem_singleton] at hb
        subst hb
        exact fun e => hno (by rw [← e]; exact ha)
      have hdr := dropE_good hg
      have ok := groups_ok _ _ (Nat.le_refl _) hdr.1 hdr.2
      have hedges : EdgesOk (f - 1) (s ++ [(rests, [])]) (groups (dropE rests)) (edgesM (addM f) (s ++ [(rests, [])]) (groups (dropE rests))) := by
        refine edgesM_ok _ _ (fun g hgm s' hs' => ?_) hn1
        cases f with
        | zero =>
          exfalso
          obtain ⟨t, ht⟩ : ∃ t, t ∈ g.2 := by
            cases hg2 : g.2 with
            | nil => exact absurd hg2 (ok.good g hgm).2.1
            | cons t _ => exact ⟨t, by simp⟩
          have hm : encL g.1 ++ t ∈ dropE rests := by
            rw [← ok.all]
            exact List.mem_flatMap.2 ⟨g, hgm, List.mem_map.2 ⟨t, ht, rfl⟩⟩
          have := hd _ (dropE_mem hm)
          rw [runes_app (ok.good g hgm).1] at this
          simp at this
        | succ f =>
          have h1 := addM_ok f s' g.2 (deep_groups hg hd g hgm) (ok.good g hgm).2.2 (ok.good g hgm).2.1 hs'
          exact h1
      generalize edgesM (addM f) (s ++ [(rests, [])]) (groups (dropE rests)) = q at hedges
      obtain ⟨t, e1, k1⟩ := hedges.tail
      have hat : q.1[s.length]? = some (rests, []) := by rw [e1]; simp
      have hset : q.1.set s.length (rests, q.2) = s ++ (rests, q.2) :: t := by
        rw [e1, List.append_assoc, List.set_append_right _ _ (Nat.le_refl _)]
        simp
      have hgr : ∀ (j : Nat) (r : List Str) (es : List Ed), q.1[j]? = some (r, es) → ∃ es', (q.1.set s.length (rests, q.2))[j]? = some (r, es') := by
        intro j r es hj
        by_cases hjs : s.length = j
        · subst hjs
          rw [hat] at hj
          simp only [Option.some.injEq, Prod.mk.injEq] at hj
          refine ⟨q.2, ?_⟩
          rw [List.getElem?_set_self (List.getElem?_eq_some_iff.1 hat).1, hj.1]
        · exact ⟨es, by rw [List.getElem?_set_ne hjs]; exact hj⟩
      refine ⟨⟨(rests, q.2) :: t, hset, fun x hx => ?_⟩, ⟨q.2, ?_⟩, ?_⟩
      · rcases List.mem_cons.1 hx with rfl | hx
        · refine ⟨?_, hg, hne, hd⟩
          exact All2.imp (fun g e ⟨h1, j, es, h2, h3⟩ => ⟨h1, j, (hgr j _ _ h3).choose, h2, (hgr j _ _ h3).choose_spec⟩) hedges.edges
        · exact (k1 x hx).grow hgr (by omega)
      · show (q.1.set s.length (rests, q.2))[s.length]? = _
        rw [List.getElem?_set_self (List.getElem?_eq_some_iff.1 hat).1]
      · show (names (q.1.set s.length (rests, q.2))).Nodup
        rw [names_set hat]; exact hedges.apart
/-- a graph of words, whole -/
structure WFG (s : GS) (words : List Str) : Prop where
  root : ∃ es, s[0]? = some (words, es)
  node : ∀ x ∈ s, NodeOk s 12 x
  apart : (names s).Nodup
theorem graphM_ok {words : List Str} (hd : Deep 12 words) (hg : GoodR words) (hne : words ≠ []) : WFG (graphM words) words := by
  have h := addM_ok 12 [] words hd hg hne (by simp [names])
  obtain ⟨t, e, k⟩ := h.tail
  have hidx : (addM 13 [] words).2 = 0 := by
    unfold addM; simp
  refine ⟨?_, fun x hx => ?_, h.apart⟩
  · have := h.here
    rw [hidx] at this; exact this
  · unfold graphM at hx ⊢
    rw [e] at hx
    exact k x (by simpa using hx)
theorem good_deep {l : List Str} (h : goodL l = 0) : GoodR l ∧ Deep 12 l := by
  have hw := good_words h
  exact ⟨⟨hw.2.2, fun s hs => (fine_of_word (hw.2.1 s hs)).1⟩, fun s hs => (fine_of_word (hw.2.1 s hs)).2.2⟩
end Go.Ml
namespace Go.Ik
open Go
section
variable {α : Type} {enc : α → List Value} {e : TypeId} {sz : Nat} {w : World} {g : Nat} {v : Value} {l : List α}
theorem flat_set (hsz : ∀ x, (enc x).length = sz) : ∀ (l : List α) (i : Nat) (x : α) (h : i < l.length), (l.set i x).flatMap enc = (l.flatMap enc).take (i * sz) ++ enc x ++ (l.flatMap enc).drop (i * sz + sz)
  | y :: l, 0, x, _ => by
    have e1 : (enc y ++ l.flatMap enc).drop sz = l.flatMap enc := by rw [← hsz y]; exact List.drop_left
    simp only [List.set_cons_zero, List.flatMap_cons, Nat.zero_mul, List.take_zero, List.nil_append, Nat.zero_add, e1]
  | y :: l, i + 1, x, h => by
    have ih := flat_set hsz l i x (by simpa using h)
    have e1 : (i + 1) * sz = (enc y).length + i * sz := by rw [hsz, Nat.add_mul]; omega
    have e2 : (i + 1) * sz + sz = (enc y).length + (i * sz + sz) := by rw [e1, Nat.add_assoc]
    simp only [List.set_cons_succ, List.flatMap_cons]
    rw [e1, Nat.add_assoc, List.take_append, List.drop_append, List.take_of_length_le (by omega), List.drop_of_length_le (by omega), Nat.add_sub_cancel_left, Nat.add_sub_cancel_left, ih]
    simp
/-- where an element of an own slice lies -/
theorem Acc.at (h : Acc enc e sz w g v l) {P : Program} {t : TypeId} {by_ : Nat} {gg : Bool} {z : List Value} (ht : P.underlying t = some (.slice e)) (he : tyI P e = some (gg, sz, by_, z)) {k : IntKind} {n : Int} (i : Nat) (hn : n = (i : Int)) (hi : i < l.length) :
    (∀ w, (Instr.indexAt t v (.int k n)).run P w = .ok (ptr (g - 1) (i * sz)) w) ∧ ∃ x, l[i]? = some x := by
  rcases h with ⟨_, rfl, _⟩ | ⟨b, cap, cur, rfl, rfl, h2, h3, h4, h5, h6⟩
  · simp at hi
  · refine ⟨fun w => ?_, l[i], by simp [hi]⟩
    have h0 : (0 : Int) ≤ n ∧ n < (l.length : Int) := by omega
    have e1 : n.toNat = i := by omega
    simp [Instr.indexAt, asIntOf, run_underlying ht, h0, run_sizeOf he, add_lit, ptr, e1]
/-- a part of an element of an own slice is written -/
theorem AW.storeA {P : Program} {E : Env} {d : Option Tmp} {ty : TypeId} {pos : String} {af : Array Edge} {gd : Option (Nat × Bool)} {K : Value → World → Prop} {t : TypeId} {x y : Operand} {u : Value} {off n by_ : Nat} {gg : Bool} {z vs : List Value}
    (h : Acc enc e sz w g v l) (hsz : ∀ x, (enc x).length = sz) {i o : Nat} {old : α} (hold : l[i]? = some old) (nw : α) (ht : tyI P t = some (gg, n, by_, z)) (hx : ev E x = some (ptr (g - 1) off)) (hoff : off = i * sz + o) (hy : ev E y = some u)
    (hv : u.cells.toList = vs) (hn : vs.length = n) (h1 : vs.all (·.oneCell') = true) (ho : o + n ≤ sz) (hnw : enc nw = (enc old).take o ++ vs ++ (enc old).drop (o + n))
    (hK : ∀ w', Mod (Mg g) w w' → w'.heap.size = w.heap.size → Acc enc e sz w' g v (l.set i nw) → K undef w') : AW P ⟨d, .store t x y, ty, pos, af, gd⟩ E w K := fun a ha => by
  obtain ⟨hi, rfl⟩ := List.getElem?_eq_some_iff.1 hold
  subst hoff
  rcases h with ⟨_, rfl, _⟩ | ⟨b, cap, cur, rfl, rfl, h2, h3, h4, h5, h6⟩
  · simp at hi
  · have hfl := flat_len hsz l
    have hil : i * sz + sz ≤ l.length * sz := by
      have := Nat.mul_le_mul_right sz (show i + 1 ≤ l.length by omega)
      rw [Nat.add_mul] at this; omega
    have hlc : l.length * sz ≤ cap * sz := Nat.mul_le_mul_right _ h3
    simp only [Nat.add_sub_cancel] at hx
    have hst := run_storeCells_at P b (i * sz + o) e vs 0 cur w h2 (by omega) (fun u hu => List.all_eq_true.1 h1 u hu)
    have hsz' : u.cells.size = n := by rw [← Array.length_toList, hv]; exact hn
    have key := flat_set hsz l i nw hi
    have hfa := (flat_at hsz l i hi).1
    have h := hK (w.setRow b (cur.toList.take (i * sz + o) ++ vs ++ cur.toList.drop (i * sz + o + n)).toArray) ((setRow_mod _ _ _).weaken (fun i hi _ => by unfold Mg; omega)) (by simp [World.setRow]) (.inr ⟨b, cap, _, rfl, by simp, setRow_heap w b cur _ e (0, 0) h2, by simpa using h3, h4, by simp; omega, by
      rw [List.length_set, key, hnw]
      have hcl : cur.toList.length = cap * sz := by simpa using h5
      have e1 : (l.flatMap enc).take (i * sz) = cur.toList.take (i * sz) := by
        rw [← h6, List.take_take, Nat.min_eq_left (by omega)]
      have e2 : (enc l[i]).take o = (cur.toList.drop (i * sz)).take o := by
        rw [← hfa, List.take_take, Nat.min_eq_left (by omega), ← h6, List.drop_take, List.take_take, Nat.min_eq_left (by omega)]
      have e3 : (enc l[i]).drop (o + n) = (cur.toList.drop (i * sz + (o + n))).take (sz - (o + n)) := by
        rw [← hfa, ← h6, List.drop_take, List.drop_drop, List.drop_take, List.take_take, Nat.min_eq_left (by omega)]
      have e4 : (l.flatMap enc).drop (i * sz + sz) = (cur.toList.drop (i * sz + sz)).take (l.length * sz - (i * sz + sz)) := by
        rw [← h6, List.drop_take]
      rw [e1, e2, e3, e4]
      have e5 : cur.toList.take (i * sz + o) = cur.toList.take (i * sz) ++ (cur.toList.drop (i * sz)).take o := by rw [List.take_add]
      have e6 : (cur.toList.drop (i * sz + o + n)).take (l.length * sz - (i * sz + o + n)) = (cur.toList.drop (i * sz + (o + n))).take (sz - (o + n)) ++ (cur.toList.drop (i * sz + sz)).take (l.length * sz - (i * sz + sz)) := by
        have : l.length * sz - (i * sz + o + n) = (sz - (o + n)) + (l.length * sz - (i * sz + sz)) := by omega
        rw [this, List.take_add, List.drop_drop]
        congr 3 <;> omega
      rw [List.toList_toArray]
      rw [List.take_append, List.take_of_length_le (by simp; omega)]
      have e7 : l.length * sz - (cur.toList.take (i * sz + o) ++ vs).length = l.length * sz - (i * sz + o + n) := by
        simp only [List.length_append, List.length_take, hcl]; omega
      rw [e7, e6, e5]
      simp only [List.append_assoc]⟩)
    simp only [Nat.add_zero, hn] at hst
    simp [execOp, ha.ev hx, ha.ev hy, ptr, Instr.storeAt, Instr.sureAddr, storeVar, run_sizeOf ht, hsz', hv, hst, out]
    simpa using h
theorem Acc.shape (h : Acc enc e sz w g v l) : ∃ a c, v = .slice a l.length c := by
  obtain ⟨a, c, h1, _⟩ := h.sl
  exact ⟨a, c, h1⟩
theorem Acc.cast {l' : List α} (h : Acc enc e sz w g v l) (e' : l = l') : Acc enc e sz w g v l' := e' ▸ h
theorem made_flat (z : List Value) (hz : 0 < z.length) : ∀ n : Nat, (madeCells z.toArray (n * z.length)).toList = (List.replicate n z).flatten
  | 0 => by simp [madeCells]
  | n + 1 => by
    have ih := made_flat z hz n
    rw [List.replicate_succ', List.flatten_append, ← ih]
    unfold madeCells
    simp only [List.size_toArray, Array.toList_map, Array.toList_range, Nat.add_mul, Nat.one_mul, List.flatten_cons, List.flatten_nil, List.append_nil]
    rw [List.range_add, List.map_append]
    congr 1
    rw [List.map_map]
    refine List.ext_getElem (by simp) fun i h1 h2 => ?_
    simp only [List.length_map, List.length_range] at h1
    simp [Nat.mod_eq_of_lt h1, h1]
theorem AW.makeSlice {P : Program} {E : Env} {d : Option Tmp} {ty : TypeId} {pos : String} {af : Array Edge} {gd : Option (Nat × Bool)} {K : Value → World → Prop} {t : TypeId} {x y : Operand} {kl kc : IntKind} {by_ : Nat} {gg : Bool} {z : List Value}
    (n : Nat) (x0 : α) (ht : P.underlying t = some (.slice e)) (he : tyI P e = some (gg, sz, by_, z)) (h0 : 0 < sz) (hx0 : enc x0 = z) (hsz : ∀ x, (enc x).length = sz) {p q : Int} (hx : ev E x = some (.int kl p)) (hy : ev E y = some (.int kc q)) (hp : p = (n : Int)) (hq : q = (n : Int)) (hb : n * by_ ≤ 140737488355328) (hm : n ≤ maxLen)
    (hK : ∀ v' g' w', Ext w w' → g' = w.heap.size + 1 → w'.heap.size = w.heap.size + 1 → Acc enc e sz w' g' v' (List.replicate n x0) → K v' w') :
    AW P ⟨d, .makeSlice t x y, ty, pos, af, gd⟩ E w K := fun a ha => by
  subst hp hq
  obtain ⟨i, dd, zv, i1, i2, i3, i4, i5, i6, i7⟩ := tyI_spec he
  have hm' : (n : Int) ≤ 9223372036854775807 := by have : n ≤ 9223372036854775807 := hm; omega
  have hbb : (i.bytes : Int) * (n : Int) ≤ 281474976710656 := by
    rw [i5]
    have : ((n * by_ : Nat) : Int) ≤ 140737488355328 := by omega
    rw [Int.natCast_mul, Int.mul_comm] at this; omega
  have hr := run_make (P := P) w t e i zv ht i1 i3 kl kc (n : Int) (n : Int) (by omega) (Int.le_refl _) hbb hm'
  simp only [Int.toNat_natCast] at hr
  have hzl : z.length = sz := by rw [← hx0]; exact hsz _
  have e1 : zv.cells = z.toArray := by rw [← i6]
  have hc : (madeCells zv.cells (n * i.size)).toList = (List.replicate n z).flatten := by
    rw [e1, i4, ← hzl]; exact made_flat z (by omega) n
  have h := hK _ _ (w.alloc (.cells (madeCells zv.cells (n * i.size)) e)) (Mod.alloc _ _ _) rfl (by simp) (.inr ⟨w.heap.size, n, _, rfl, rfl, heap_alloc_new w _, by simp, hm, by rw [size_madeCells, i4], by
    rw [List.length_replicate, hc]
    have : (List.replicate n z).flatten = (List.replicate n x0).flatMap enc := by
      rw [List.flatMap_def, List.map_replicate, hx0]
    rw [this, List.take_of_length_le]
    rw [flat_len hsz, List.length_replicate]; exact Nat.le_refl _⟩)
  simp only [List.length_replicate] at h
  simp [execOp, ha.ev hx, ha.ev hy, hr, out]
  exact h
section
variable {P : Program} {E : Env} {d : Option Tmp} {ty : TypeId} {pos : String} {af : Array Edge} {gd : Option (Nat × Bool)} {K : Value → World → Prop} {t : TypeId} {x y : Operand} {by_ : Nat} {gg : Bool} {z : List Value}
theorem Lent.at {b : Nat} (k : IntKind) (nl n : Nat) (ht : P.underlying t = some (.slice e)) (he : tyI P e = some (gg, sz, by_, z)) {p : Int} (i : Nat) (hp : p = (i : Int)) (hi : i < n) : ∀ w, (Instr.indexAt t (.slice (some ⟨b, nl * sz, none⟩) n n) (.int k p)).run P w = .ok (ptr b (nl * sz + i * sz)) w := fun w => by
  have h0 : (0 : Int) ≤ p ∧ p < (n : Int) := by omega
  have e1 : p.toNat = i := by omega
  simp [Instr.indexAt, asIntOf, run_underlying ht, h0, run_sizeOf he, add_lit, ptr, e1]
end
end
end Go.Ik
set_option linter.unusedSectionVars false
namespace Go.Ik
open Go
section
variable {P : Program} {E : Env} {C : World → Prop} {d : Option Tmp} {ty : TypeId} {pos : String} {af : Array Edge} {gd : Option (Nat × Bool)} {w : World} {K : Value → World → Prop}
theorem eqGuard_ptr (op : BinOp) (t : TypeId) (x y : Operand) (w : World) (a b : Option Addr) : (eqGuard op t x y (.pointer a) (.pointer b)).run P w = .ok () w := by
  unfold eqGuard; split <;> simp
theorem Q1.eqNil {xt yt e : TypeId} {x y : Operand} {a : Option Addr} (hu : P.underlying xt = some (.pointer e)) (hx : ev E x = some (.pointer a)) (hy : ev E y = some (.pointer none)) : Q1 P ⟨d, .binOp .eql xt x y yt, ty, pos, af, gd⟩ E C (.bool a.isNone) := fun s ha w _ => by
  have h : (Op.equal xt (.pointer a) (.pointer none)).run P w = .ok a.isNone w := by
    have key : ∀ n, (Op.equalIn (n + 1) xt (.pointer a) (.pointer none)).run P w = .ok a.isNone w := fun n => by
      cases a <;> simp [Op.equalIn, run_underlying hu]
    exact key 9999
  simp [execOp, ha.ev hx, ha.ev hy, eqGuard_ptr, Go.binOp, h]
theorem Q1.neNil {xt yt e : TypeId} {x y : Operand} {a : Option Addr} (hu : P.underlying xt = some (.pointer e)) (hx : ev E x = some (.pointer a)) (hy : ev E y = some (.pointer none)) : Q1 P ⟨d, .binOp .neq xt x y yt, ty, pos, af, gd⟩ E C (.bool (!a.isNone)) := fun s ha w _ => by
  have h : (Op.equal xt (.pointer a) (.pointer none)).run P w = .ok a.isNone w := by
    have key : ∀ n, (Op.equalIn (n + 1) xt (.pointer a) (.pointer none)).run P w = .ok a.isNone w := fun n => by
      cases a <;> simp [Op.equalIn, run_underlying hu]
    exact key 9999
  simp [execOp, ha.ev hx, ha.ev hy, eqGuard_ptr, Go.binOp, h]
theorem Q1.nilCheckP {x : Operand} {b off : Nat} (hx : ev E x = some (ptr b off)) : Q1 P ⟨d, .nilCheck x, ty, pos, af, gd⟩ E C (ptr b off) := fun a ha w _ => by
  simp [execOp, ha.ev hx, ptr]
theorem Q1.eqStruct {xt yt : TypeId} {x y : Operand} {xs ys : Array Value} {q : Bool} (hg : P.eqGuardType P.depth xt = false) (hq : ∀ w, (Op.equalIn 10000 xt (.agg xs) (.agg ys)).run P w = .ok q w) (hx : ev E x = some (.agg xs)) (hy : ev E y = some (.agg ys)) : Q1 P ⟨d, .binOp .eql xt x y yt, ty, pos, af, gd⟩ E C (.bool q) := fun a ha w _ => by
  simp [execOp, ha.ev hx, ha.ev hy, run_eqGuard_agg _ _ _ _ _ _ _ hg, run_eql_struct, hq w, Result.andThen]
theorem Q1.neStruct {xt yt : TypeId} {x y : Operand} {xs ys : Array Value} {q : Bool} (hg : P.eqGuardType P.depth xt = false) (hq : ∀ w, (Op.equalIn 10000 xt (.agg xs) (.agg ys)).run P w = .ok q w) (hx : ev E x = some (.agg xs)) (hy : ev E y = some (.agg ys)) : Q1 P ⟨d, .binOp .neq xt x y yt, ty, pos, af, gd⟩ E C (.bool (!q)) := fun a ha w _ => by
  simp [execOp, ha.ev hx, ha.ev hy, run_eqGuard_agg _ _ _ _ _ _ _ hg, run_neq_struct, hq w, Result.andThen]
theorem Q1.field {xt : TypeId} {x : Operand} {i : Nat} {vs : Array Value} {v : Value} (hx : ev E x = some (.agg vs)) (hr : ∀ w, (Instr.field xt (.agg vs) i).run P w = .ok v w) : Q1 P ⟨d, .field xt x i, ty, pos, af, gd⟩ E C v := fun a ha w _ => by
  simp [execOp, ha.ev hx, hr w]
theorem Q1.makeFunc {fn : Fn} {fs cs : Array Operand} {first cap : List Value} (h1 : evs E fs.toList = some first) (h2 : evs E cs.toList = some cap) : Q1 P ⟨d, .makeFunc fn fs cs, ty, pos, af, gd⟩ E C (.func fn first.toArray cap.toArray) := fun a ha w _ => by
  have e1 : fs.map a.eval = first.toArray := by
    apply Array.ext'; simpa using ha.evs h1
  have e2 : cs.map a.eval = cap.toArray := by
    apply Array.ext'; simpa using ha.evs h2
  simp [execOp, Instr.makeFunc, e1, e2]
section
variable {α β : Type} [DecidableEq α] {key : α → Value} {val : β → Value} {kind : TypeDesc}
def MapO (key : α → Value) (val : β → Value) (w : World) (b : Nat) (m : List (α × β)) : Prop :=
  ∃ es clock, w.heap[b]? = some (.map es clock) ∧ es.toList.map (fun e => (e.key, e.val)) = m.map fun p => (key p.1, val p.2)
theorem MapO.ext {w' : World} {b : Nat} {m : List (α × β)} (h : MapO key val w b m) (hm : Ext w w') : MapO key val w' b m := by
  obtain ⟨es, c, h1, h2⟩ := h
  exact ⟨es, c, hm.keep _ _ h1 (fun x => x), h2⟩
theorem MapO.lt {b : Nat} {m : List (α × β)} (h : MapO key val w b m) : b < w.heap.size := by
  obtain ⟨es, c, h1, h2⟩ := h
  exact (Array.getElem?_eq_some_iff.1 h1).1
def asc (m : List (α × β)) (a : α) : Option β := (m.find? fun p => decide (p.1 = a)).map Prod.snd
theorem findNow_asc (hs : ∀ a b : α, Instr.sameNow kind (key a) (key b) = some (decide (a = b))) (a : α) : ∀ (es : List MapEntry) (m : List (α × β)) (i : Nat), es.map (fun e => (e.key, e.val)) = m.map (fun p => (key p.1, val p.2)) →
    ∃ j, Instr.findNow kind (key a) es i = some ((asc m a).map fun x => (j, val x))
  | [], m, i, h => by
    cases m with
    | nil => exact ⟨0, rfl⟩
    | cons _ _ => simp at h
  | e :: es, m, i, h => by
    cases m with
    | nil => simp at h
    | cons p m =>
      simp only [List.map_cons, List.cons.injEq, Prod.mk.injEq] at h
      obtain ⟨⟨h1, h2⟩, h3⟩ := h
      unfold Instr.findNow
      rw [h1, hs a p.1]
      by_cases hp : a = p.1
      · refine ⟨i, ?_⟩
        simp [hp, asc, h2]
      · obtain ⟨j, hj⟩ := findNow_asc hs a es m (i + 1) h3
        refine ⟨j, ?_⟩
        have hp' : ¬ (p.1 = a) := fun e => hp e.symm
        simp only [decide_eq_false hp, hj, asc, List.find?_cons, decide_eq_false hp']
/-- what a type of keys must say: nothing is checked, and two are told apart at once -/
structure KeyOk (P : Program) (kt : TypeId) (key : α → Value) : Prop where
  chk : ∀ (e : Bool) (a : α) (w : World), (Instr.checkKey e 10000 kt (key a)).run P w = .ok () w
  same : ∃ kind, P.underlying kt = some kind ∧ ∀ a b : α, Instr.sameNow kind (key a) (key b) = some (decide (a = b))
theorem keyOk_str {kt : TypeId} (h : P.underlying kt = some .string) : KeyOk P kt strV := ⟨fun e a w => by
    unfold Instr.checkKey; simp [run_underlying h, strV], ⟨_, h, fun a b => by
    simp only [strV, Instr.sameNow, Option.some.injEq]
    rw [beq_toListBytes, toList_mk, toList_mk]
    by_cases hab : a = b <;> simp [hab]⟩⟩
def intV (n : Int) : Value := .int .i64 n
theorem keyOk_int {kt : TypeId} (h : P.underlying kt = some (.int .i64)) : KeyOk P kt intV := ⟨fun e a w => by
    unfold Instr.checkKey; simp [run_underlying h, intV], ⟨_, h, fun a b => by
    simp only [intV, Instr.sameNow, Option.some.injEq, if_true]
    by_cases hab : a = b <;> simp [hab]⟩⟩
theorem run_findKey {kt : TypeId} (hk : KeyOk P kt key) (a : α) {es : List MapEntry} {m : List (α × β)} (h : es.map (fun e => (e.key, e.val)) = m.map (fun p => (key p.1, val p.2))) (w : World) :
    ∃ j, (Instr.findKey kt (key a) es).run P w = .ok ((asc m a).map fun x => (j, val x)) w := by
  obtain ⟨kind, hu, hs⟩ := hk.same
  obtain ⟨j, hj⟩ := findNow_asc hs a es m 0 h
  refine ⟨j, ?_⟩
  unfold Instr.findKey
  simp only [Sem.run_bind, run_underlying hu, Result.andThen_ok, hj, Sem.run_pure]
theorem run_getMap {b : Nat} {es : Array MapEntry} {c : Nat} (h : w.heap[b]? = some (.map es c)) : (getObj b).run P w = .ok (.map es c) w := by
  simp [getObj, Sem.run, h]
theorem Q1.lookupOk {t kt et : TypeId} {g : Bool} {n by_ : Nat} {x y : Operand} {b : Nat} {m : List (α × β)} {a : α} {z : Value} (hk : KeyOk P kt key) (ht : P.underlying t = some (.map kt et)) (hz : ∀ w, (zeroValue et).run P w = .ok z w) (hx : ev E x = some (.map (some b))) (hy : ev E y = some (key a)) (hm : ∀ w, C w → MapO key val w b m) :
    Q1 P ⟨d, .lookup t x y true, ty, pos, af, gd⟩ E C (.tuple #[(match asc m a with | some u => val u | none => z), .bool (asc m a).isSome]) := fun s ha w hC => by
  obtain ⟨es, c, h1, h2⟩ := hm w hC
  obtain ⟨j, hj⟩ := run_findKey (P := P) hk a h2 w
  have hg := run_getMap (P := P) h1
  cases hc : asc m a with
  | none =>
    rw [hc] at hj
    simp [execOp, ha.ev hx, ha.ev hy, Instr.lookup, run_underlying ht, hg, hk.chk, hj, hz]
  | some u =>
    rw [hc] at hj
    simp [execOp, ha.ev hx, ha.ev hy, Instr.lookup, run_underlying ht, hg, hk.chk, hj]
theorem Q1.lookup1 {t kt et : TypeId} {x y : Operand} {b : Nat} {m : List (α × β)} {a : α} {z : Value} (hk : KeyOk P kt key) (ht : P.underlying t = some (.map kt et)) (hz : ∀ w, (zeroValue et).run P w = .ok z w) (hx : ev E x = some (.map (some b))) (hy : ev E y = some (key a)) (hm : ∀ w, C w → MapO key val w b m) :
    Q1 P ⟨d, .lookup t x y false, ty, pos, af, gd⟩ E C (match asc m a with | some u => val u | none => z) := fun s ha w hC => by
  obtain ⟨es, c, h1, h2⟩ := hm w hC
  obtain ⟨j, hj⟩ := run_findKey (P := P) hk a h2 w
  have hg := run_getMap (P := P) h1
  cases hc : asc m a with
  | none =>
    rw [hc] at hj
    simp [execOp, ha.ev hx, ha.ev hy, Instr.lookup, run_underlying ht, hg, hk.chk, hj, hz]
  | some u =>
    rw [hc] at hj
    simp [execOp, ha.ev hx, ha.ev hy, Instr.lookup, run_underlying ht, hg, hk.chk, hj]
theorem setMap_mod (w : World) (b : Nat) (o : Obj) : Mod (Mg (b + 1)) w { w with heap := w.heap.setIfInBounds b o } :=
  ⟨rfl, rfl, rfl, by simp, fun k o' hk hn => by
    have : b ≠ k := fun e => hn (by unfold Mg; omega)
    show (w.heap.setIfInBounds b _)[k]? = _
    rw [Array.getElem?_setIfInBounds_ne this]; exact hk⟩
/-- an entry more -/
theorem AW.mapNew {t kt et : TypeId} {x y z : Operand} {b : Nat} {m : List (α × β)} {a : α} {u : β} (hk : KeyOk P kt key) (ht : P.underlying t = some (.map kt et)) (hx : ev E x = some (.map (some b))) (hy : ev E y = some (key a)) (hz : ev E z = some (val u)) (hm : MapO key val w b m) (hno : asc m a = none)
    (hK : ∀ w', Mod (Mg (b + 1)) w w' → w'.heap.size = w.heap.size → MapO key val w' b (m ++ [(a, u)]) → K undef w') : AW P ⟨d, .mapUpdate t x y z, ty, pos, af, gd⟩ E w K := fun s ha => by
  obtain ⟨es, c, h1, h2⟩ := hm
  obtain ⟨j, hj⟩ := run_findKey (P := P) hk a h2 w
  rw [hno] at hj
  have hg := run_getMap (P := P) h1
  have hlt := (Array.getElem?_eq_some_iff.1 h1).1
  have h := hK _ (setMap_mod w b (.map (es.push { key := key a, val := val u, born := c }) (c + 1))) (by simp) ⟨es.push { key := key a, val := val u, born := c }, c + 1, by
    show (w.heap.setIfInBounds b _)[b]? = _
    simp [hlt], by simp [h2]⟩
  simp [execOp, ha.ev hx, ha.ev hy, ha.ev hz, Instr.mapUpdate, run_underlying ht, hg, hk.chk, hj, setObj, Sem.run, h1, out]
  exact h
theorem AW.makeMap {t : TypeId} (hK : ∀ w' b, Ext w w' → b = w.heap.size → w'.heap.size = w.heap.size + 1 → MapO key val w' b [] → K (.map (some b)) w') : AW P ⟨d, .makeMap t none, ty, pos, af, gd⟩ E w K := fun s ha => by
  have h := hK (w.alloc (.map #[] 0)) w.heap.size (Mod.alloc _ _ _) rfl (by simp) ⟨#[], 0, by
    show (w.heap.push _)[w.heap.size]? = _
    simp, by simp⟩
  simp [execOp, Instr.makeMap, newObj, Sem.run, out]
  exact h
end
end
def Rw (w : World) (lo hi b : Nat) (cs : List Value) : Prop := lo ≤ b ∧ b < hi ∧ Row w b 0 cs
theorem Rw.ext {w w' : World} {lo hi b : Nat} {cs : List Value} (h : Rw w lo hi b cs) (hm : Ext w w') : Rw w' lo hi b cs := ⟨h.1, h.2.1, h.2.2.ext hm⟩
theorem Rw.keepG {w w' : World} {lo hi b g : Nat} {cs : List Value} (h : Rw w lo hi b cs) (hm : Mod (Mg g) w w') (hg : g ≤ lo ∨ hi < g) : Rw w' lo hi b cs := ⟨h.1, h.2.1, h.2.2.keepG hm (by have := h.1; have := h.2.1; omega)⟩
theorem Rw.cell {w : World} {lo hi b : Nat} {cs : List Value} (h : Rw w lo hi b cs) (i : Nat) (v : Value) (hv : cs[i]? = some v) : Row w b i [v] := fun j u hu => by
  cases j with
  | zero =>
    simp only [List.getElem?_cons_zero, Option.some.injEq] at hu
    subst hu
    have := h.2.2 i v hv
    simpa using this
  | succ j => simp at hu
/-- a slice's header -/
structure SH where
  a : Option Addr
  n : Nat
  c : Nat
def SH.val (h : SH) : Value := .slice h.a h.n h.c
inductive FK where
  | int (k : IntKind)
  | str
  | bool
/-- a struct's fields: where each lies, what it is (of fields that are numbers, texts, truths; none by the name '_') -/
def fkOf (P : Program) (f : Field) : Option (Nat × FK) :=
  match P.underlying f.type with
  | some (.int k) => if f.name ≠ "_" then some (f.offset, .int k) else none
  | some .string => if f.name ≠ "_" then some (f.offset, .str) else none
  | some .bool => if f.name ≠ "_" then some (f.offset, .bool) else none
  | _ => none
def cellEq : FK → Value → Value → Option Bool
  | .int k, .int j a, .int j' b => if j = k ∧ j' = k then some (a == b) else none
  | .str, .string a, .string b => some (a.toList == b.toList)
  | .bool, .bool a, .bool b => some (a == b)
  | _, _, _ => none
def eqCells : List (Nat × FK) → Array Value → Array Value → Option Bool
  | [], _, _ => some true
  | (o, k) :: r, xs, ys =>
    match xs[o]?, ys[o]? with
    | some x, some y => match cellEq k x y with
      | some true => eqCells r xs ys
      | some false => some false
      | none => none
    | _, _ => none
def fksOf (P : Program) : List Field → Option (List (Nat × FK))
  | [] => some []
  | f :: r => match fkOf P f, fksOf P r with
    | some k, some ks => some (k :: ks)
    | _, _ => none
theorem run_eqFields {P : Program} {xs ys : Array Value} {n : Nat} (w : World) : ∀ (fs : List Field) (ks : List (Nat × FK)) (q : Bool), fksOf P fs = some ks → eqCells ks xs ys = some q → (Op.eqFields (n + 1) xs ys fs).run P w = .ok q w
  | [], ks, q, h1, h2 => by
    simp only [fksOf, Option.some.injEq] at h1
    subst h1
    simp only [eqCells, Option.some.injEq] at h2
    subst h2
    simp [Op.eqFields]
  | f :: fs, ks, q, h1, h2 => by
    unfold fksOf at h1
    cases hk : fkOf P f with
    | none => simp [hk] at h1
    | some k =>
      cases hks : fksOf P fs with
      | none => simp [hk, hks] at h1
      | some ks' =>
        simp only [hk, hks, Option.some.injEq] at h1
        subst h1
        obtain ⟨o, k⟩ := k
        unfold eqCells at h2
        have key : ∀ (d : TypeDesc), P.underlying f.type = some d → f.name ≠ "_" → f.offset = o → (∀ s, d ≠ .struct s) → (∀ a b, d ≠ .array a b) → (∀ x y r, cellEq k x y = some r → (Op.equalIn (n + 1) f.type x y).run P w = .ok r w) → (Op.eqFields (n + 1) xs ys (f :: fs)).run P w = .ok q w := by
          intro d hu hn ho hs ha he
          cases hx : xs[o]? with
          | none => simp [hx] at h2
          | some x =>
            cases hy : ys[o]? with
            | none => simp [hx, hy] at h2
            | some y =>
              simp only [hx, hy] at h2
              have hag : ∀ cs : Array Value, (part f.type cs f.offset).run P w = (match cs[f.offset]? with | some v => .ok v w | none => ((stuck "part: no such cell" : Sem Value)).run P w) := by
                intro cs
                unfold part isAgg
                simp only [Sem.run_bind, run_underlying hu, Result.andThen_ok]
                cases d <;> simp_all <;> (split <;> simp_all)
              have hpx := hag xs; have hpy := hag ys
              rw [ho] at hpx hpy
              rw [hx] at hpx; rw [hy] at hpy
              cases hc : cellEq k x y with
              | none => simp [hc] at h2
              | some r =>
                have hr := he x y r hc
                rw [hc] at h2
                have ih := fun h => run_eqFields (P := P) (xs := xs) (ys := ys) (n := n) w fs ks' q hks h
                cases r with
                | false =>
                  simp only [Option.some.injEq] at h2
                  subst h2
                  simp [Op.eqFields, hn, ho, hpx, hpy, hr]
                | true =>
                  have := ih h2
                  simp [Op.eqFields, hn, ho, hpx, hpy, hr, this]
        unfold fkOf at hk
        cases hu : P.underlying f.type with
        | none => simp [hu] at hk
        | some d =>
          cases d <;> simp only [hu, reduceCtorEq] at hk <;> (split at hk) <;> (try cases hk) <;> rename_i hn
          all_goals refine key _ hu hn rfl (by intro s h; cases h) (by intro a b h; cases h) fun x y r hc => ?_
          all_goals (cases x <;> simp only [cellEq, reduceCtorEq] at hc <;> cases y <;> simp only [cellEq, reduceCtorEq, Option.some.injEq] at hc)
          all_goals first
            | (split at hc
               · rename_i hj
                 obtain ⟨rfl, rfl⟩ := hj
                 simp only [Option.some.injEq] at hc
                 subst hc
                 exact run_equalIn_int w n _ _ _ _ _ hu
               · cases hc)
            | (subst hc; exact run_equalIn_bool' w n _ _ _ hu)
            | (subst hc; exact run_equalIn_string w n _ _ _ hu)
theorem run_eq_flat {P : Program} {t : TypeId} {xs ys : Array Value} {ks : List (Nat × FK)} {q : Bool} (hf : P.underlying t = some (.struct (P.fieldsOf t))) (hp : P.stoodInHeld t = false) (hk : fksOf P (P.fieldsOf t).toList = some ks) (hq : eqCells ks xs ys = some q) (w : World) :
    (Op.equalIn 10000 t (.agg xs) (.agg ys)).run P w = .ok q w :=
  (run_equalIn_agg w 9999 t xs ys hf hp).trans (run_eqFields (n := 9998) w _ ks q hk hq)
theorem ndec_t {p : Prop} [Decidable p] (h : true = !decide p) : ¬ p := by
  intro hp; simp [hp] at h
theorem ndec_f {p : Prop} [Decidable p] (h : false = !decide p) : p := by
  by_cases hp : p
  · exact hp
  · simp [hp] at h
theorem r_retC1 {P : Program} {f : FuncId} {R : Ending → World → Prop} {n : Nat} {E : Env} {k : List Item} {w : World} {fn : Func} {t : Tmp} {ty : TypeId} {b off sz by_ : Nat} {z cs : List Value} (hf : P.funcs[f]? = some fn) (hres : fn.results = #[.cell t ty])
    (hv : lk t E = some (ptr b off)) (ht : tyI P ty = some (true, sz, by_, z)) (hr : Row w b off cs) (hn : cs.length = sz) (hR : R (.returned (.agg cs.toArray)) w) : RunE P f R n E (.code .ret :: k) w := fun a ha b' hb hk cs' =>
  ⟨_, w, { b'.at a (.code .ret :: k) with mode := .returning }, hR, .one step_ret, hb, leave_ret ha hf hb hk (by
    have hg : a.tmps[t]?.getD undef = .pointer (some ⟨b, off, none⟩) := by have := ha.has t _ hv; simpa [ptr] using this
    simp [results, hres, hg, asAddr, Sem.run_bind, Result.andThen, run_loadVar_agg ht hr hn])⟩
end Go.Ik
