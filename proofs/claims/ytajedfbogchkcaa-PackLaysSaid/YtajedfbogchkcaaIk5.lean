/-
  Entry of a function, tests by name, elements by name, calls of functions and of rows outside Go.
-/
import Derived.Test.YtajedfbogchkcaaIk4
import Derived.Lib.Bytealg
set_option linter.unusedVariables false
set_option linter.unusedSimpArgs false
namespace Go.Ik
open Go

section
variable {P : Program} {f : FuncId} {R : Ending → World → Prop} {n : Nat}

def argE : Nat → List Value → Env
  | _, [] => []
  | i, v :: r => (i, v) :: argE (i + 1) r

theorem lk_argE : ∀ (vs : List Value) (j i : Nat) (v : Value), lk i (argE j vs) = some v → j ≤ i ∧ vs[i - j]? = some v
  | [], _, _, _, h => by simp [argE, lk] at h
  | u :: r, j, i, v, h => by
    simp only [argE, lk] at h
    cases hb : Nat.beq i j with
    | true =>
      have := Nat.eq_of_beq_eq_true hb
      simp only [hb, Option.some.injEq] at h
      subst this
      simp [h]
    | false =>
      simp only [hb] at h
      obtain ⟨h1, h2⟩ := lk_argE r (j + 1) i v h
      refine ⟨by omega, ?_⟩
      have : i - j = (i - (j + 1)) + 1 := by omega
      rw [this]
      simpa using h2

theorem calls_enter {fn : Func} {c : Code} {vs : List Value} {w : World} (hf : P.funcs[f]? = some fn) (hb : fn.body = some c) (hn : fn.ntmps = n) (hle : Nat.ble vs.length n = true)
    (h : RunE P f R n (argE 0 vs) [.code c] w) : Calls P f vs.toArray w R :=
  calls_of_run hf hb (h _ ⟨by have := Nat.le_of_ble_eq_true hle; simp [hn]; omega, rfl, fun i v hv => by
    obtain ⟨_, h2⟩ := lk_argE vs 0 i v hv
    simp only [Nat.sub_zero] at h2
    have hlt := (List.getElem?_eq_some_iff.1 h2).1
    simp only [Array.getD_eq_getD_getElem?]
    rw [Array.getElem?_append_left (by simpa using hlt)]
    simp [h2]⟩)

theorem OL.qb {ops : Array Oper} {o : Oper} {l : List Oper} {E : Env} {k : List Item} {w : World} {b0 : Bool} (hq : Q1 P o E (fun w' => w' = w) (.bool b0))
    (hw : want n ops E o.guard = some true) (hd : dstOk n o.dst = true) (h : ∀ b : Bool, b = b0 → OL P f R n ops l (pu o.dst (.bool b) E) k w) : OL P f R n ops (o :: l) E k w :=
  OL.q hq hw hd (h b0 rfl)
theorem OD.qb {C : World → Prop} {A : Nat → Bool} {Z : Nat} {ops : Array Oper} {o : Oper} {i : Nat} {l : List Nat} {E : Env} {k : List Item} {w : World} {b0 : Bool} (ho : ops[i]? = some o) (hA : A i = false) (hq : Q1 P o E C (.bool b0))
    (hw : want n ops E o.guard = some true) (hd : dstOk n o.dst = true) (h : ∀ b : Bool, b = b0 → OD P f R n C A Z ops l (pu o.dst (.bool b) E) k w) : OD P f R n C A Z ops (i :: l) E k w :=
  OD.q ho hA hq hw hd (h b0 rfl)

theorem r_draw1 (A : Nat → Bool) (Z : Nat) (C : World → Prop) {id : Nat} {ops : Array Oper} {E : Env} {k : List Item} {w : World} (hm : P.follows .mixedOrders = true) (hB : drawB ops A Z = true)
    (h : ∀ w1, Ext w w1 → C w1 ∧ OD P f R n C A Z ops (List.range' 0 ops.size) E k w1) : RunE P f R n E (.code (.region id ops true) :: k) w :=
  r_draw A Z C hm hB (h w.drew (Mod.drew _ _))
end

section
variable {P : Program} {E : Env} {d : Option Tmp} {ty : TypeId} {pos : String} {af : Array Edge} {gd : Option (Nat × Bool)} {w : World} {K : Value → World → Prop}

theorem AW.callF {g : FuncId} {xs : List Operand} {ts : Array TypeId} {vs : List Value} {Φ : Value → World → Prop} (hg : clB P g = true)
    (hx : evs E xs = some vs) (h : Calls P g vs.toArray w (Ret Φ)) (hK : ∀ v w', Φ v w' → K v w') :
    AW P ⟨d, .call { callee := .value (.func g), args := xs.toArray, argTypes := ts }, ty, pos, af, gd⟩ E w K :=
  AW.call (first := []) (cap := []) hg rfl hx (by simpa using h) hK

/-- a row outside Go -/
theorem AW.callX {g : FuncId} {fn : Func} {e : Array Value → Sem Value} {xs : List Operand} {ts : Array TypeId} {vs : List Value} {v : Value} (hf : P.funcs[g]? = some fn) (hname : (fn.name == "runtime.NumGoroutine") = false)
    (hb : fn.body.isNone = true) (hn : Extern.findNext fn = none) (he : Extern.find fn = some e) (hx : evs E xs = some vs) (hr : (e vs.toArray).run P w = .ok v w) (hK : K v w) :
    AW P ⟨d, .call { callee := .value (.func g), args := xs.toArray, argTypes := ts }, ty, pos, af, gd⟩ E w K := fun a ha => by
  have hargs : xs.toArray.map a.eval = vs.toArray := by
    apply Array.ext'
    simpa using ha.evs hx
  have : (execOp a.eval ⟨d, .call { callee := .value (.func g), args := xs.toArray, argTypes := ts }, ty, pos, af, gd⟩).run P w = .ok (.value v) w := by
    have hef : a.eval (.func g) = .func (.func g) #[] #[] := rfl
    simp only [execOp, resolve, hef, hargs, Deferred.ofValue, Sem.run_bind, Sem.run_pure, Result.andThen_ok, invoke, Array.append_empty, Array.empty_append]
    rw [run_callFunc_extern hf hname hb hn he, hr]
    rfl
  rw [this]
  exact hK
end

/-- an element by name -/
theorem Sl.at' {α : Type} {enc : α → List Value} {w : World} {lo up : Nat} {v : Value} {l : List α} (h : Sl enc w (Iv lo up) v l) {P : Program} {t e : TypeId} {sz by_ : Nat} {g : Bool} {z : List Value} (ht : P.underlying t = some (.slice e)) (he : tyI P e = some (g, sz, by_, z)) (hsz : ∀ x, (enc x).length = sz) {k : IntKind} {n : Int} (i : Nat) (hn : n = (i : Int)) (hi : i < l.length) :
    ∃ x b off, l[i]? = some x ∧ (∀ w, (Instr.indexAt t v (.int k n)).run P w = .ok (ptr b off) w) ∧ lo ≤ b ∧ b < up ∧ Row w b off (enc x) := by
  obtain ⟨b, off, h1, h2, h3⟩ := h.at ht he hsz (k := k) i hn hi
  exact ⟨l[i], b, off, by simp, h1, h2.1, h2.2, h3⟩

theorem Sl.cast {α : Type} {enc : α → List Value} {w : World} {F : Nat → Prop} {v : Value} {l l' : List α} (h : Sl enc w F v l) (e : l = l') : Sl enc w F v l' := e ▸ h

/-! encodings of what is everyday -/
def encI (n : Int) : List Value := [.int .i64 n]
def encB (b : UInt8) : List Value := [.int .u8 (b.toNat : Int)]
def encRn (n : Int) : List Value := [.int .i32 n]
def encS (s : Str) : List Value := [strV s]
theorem encI_len (x : Int) : (encI x).length = 1 := rfl
theorem encB_len (x : UInt8) : (encB x).length = 1 := rfl
theorem encRn_len (x : Int) : (encRn x).length = 1 := rfl
theorem encS_len (x : Str) : (encS x).length = 1 := rfl
theorem encI_one (x : Int) : (encI x).all (·.oneCell') = true := rfl
theorem encB_one (x : UInt8) : (encB x).all (·.oneCell') = true := rfl
theorem encRn_one (x : Int) : (encRn x).all (·.oneCell') = true := rfl
theorem encS_one (x : Str) : (encS x).all (·.oneCell') = true := rfl

/-- integers of 64 bits -/
abbrev I64 (n : Int) : Prop := -9223372036854775808 ≤ n ∧ n ≤ 9223372036854775807
theorem Ret.mk {Φ : Value → World → Prop} {v : Value} {w : World} (h : Φ v w) : Ret Φ (.returned v) w := ⟨v, rfl, h⟩
theorem nbeq_t {α : Type} [BEq α] [LawfulBEq α] {a b : α} (h : true = !(a == b)) : a ≠ b := fun e => by subst e; simp at h
theorem nbeq_f {α : Type} [BEq α] [LawfulBEq α] {a b : α} (h : false = !(a == b)) : a = b := by
  cases hb : a == b with
  | true => exact eq_of_beq hb
  | false => rw [hb] at h; cases h
end Go.Ik
