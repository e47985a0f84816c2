import Derived.Test.YtjhbobjjkbppkaaLibA
import Derived.ProofKit
import Derived.OpenShut
import Derived.SliceStrings
import Derived.Lib.SmallJoins
import Derived.Carry
import Derived.Laws.MakeOwn
import Derived.Laws.Pointers
import Derived.Laws.StructEq
import Derived.Lib.Join
/-
  What came in, as facts; a law's row closed: from 'the call returns true and writes nothing old'.
-/
set_option linter.unusedVariables false
set_option linter.unusedSimpArgs false
namespace Go.Ik
open Go Go.WideShapes Go.ChangeShapes Go.RowKit

section
variable {H : Type} {enc : TypeId × Value → H} {P : Program} {W : World}

/-- a type whose cells tell a value of 'α' -/
def FlatOk (P : Program) (t : TypeId) {α : Type} (en : α → List Value) (ok : α → Prop) : Prop :=
  ∀ {H : Type} {enc : TypeId × Value → H} {W : World} {base : Nat} {spare : Nat → Bool} {held : Bool} (fuel : Nat) (cs : List Value) (x : DataW H × List MemPlace), DataW.trod enc P W base spare held fuel t cs = some x → ∃ a : α, cs = en a ∧ ok a

theorem wf_i64 {n : Int} (h : (Lit.int .i64 n).wf = true) : I64 n := by
  simp [Lit.wf, IntKind.min, IntKind.max, IntKind.signed, IntKind.bits] at h
  unfold I64; omega
theorem wf_i32 {n : Int} (h : (Lit.int .i32 n).wf = true) : -2147483648 ≤ n ∧ n ≤ 2147483647 := by
  simp [Lit.wf, IntKind.min, IntKind.max, IntKind.signed, IntKind.bits] at h
  omega
theorem wf_u8 {n : Int} (h : (Lit.int .u8 n).wf = true) : 0 ≤ n ∧ n ≤ 255 := by
  simp [Lit.wf, IntKind.min, IntKind.max, IntKind.signed, IntKind.bits] at h
  omega
theorem wf_u32 {n : Int} (h : (Lit.int .u32 n).wf = true) : 0 ≤ n ∧ n ≤ 4294967295 := by
  simp [Lit.wf, IntKind.min, IntKind.max, IntKind.signed, IntKind.bits] at h
  omega

theorem flat_int {t : TypeId} (h : P.underlying t = some (.int .i64)) : FlatOk P t encI I64 := fun fuel cs x ht => by
  obtain ⟨n, rfl, _, hw⟩ := DataW.trod_int h ht
  exact ⟨n, rfl, wf_i64 hw⟩
theorem flat_rune {t : TypeId} (h : P.underlying t = some (.int .i32)) : FlatOk P t encRn (fun n => -2147483648 ≤ n ∧ n ≤ 2147483647) := fun fuel cs x ht => by
  obtain ⟨n, rfl, _, hw⟩ := DataW.trod_int h ht
  exact ⟨n, rfl, wf_i32 hw⟩
theorem flat_byte {t : TypeId} (h : P.underlying t = some (.int .u8)) : FlatOk P t encB (fun _ => True) := fun fuel cs x ht => by
  obtain ⟨n, rfl, _, hw⟩ := DataW.trod_int h ht
  have hr := wf_u8 hw
  refine ⟨UInt8.ofNat n.toNat, ?_, trivial⟩
  simp only [encB, UInt8.toNat_ofNat']
  congr 2
  omega
theorem flat_str {t : TypeId} (h : P.underlying t = some .string) : FlatOk P t encS (fun s => s.length ≤ 9223372036854775807) := fun fuel cs x ht => by
  obtain ⟨s, rfl, _, hw⟩ := DataW.trod_string h ht
  exact ⟨s.data.toList, by rw [encS, ← strV_of], hw⟩
def encBo (b : Bool) : List Value := [.bool b]
theorem flat_bool {t : TypeId} (h : P.underlying t = some .bool) : FlatOk P t encBo (fun _ => True) := fun fuel cs x ht => by
  obtain ⟨b, rfl, _⟩ := DataW.trod_bool h ht
  exact ⟨b, rfl, trivial⟩

/-- one field of a struct -/
theorem field_at {t : TypeId} {fs : Array Field} (hu : P.underlying t = some (.struct fs)) {base : Nat} {spare : Nat → Bool} {held : Bool} {fuel : Nat} {cs : List Value} {x : DataW H × List MemPlace} (h : DataW.trod enc P W base spare held fuel t cs = some x) :
    ∃ n, cs.length = P.cellsOf t ∧ ∀ (i : Nat) (f : Field) (ft off k : Nat), fs[i]? = some f → f.type = ft → f.offset = off → P.cellsOf ft = k → ∃ y, DataW.trod enc P W base spare held n ft ((cs.drop off).take k) = some y := by
  obtain ⟨xs, n, _, hx, hl, hlen, hf⟩ := DataW.trod_struct hu h
  refine ⟨n, hl, fun i f ft off k hi e1 e2 e3 => ?_⟩
  subst e1 e2 e3
  have hlt : i < fs.size := (Array.getElem?_eq_some_iff.1 hi).1
  exact ⟨xs[i]'(by omega), by rw [hf i f hi]; simp⟩

/-- cells met are cells of blocks that are there -/
theorem cells_row {base : Nat} {a : Addr} {n : Nat} {cs : List Value} (h : W.cells? base a n = some cs) (hn : 0 < n) : ∃ b off, a = ⟨b, off, none⟩ ∧ b < W.heap.size ∧ cs.length = n ∧ Row W b off cs := by
  obtain ⟨_, hcl, hat⟩ := World.cells?_some h
  have h0 := hat 0 hn
  have hc0 : cs[0]? = some (cs[0]'(by omega)) := List.getElem?_eq_getElem (by omega)
  rw [hc0] at h0
  have e0 : a.add 0 = a := by unfold Addr.add; simp
  rw [e0] at h0
  have hspot : a.spot = none := by
    unfold World.cell? at h0
    cases hh : W.heap[a.block]? with
    | none => rw [hh] at h0; cases h0
    | some ob =>
      rw [hh] at h0
      cases ob <;> simp only [reduceCtorEq] at h0
      cases hs : a.spot with
      | none => rfl
      | some _ => rw [hs] at h0; simp at h0
  obtain ⟨b, off, sp⟩ := a
  subst hspot
  refine ⟨b, off, rfl, World.block_lt_of_cell? W _ h0, hcl, fun i v hv => ?_⟩
  have hi : i < n := by rw [← hcl]; exact (List.getElem?_eq_some_iff.1 hv).1
  have := hat i hi
  rw [add_lit, hv] at this
  exact this

/-- a slice of such elements -/
theorem open_slice_flat {t e : TypeId} {α : Type} {en : α → List Value} {ok : α → Prop} (hf : FlatOk P e en ok) (ht : P.underlying t = some (.slice e)) {sz : Nat} (hC : P.cellsOf e = sz) (h0 : 0 < sz) (hsz : ∀ x, (en x).length = sz)
    {spare : Nat → Bool} {held : Bool} {fuel : Nat} {cs : List Value} {x : DataW H × List MemPlace} (h : DataW.trod enc P W 0 spare held fuel t cs = some x) :
    ∃ (v : Value) (l : List α), cs = [v] ∧ Sl en W (Iv 0 W.heap.size) v l ∧ ∀ a ∈ l, ok a := by
  rcases Deep.open_slice ht h with ⟨rfl, _⟩ | ⟨a, len, cap, m, n, D, Pl, rfl, _, hle, hmax, hm, _, hi⟩
  · exact ⟨_, [], rfl, Sl.nil, by simp⟩
  · have hlm : len ≤ m := by rw [hm]; split <;> omega
    have key : ∀ i : Nat, i < len → ∃ y : α, ok y ∧ ∃ b off, a.add (i * sz) = ⟨b, off, none⟩ ∧ b < W.heap.size ∧ Row W b off (en y) := fun i hil => by
      obtain ⟨cs', hc, ht'⟩ := hi i (by omega)
      rw [hC] at hc
      obtain ⟨b, off, ha, hb, hcl, hr⟩ := cells_row hc h0
      obtain ⟨y, rfl, hy⟩ := hf _ _ _ ht'
      exact ⟨y, hy, b, off, ha, hb, hr⟩
    by_cases hl0 : len = 0
    · subst hl0
      exact ⟨_, [], rfl, ⟨some a, cap, rfl, Nat.zero_le _, hmax, .inl rfl⟩, by simp⟩
    · -- the list
      have hlist : ∃ l : List α, l.length = len ∧ ∀ i (hi : i < l.length), ok l[i] ∧ ∃ b off, a.add (i * sz) = ⟨b, off, none⟩ ∧ b < W.heap.size ∧ Row W b off (en l[i]) := by
        have gen : ∀ n : Nat, n ≤ len → ∃ l : List α, l.length = n ∧ ∀ i (hi : i < l.length), ok l[i] ∧ ∃ b off, a.add (i * sz) = ⟨b, off, none⟩ ∧ b < W.heap.size ∧ Row W b off (en l[i]) := by
         intro n hn
         induction n with
         | zero => exact ⟨[], rfl, fun i hi => by simp at hi⟩
         | succ k ih =>
          obtain ⟨l, hl, hall⟩ := ih (by omega)
          obtain ⟨y, hy, hr⟩ := key k (by omega)
          refine ⟨l ++ [y], by simp [hl], fun i hi => ?_⟩
          rcases Nat.lt_or_ge i l.length with h' | h'
          · rw [List.getElem_append_left h']; exact hall i h'
          · have : i = l.length := by simp at hi; omega
            subst this
            rw [List.getElem_append_right (Nat.le_refl _)]
            simp only [Nat.sub_self, List.getElem_cons_zero, hl]
            exact ⟨hy, hr⟩
        exact gen len (Nat.le_refl _)
      obtain ⟨l, hl, hall⟩ := hlist
      obtain ⟨_, b, off, ha, hb, _⟩ := hall 0 (by omega)
      have ha0 : a = ⟨b, off, none⟩ := by rw [← ha]; unfold Addr.add; simp
      subst ha0
      refine ⟨_, l, rfl, ⟨_, cap, by rw [hl], by omega, hmax, .inr ⟨b, off, rfl, ⟨Nat.zero_le _, hb⟩, fun j v hv => ?_⟩⟩, fun y hy => ?_⟩
      · have hfl := flat_len hsz l
        have hj : j < l.length * sz := by rw [← hfl]; exact (List.getElem?_eq_some_iff.1 hv).1
        have hdiv : j / sz < l.length := Nat.div_lt_of_lt_mul (by rw [Nat.mul_comm]; exact hj)
        obtain ⟨_, b', off', ha', hb', hr'⟩ := hall (j / sz) hdiv
        rw [add_lit] at ha'
        simp only [Addr.mk.injEq, and_true] at ha'
        obtain ⟨rfl, rfl⟩ := ha'
        have hfa := (flat_at hsz l (j / sz) hdiv).1
        have hmod : j % sz < sz := Nat.mod_lt _ h0
        have hjd : j / sz * sz + j % sz = j := Nat.div_add_mod' j sz
        have hv' : (en l[j / sz])[j % sz]? = some v := by
          rw [← hfa, List.getElem?_take, if_pos hmod, List.getElem?_drop, hjd]; exact hv
        have := hr' (j % sz) v hv'
        rw [Nat.add_assoc, hjd] at this
        exact this
      · obtain ⟨i, hi', rfl⟩ := List.getElem_of_mem hy
        exact (hall i hi').1

/-! a law's row -/
def readB (P : Program) (ts : List TypeId) : Bool := ts.all fun t => P.readableRec t && decide (t < P.types.size)

theorem args_stay (hl : laidOutB P = true) {W' : World} (hext : Ext W W') : ∀ (ts : List TypeId) (vs : List Value) (ds : List (DataW H)) (ps : List MemPlace), readB P ts = true →
    DataW.TrodAll enc P W 0 (fun _ => true) true ts vs ds ps → DataW.TrodAll enc P W' 0 (fun b => decide (b < W.heap.size)) true ts vs ds ps
  | [], [], [], _, _, h => h
  | t :: ts, v :: vs, d :: ds, ps, hr, h => by
    obtain ⟨p, q, h1, h2, h3⟩ := h
    simp only [readB, List.all_cons, Bool.and_eq_true, decide_eq_true_eq] at hr
    have hlt : ∀ x ∈ p, x.block < W.heap.size := by
      obtain ⟨fuel, hf⟩ := h1
      exact fun x hx => DataW.trod_lt _ _ _ _ hf x hx
    exact ⟨p, q, Below.trod hl hr.1.1 hr.1.2 h1 hext.below hlt, args_stay hl hext ts vs ds q (by simpa [readB] using hr.2) h2, h3⟩
  | [], _ :: _, _, _, _, h => h.elim
  | [], [], _ :: _, _, _, h => h.elim
  | _ :: _, [], _, _, _, h => h.elim
  | _ :: _, _ :: _, [], _, _, h => h.elim

theorem law_post {f : Func} {s : ChangeSpec} {args : Array Value} {ds gs : List (DataW H)} {before : List MemPlace} {W' : World} {tb : TypeId} (hl : laidOutB P = true) (hr : readB P f.params.toList = true)
    (hres : f.resultTypes = #[tb]) (hb : P.underlying tb = some .bool) (hvars : s.vars = []) (hW : DataW.Whole enc P f.params.toList s.vars false W args.toList ds gs before) (hext : Ext W W')
    (hfn : s.fn H (ds ++ gs) = { results := [.lit (.bool true)], args := ds }) : ChangeSpec.post enc P f s false true false false W args (.bool true) W' := by
  have hW' := hW
  obtain ⟨p, q, hA, hV, rfl, hfz, hnd⟩ := hW
  have hq : gs = [] ∧ q = [] := by
    rw [hvars] at hV
    cases gs with
    | nil => exact ⟨rfl, hV⟩
    | cons _ _ => exact hV.elim
  obtain ⟨rfl, rfl⟩ := hq
  refine ⟨ds, [], p ++ [], [], p, [], hW', ?_, ?_, ?_, hext.below.frame _, fun h => by cases h⟩
  · rw [hfn, hres]
    exact trodAll_cons_mk (shut_bool hb true) trodAll_mk0
  · rw [hfn]
    exact args_stay hl hext _ _ _ _ hr hA
  · rw [hvars, hfn]
    rfl
end
end Go.Ik
/-
  More quiet operations: conversions in range, halves, 32 bits.
-/
set_option linter.unusedVariables false
set_option linter.unusedSimpArgs false
namespace Go.Ik
open Go
def byteAt (s : Str) (k : Nat) : Nat := (s[k]?.getD 0).toNat
theorem byteAt_lt (s : Str) (k : Nat) : byteAt s k < 256 := by unfold byteAt; exact (s[k]?.getD 0).toNat_lt
section
variable {P : Program} {E : Env} {C : World → Prop} {d : Option Tmp} {ty : TypeId} {pos : String} {af : Array Edge} {gd : Option (Nat × Bool)}
/-- between integers, in range -/
theorem Q1.convN {s t : TypeId} {x : Operand} {k k' : IntKind} {p : Int} (hs : (P.underlying s).isSome = true) (ht : P.underlying t = some (.int k')) (hx : ev E x = some (.int k p)) (hw : k'.wrap p = p) : Q1 P ⟨d, .convert s t x, ty, pos, af, gd⟩ E C (.int k' p) := by
  have h := Q1.convI (P := P) (E := E) (C := C) (d := d) (ty := ty) (pos := pos) (af := af) (gd := gd) hs ht hx
  rwa [hw] at h
/-- halves -/
theorem Q1.shr1 {xt yt : TypeId} {x y : Operand} {k k' : IntKind} {p : Int} (r : Int) (hx : ev E x = some (.int k p)) (hy : ev E y = some (.int k' 1)) (hr : p / 2 = r) : Q1 P ⟨d, .binOp .shr xt x y yt, ty, pos, af, gd⟩ E C (.int k r) := fun a ha w _ => by
  have e : p.fdiv 2 = r := by rw [← hr]; exact Int.fdiv_eq_ediv_of_nonneg _ (by omega)
  have hk : Min.min 1 k.bits = 1 := by cases k <;> rfl
  simp [execOp, ha.ev hx, ha.ev hy, eqGuard, Go.binOp, Op.shift, hk, e]
/-- an integer turned round -/
theorem Q1.negI {xt : TypeId} {x : Operand} {p : Int} (r : Int) (hx : ev E x = some (.int .i64 p)) (hr : -p = r ∧ -9223372036854775808 ≤ r ∧ r ≤ 9223372036854775807) : Q1 P ⟨d, .unOp .neg xt x, ty, pos, af, gd⟩ E C (.int .i64 r) := fun a ha w _ => by
  have h := IntWalk.i64_in r (by omega)
  have e : (0 : Int) - p = r := by omega
  simp [execOp, ha.ev hx, Op.unary, Op.intArith, hr.1, h]
/-- 32 bits, signed, in range -/
theorem Q1.add32 {x y : Operand} {xt yt : TypeId} {p q : Int} (r : Int) (hx : ev E x = some (.int .i32 p)) (hy : ev E y = some (.int .i32 q)) (hr : p + q = r ∧ -2147483648 ≤ r ∧ r ≤ 2147483647) : Q1 P ⟨d, .binOp .add xt x y yt, ty, pos, af, gd⟩ E C (.int .i32 r) := by
  have h := Q1.add (P := P) (C := C) (d := d) (xt := xt) (yt := yt) (ty := ty) (pos := pos) (af := af) (gd := gd) hx hy
  rw [IntWalk.i32_in _ (by omega), hr.1] at h; exact h
theorem Q1.sub32 {x y : Operand} {xt yt : TypeId} {p q : Int} (r : Int) (hx : ev E x = some (.int .i32 p)) (hy : ev E y = some (.int .i32 q)) (hr : p - q = r ∧ -2147483648 ≤ r ∧ r ≤ 2147483647) : Q1 P ⟨d, .binOp .sub xt x y yt, ty, pos, af, gd⟩ E C (.int .i32 r) := by
  have h := Q1.sub (P := P) (C := C) (d := d) (xt := xt) (yt := yt) (ty := ty) (pos := pos) (af := af) (gd := gd) hx hy
  rw [IntWalk.i32_in _ (by omega), hr.1] at h; exact h
theorem Q1.mul32 {x y : Operand} {xt yt : TypeId} {p q : Int} (r : Int) (hx : ev E x = some (.int .i32 p)) (hy : ev E y = some (.int .i32 q)) (hr : p * q = r ∧ -2147483648 ≤ r ∧ r ≤ 2147483647) : Q1 P ⟨d, .binOp .mul xt x y yt, ty, pos, af, gd⟩ E C (.int .i32 r) := by
  have h := Q1.mul (P := P) (C := C) (d := d) (xt := xt) (yt := yt) (ty := ty) (pos := pos) (af := af) (gd := gd) hx hy
  rw [IntWalk.i32_in _ (by rw [hr.1]; omega), hr.1] at h; exact h
/-- a byte of a text by its place -/
theorem Q1.indexB {t : TypeId} {x y : Operand} {s : Str} {k : IntKind} {n : Int} (i : Nat) (ht : P.underlying t = some .string) (hx : ev E x = some (strV s)) (hy : ev E y = some (.int k n)) (hn : n = (i : Int)) (hi : i < s.length) :
    Q1 P ⟨d, .index t x y, ty, pos, af, gd⟩ E C (.int .u8 ((byteAt s i : Nat) : Int)) := by
  have h := Q1.indexS (P := P) (E := E) (C := C) (d := d) (ty := ty) (pos := pos) (af := af) (gd := gd) i ht hx hy hn hi
  have e : byteAt s i = s[i].toNat := by unfold byteAt; rw [List.getElem?_eq_getElem hi]; rfl
  rw [e]; exact h
end
/-- two lists, place by place -/
inductive All2 {α β : Type} (R : α → β → Prop) : List α → List β → Prop
  | nil : All2 R [] []
  | cons {a : α} {b : β} {l : List α} {m : List β} : R a b → All2 R l m → All2 R (a :: l) (b :: m)
theorem All2.imp {α β : Type} {R S : α → β → Prop} (h : ∀ a b, R a b → S a b) {l : List α} {m : List β} (k : All2 R l m) : All2 S l m := by
  induction k with
  | nil => exact .nil
  | cons h1 _ ih => exact .cons (h _ _ h1) ih
theorem All2.get {α β : Type} {R : α → β → Prop} {l : List α} {m : List β} (k : All2 R l m) : l.length = m.length ∧ ∀ (i : Nat) (a : α) (b : β), l[i]? = some a → m[i]? = some b → R a b := by
  induction k with
  | nil => exact ⟨rfl, by simp⟩
  | cons h1 _ ih =>
    refine ⟨by simp [ih.1], fun i x y hx hy => ?_⟩
    cases i with
    | zero => simp only [List.getElem?_cons_zero, Option.some.injEq] at hx hy; subst hx hy; exact h1
    | succ i => exact ih.2 i x y (by simpa using hx) (by simpa using hy)
theorem All2.app {α β : Type} {R : α → β → Prop} {l l2 : List α} {m m2 : List β} (k : All2 R l m) (k2 : All2 R l2 m2) : All2 R (l ++ l2) (m ++ m2) := by
  induction k with
  | nil => exact k2
  | cons h1 _ ih => exact .cons h1 ih
end Go.Ik
/-
  Chapter 1 as the document answers: bytes read one by one give the runes that Go reads; no program in sight.
-/
set_option linter.unusedVariables false
set_option linter.unusedSimpArgs false
namespace Go.Ml
open Go.Ik

/-! chapter 1's own answer: bytes are read one by one -/
def contAt (s : Str) (k : Nat) : Bool := decide (k < s.length ∧ 128 ≤ byteAt s k ∧ byteAt s k ≤ 191)
def moreV (s : Str) (k : Nat) : Int := if contAt s k = true then (byteAt s k : Int) - 128 else 0
def oneM (s : Str) (i : Nat) : Int × Int :=
  let c : Int := (byteAt s i : Int)
  if c < 128 then (c, 1)
  else if c ≥ 194 ∧ c ≤ 223 ∧ contAt s (i + 1) = true then ((c - 192) * 64 + moreV s (i + 1), 2)
  else if c ≥ 224 ∧ c ≤ 239 ∧ contAt s (i + 1) = true ∧ contAt s (i + 2) = true then ((c - 224) * 4096 + moreV s (i + 1) * 64 + moreV s (i + 2), 3)
  else if c ≥ 240 ∧ c ≤ 244 ∧ contAt s (i + 1) = true ∧ contAt s (i + 2) = true ∧ contAt s (i + 3) = true then ((c - 240) * 262144 + moreV s (i + 1) * 4096 + moreV s (i + 2) * 64 + moreV s (i + 3), 4)
  else (0, 0)
def goodR (r : Int) : Bool := decide (r ≥ 0) && decide (r ≤ 1114111) && (decide (r < 55296) || decide (r > 57343)) && !(r == 65533)
def badAt (s : Str) (i : Nat) : Bool := (oneM s i).2 == 0 || !goodR (oneM s i).1 || ((oneM s i).2 == 3 && decide ((oneM s i).1 < 2048)) || ((oneM s i).2 == 4 && decide ((oneM s i).1 < 65536))
theorem get_at (s : Str) (k : Nat) : ((⟨s.toArray⟩ : ByteArray).get! k).toNat = byteAt s k := by
  unfold byteAt
  show (s.toArray[k]!).toNat = _
  simp [List.getElem!_eq_getElem?_getD]
  rfl
theorem cont_b (L i c : Nat) (hc : c < 256) : (decide (i < L) && (c / 64 == 2)) = decide (i < L ∧ 128 ≤ c ∧ c ≤ 191) := by
  rw [Bool.eq_iff_iff]
  simp only [Bool.and_eq_true, decide_eq_true_eq, beq_iff_eq]
  omega
/-- the plain arithmetic of it -/
def decA (c0 c1 c2 c3 : Nat) (k1 k2 k3 : Bool) : Nat × Nat :=
  if c0 < 128 then (c0, 1)
  else if (c0 / 32 == 6 && k1) = true then (if c0 % 32 * 64 + c1 % 64 ≥ 128 then (c0 % 32 * 64 + c1 % 64, 2) else (65533, 1))
  else if (c0 / 16 == 14 && k1 && k2) = true then (if (decide (c0 % 16 * 4096 + c1 % 64 * 64 + c2 % 64 ≥ 2048) && Utf8.valid ((c0 % 16 * 4096 + c1 % 64 * 64 + c2 % 64 : Nat) : Int)) = true then (c0 % 16 * 4096 + c1 % 64 * 64 + c2 % 64, 3) else (65533, 1))
  else if (c0 / 8 == 30 && k1 && k2 && k3) = true then (if (decide (c0 % 8 * 262144 + c1 % 64 * 4096 + c2 % 64 * 64 + c3 % 64 ≥ 65536) && Utf8.valid ((c0 % 8 * 262144 + c1 % 64 * 4096 + c2 % 64 * 64 + c3 % 64 : Nat) : Int)) = true then (c0 % 8 * 262144 + c1 % 64 * 4096 + c2 % 64 * 64 + c3 % 64, 4) else (65533, 1))
  else (65533, 1)
theorem dec_A (s : Str) (i : Nat) : dec (s.drop i) = decA (byteAt s i) (byteAt s (i + 1)) (byteAt s (i + 2)) (byteAt s (i + 3)) (contAt s (i + 1)) (contAt s (i + 2)) (contAt s (i + 3)) := by
  have hsz : (⟨s.toArray⟩ : ByteArray).size = s.length := by simp [ByteArray.size]
  rw [← decode_drop]
  unfold Utf8.decode decA contAt
  simp only [get_at, hsz, Nat.add_zero, Utf8.runeError]
  rw [cont_b _ _ _ (byteAt_lt s (i + 1)), cont_b _ _ _ (byteAt_lt s (i + 2)), cont_b _ _ _ (byteAt_lt s (i + 3))]

def oneA (c0 c1 c2 c3 : Int) (k1 k2 k3 : Bool) : Int × Int :=
  if c0 < 128 then (c0, 1)
  else if c0 ≥ 194 ∧ c0 ≤ 223 ∧ k1 = true then ((c0 - 192) * 64 + (if k1 = true then c1 - 128 else 0), 2)
  else if c0 ≥ 224 ∧ c0 ≤ 239 ∧ k1 = true ∧ k2 = true then ((c0 - 224) * 4096 + (if k1 = true then c1 - 128 else 0) * 64 + (if k2 = true then c2 - 128 else 0), 3)
  else if c0 ≥ 240 ∧ c0 ≤ 244 ∧ k1 = true ∧ k2 = true ∧ k3 = true then ((c0 - 240) * 262144 + (if k1 = true then c1 - 128 else 0) * 4096 + (if k2 = true then c2 - 128 else 0) * 64 + (if k3 = true then c3 - 128 else 0), 4)
  else (0, 0)
theorem one_A (s : Str) (i : Nat) : oneM s i = oneA (byteAt s i) (byteAt s (i + 1)) (byteAt s (i + 2)) (byteAt s (i + 3)) (contAt s (i + 1)) (contAt s (i + 2)) (contAt s (i + 3)) := rfl
def badP (p : Int × Int) : Prop := p.2 = 0 ∨ ¬ (p.1 ≥ 0 ∧ p.1 ≤ 1114111 ∧ (p.1 < 55296 ∨ p.1 > 57343) ∧ p.1 ≠ 65533) ∨ (p.2 = 3 ∧ p.1 < 2048) ∨ (p.2 = 4 ∧ p.1 < 65536)
theorem bad_P (s : Str) (i : Nat) : badAt s i = true ↔ badP (oneM s i) := by
  unfold badAt badP goodR
  generalize (oneM s i).1 = r
  generalize (oneM s i).2 = n
  simp only [Bool.or_eq_true, Bool.and_eq_true, beq_iff_eq, decide_eq_true_eq, Bool.not_eq_true', Bool.and_eq_false_iff, Bool.or_eq_false_iff, decide_eq_false_iff_not, Bool.not_eq_false']
  omega
theorem valid_P (n : Nat) : Utf8.valid (n : Int) = decide (n < 55296 ∨ (57344 ≤ n ∧ n ≤ 1114111)) := by
  unfold Utf8.valid
  rw [Bool.eq_iff_iff]
  simp only [Bool.or_eq_true, Bool.and_eq_true, decide_eq_true_eq]
  omega
theorem arith (c0 c1 c2 c3 : Nat) (h0 : c0 < 256) (k1 k2 k3 : Bool) (h1 : k1 = true → 128 ≤ c1 ∧ c1 ≤ 191) (h2 : k2 = true → 128 ≤ c2 ∧ c2 ≤ 191) (h3 : k3 = true → 128 ≤ c3 ∧ c3 ≤ 191) :
    (badP (oneA c0 c1 c2 c3 k1 k2 k3) → (decA c0 c1 c2 c3 k1 k2 k3).1 = 65533) ∧
    (¬ badP (oneA c0 c1 c2 c3 k1 k2 k3) → ((decA c0 c1 c2 c3 k1 k2 k3).1 : Int) = (oneA c0 c1 c2 c3 k1 k2 k3).1 ∧ ((decA c0 c1 c2 c3 k1 k2 k3).2 : Int) = (oneA c0 c1 c2 c3 k1 k2 k3).2 ∧ (oneA c0 c1 c2 c3 k1 k2 k3).1 ≠ 65533) := by
  unfold decA oneA badP
  simp only [valid_P]
  cases k1 <;> cases k2 <;> cases k3 <;> simp only [Bool.and_true, Bool.and_false, Bool.false_eq_true, if_false, if_true, and_false, and_true, false_and, true_and, forall_const, false_implies, beq_iff_eq, Bool.and_eq_true, decide_eq_true_eq] at * <;> (repeat' split) <;> first | (simp only at *; omega) | omega
theorem dec_at (s : Str) (i : Nat) : (badAt s i = true → (dec (s.drop i)).1 = 65533) ∧ (badAt s i = false → ((dec (s.drop i)).1 : Int) = (oneM s i).1 ∧ ((dec (s.drop i)).2 : Int) = (oneM s i).2 ∧ (oneM s i).1 ≠ 65533) := by
  have hc : ∀ k, contAt s k = true → 128 ≤ byteAt s k ∧ byteAt s k ≤ 191 := fun k h => by unfold contAt at h; exact (of_decide_eq_true h).2
  have h := arith (byteAt s i) (byteAt s (i + 1)) (byteAt s (i + 2)) (byteAt s (i + 3)) (byteAt_lt s i) _ _ _ (hc (i + 1)) (hc (i + 2)) (hc (i + 3))
  rw [← dec_A, ← one_A] at h
  refine ⟨fun hb => h.1 ((bad_P s i).1 hb), fun hb => h.2 (fun hp => ?_)⟩
  rw [(bad_P s i).2 hp] at hb; cases hb

/-! what the walks ask -/
theorem cont_iff {s : Str} {i : Nat} : contAt s i = true ↔ (i < s.length ∧ 128 ≤ byteAt s i ∧ byteAt s i ≤ 191) := by unfold contAt; exact decide_eq_true_iff
theorem cont_yes {s : Str} {i : Nat} (h : i < s.length ∧ 128 ≤ byteAt s i ∧ byteAt s i ≤ 191) : true = contAt s i := (cont_iff.2 h).symm
theorem cont_no {s : Str} {i : Nat} (h : ¬ (i < s.length ∧ 128 ≤ byteAt s i ∧ byteAt s i ≤ 191)) : false = contAt s i := by
  cases hc : contAt s i with
  | false => rfl
  | true => exact absurd (cont_iff.1 hc) h
theorem more_yes {s : Str} {i : Nat} (h : i < s.length ∧ 128 ≤ byteAt s i ∧ byteAt s i ≤ 191) : ((byteAt s i : Nat) : Int) - 128 = moreV s i := by
  unfold moreV; rw [if_pos (cont_iff.2 h)]
theorem more_no {s : Str} {i : Nat} (h : ¬ (i < s.length ∧ 128 ≤ byteAt s i ∧ byteAt s i ≤ 191)) : (0 : Int) = moreV s i := by
  unfold moreV; rw [if_neg (fun hc => h (cont_iff.1 hc))]
theorem more_range (s : Str) (i : Nat) : 0 ≤ moreV s i ∧ moreV s i ≤ 63 := by
  unfold moreV
  split
  · rename_i h; have := cont_iff.1 h; omega
  · omega
theorem one_1 {s : Str} {i : Nat} (h : ((byteAt s i : Nat) : Int) < 128) : ((byteAt s i : Nat) : Int) = (oneM s i).1 ∧ (1 : Int) = (oneM s i).2 := by
  unfold oneM; simp only; rw [if_pos h]; exact ⟨rfl, rfl⟩
theorem one_2 {s : Str} {i : Nat} (h : ¬ ((byteAt s i : Nat) : Int) < 128) (h2 : ((byteAt s i : Nat) : Int) ≥ 194 ∧ ((byteAt s i : Nat) : Int) ≤ 223 ∧ contAt s (i + 1) = true) :
    (((byteAt s i : Nat) : Int) - 192) * 64 + moreV s (i + 1) = (oneM s i).1 ∧ (2 : Int) = (oneM s i).2 := by
  unfold oneM; simp only; rw [if_neg h, if_pos h2]; exact ⟨rfl, rfl⟩
theorem one_3 {s : Str} {i : Nat} (h : ¬ ((byteAt s i : Nat) : Int) < 128) (h2 : ¬ (((byteAt s i : Nat) : Int) ≥ 194 ∧ ((byteAt s i : Nat) : Int) ≤ 223 ∧ contAt s (i + 1) = true))
    (h3 : ((byteAt s i : Nat) : Int) ≥ 224 ∧ ((byteAt s i : Nat) : Int) ≤ 239 ∧ contAt s (i + 1) = true ∧ contAt s (i + 2) = true) :
    (((byteAt s i : Nat) : Int) - 224) * 4096 + moreV s (i + 1) * 64 + moreV s (i + 2) = (oneM s i).1 ∧ (3 : Int) = (oneM s i).2 := by
  unfold oneM; simp only; rw [if_neg h, if_neg h2, if_pos h3]; exact ⟨rfl, rfl⟩
theorem one_4 {s : Str} {i : Nat} (h : ¬ ((byteAt s i : Nat) : Int) < 128) (h2 : ¬ (((byteAt s i : Nat) : Int) ≥ 194 ∧ ((byteAt s i : Nat) : Int) ≤ 223 ∧ contAt s (i + 1) = true))
    (h3 : ¬ (((byteAt s i : Nat) : Int) ≥ 224 ∧ ((byteAt s i : Nat) : Int) ≤ 239 ∧ contAt s (i + 1) = true ∧ contAt s (i + 2) = true))
    (h4 : ((byteAt s i : Nat) : Int) ≥ 240 ∧ ((byteAt s i : Nat) : Int) ≤ 244 ∧ contAt s (i + 1) = true ∧ contAt s (i + 2) = true ∧ contAt s (i + 3) = true) :
    (((byteAt s i : Nat) : Int) - 240) * 262144 + moreV s (i + 1) * 4096 + moreV s (i + 2) * 64 + moreV s (i + 3) = (oneM s i).1 ∧ (4 : Int) = (oneM s i).2 := by
  unfold oneM; simp only; rw [if_neg h, if_neg h2, if_neg h3, if_pos h4]; exact ⟨rfl, rfl⟩
theorem one_0 {s : Str} {i : Nat} (h : ¬ ((byteAt s i : Nat) : Int) < 128) (h2 : ¬ (((byteAt s i : Nat) : Int) ≥ 194 ∧ ((byteAt s i : Nat) : Int) ≤ 223 ∧ contAt s (i + 1) = true))
    (h3 : ¬ (((byteAt s i : Nat) : Int) ≥ 224 ∧ ((byteAt s i : Nat) : Int) ≤ 239 ∧ contAt s (i + 1) = true ∧ contAt s (i + 2) = true))
    (h4 : ¬ (((byteAt s i : Nat) : Int) ≥ 240 ∧ ((byteAt s i : Nat) : Int) ≤ 244 ∧ contAt s (i + 1) = true ∧ contAt s (i + 2) = true ∧ contAt s (i + 3) = true)) :
    (0 : Int) = (oneM s i).1 ∧ (0 : Int) = (oneM s i).2 := by
  unfold oneM; simp only; rw [if_neg h, if_neg h2, if_neg h3, if_neg h4]; exact ⟨rfl, rfl⟩
theorem one_range (s : Str) (i : Nat) : 0 ≤ (oneM s i).1 ∧ (oneM s i).1 ≤ 1500000 ∧ 0 ≤ (oneM s i).2 ∧ (oneM s i).2 ≤ 4 := by
  have h0 := byteAt_lt s i
  have h1 := more_range s (i + 1); have h2 := more_range s (i + 2); have h3 := more_range s (i + 3)
  unfold oneM
  simp only
  repeat' split
  all_goals (simp only; omega)
theorem one_fits (s : Str) (i : Nat) (hi : i < s.length) : (i : Int) + (oneM s i).2 ≤ s.length := by
  unfold oneM
  simp only
  repeat' split
  all_goals simp only
  · omega
  · rename_i h; have := (cont_iff.1 h.2.2).1; omega
  · rename_i h; have := (cont_iff.1 h.2.2.2).1; omega
  · rename_i h; have := (cont_iff.1 h.2.2.2.2).1; omega
  · omega
theorem good_d (r : Int) : goodR r = decide (0 ≤ r ∧ r ≤ 1114111 ∧ (r < 55296 ∨ r > 57343) ∧ r ≠ 65533) := by
  unfold goodR
  rw [Bool.eq_iff_iff]
  simp only [Bool.and_eq_true, Bool.or_eq_true, decide_eq_true_eq, Bool.not_eq_true', beq_eq_false_iff_ne]
  omega
theorem good_ne {r : Int} {b : Bool} (h : 0 ≤ r ∧ r ≤ 1114111 ∧ (r < 55296 ∨ r > 57343)) (hb : b = (r != 65533)) : b = goodR r := by
  rw [hb, good_d, Bool.eq_iff_iff]
  simp only [bne_iff_ne, decide_eq_true_eq]
  omega
theorem good_no {r : Int} (h : ¬ (0 ≤ r ∧ r ≤ 1114111 ∧ (r < 55296 ∨ r > 57343))) : false = goodR r := by
  rw [good_d, decide_eq_false (by omega)]

/-- runes, read one by one -/
structure RunInv (s : Str) (i : Nat) (l : List Int) : Prop where
  ex : ∃ pre, Scan s i pre ∧ l = pre.map (fun n : Nat => (n : Int)) ∧ 65533 ∉ pre
def runesI (s : Str) : List Int := (runes s).map fun n : Nat => (n : Int)
def fineT (s : Str) : Bool := decide (65533 ∉ runes s)
theorem RunInv.start (s : Str) : RunInv s 0 [] := ⟨⟨[], Scan.start s, rfl, by simp⟩⟩
theorem RunInv.next {s : Str} {i j : Nat} {l : List Int} (h : RunInv s i l) (hi : i < s.length) (hb : badAt s i = false) (hj : (j : Int) = (i : Int) + (oneM s i).2) : RunInv s j (l ++ [(oneM s i).1]) := by
  obtain ⟨pre, h1, h2, h3⟩ := h.ex
  have hd := (dec_at s i).2 hb
  have hne : s.drop i ≠ [] := fun e => by have := congrArg List.length e; simp at this; omega
  have hn := h1.next hne
  have e : j = i + (dec (s.drop i)).2 := by omega
  rw [e]
  refine ⟨⟨_, hn, by rw [h2, List.map_append, ← hd.1]; rfl, ?_⟩⟩
  simp only [List.mem_append, List.mem_singleton, not_or]
  exact ⟨h3, fun e => by have := hd.1; rw [← e] at this; exact hd.2.2 this.symm⟩
theorem RunInv.bad {s : Str} {i : Nat} {l : List Int} (h : RunInv s i l) (hi : i < s.length) (hb : badAt s i = true) : false = fineT s := by
  obtain ⟨pre, h1, h2, h3⟩ := h.ex
  have hne : s.drop i ≠ [] := fun e => by have := congrArg List.length e; simp at this; omega
  have := h1.mem hne
  rw [(dec_at s i).1 hb] at this
  unfold fineT; simp [this]
theorem RunInv.fin {s : Str} {i : Nat} {l : List Int} (h : RunInv s i l) (hi : s.length ≤ i) : l = runesI s ∧ true = fineT s := by
  obtain ⟨pre, h1, h2, h3⟩ := h.ex
  have := h1.done (List.drop_of_length_le hi)
  refine ⟨by rw [h2, runesI, this], ?_⟩
  unfold fineT; rw [this]; simp [h3]
theorem RunInv.len {s : Str} {i : Nat} {l : List Int} (h : RunInv s i l) : l.length ≤ i := by
  obtain ⟨pre, h1, h2, h3⟩ := h.ex
  rw [h2, List.length_map]; exact h1.len
theorem lenT_ref (s : Str) : lenT s = if fineT s = true then ((runesI s).length : Int) else -1 := by
  unfold lenT fineT runesI
  by_cases h : 65533 ∈ runes s
  · simp [h]
  · simp [h]
theorem bad_no {s : Str} {i : Nat} (h0 : (oneM s i).2 ≠ 0) (hg : goodR (oneM s i).1 = true) (h3 : ¬ ((oneM s i).2 = 3 ∧ (oneM s i).1 < 2048)) (h4 : ¬ ((oneM s i).2 = 4 ∧ (oneM s i).1 < 65536)) : badAt s i = false := by
  cases hb : badAt s i with
  | false => rfl
  | true =>
    have := (bad_P s i).1 hb
    rw [good_d] at hg
    have := of_decide_eq_true hg
    unfold badP at *
    omega
theorem bad_yes {s : Str} {i : Nat} (h : (oneM s i).2 = 0 ∨ ((oneM s i).2 = 3 ∧ (oneM s i).1 < 2048) ∨ ((oneM s i).2 = 4 ∧ (oneM s i).1 < 65536)) : badAt s i = true := by
  rw [bad_P]; unfold badP; omega
theorem bad_good {s : Str} {i : Nat} (h : goodR (oneM s i).1 = false) : badAt s i = true := by
  rw [bad_P]; unfold badP
  rw [good_d] at h
  have := of_decide_eq_false h
  omega
def runesM (s : Str) : List Int := if fineT s = true then runesI s else []
theorem runesM_no {s : Str} (h : false = fineT s) : [] = runesM s := by unfold runesM; rw [← h]; rfl
theorem runesM_yes {s : Str} (h : true = fineT s) : runesI s = runesM s := by unfold runesM; rw [← h]; rfl
theorem lenT_refM (s : Str) : lenT s = if fineT s = true then ((runesM s).length : Int) else -1 := by
  rw [lenT_ref]
  by_cases h : fineT s = true
  · rw [if_pos h, if_pos h, runesM, if_pos h]
  · rw [if_neg h, if_neg h]
theorem rlen_no {s : Str} (h : fineT s = false) : (-1 : Int) = lenT s := by rw [lenT_refM, h]; rfl
theorem rlen_yes {s : Str} (h : fineT s = true) : (((runesM s).length : Nat) : Int) = lenT s := by rw [lenT_refM, if_pos h]
/-- bytes compared one by one -/
structure CmpInv (a b : Str) (i : Nat) : Prop where
  eq : Lib.compareBytes a b = Lib.compareBytes (a.drop i) (b.drop i)
theorem CmpInv.start (a b : Str) : CmpInv a b 0 := ⟨rfl⟩
theorem drop_at {s : Str} {i : Nat} (h : i < s.length) : s.drop i = s[i] :: s.drop (i + 1) := List.drop_eq_getElem_cons h
theorem byteAt_eq {s : Str} {i : Nat} (h : i < s.length) : byteAt s i = s[i].toNat := by unfold byteAt; rw [List.getElem?_eq_getElem h]; rfl
theorem CmpInv.lt {a b : Str} {i : Nat} (h : CmpInv a b i) (ha : i < a.length) (hb : i < b.length) (hc : byteAt a i < byteAt b i) : (-1 : Int) = Lib.compareBytes a b := by
  rw [byteAt_eq ha, byteAt_eq hb] at hc
  rw [h.eq, drop_at ha, drop_at hb, Lib.compareBytes, if_pos (UInt8.lt_iff_toNat_lt.2 hc)]
theorem CmpInv.gt {a b : Str} {i : Nat} (h : CmpInv a b i) (ha : i < a.length) (hb : i < b.length) (hc : byteAt b i < byteAt a i) : (1 : Int) = Lib.compareBytes a b := by
  rw [byteAt_eq ha, byteAt_eq hb] at hc
  rw [h.eq, drop_at ha, drop_at hb, Lib.compareBytes, if_neg (fun hh => by have := UInt8.lt_iff_toNat_lt.1 hh; omega), if_pos (UInt8.lt_iff_toNat_lt.2 hc)]
theorem CmpInv.next {a b : Str} {i : Nat} (h : CmpInv a b i) (ha : i < a.length) (hb : i < b.length) (hc : byteAt a i = byteAt b i) : CmpInv a b (i + 1) := by
  rw [byteAt_eq ha, byteAt_eq hb] at hc
  refine ⟨?_⟩
  rw [h.eq, drop_at ha, drop_at hb, Lib.compareBytes, if_neg (fun hh => by have := UInt8.lt_iff_toNat_lt.1 hh; omega), if_neg (fun hh => by have := UInt8.lt_iff_toNat_lt.1 hh; omega)]
theorem CmpInv.fin {a b : Str} {i : Nat} (h : CmpInv a b i) (he : a.length ≤ i ∨ b.length ≤ i) (hia : i ≤ a.length) (hib : i ≤ b.length) {r : Int} (hr : (a.length < b.length ∧ r = -1) ∨ (b.length < a.length ∧ r = 1) ∨ (a.length = b.length ∧ r = 0)) : r = Lib.compareBytes a b := by
  rw [h.eq]
  rcases hr with ⟨h1, h2⟩ | ⟨h1, h2⟩ | ⟨h1, h2⟩
  · have hb : i < b.length := by omega
    rw [List.drop_of_length_le (show a.length ≤ i by omega), drop_at hb, h2]; rfl
  · have ha : i < a.length := by omega
    rw [List.drop_of_length_le (show b.length ≤ i by omega), drop_at ha, h2]; rfl
  · rw [List.drop_of_length_le (show a.length ≤ i by omega), List.drop_of_length_le (show b.length ≤ i by omega), h2]; rfl
end Go.Ml
/-
  A rune's bytes and back: encoding and decoding of runes that are well made; no program in sight.
-/
set_option linter.unusedVariables false
set_option linter.unusedSimpArgs false
namespace Go.Ml
open Go.Ik

/-- a rune that may stand in a text -/
def goodN (c : Nat) : Prop := c ≤ 1114111 ∧ (c < 55296 ∨ 57343 < c) ∧ c ≠ 65533
def by8 (n : Nat) : UInt8 := UInt8.ofNat n
/-- its bytes -/
def encL (c : Nat) : Str :=
  if c < 128 then [by8 c] else if c < 2048 then [by8 (192 + c / 64), by8 (128 + c % 64)]
  else if c < 65536 then [by8 (224 + c / 4096), by8 (128 + c / 64 % 64), by8 (128 + c % 64)]
  else [by8 (240 + c / 262144), by8 (128 + c / 4096 % 64), by8 (128 + c / 64 % 64), by8 (128 + c % 64)]
theorem encR_gen (r : Int) (h : Utf8.valid r = true) : encR r = encL r.toNat := by
  unfold encR Utf8.encode encL by8
  simp only [h, if_true]
  by_cases h1 : r.toNat < 128
  · rw [if_pos h1, if_pos h1]
  · rw [if_neg h1, if_neg h1]
    by_cases h2 : r.toNat < 2048
    · rw [if_pos h2, if_pos h2]
    · rw [if_neg h2, if_neg h2]
      by_cases h3 : r.toNat < 65536
      · rw [if_pos h3, if_pos h3]
      · rw [if_neg h3, if_neg h3]
theorem encR_L {c : Nat} (h : goodN c) : encR (c : Int) = encL c := by
  have hv : Utf8.valid (c : Int) = true := by rw [valid_P]; exact decide_eq_true (by unfold goodN at h; omega)
  have := encR_gen _ hv
  rwa [Int.toNat_natCast] at this
theorem by8_toNat (n : Nat) : (by8 n).toNat = n % 256 := by unfold by8; simp
theorem by8_at (s : Str) (k : Nat) (h : k < s.length) : by8 (byteAt s k) = s[k] := by
  rw [byteAt_eq h]; unfold by8; simp
theorem by8_congr {a b : Nat} (h : a = b) : by8 a = by8 b := by rw [h]
theorem take_one {s : Str} (h : 1 ≤ s.length) : s.take 1 = [by8 (byteAt s 0)] := by
  rw [by8_at s 0 (by omega)]
  match s, h with
  | a :: r, _ => rfl
theorem take_two {s : Str} (h : 2 ≤ s.length) : s.take 2 = [by8 (byteAt s 0), by8 (byteAt s 1)] := by
  rw [by8_at s 0 (by omega), by8_at s 1 (by omega)]
  match s, h with
  | a :: b :: r, _ => rfl
theorem take_three {s : Str} (h : 3 ≤ s.length) : s.take 3 = [by8 (byteAt s 0), by8 (byteAt s 1), by8 (byteAt s 2)] := by
  rw [by8_at s 0 (by omega), by8_at s 1 (by omega), by8_at s 2 (by omega)]
  match s, h with
  | a :: b :: c :: r, _ => rfl
theorem take_four {s : Str} (h : 4 ≤ s.length) : s.take 4 = [by8 (byteAt s 0), by8 (byteAt s 1), by8 (byteAt s 2), by8 (byteAt s 3)] := by
  rw [by8_at s 0 (by omega), by8_at s 1 (by omega), by8_at s 2 (by omega), by8_at s 3 (by omega)]
  match s, h with
  | a :: b :: c :: d :: r, _ => rfl

/-- a decoded rune that is well made, encoded again, is the bytes that were read -/
theorem enc_dec {s : Str} (hs : s ≠ []) (h : (dec s).1 ≠ 65533) : goodN (dec s).1 ∧ encL (dec s).1 = s.take (dec s).2 := by
  have hl : 1 ≤ s.length := by cases s with | nil => exact absurd rfl hs | cons a r => simp
  have hd := dec_A s 0
  rw [List.drop_zero] at hd
  rw [hd] at h ⊢
  have b0 := byteAt_lt s 0; have b1 := byteAt_lt s 1; have b2 := byteAt_lt s 2; have b3 := byteAt_lt s 3
  have c1 : contAt s 1 = true → 1 < s.length ∧ 128 ≤ byteAt s 1 ∧ byteAt s 1 ≤ 191 := fun h => cont_iff.1 h
  have c2 : contAt s 2 = true → 2 < s.length ∧ 128 ≤ byteAt s 2 ∧ byteAt s 2 ≤ 191 := fun h => cont_iff.1 h
  have c3 : contAt s 3 = true → 3 < s.length ∧ 128 ≤ byteAt s 3 ∧ byteAt s 3 ≤ 191 := fun h => cont_iff.1 h
  simp only [Nat.zero_add] at h ⊢
  unfold decA at h ⊢
  simp only [valid_P, Bool.and_eq_true, beq_iff_eq, decide_eq_true_eq] at h ⊢
  split
  · rename_i h0
    refine ⟨⟨by omega, by omega, by omega⟩, ?_⟩
    unfold encL
    rw [if_pos h0, take_one hl]
  · rename_i h0
    rw [if_neg h0] at h
    split
    · rename_i h1
      rw [if_pos h1] at h
      have := c1 h1.2
      split
      · rename_i h2
        rw [if_pos h2] at h
        refine ⟨⟨by omega, by omega, h⟩, ?_⟩
        simp only
        unfold encL
        rw [if_neg (by omega), if_pos (by omega), take_two (by omega)]
        congr 1
        · exact by8_congr (by omega)
        · congr 1; exact by8_congr (by omega)
      · rename_i h2; rw [if_neg h2] at h; exact absurd rfl h
    · rename_i h1
      rw [if_neg h1] at h
      split
      · rename_i h2
        rw [if_pos h2] at h
        have := c1 h2.1.2; have := c2 h2.2
        split
        · rename_i h3
          rw [if_pos h3] at h
          simp only at h
          refine ⟨⟨by omega, by omega, h⟩, ?_⟩
          simp only
          unfold encL
          rw [if_neg (by omega), if_neg (by omega), if_pos (by omega), take_three (by omega)]
          congr 1
          · exact by8_congr (by omega)
          · congr 1
            · exact by8_congr (by omega)
            · congr 1; exact by8_congr (by omega)
        · rename_i h3; rw [if_neg h3] at h; exact absurd rfl h
      · rename_i h2
        rw [if_neg h2] at h
        split
        · rename_i h3
          rw [if_pos h3] at h
          have := c1 h3.1.1.2; have := c2 h3.1.2; have := c3 h3.2
          split
          · rename_i h4
            rw [if_pos h4] at h
            simp only at h
            refine ⟨⟨by omega, by omega, h⟩, ?_⟩
            simp only
            unfold encL
            rw [if_neg (by omega), if_neg (by omega), if_neg (by omega), take_four (by omega)]
            congr 1
            · exact by8_congr (by omega)
            · congr 1
              · exact by8_congr (by omega)
              · congr 1
                · exact by8_congr (by omega)
                · congr 1; exact by8_congr (by omega)
          · rename_i h4; rw [if_neg h4] at h; exact absurd rfl h
        · rename_i h3; rw [if_neg h3] at h; exact absurd rfl h

theorem at0 (a : UInt8) (s : Str) : byteAt (a :: s) 0 = a.toNat := rfl
theorem at1 (a b : UInt8) (s : Str) : byteAt (a :: b :: s) 1 = b.toNat := rfl
theorem at2 (a b c : UInt8) (s : Str) : byteAt (a :: b :: c :: s) 2 = c.toNat := rfl
theorem at3 (a b c d : UInt8) (s : Str) : byteAt (a :: b :: c :: d :: s) 3 = d.toNat := rfl
theorem cont_pos {s : Str} {k : Nat} (h : k < s.length ∧ 128 ≤ byteAt s k ∧ byteAt s k ≤ 191) : contAt s k = true := cont_iff.2 h
/-- a rune's bytes, read, are the rune -/
theorem dec_enc {c : Nat} (h : goodN c) (t : Str) : dec (encL c ++ t) = (c, (encL c).length) := by
  have hd := dec_A (encL c ++ t) 0
  rw [List.drop_zero] at hd
  rw [hd]
  obtain ⟨h1, h2, h3⟩ := h
  unfold encL
  simp only [Nat.zero_add]
  split
  · rename_i h0
    simp only [List.cons_append, List.nil_append, at0, by8_toNat]
    unfold decA
    rw [if_pos (by omega)]
    simp only [List.length_cons, List.length_nil, Prod.mk.injEq, and_true]; omega
  · rename_i h0
    split
    · rename_i h00
      have k1 : contAt ([by8 (192 + c / 64), by8 (128 + c % 64)] ++ t) 1 = true := cont_pos (by simp only [List.cons_append, List.nil_append, at1, by8_toNat, List.length_cons]; omega)
      rw [k1]
      simp only [List.cons_append, List.nil_append, at0, at1, by8_toNat]
      unfold decA
      rw [if_neg (by omega), if_pos (by simp only [Bool.and_true, beq_iff_eq]; omega), if_pos (by omega)]
      simp only [List.length_cons, List.length_nil, Prod.mk.injEq, and_true]; omega
    · rename_i h00
      split
      · rename_i h000
        have k1 : contAt ([by8 (224 + c / 4096), by8 (128 + c / 64 % 64), by8 (128 + c % 64)] ++ t) 1 = true := cont_pos (by simp only [List.cons_append, List.nil_append, at1, by8_toNat, List.length_cons]; omega)
        have k2 : contAt ([by8 (224 + c / 4096), by8 (128 + c / 64 % 64), by8 (128 + c % 64)] ++ t) 2 = true := cont_pos (by simp only [List.cons_append, List.nil_append, at2, by8_toNat, List.length_cons]; omega)
        rw [k1, k2]
        simp only [List.cons_append, List.nil_append, at0, at1, at2, by8_toNat]
        unfold decA
        rw [if_neg (by omega), if_neg (by simp only [Bool.and_true, beq_iff_eq]; omega), if_pos (by simp only [Bool.and_true, beq_iff_eq]; omega), if_pos (by rw [valid_P]; simp only [Bool.and_eq_true, decide_eq_true_eq]; omega)]
        simp only [List.length_cons, List.length_nil, Prod.mk.injEq, and_true]; omega
      · rename_i h000
        have k1 : contAt ([by8 (240 + c / 262144), by8 (128 + c / 4096 % 64), by8 (128 + c / 64 % 64), by8 (128 + c % 64)] ++ t) 1 = true := cont_pos (by simp only [List.cons_append, List.nil_append, at1, by8_toNat, List.length_cons]; omega)
        have k2 : contAt ([by8 (240 + c / 262144), by8 (128 + c / 4096 % 64), by8 (128 + c / 64 % 64), by8 (128 + c % 64)] ++ t) 2 = true := cont_pos (by simp only [List.cons_append, List.nil_append, at2, by8_toNat, List.length_cons]; omega)
        have k3 : contAt ([by8 (240 + c / 262144), by8 (128 + c / 4096 % 64), by8 (128 + c / 64 % 64), by8 (128 + c % 64)] ++ t) 3 = true := cont_pos (by simp only [List.cons_append, List.nil_append, at3, by8_toNat, List.length_cons]; omega)
        rw [k1, k2, k3]
        simp only [List.cons_append, List.nil_append, at0, at1, at2, at3, by8_toNat]
        unfold decA
        rw [if_neg (by omega), if_neg (by simp only [Bool.and_true, beq_iff_eq]; omega), if_neg (by simp only [Bool.and_true, beq_iff_eq]; omega), if_pos (by simp only [Bool.and_true, beq_iff_eq]; omega), if_pos (by rw [valid_P]; simp only [Bool.and_eq_true, decide_eq_true_eq]; omega)]
        simp only [List.length_cons, List.length_nil, Prod.mk.injEq, and_true]; omega

/-- a text without odd bytes -/
def Fine (s : Str) : Prop := 65533 ∉ runes s
theorem fine_iff {s : Str} : fineT s = true ↔ Fine s := by unfold fineT Fine; exact decide_eq_true_iff
theorem Fine.nil : Fine [] := by unfold Fine; rw [runes_nil]; simp
theorem fine_cons {s : Str} (hs : s ≠ []) : Fine s ↔ (dec s).1 ≠ 65533 ∧ Fine (s.drop (dec s).2) := by
  unfold Fine
  rw [runes_cons hs, List.mem_cons, not_or]
  exact ⟨fun h => ⟨fun e => h.1 e.symm, h.2⟩, fun h => ⟨fun e => h.1 e.symm, h.2⟩⟩
theorem Fine.split {s : Str} (h : Fine s) (hs : s ≠ []) : goodN (dec s).1 ∧ s = encL (dec s).1 ++ s.drop (dec s).2 ∧ Fine (s.drop (dec s).2) := by
  have h1 := (fine_cons hs).1 h
  have h2 := enc_dec hs h1.1
  exact ⟨h2.1, by rw [h2.2, List.take_append_drop], h1.2⟩
theorem encL_ne (c : Nat) : encL c ≠ [] := by
  unfold encL; repeat' split
  all_goals simp
theorem encL_pos (c : Nat) : 1 ≤ (encL c).length := by
  unfold encL; repeat' split
  all_goals simp
theorem Fine.app {c : Nat} {t : Str} (hc : goodN c) (ht : Fine t) : Fine (encL c ++ t) := by
  have hne : encL c ++ t ≠ [] := by simp [encL_ne]
  rw [fine_cons hne, dec_enc hc t]
  simp only [List.drop_left]
  exact ⟨hc.2.2, ht⟩
theorem runes_app {c : Nat} (hc : goodN c) (t : Str) : runes (encL c ++ t) = c :: runes t := by
  have hne : encL c ++ t ≠ [] := by simp [encL_ne]
  rw [runes_cons hne, dec_enc hc t]
  simp only [List.drop_left]
/-- a text of runes -/
def encT (rs : List Nat) : Str := rs.flatMap encL
theorem runes_encT : ∀ (rs : List Nat), (∀ c ∈ rs, goodN c) → runes (encT rs) = rs
  | [], _ => runes_nil
  | c :: rs, h => by
    show runes (encL c ++ encT rs) = _
    rw [runes_app (h c (by simp)), runes_encT rs fun c hc => h c (by simp [hc])]
theorem fine_encT (rs : List Nat) (h : ∀ c ∈ rs, goodN c) : Fine (encT rs) := by
  unfold Fine
  rw [runes_encT rs h]
  exact fun hm => (h _ hm).2.2 rfl
theorem fine_ind {p : Str → Prop} (h0 : p []) (h1 : ∀ c t, goodN c → Fine t → p t → p (encL c ++ t)) : ∀ s, Fine s → p s := by
  have : ∀ n s, s.length ≤ n → Fine s → p s := by
    intro n
    induction n with
    | zero => intro s hs _; have : s = [] := List.eq_nil_of_length_eq_zero (by omega); subst this; exact h0
    | succ n ih =>
      intro s hs hf
      by_cases he : s = []
      · subst he; exact h0
      · obtain ⟨g1, g2, g3⟩ := hf.split he
        have := dec_pos s he
        rw [g2]
        exact h1 _ _ g1 g3 (ih _ (by rw [List.length_drop]; omega) g3)
  exact fun s hf => this _ s (Nat.le_refl _) hf
theorem encT_runes (s : Str) (h : Fine s) : encT (runes s) = s ∧ ∀ c ∈ runes s, goodN c := by
  revert s
  refine fine_ind ⟨by rw [runes_nil]; rfl, by rw [runes_nil]; simp⟩ ?_
  intro c t hc ht ih
  rw [runes_app hc]
  refine ⟨by show encL c ++ encT (runes t) = _; rw [ih.1], fun d hd => ?_⟩
  rcases List.mem_cons.1 hd with rfl | hd
  · exact hc
  · exact ih.2 d hd
theorem lenT_fine {s : Str} (h : Fine s) : lenT s = ((runes s).length : Int) := by unfold lenT; rw [if_neg h]
theorem fine_of_len {s : Str} (h : 0 ≤ lenT s) : Fine s := by
  unfold lenT at h
  split at h
  · omega
  · assumption
theorem fine_of_word {s : Str} (h : word s = true) : Fine s ∧ 1 ≤ (runes s).length ∧ (runes s).length ≤ 12 := by
  unfold word at h
  simp only [Bool.and_eq_true, decide_eq_true_eq] at h
  have hf := fine_of_len (by omega : 0 ≤ lenT s)
  rw [lenT_fine hf] at h
  exact ⟨hf, by omega, by omega⟩
/-- no rune's bytes begin another one's -/
theorem encL_inj {a b : Nat} {s t : Str} (ha : goodN a) (hb : goodN b) (h : encL a ++ s = encL b ++ t) : a = b ∧ s = t := by
  have h1 := dec_enc ha s
  rw [h, dec_enc hb t] at h1
  simp only [Prod.mk.injEq] at h1
  obtain ⟨h2, h3⟩ := h1
  subst h2
  exact ⟨rfl, List.append_cancel_left h⟩
end Go.Ml
/-
  The order of texts, lists in order, what is made of two lists in order; no program in sight.
-/
set_option linter.unusedVariables false
set_option linter.unusedSimpArgs false
namespace Go.Ml
open Go.Ik

/-! the order of texts -/
def ltT (a b : Str) : Prop := Lib.compareBytes a b < 0
theorem cmp_refl : ∀ (a : Str), Lib.compareBytes a a = 0
  | [] => rfl
  | a :: x => by unfold Lib.compareBytes; rw [if_neg (by simp), if_neg (by simp)]; exact cmp_refl x
theorem cmp_eq : ∀ {a b : Str}, Lib.compareBytes a b = 0 → a = b
  | [], [], _ => rfl
  | [], _ :: _, h => by simp [Lib.compareBytes] at h
  | _ :: _, [], h => by simp [Lib.compareBytes] at h
  | a :: x, b :: y, h => by
    unfold Lib.compareBytes at h
    split at h
    · simp at h
    · split at h
      · simp at h
      · rename_i h1 h2
        have : a = b := by
          apply UInt8.le_antisymm
          · exact UInt8.not_lt.1 h2
          · exact UInt8.not_lt.1 h1
        rw [this, cmp_eq h]
theorem cmp_anti : ∀ (a b : Str), Lib.compareBytes a b = - Lib.compareBytes b a
  | [], [] => rfl
  | [], _ :: _ => by simp [Lib.compareBytes]
  | _ :: _, [] => by simp [Lib.compareBytes]
  | a :: x, b :: y => by
    unfold Lib.compareBytes
    by_cases h1 : a < b
    · have h2 : ¬ b < a := UInt8.lt_asymm h1
      simp [h1, h2]
    · by_cases h2 : b < a
      · simp [h1, h2]
      · simp only [h1, h2, if_false]; exact cmp_anti x y
theorem lt_trans : ∀ {a b c : Str}, ltT a b → ltT b c → ltT a c
  | [], [], _, h, _ => by simp [ltT, Lib.compareBytes] at h
  | [], _ :: _, [], _, h => by simp [ltT, Lib.compareBytes] at h
  | [], _ :: _, _ :: _, _, _ => by simp [ltT, Lib.compareBytes]
  | _ :: _, [], _, h, _ => by simp [ltT, Lib.compareBytes] at h
  | _ :: _, _ :: _, [], _, h => by simp [ltT, Lib.compareBytes] at h
  | a :: x, b :: y, c :: z, h1, h2 => by
    unfold ltT Lib.compareBytes at *
    by_cases ab : a < b
    · by_cases bc : b < c
      · simp [UInt8.lt_trans ab bc]
      · by_cases cb : c < b
        · simp [bc, cb] at h2
        · have : b = c := UInt8.le_antisymm (UInt8.not_lt.1 cb) (UInt8.not_lt.1 bc)
          subst this; simp [ab]
    · by_cases ba : b < a
      · simp [ab, ba] at h1
      · have : a = b := UInt8.le_antisymm (UInt8.not_lt.1 ba) (UInt8.not_lt.1 ab)
        subst this
        simp only [ab, if_false] at h1
        by_cases bc : a < c
        · simp [bc]
        · by_cases cb : c < a
          · simp [bc, cb] at h2
          · simp only [bc, cb, if_false] at h2 ⊢
            exact lt_trans (a := x) (b := y) (c := z) h1 h2
theorem lt_irrefl (a : Str) : ¬ ltT a a := by unfold ltT; rw [cmp_refl]; omega
theorem lt_tri {a b : Str} (h : ¬ Lib.compareBytes a b < 0) (hn : a ≠ b) : ltT b a := by
  have h1 := cmp_anti b a
  have h2 : Lib.compareBytes a b ≠ 0 := fun e => hn (cmp_eq e)
  unfold ltT; omega
/-- in order, each once -/
def Sorted (l : List Str) : Prop := l.Pairwise ltT
theorem rising_sorted : ∀ {l : List Str}, rising l = true → Sorted l
  | [], _ => List.Pairwise.nil
  | [a], _ => by simp [Sorted]
  | a :: b :: r, h => by
    simp only [rising, Bool.and_eq_true, decide_eq_true_eq] at h
    have ih := rising_sorted h.2
    refine List.Pairwise.cons (fun x hx => ?_) ih
    rcases List.mem_cons.1 hx with rfl | hx
    · exact h.1
    · exact lt_trans h.1 (List.rel_of_pairwise_cons ih hx)
theorem sorted_rising : ∀ {l : List Str}, Sorted l → rising l = true
  | [], _ => rfl
  | [a], _ => rfl
  | a :: b :: r, h => by
    have h' := List.pairwise_cons.1 h
    simp only [rising, Bool.and_eq_true, decide_eq_true_eq]
    exact ⟨h'.1 b (by simp), sorted_rising h'.2⟩
theorem sorted_ext : ∀ {a b : List Str}, Sorted a → Sorted b → (∀ x, x ∈ a ↔ x ∈ b) → a = b
  | [], [], _, _, _ => rfl
  | [], y :: b, _, _, h => by have := (h y).2 (by simp); simp at this
  | x :: a, [], _, _, h => by have := (h x).1 (by simp); simp at this
  | x :: a, y :: b, ha, hb, h => by
    have ha' := List.pairwise_cons.1 ha
    have hb' := List.pairwise_cons.1 hb
    have hxy : x = y := by
      rcases List.mem_cons.1 ((h x).1 (by simp)) with e | hx
      · exact e
      · rcases List.mem_cons.1 ((h y).2 (by simp)) with e | hy
        · exact e.symm
        · exact absurd (lt_trans (ha'.1 y hy) (hb'.1 x hx)) (lt_irrefl x)
    subst hxy
    congr 1
    refine sorted_ext ha'.2 hb'.2 fun z => ⟨fun hz => ?_, fun hz => ?_⟩
    · rcases List.mem_cons.1 ((h z).1 (by simp [hz])) with e | h1
      · subst e; exact absurd (ha'.1 z hz) (lt_irrefl z)
      · exact h1
    · rcases List.mem_cons.1 ((h z).2 (by simp [hz])) with e | h1
      · subst e; exact absurd (hb'.1 z hz) (lt_irrefl z)
      · exact h1
theorem merge_mem : ∀ (n : Nat) (a b : List Str) (z : Str), a.length + b.length ≤ n → (z ∈ mergeL a b ↔ z ∈ a ∨ z ∈ b)
  | n, [], b, z, _ => by rw [merge_nil_left]; simp
  | n, x :: a, [], z, _ => by rw [merge_nil_right]; simp
  | 0, x :: a, y :: b, z, h => by simp at h
  | n + 1, x :: a, y :: b, z, h => by
    simp only [List.length_cons] at h
    rw [mergeL]
    split
    · rw [List.mem_cons, merge_mem n a (y :: b) z (by simp only [List.length_cons]; omega), List.mem_cons (b := x), or_assoc]
    · split
      · rename_i h2; subst h2
        rw [merge_mem n a (x :: b) z (by simp only [List.length_cons]; omega)]
        simp only [List.mem_cons]
        constructor
        · rintro (h | h | h) <;> simp [h]
        · rintro ((h | h) | h | h) <;> simp [h]
      · rw [List.mem_cons, merge_mem n (x :: a) b z (by simp only [List.length_cons]; omega)]
        simp only [List.mem_cons]
        constructor
        · rintro (h | (h | h) | h) <;> simp [h]
        · rintro ((h | h) | h | h) <;> simp [h]
theorem mem_merge {a b : List Str} {z : Str} : z ∈ mergeL a b ↔ z ∈ a ∨ z ∈ b := merge_mem _ a b z (Nat.le_refl _)
theorem merge_sorted' : ∀ (n : Nat) (a b : List Str), a.length + b.length ≤ n → Sorted a → Sorted b → Sorted (mergeL a b)
  | n, [], b, _, _, hb => by rw [merge_nil_left]; exact hb
  | n, x :: a, [], _, ha, _ => by rw [merge_nil_right]; exact ha
  | 0, x :: a, y :: b, h, _, _ => by simp at h
  | n + 1, x :: a, y :: b, h, ha, hb => by
    simp only [List.length_cons] at h
    have ha' := List.pairwise_cons.1 ha
    have hb' := List.pairwise_cons.1 hb
    rw [mergeL]
    split
    · rename_i hc
      refine List.Pairwise.cons (fun z hz => ?_) (merge_sorted' n a (y :: b) (by simp only [List.length_cons]; omega) ha'.2 hb)
      rcases mem_merge.1 hz with hz | hz
      · exact ha'.1 z hz
      · rcases List.mem_cons.1 hz with rfl | hz
        · exact hc
        · exact lt_trans hc (hb'.1 z hz)
    · split
      · exact merge_sorted' n a (y :: b) (by simp only [List.length_cons]; omega) ha'.2 hb
      · rename_i hc hn
        have hlt := lt_tri hc hn
        refine List.Pairwise.cons (fun z hz => ?_) (merge_sorted' n (x :: a) b (by simp only [List.length_cons]; omega) ha hb'.2)
        rcases mem_merge.1 hz with hz | hz
        · rcases List.mem_cons.1 hz with rfl | hz
          · exact hlt
          · exact lt_trans hlt (ha'.1 z hz)
        · exact hb'.1 z hz
theorem merge_sorted {a b : List Str} (ha : Sorted a) (hb : Sorted b) : Sorted (mergeL a b) := merge_sorted' _ a b (Nat.le_refl _) ha hb
theorem merge_len' : ∀ (n : Nat) (a b : List Str), a.length + b.length ≤ n → (mergeL a b).length ≤ a.length + b.length
  | n, [], b, _ => by rw [merge_nil_left]; simp
  | n, x :: a, [], _ => by rw [merge_nil_right]; simp
  | 0, x :: a, y :: b, h => by simp at h
  | n + 1, x :: a, y :: b, h => by
    simp only [List.length_cons] at h ⊢
    rw [mergeL]
    split
    · have := merge_len' n a (y :: b) (by simp only [List.length_cons]; omega)
      simp only [List.length_cons] at this ⊢; omega
    · split
      · have := merge_len' n a (y :: b) (by simp only [List.length_cons]; omega)
        simp only [List.length_cons] at this ⊢; omega
      · have := merge_len' n (x :: a) b (by simp only [List.length_cons]; omega)
        simp only [List.length_cons] at this ⊢; omega
theorem merge_len (a b : List Str) : (mergeL a b).length ≤ a.length + b.length := merge_len' _ a b (Nat.le_refl _)
theorem good_words {l : List Str} (h : goodL l = 0) : l.length ≤ 60 ∧ (∀ w ∈ l, word w = true) ∧ Sorted l := by
  unfold goodL at h
  split at h
  · omega
  · split at h
    · split at h
      · rename_i h1 h2 h3
        exact ⟨by omega, fun w hw => List.all_eq_true.1 h2 w hw, rising_sorted h3⟩
      · omega
    · omega
end Go.Ml
/-
  Chapter 8: graphs of words; nodes are sets of rests; no program in sight.
-/
set_option linter.unusedVariables false
set_option linter.unusedSimpArgs false
namespace Go.Ml
open Go.Ik

structure Ed where
  rune : Int
  to : Int
  deriving DecidableEq, Repr
def encE (x : Ed) : List Value := [.int .i32 x.rune, .int .i64 x.to]
theorem encE_len (x : Ed) : (encE x).length = 2 := rfl
theorem encE_one (x : Ed) : (encE x).all (·.oneCell') = true := rfl

/-! rests by their first runes -/
def hdN (s : Str) : Nat := (dec s).1
def wdN (s : Str) : Nat := (dec s).2
def pfx (s : Str) : Str := s.take (dec s).2
def stripP (p : Str) (l : List Str) : List Str := (l.takeWhile fun t => p.isPrefixOf t).map fun t => t.drop p.length
def moreP (p : Str) (l : List Str) : List Str := l.dropWhile fun t => p.isPrefixOf t
def groupsF : Nat → List Str → List (Nat × List Str)
  | 0, _ => []
  | _ + 1, [] => []
  | n + 1, s :: r => (hdN s, stripP (pfx s) (s :: r)) :: groupsF n (moreP (pfx s) (s :: r))
def groups (l : List Str) : List (Nat × List Str) := groupsF l.length l
theorem pfx_is (s : Str) : (pfx s).isPrefixOf s = true := by
  rw [List.isPrefixOf_iff_prefix]; exact List.take_prefix _ _
theorem more_len (s : Str) (r : List Str) : (moreP (pfx s) (s :: r)).length ≤ r.length := by
  unfold moreP
  rw [List.dropWhile_cons, if_pos (pfx_is s)]
  exact (List.dropWhile_suffix _).length_le
theorem groupsF_enough : ∀ (n m : Nat) (l : List Str), l.length ≤ n → l.length ≤ m → groupsF n l = groupsF m l
  | 0, 0, _, _, _ => rfl
  | 0, m + 1, l, h, _ => by have : l = [] := List.eq_nil_of_length_eq_zero (by omega); subst this; rfl
  | n + 1, 0, l, _, h => by have : l = [] := List.eq_nil_of_length_eq_zero (by omega); subst this; rfl
  | n + 1, m + 1, [], _, _ => rfl
  | n + 1, m + 1, s :: r, h1, h2 => by
    have := more_len s r
    simp only [List.length_cons] at h1 h2
    simp only [groupsF]
    rw [groupsF_enough n m _ (by omega) (by omega)]
theorem groups_nil : groups [] = [] := rfl
theorem groups_cons (s : Str) (r : List Str) : groups (s :: r) = (hdN s, stripP (pfx s) (s :: r)) :: groups (moreP (pfx s) (s :: r)) := by
  have := more_len s r
  show groupsF (r.length + 1) (s :: r) = _
  simp only [groupsF]
  rw [groupsF_enough r.length _ _ this (Nat.le_refl _)]
  rfl

/-! the order of texts and their beginnings -/
theorem cmp_cons (a b : UInt8) (s t : Str) : Lib.compareBytes (a :: s) (b :: t) = if a < b then -1 else if b < a then 1 else Lib.compareBytes s t := rfl
theorem cmp_app (p s t : Str) : Lib.compareBytes (p ++ s) (p ++ t) = Lib.compareBytes s t := by
  induction p with
  | nil => rfl
  | cons a p ih => simp only [List.cons_append, cmp_cons]; rw [if_neg (by simp), if_neg (by simp), ih]
/-- what stands between two that begin alike begins so too -/
theorem between : ∀ (p a b u : Str), Lib.compareBytes (p ++ a) u < 0 → Lib.compareBytes u (p ++ b) < 0 → p.isPrefixOf u = true
  | [], _, _, _, _, _ => rfl
  | x :: p, a, b, [], h, _ => by simp [Lib.compareBytes] at h
  | x :: p, a, b, y :: u, h1, h2 => by
    simp only [List.cons_append, cmp_cons] at h1 h2
    by_cases hxy : x < y
    · have : ¬ y < x := UInt8.lt_asymm hxy
      rw [if_neg this, if_pos hxy] at h2; omega
    · rw [if_neg hxy] at h1
      by_cases hyx : y < x
      · rw [if_pos hyx] at h1; omega
      · have e : x = y := UInt8.le_antisymm (UInt8.not_lt.1 hyx) (UInt8.not_lt.1 hxy)
        subst e
        rw [if_neg hyx] at h1
        rw [if_neg hyx, if_neg hyx] at h2
        simp only [List.isPrefixOf, beq_self_eq_true, Bool.true_and]
        exact between p a b u h1 h2

/-- rests that may be: in order, made well -/
structure GoodR (l : List Str) : Prop where
  sorted : Sorted l
  fine : ∀ s ∈ l, Fine s
theorem GoodR.tail {s : Str} {r : List Str} (h : GoodR (s :: r)) : GoodR r := ⟨(List.pairwise_cons.1 h.sorted).2, fun t ht => h.fine t (by simp [ht])⟩
theorem sorted_suffix {l m : List Str} (h : Sorted l) (hs : m <:+ l) : Sorted m := h.sublist hs.sublist
theorem GoodR.more {l : List Str} (h : GoodR l) (p : Str) : GoodR (moreP p l) :=
  ⟨sorted_suffix h.sorted (List.dropWhile_suffix _), fun t ht => h.fine t ((List.dropWhile_suffix _).subset ht)⟩
theorem mem_takeWhile {α : Type} {p : α → Bool} : ∀ {l : List α} {x : α}, x ∈ l.takeWhile p → p x = true ∧ x ∈ l
  | [], x, h => by simp at h
  | y :: l, x, h => by
    rw [List.takeWhile_cons] at h
    split at h
    · rename_i hy
      rcases List.mem_cons.1 h with rfl | h
      · exact ⟨hy, by simp⟩
      · exact ⟨(mem_takeWhile h).1, by simp [(mem_takeWhile h).2]⟩
    · simp at h
theorem prefix_drop {p t : Str} (h : p.isPrefixOf t = true) : t = p ++ t.drop p.length := by
  rw [List.isPrefixOf_iff_prefix] at h
  obtain ⟨u, rfl⟩ := h
  simp
theorem strip_mem {p : Str} {l : List Str} {t : Str} (h : t ∈ stripP p l) : p ++ t ∈ l := by
  unfold stripP at h
  obtain ⟨u, hu, rfl⟩ := List.mem_map.1 h
  have := mem_takeWhile hu
  rw [← prefix_drop this.1]; exact this.2
theorem strip_app (p : Str) (l : List Str) : (stripP p l).map (p ++ ·) ++ moreP p l = l := by
  unfold stripP moreP
  rw [List.map_map]
  have : (l.takeWhile fun t => p.isPrefixOf t).map ((p ++ ·) ∘ fun t => t.drop p.length) = l.takeWhile fun t => p.isPrefixOf t := by
    conv => rhs; rw [← List.map_id (l.takeWhile fun t => p.isPrefixOf t)]
    exact List.map_congr_left fun t ht => (prefix_drop (mem_takeWhile ht).1).symm
  rw [this, List.takeWhile_append_dropWhile]
/-- behind a beginning's group nothing begins so -/
theorem more_not {s : Str} {r : List Str} (h : GoodR (s :: r)) {p : Str} (hp : p.isPrefixOf s = true) : ∀ t ∈ moreP p (s :: r), p.isPrefixOf t = false := by
  intro t ht
  cases hb : p.isPrefixOf t with
  | false => rfl
  | true =>
    exfalso
    have hs : moreP p (s :: r) <:+ s :: r := List.dropWhile_suffix _
    cases hm : moreP p (s :: r) with
    | nil => rw [hm] at ht; simp at ht
    | cons u m =>
      have hu : p.isPrefixOf u = false := by
        have := List.head?_dropWhile_not (fun t => p.isPrefixOf t) (s :: r)
        unfold moreP at hm
        rw [hm] at this
        simpa using this
      rw [hm] at ht
      have hso := sorted_suffix h.sorted hs
      rw [hm] at hso
      have hus : u ≠ s := fun e => by rw [e, hp] at hu; cases hu
      have hum : u ∈ s :: r := hs.subset (by rw [hm]; simp)
      have h1 : ltT s u := by
        rcases List.mem_cons.1 hum with e | e
        · exact absurd e hus
        · exact (List.pairwise_cons.1 h.sorted).1 u e
      rcases List.mem_cons.1 ht with rfl | ht
      · rw [hb] at hu; cases hu
      · have h2 : ltT u t := (List.pairwise_cons.1 hso).1 t ht
        have e1 := prefix_drop hp
        have e2 := prefix_drop hb
        have := between p (s.drop p.length) (t.drop p.length) u (by rw [← e1]; exact h1) (by rw [← e2]; exact h2)
        rw [this] at hu; cases hu
theorem strip_good {s : Str} {r : List Str} (h : GoodR (s :: r)) (hs : s ≠ []) : GoodR (stripP (pfx s) (s :: r)) := by
  have hsp := (h.fine s (by simp)).split hs
  have hp : pfx s = encL (hdN s) := (enc_dec hs ((fine_cons hs).1 (h.fine s (by simp))).1).2.symm
  refine ⟨?_, fun t ht => ?_⟩
  · have : Sorted ((stripP (pfx s) (s :: r)).map (pfx s ++ ·)) := h.sorted.sublist (by
      conv => rhs; rw [← strip_app (pfx s) (s :: r)]
      exact List.sublist_append_left _ _)
    unfold Sorted at this ⊢
    rw [List.pairwise_map] at this
    exact this.imp fun {a b} hab => by unfold ltT at hab ⊢; rwa [cmp_app] at hab
  · have hm := h.fine _ (strip_mem ht)
    rw [hp] at hm
    have h2 := (fine_cons (by simp [encL_ne]) : Fine (encL (hdN s) ++ t) ↔ _).1 hm
    have e := dec_enc hsp.1 t
    unfold hdN at h2
    rw [e] at h2
    simpa using h2.2
/-- what groups are: all of them, in order, by runes that part -/
structure GroupsOk (l : List Str) (gs : List (Nat × List Str)) : Prop where
  all : gs.flatMap (fun g => g.2.map (encL g.1 ++ ·)) = l
  good : ∀ g ∈ gs, goodN g.1 ∧ g.2 ≠ [] ∧ GoodR g.2
  part : gs.Pairwise fun a b => a.1 ≠ b.1
theorem groups_ok : ∀ (n : Nat) (l : List Str), l.length ≤ n → GoodR l → (∀ s ∈ l, s ≠ []) → GroupsOk l (groups l)
  | _, [], _, _, _ => ⟨rfl, by simp [groups_nil], by simp [groups_nil]⟩
  | 0, s :: r, h, _, _ => by simp at h
  | n + 1, s :: r, hn, h, hne => by
    have hl := more_len s r
    simp only [List.length_cons] at hn
    have hs := hne s (by simp)
    have hf := h.fine s (by simp)
    have hsp := hf.split hs
    have hp : pfx s = encL (hdN s) := (enc_dec hs ((fine_cons hs).1 hf).1).2.symm
    have ih := groups_ok n (moreP (pfx s) (s :: r)) (by omega) (h.more _) (fun t ht => hne t ((List.dropWhile_suffix _).subset ht))
    rw [groups_cons]
    refine ⟨?_, ?_, ?_⟩
    · simp only [List.flatMap_cons]
      rw [ih.all, ← hp, strip_app]
    · intro g hg
      rcases List.mem_cons.1 hg with rfl | hg
      · refine ⟨hsp.1, ?_, strip_good h hs⟩
        unfold stripP
        rw [List.takeWhile_cons, if_pos (pfx_is s)]; simp
      · exact ih.good g hg
    · refine List.pairwise_cons.2 ⟨fun g hg e => ?_, ih.part⟩
      have hgg := ih.good g hg
      obtain ⟨t, ht⟩ : ∃ t, t ∈ g.2 := by
        cases hg2 : g.2 with
        | nil => exact absurd hg2 hgg.2.1
        | cons t _ => exact ⟨t, by simp⟩
      have hm : encL g.1 ++ t ∈ moreP (pfx s) (s :: r) := by
        rw [← ih.all]
        exact List.mem_flatMap.2 ⟨g, hg, List.mem_map.2 ⟨t, ht, rfl⟩⟩
      have := more_not h (pfx_is s) _ hm
      rw [hp, ← e] at this
      have hpre : (encL (hdN s)).isPrefixOf (encL (hdN s) ++ t) = true := by rw [List.isPrefixOf_iff_prefix]; exact List.prefix_append _ _
      simp only at this
      rw [hpre] at this; cases this

/-! the graph, added from a node on -/
abbrev GS := List (List Str × List Ed)
def dropE : List Str → List Str
  | [] :: r => r
  | l => l
def edgesM (add : GS → List Str → GS × Nat) : GS → List (Nat × List Str) → GS × List Ed
  | s, [] => (s, [])
  | s, g :: gs => ((edgesM add (add s g.2).1 gs).1, ⟨(g.1 : Int), ((add s g.2).2 : Int)⟩ :: (edgesM add (add s g.2).1 gs).2)
def addM : Nat → GS → List Str → GS × Nat
  | 0, s, _ => (s, 0)
  | f + 1, s, rests =>
    match s.findIdx? fun x => x.1 == rests with
    | some i => (s, i)
    | none => ((edgesM (addM f) (s ++ [(rests, [])]) (groups (dropE rests))).1.set s.length (rests, (edgesM (addM f) (s ++ [(rests, [])]) (groups (dropE rests))).2), s.length)
/-- the graph of words -/
def graphM (words : List Str) : GS := (addM 13 [] words).1

/-- a node's edges lead, rune by rune, to the nodes of its rests' groups -/
def Corr (s : GS) (x : List Str × List Ed) : Prop := All2 (fun g e => e.rune = (g.1 : Int) ∧ ∃ (j : Nat) (es : List Ed), e.to = (j : Int) ∧ s[j]? = some (g.2, es)) (groups (dropE x.1)) x.2
def Deep (n : Nat) (l : List Str) : Prop := ∀ t ∈ l, (runes t).length ≤ n
structure NodeOk (s : GS) (n : Nat) (x : List Str × List Ed) : Prop where
  corr : Corr s x
  good : GoodR x.1
  ne : x.1 ≠ []
  deep : Deep n x.1
def names (s : GS) : List (List Str) := s.map Prod.fst
theorem findIdx_some {s : GS} {r : List Str} {i : Nat} (h : (s.findIdx? fun x => x.1 == r) = some i) : ∃ es, s[i]? = some (r, es) := by
  obtain ⟨h1, h2, _⟩ := List.findIdx?_eq_some_iff_getElem.1 h
  refine ⟨s[i].2, ?_⟩
  rw [List.getElem?_eq_getElem h1]
  have : s[i].1 = r := by simpa using h2
  rw [← this]
theorem findIdx_none {s : GS} {r : List Str} (h : (s.findIdx? fun x => x.1 == r) = none) : r ∉ names s := by
  intro hm
  obtain ⟨x, hx, rfl⟩ := List.mem_map.1 hm
  have := List.findIdx?_eq_none_iff.1 h x hx
  simp at this
theorem dropE_good {l : List Str} (h : GoodR l) : GoodR (dropE l) ∧ (∀ s ∈ dropE l, s ≠ []) := by
  cases l with
  | nil => exact ⟨h, by simp [dropE]⟩
  | cons a r =>
    cases a with
    | nil =>
      refine ⟨h.tail, fun s hs e => ?_⟩
      have := (List.pairwise_cons.1 h.sorted).1 s hs
      subst e
      exact lt_irrefl _ this
    | cons x a =>
      refine ⟨h, fun s hs e => ?_⟩
      subst e
      rcases List.mem_cons.1 hs with e | hs
      · cases e
      · have := (List.pairwise_cons.1 h.sorted).1 _ hs
        simp [ltT, Lib.compareBytes] at this
theorem dropE_mem {l : List Str} {t : Str} (h : t ∈ dropE l) : t ∈ l := by
  cases l with
  | nil => exact h
  | cons a r =>
    cases a with
    | nil => exact List.mem_cons_of_mem _ h
    | cons x a => exact h
theorem deep_groups {n : Nat} {l : List Str} (hg : GoodR l) (h : Deep (n + 1) l) : ∀ g ∈ groups (dropE l), Deep n g.2 := by
  intro g hgm t ht
  have hd := dropE_good hg
  have ok := groups_ok _ _ (Nat.le_refl _) hd.1 hd.2
  have hm : encL g.1 ++ t ∈ dropE l := by
    rw [← ok.all]
    exact List.mem_flatMap.2 ⟨g, hgm, List.mem_map.2 ⟨t, ht, rfl⟩⟩
  have := h _ (dropE_mem hm)
  rw [runes_app (ok.good g hgm).1] at this
  simp only [List.length_cons] at this
  omega
theorem Corr.grow {s s' : GS} {x : List Str × List Ed} (h : Corr s x) (hs : ∀ (j : Nat) (r : List Str) (es : List Ed), s[j]? = some (r, es) → ∃ es', s'[j]? = some (r, es')) : Corr s' x :=
  All2.imp (fun g e ⟨h1, j, es, h2, h3⟩ => ⟨h1, j, (hs j _ _ h3).choose, h2, (hs j _ _ h3).choose_spec⟩) h
theorem NodeOk.grow {s s' : GS} {n m : Nat} {x : List Str × List Ed} (h : NodeOk s n x) (hs : ∀ (j : Nat) (r : List Str) (es : List Ed), s[j]? = some (r, es) → ∃ es', s'[j]? = some (r, es')) (hm : n ≤ m) : NodeOk s' m x :=
  ⟨h.corr.grow hs, h.good, h.ne, fun t ht => Nat.le_trans (h.deep t ht) hm⟩
theorem grow_app (s t : GS) : ∀ (j : Nat) (r : List Str) (es : List Ed), s[j]? = some (r, es) → ∃ es', (s ++ t)[j]? = some (r, es') := fun j r es h => ⟨es, by rw [List.getElem?_append_left (List.getElem?_eq_some_iff.1 h).1]; exact h⟩

/-- what adding does: nodes behind those that were there, all as they should be -/
structure AddOk (n : Nat) (s : GS) (rests : List Str) (q : GS × Nat) : Prop where
  tail : ∃ t, q.1 = s ++ t ∧ ∀ x ∈ t, NodeOk q.1 n x
  here : ∃ es, q.1[q.2]? = some (rests, es)
  apart : (names q.1).Nodup
structure EdgesOk (n : Nat) (s : GS) (gs : List (Nat × List Str)) (q : GS × List Ed) : Prop where
  tail : ∃ t, q.1 = s ++ t ∧ ∀ x ∈ t, NodeOk q.1 n x
  edges : All2 (fun g e => e.rune = ((g.1 : Nat) : Int) ∧ ∃ (j : Nat) (es : List Ed), e.to = (j : Int) ∧ q.1[j]? = some (g.2, es)) gs q.2
  apart : (names q.1).Nodup
theorem edgesM_ok {n : Nat} {add : GS → List Str → GS × Nat} : ∀ (gs : List (Nat × List Str)) (s : GS), (∀ g ∈ gs, ∀ s, (names s).Nodup → AddOk n s g.2 (add s g.2)) → (names s).Nodup → EdgesOk n s gs (edgesM add s gs)
  | [], s, _, hd => ⟨⟨[], by simp [edgesM], by simp⟩, .nil, hd⟩
  | g :: gs, s, hadd, hd => by
    have h1 := hadd g (by simp) s hd
    have h2 := edgesM_ok gs (add s g.2).1 (fun g' hg' => hadd g' (by simp [hg'])) h1.apart
    obtain ⟨t1, e1, k1⟩ := h1.tail
    obtain ⟨t2, e2, k2⟩ := h2.tail
    refine ⟨⟨t1 ++ t2, ?_, ?_⟩, ?_, h2.apart⟩
    · show (edgesM add (add s g.2).1 gs).1 = _
      rw [e2, e1, List.append_assoc]
    · intro x hx
      show NodeOk (edgesM add (add s g.2).1 gs).1 n x
      rcases List.mem_append.1 hx with hx | hx
      · rw [e2]
        exact (k1 x hx).grow (grow_app _ _) (Nat.le_refl _)
      · exact k2 x hx
    · refine .cons ⟨rfl, (add s g.2).2, ?_⟩ h2.edges
      obtain ⟨es, he⟩ := h1.here
      refine ⟨es, rfl, ?_⟩
      show (edgesM add (add s g.2).1 gs).1[_]? = _
      rw [e2, List.getElem?_append_left (List.getElem?_eq_some_iff.1 he).1]; exact he
theorem names_set {s : GS} {i : Nat} {r : List Str} {es es' : List Ed} (h : s[i]? = some (r, es)) : names (s.set i (r, es')) = names s := by
  unfold names
  rw [List.map_set]
  refine List.ext_getElem? fun j => ?_
  rw [List.getElem?_set]
  split
  · rename_i hij
    subst hij
    have hlt := (List.getElem?_eq_some_iff.1 h).1
    rw [if_pos (by simpa using hlt), List.getElem?_map, h]; rfl
  · rfl
theorem addM_ok : ∀ (f : Nat) (s : GS) (rests : List Str), Deep f rests → GoodR rests → rests ≠ [] → (names s).Nodup → AddOk f s rests (addM (f + 1) s rests)
  | f, s, rests, hd, hg, hne, hn => by
    unfold addM
    cases hi : s.findIdx? fun x => x.1 == rests with
    | some i => exact ⟨⟨[], by simp, by simp⟩, findIdx_some hi, hn⟩
    | none =>
      simp only
      have hno := findIdx_none hi
      have hn1 : (names (s ++ [(rests, [])])).Nodup := by
        unfold names
        rw [List.map_append, List.nodup_append]
        refine ⟨hn, by simp, fun a ha b hb => ?_⟩
        simp only [List.map_cons, List.map_nil, List.mem_singleton] at hb
        subst hb
        exact fun e => hno (by rw [← e]; exact ha)
      have hdr := dropE_good hg
      have ok := groups_ok _ _ (Nat.le_refl _) hdr.1 hdr.2
      have hedges : EdgesOk (f - 1) (s ++ [(rests, [])]) (groups (dropE rests)) (edgesM (addM f) (s ++ [(rests, [])]) (groups (dropE rests))) := by
        refine edgesM_ok _ _ (fun g hgm s' hs' => ?_) hn1
        cases f with
        | zero =>
          exfalso
          obtain ⟨t, ht⟩ : ∃ t, t ∈ g.2 := by
            cases hg2 : g.2 with
            | nil => exact absurd hg2 (ok.good g hgm).2.1
            | cons t _ => exact ⟨t, by simp⟩
          have hm : encL g.1 ++ t ∈ dropE rests := by
            rw [← ok.all]
            exact List.mem_flatMap.2 ⟨g, hgm, List.mem_map.2 ⟨t, ht, rfl⟩⟩
          have := hd _ (dropE_mem hm)
          rw [runes_app (ok.good g hgm).1] at this
          simp at this
        | succ f =>
          have h1 := addM_ok f s' g.2 (deep_groups hg hd g hgm) (ok.good g hgm).2.2 (ok.good g hgm).2.1 hs'
          exact h1
      generalize edgesM (addM f) (s ++ [(rests, [])]) (groups (dropE rests)) = q at hedges
      obtain ⟨t, e1, k1⟩ := hedges.tail
      have hat : q.1[s.length]? = some (rests, []) := by rw [e1]; simp
      have hset : q.1.set s.length (rests, q.2) = s ++ (rests, q.2) :: t := by
        rw [e1, List.append_assoc, List.set_append_right _ _ (Nat.le_refl _)]
        simp
      have hgr : ∀ (j : Nat) (r : List Str) (es : List Ed), q.1[j]? = some (r, es) → ∃ es', (q.1.set s.length (rests, q.2))[j]? = some (r, es') := by
        intro j r es hj
        by_cases hjs : s.length = j
        · subst hjs
          rw [hat] at hj
          simp only [Option.some.injEq, Prod.mk.injEq] at hj
          refine ⟨q.2, ?_⟩
          rw [List.getElem?_set_self (List.getElem?_eq_some_iff.1 hat).1, hj.1]
        · exact ⟨es, by rw [List.getElem?_set_ne hjs]; exact hj⟩
      refine ⟨⟨(rests, q.2) :: t, hset, fun x hx => ?_⟩, ⟨q.2, ?_⟩, ?_⟩
      · rcases List.mem_cons.1 hx with rfl | hx
        · refine ⟨?_, hg, hne, hd⟩
          exact All2.imp (fun g e ⟨h1, j, es, h2, h3⟩ => ⟨h1, j, (hgr j _ _ h3).choose, h2, (hgr j _ _ h3).choose_spec⟩) hedges.edges
        · exact (k1 x hx).grow hgr (by omega)
      · show (q.1.set s.length (rests, q.2))[s.length]? = _
        rw [List.getElem?_set_self (List.getElem?_eq_some_iff.1 hat).1]
      · show (names (q.1.set s.length (rests, q.2))).Nodup
        rw [names_set hat]; exact hedges.apart

/-- a graph of words, whole -/
structure WFG (s : GS) (words : List Str) : Prop where
  root : ∃ es, s[0]? = some (words, es)
  node : ∀ x ∈ s, NodeOk s 12 x
  apart : (names s).Nodup
theorem graphM_ok {words : List Str} (hd : Deep 12 words) (hg : GoodR words) (hne : words ≠ []) : WFG (graphM words) words := by
  have h := addM_ok 12 [] words hd hg hne (by simp [names])
  obtain ⟨t, e, k⟩ := h.tail
  have hidx : (addM 13 [] words).2 = 0 := by
    unfold addM; simp
  refine ⟨?_, fun x hx => ?_, h.apart⟩
  · have := h.here
    rw [hidx] at this; exact this
  · unfold graphM at hx ⊢
    rw [e] at hx
    exact k x (by simpa using hx)
theorem good_deep {l : List Str} (h : goodL l = 0) : GoodR l ∧ Deep 12 l := by
  have hw := good_words h
  exact ⟨⟨hw.2.2, fun s hs => (fine_of_word (hw.2.1 s hs)).1⟩, fun s hs => (fine_of_word (hw.2.1 s hs)).2.2⟩
end Go.Ml
/-
  Slices that are made and written: rows of zeros, elements stored, spare room that is lent.
-/
set_option linter.unusedVariables false
set_option linter.unusedSimpArgs false
namespace Go.Ik
open Go

section
variable {α : Type} {enc : α → List Value} {e : TypeId} {sz : Nat} {w : World} {g : Nat} {v : Value} {l : List α}

theorem flat_set (hsz : ∀ x, (enc x).length = sz) : ∀ (l : List α) (i : Nat) (x : α) (h : i < l.length), (l.set i x).flatMap enc = (l.flatMap enc).take (i * sz) ++ enc x ++ (l.flatMap enc).drop (i * sz + sz)
  | y :: l, 0, x, _ => by
    have e1 : (enc y ++ l.flatMap enc).drop sz = l.flatMap enc := by rw [← hsz y]; exact List.drop_left
    simp only [List.set_cons_zero, List.flatMap_cons, Nat.zero_mul, List.take_zero, List.nil_append, Nat.zero_add, e1]
  | y :: l, i + 1, x, h => by
    have ih := flat_set hsz l i x (by simpa using h)
    have e1 : (i + 1) * sz = (enc y).length + i * sz := by rw [hsz, Nat.add_mul]; omega
    have e2 : (i + 1) * sz + sz = (enc y).length + (i * sz + sz) := by rw [e1, Nat.add_assoc]
    simp only [List.set_cons_succ, List.flatMap_cons]
    rw [e1, Nat.add_assoc, List.take_append, List.drop_append, List.take_of_length_le (by omega), List.drop_of_length_le (by omega), Nat.add_sub_cancel_left, Nat.add_sub_cancel_left, ih]
    simp

/-- where an element of an own slice lies -/
theorem Acc.at (h : Acc enc e sz w g v l) {P : Program} {t : TypeId} {by_ : Nat} {gg : Bool} {z : List Value} (ht : P.underlying t = some (.slice e)) (he : tyI P e = some (gg, sz, by_, z)) {k : IntKind} {n : Int} (i : Nat) (hn : n = (i : Int)) (hi : i < l.length) :
    (∀ w, (Instr.indexAt t v (.int k n)).run P w = .ok (ptr (g - 1) (i * sz)) w) ∧ ∃ x, l[i]? = some x := by
  rcases h with ⟨_, rfl, _⟩ | ⟨b, cap, cur, rfl, rfl, h2, h3, h4, h5, h6⟩
  · simp at hi
  · refine ⟨fun w => ?_, l[i], by simp [hi]⟩
    have h0 : (0 : Int) ≤ n ∧ n < (l.length : Int) := by omega
    have e1 : n.toNat = i := by omega
    simp [Instr.indexAt, asIntOf, run_underlying ht, h0, run_sizeOf he, add_lit, ptr, e1]

theorem Acc.row (h : Acc enc e sz w g v l) (hsz : ∀ x, (enc x).length = sz) {i : Nat} {x : α} (hx : l[i]? = some x) : Row w (g - 1) (i * sz) (enc x) := by
  obtain ⟨hi, rfl⟩ := List.getElem?_eq_some_iff.1 hx
  rcases h with ⟨_, rfl, _⟩ | ⟨b, cap, cur, rfl, rfl, h2, h3, h4, h5, h6⟩
  · simp at hi
  · intro j u hu
    have hf := (flat_at hsz l i hi).1
    rw [Nat.add_sub_cancel, cell_of_row w b (i * sz + j) cur e (0, 0) h2]
    rw [← hf, ← h6, List.getElem?_take] at hu
    split at hu
    · rw [List.getElem?_drop, List.getElem?_take] at hu
      split at hu
      · simpa using hu
      · cases hu
    · cases hu

/-- a part of an element of an own slice is written -/
theorem AW.storeA {P : Program} {E : Env} {d : Option Tmp} {ty : TypeId} {pos : String} {af : Array Edge} {gd : Option (Nat × Bool)} {K : Value → World → Prop} {t : TypeId} {x y : Operand} {u : Value} {off n by_ : Nat} {gg : Bool} {z vs : List Value}
    (h : Acc enc e sz w g v l) (hsz : ∀ x, (enc x).length = sz) {i o : Nat} {old : α} (hold : l[i]? = some old) (nw : α) (ht : tyI P t = some (gg, n, by_, z)) (hx : ev E x = some (ptr (g - 1) off)) (hoff : off = i * sz + o) (hy : ev E y = some u)
    (hv : u.cells.toList = vs) (hn : vs.length = n) (h1 : vs.all (·.oneCell') = true) (ho : o + n ≤ sz) (hnw : enc nw = (enc old).take o ++ vs ++ (enc old).drop (o + n))
    (hK : ∀ w', Mod (Mg g) w w' → w'.heap.size = w.heap.size → Acc enc e sz w' g v (l.set i nw) → K undef w') : AW P ⟨d, .store t x y, ty, pos, af, gd⟩ E w K := fun a ha => by
  obtain ⟨hi, rfl⟩ := List.getElem?_eq_some_iff.1 hold
  subst hoff
  rcases h with ⟨_, rfl, _⟩ | ⟨b, cap, cur, rfl, rfl, h2, h3, h4, h5, h6⟩
  · simp at hi
  · have hfl := flat_len hsz l
    have hil : i * sz + sz ≤ l.length * sz := by
      have := Nat.mul_le_mul_right sz (show i + 1 ≤ l.length by omega)
      rw [Nat.add_mul] at this; omega
    have hlc : l.length * sz ≤ cap * sz := Nat.mul_le_mul_right _ h3
    simp only [Nat.add_sub_cancel] at hx
    have hst := run_storeCells_at P b (i * sz + o) e vs 0 cur w h2 (by omega) (fun u hu => List.all_eq_true.1 h1 u hu)
    have hsz' : u.cells.size = n := by rw [← Array.length_toList, hv]; exact hn
    have key := flat_set hsz l i nw hi
    have hfa := (flat_at hsz l i hi).1
    have h := hK (w.setRow b (cur.toList.take (i * sz + o) ++ vs ++ cur.toList.drop (i * sz + o + n)).toArray) ((setRow_mod _ _ _).weaken (fun i hi _ => by unfold Mg; omega)) (by simp [World.setRow]) (.inr ⟨b, cap, _, rfl, by simp, setRow_heap w b cur _ e (0, 0) h2, by simpa using h3, h4, by simp; omega, by
      rw [List.length_set, key, hnw]
      have hcl : cur.toList.length = cap * sz := by simpa using h5
      have e1 : (l.flatMap enc).take (i * sz) = cur.toList.take (i * sz) := by
        rw [← h6, List.take_take, Nat.min_eq_left (by omega)]
      have e2 : (enc l[i]).take o = (cur.toList.drop (i * sz)).take o := by
        rw [← hfa, List.take_take, Nat.min_eq_left (by omega), ← h6, List.drop_take, List.take_take, Nat.min_eq_left (by omega)]
      have e3 : (enc l[i]).drop (o + n) = (cur.toList.drop (i * sz + (o + n))).take (sz - (o + n)) := by
        rw [← hfa, ← h6, List.drop_take, List.drop_drop, List.drop_take, List.take_take, Nat.min_eq_left (by omega)]
      have e4 : (l.flatMap enc).drop (i * sz + sz) = (cur.toList.drop (i * sz + sz)).take (l.length * sz - (i * sz + sz)) := by
        rw [← h6, List.drop_take]
      rw [e1, e2, e3, e4]
      have e5 : cur.toList.take (i * sz + o) = cur.toList.take (i * sz) ++ (cur.toList.drop (i * sz)).take o := by rw [List.take_add]
      have e6 : (cur.toList.drop (i * sz + o + n)).take (l.length * sz - (i * sz + o + n)) = (cur.toList.drop (i * sz + (o + n))).take (sz - (o + n)) ++ (cur.toList.drop (i * sz + sz)).take (l.length * sz - (i * sz + sz)) := by
        have : l.length * sz - (i * sz + o + n) = (sz - (o + n)) + (l.length * sz - (i * sz + sz)) := by omega
        rw [this, List.take_add, List.drop_drop]
        congr 3 <;> omega
      rw [List.toList_toArray]
      rw [List.take_append, List.take_of_length_le (by simp; omega)]
      have e7 : l.length * sz - (cur.toList.take (i * sz + o) ++ vs).length = l.length * sz - (i * sz + o + n) := by
        simp only [List.length_append, List.length_take, hcl]; omega
      rw [e7, e6, e5]
      simp only [List.append_assoc]⟩)
    simp only [Nat.add_zero, hn] at hst
    simp [execOp, ha.ev hx, ha.ev hy, ptr, Instr.storeAt, Instr.sureAddr, storeVar, run_sizeOf ht, hsz', hv, hst, out]
    simpa using h

theorem Acc.shape (h : Acc enc e sz w g v l) : ∃ a c, v = .slice a l.length c := by
  obtain ⟨a, c, h1, _⟩ := h.sl
  exact ⟨a, c, h1⟩
theorem Acc.cast {l' : List α} (h : Acc enc e sz w g v l) (e' : l = l') : Acc enc e sz w g v l' := e' ▸ h
theorem made_flat (z : List Value) (hz : 0 < z.length) : ∀ n : Nat, (madeCells z.toArray (n * z.length)).toList = (List.replicate n z).flatten
  | 0 => by simp [madeCells]
  | n + 1 => by
    have ih := made_flat z hz n
    rw [List.replicate_succ', List.flatten_append, ← ih]
    unfold madeCells
    simp only [List.size_toArray, Array.toList_map, Array.toList_range, Nat.add_mul, Nat.one_mul, List.flatten_cons, List.flatten_nil, List.append_nil]
    rw [List.range_add, List.map_append]
    congr 1
    rw [List.map_map]
    refine List.ext_getElem (by simp) fun i h1 h2 => ?_
    simp only [List.length_map, List.length_range] at h1
    simp [Nat.mod_eq_of_lt h1, h1]

theorem AW.makeSlice {P : Program} {E : Env} {d : Option Tmp} {ty : TypeId} {pos : String} {af : Array Edge} {gd : Option (Nat × Bool)} {K : Value → World → Prop} {t : TypeId} {x y : Operand} {kl kc : IntKind} {by_ : Nat} {gg : Bool} {z : List Value}
    (n : Nat) (x0 : α) (ht : P.underlying t = some (.slice e)) (he : tyI P e = some (gg, sz, by_, z)) (h0 : 0 < sz) (hx0 : enc x0 = z) (hsz : ∀ x, (enc x).length = sz) {p q : Int} (hx : ev E x = some (.int kl p)) (hy : ev E y = some (.int kc q)) (hp : p = (n : Int)) (hq : q = (n : Int)) (hb : n * by_ ≤ 140737488355328) (hm : n ≤ maxLen)
    (hK : ∀ v' g' w', Ext w w' → g' = w.heap.size + 1 → w'.heap.size = w.heap.size + 1 → Acc enc e sz w' g' v' (List.replicate n x0) → K v' w') :
    AW P ⟨d, .makeSlice t x y, ty, pos, af, gd⟩ E w K := fun a ha => by
  subst hp hq
  obtain ⟨i, dd, zv, i1, i2, i3, i4, i5, i6, i7⟩ := tyI_spec he
  have hm' : (n : Int) ≤ 9223372036854775807 := by have : n ≤ 9223372036854775807 := hm; omega
  have hbb : (i.bytes : Int) * (n : Int) ≤ 281474976710656 := by
    rw [i5]
    have : ((n * by_ : Nat) : Int) ≤ 140737488355328 := by omega
    rw [Int.natCast_mul, Int.mul_comm] at this; omega
  have hr := run_make (P := P) w t e i zv ht i1 i3 kl kc (n : Int) (n : Int) (by omega) (Int.le_refl _) hbb hm'
  simp only [Int.toNat_natCast] at hr
  have hzl : z.length = sz := by rw [← hx0]; exact hsz _
  have e1 : zv.cells = z.toArray := by rw [← i6]
  have hc : (madeCells zv.cells (n * i.size)).toList = (List.replicate n z).flatten := by
    rw [e1, i4, ← hzl]; exact made_flat z (by omega) n
  have h := hK _ _ (w.alloc (.cells (madeCells zv.cells (n * i.size)) e)) (Mod.alloc _ _ _) rfl (by simp) (.inr ⟨w.heap.size, n, _, rfl, rfl, heap_alloc_new w _, by simp, hm, by rw [size_madeCells, i4], by
    rw [List.length_replicate, hc]
    have : (List.replicate n z).flatten = (List.replicate n x0).flatMap enc := by
      rw [List.flatMap_def, List.map_replicate, hx0]
    rw [this, List.take_of_length_le]
    rw [flat_len hsz, List.length_replicate]; exact Nat.le_refl _⟩)
  simp only [List.length_replicate] at h
  simp [execOp, ha.ev hx, ha.ev hy, hr, out]
  exact h

/-! spare room that is lent: a block that holds a list and, behind it, what lies in its room -/
def Lent (enc : α → List Value) (e : TypeId) (w : World) (b : Nat) (l r : List α) : Prop := Bk w b ((l ++ r).flatMap enc) e
theorem Lent.keepG {w w' : World} {b g : Nat} {l r : List α} (h : Lent enc e w b l r) (hm : Mod (Mg g) w w') (hg : b + 1 ≠ g) : Lent enc e w' b l r := Bk.keepG h hm hg
theorem Lent.ext {w w' : World} {b : Nat} {l r : List α} (h : Lent enc e w b l r) (hm : Ext w w') : Lent enc e w' b l r := Bk.ext h hm
theorem Lent.lt {b : Nat} {l r : List α} (h : Lent enc e w b l r) : b < w.heap.size := Bk.lt h
theorem Lent.sl {b : Nat} {l r : List α} (h : Lent enc e w b l r) (n : Nat) (hr : r.length = n) (hm : l.length + n ≤ maxLen) : Sl enc w (Iv b (b + 1)) (.slice (some ⟨b, 0, none⟩) l.length (l.length + n)) l := by
  refine ⟨_, l.length + n, rfl, by omega, hm, .inr ⟨b, 0, rfl, by unfold Iv; omega, ?_⟩⟩
  have h1 : Row w b 0 ((l ++ r).flatMap enc) := Bk.row h
  rw [List.flatMap_append] at h1
  exact fun i v hv => h1 i v (by rw [List.getElem?_append_left (List.getElem?_eq_some_iff.1 hv).1]; exact hv)

section
variable {P : Program} {E : Env} {d : Option Tmp} {ty : TypeId} {pos : String} {af : Array Edge} {gd : Option (Nat × Bool)} {K : Value → World → Prop} {t : TypeId} {x y : Operand} {by_ : Nat} {gg : Bool} {z : List Value}
theorem AW.makeRoom {kl kc : IntKind} (n : Nat) (x0 : α) (ht : P.underlying t = some (.slice e)) (he : tyI P e = some (gg, sz, by_, z)) (h0 : 0 < sz) (hx0 : enc x0 = z) (hsz : ∀ x, (enc x).length = sz) {p q : Int} (hx : ev E x = some (.int kl p)) (hy : ev E y = some (.int kc q)) (hp : p = 0) (hq : q = (n : Int)) (hb : n * by_ ≤ 140737488355328) (hm : n ≤ maxLen)
    (hK : ∀ w' b, Ext w w' → b = w.heap.size → w'.heap.size = w.heap.size + 1 → Lent enc e w' b [] (List.replicate n x0) → K (.slice (some ⟨b, 0, none⟩) 0 n) w') :
    AW P ⟨d, .makeSlice t x y, ty, pos, af, gd⟩ E w K := fun a ha => by
  subst hp hq
  obtain ⟨i, dd, zv, i1, i2, i3, i4, i5, i6, i7⟩ := tyI_spec he
  have hm' : (n : Int) ≤ 9223372036854775807 := by have : n ≤ 9223372036854775807 := hm; omega
  have hbb : (i.bytes : Int) * (n : Int) ≤ 281474976710656 := by
    rw [i5]
    have : ((n * by_ : Nat) : Int) ≤ 140737488355328 := by omega
    rw [Int.natCast_mul, Int.mul_comm] at this; omega
  have hr := run_make (P := P) w t e i zv ht i1 i3 kl kc 0 (n : Int) (by omega) (by omega) hbb hm'
  simp only [Int.toNat_natCast, Int.toNat_zero] at hr
  have hzl : z.length = sz := by rw [← hx0]; exact hsz _
  have e1 : zv.cells = z.toArray := by rw [← i6]
  have hc : (madeCells zv.cells (n * i.size)).toList = (List.replicate n z).flatten := by
    rw [e1, i4, ← hzl]; exact made_flat z (by omega) n
  have h := hK (w.alloc (.cells (madeCells zv.cells (n * i.size)) e)) w.heap.size (Mod.alloc _ _ _) rfl (by simp) (by
    show (w.alloc (.cells (madeCells zv.cells (n * i.size)) e)).heap[w.heap.size]? = _
    rw [heap_alloc_new]
    have : ([] ++ List.replicate n x0).flatMap enc = (madeCells zv.cells (n * i.size)).toList := by
      rw [hc, List.nil_append, List.flatMap_def, List.map_replicate, hx0]
    rw [this])
  simp [execOp, ha.ev hx, ha.ev hy, hr, out]
  exact h

theorem AW.appendRoom {b cap : Nat} {l r l2 : List α} {t ty' : TypeId} {F : Nat → Prop} {v2 : Value} (h : Lent enc e w b l r) (hcap : cap = l.length + r.length) (ht : P.underlying t = some (.slice e)) (he : tyI P e = some (gg, sz, by_, z)) (hz : z.length = sz)
    (hsz : ∀ x, (enc x).length = sz) (h1 : ∀ x, (enc x).all (·.oneCell') = true) {nl : Nat} (hnl : nl = l.length) (hx : ev E x = some (.slice (some ⟨b, 0, none⟩) nl cap)) (hy : ev E y = some v2) (hs : Sl enc w F v2 l2) (hfit : l2.length ≤ r.length)
    (hK : ∀ w', Mod (Mg (b + 1)) w w' → w'.heap.size = w.heap.size → Lent enc e w' b (l ++ l2) (r.drop l2.length) → K (.slice (some ⟨b, 0, none⟩) (l.length + l2.length) cap) w') :
    AW P ⟨d, .call { callee := .builtin .append, args := #[x, y], argTypes := #[t, t] }, ty', pos, af, gd⟩ E w K := fun a ha => by
  subst hnl hcap
  obtain ⟨i, dd, zv, i1, i2, i3, i4, i5, i6, i7⟩ := tyI_spec he
  have hnew1 : ∀ u ∈ l2.flatMap enc, u.oneCell' = true := fun u hu => by
    obtain ⟨x, _, hx⟩ := List.mem_flatMap.1 hu
    exact List.all_eq_true.1 (h1 x) u hx
  have hl2 : (l2.flatMap enc).length = l2.length * i.size := by rw [flat_len hsz, i4]
  obtain ⟨a2, cap2, rfl, hc2, hm2, hs⟩ := hs
  have key : ∃ w', (Builtin.append_ #[t, t] ty' #[.slice (some ⟨b, 0, none⟩) l.length (l.length + r.length), .slice a2 l2.length cap2]).run P w = .ok (.slice (some ⟨b, 0, none⟩) (l.length + l2.length) (l.length + r.length)) w' ∧ Mod (Mg (b + 1)) w w' ∧ w'.heap.size = w.heap.size ∧ Lent enc e w' b (l ++ l2) (r.drop l2.length) := by
    by_cases hl0 : l2 = []
    · subst hl0
      have hfc : (Builtin.firstCells i.size 0 (.slice a2 0 cap2)).run P w = .ok #[] w := by
        cases a2 <;> simp [Builtin.firstCells, loadCells, loadCellsFrom]
      exact ⟨w, by simp [Builtin.append_, run_underlying ht, sizeOf, typeInfo, i1, Builtin.lenOf, hfc, storeCells], Mod.refl _ _, rfl, by simpa using h⟩
    · obtain ⟨b2, off2, rfl, hF, hr2⟩ : ∃ b2 off2, a2 = some (⟨b2, off2, none⟩ : Addr) ∧ F b2 ∧ Row w b2 off2 (l2.flatMap enc) := by
        rcases hs with h | ⟨b2, off2, h1, h2, h3⟩
        · exact absurd h hl0
        · exact ⟨b2, off2, h1, h2, h3⟩
      have hnews : ∀ j u, (l2.flatMap enc)[j]? = some u → w.cell? ((⟨b2, off2, none⟩ : Addr).add j) = some u := fun j u hu => by
        rw [add_lit]; exact hr2.cell j u hu
      have hbl : w.heap[b]? = some (.cells ((l ++ r).flatMap enc).toArray e (0, 0)) := h
      have hll : (l.flatMap enc).length = l.length * sz := flat_len hsz l
      have hrl : (r.flatMap enc).length = r.length * sz := flat_len hsz r
      have hle : l2.length * sz ≤ r.length * sz := Nat.mul_le_mul_right _ hfit
      have hfit' : l.length * i.size + (l2.flatMap enc).length ≤ ((l ++ r).flatMap enc).toArray.size := by
        simp only [List.flatMap_append, List.size_toArray, List.length_append, hll, hrl, hl2, i4]; omega
      have hr := run_append_room (P := P) w t ty' e i ht i1 b l.length (l.length + r.length) _ hbl ⟨b2, off2, none⟩ l2.length cap2 (l2.flatMap enc) hl2 hnews hnew1 (by omega) hfit'
      refine ⟨_, hr, (setRow_mod _ _ _).weaken (fun i hi _ => by unfold Mg; omega), by simp [World.setRow], ?_⟩
      show (w.setRow b _).heap[b]? = _
      rw [setRow_heap w b _ _ e (0, 0) hbl]
      congr 3
      rw [i4, List.flatMap_append, List.flatMap_append, List.flatMap_append, ← hll]
      have e1 : (l2.flatMap enc).length = l2.length * sz := flat_len hsz l2
      simp only [List.take_left, e1]
      rw [List.drop_append, List.drop_of_length_le (by omega), Nat.add_sub_cancel_left, List.nil_append, flat_drop hsz]
  obtain ⟨w', hr, h2, h3, h4⟩ := key
  simp only [execOp, resolve, invoke, builtin, Sem.run_bind, Sem.run_pure, Result.andThen_ok, List.map_toArray, List.map_cons, List.map_nil, ha.ev hx, ha.ev hy, hr, out]
  exact hK _ h2 h3 h4

/-- the room itself -/
theorem Q1.room {C : World → Prop} {lo hi : Operand} {b nl cap n : Nat} {p q : Int} {k k' : IntKind} (ht : P.underlying t = some (.slice e)) (he : tyI P e = some (gg, sz, by_, z)) (hx : ev E x = some (.slice (some ⟨b, 0, none⟩) nl cap)) (hlo : ev E lo = some (.int k p)) (hhi : ev E hi = some (.int k' q)) (hp : p = (nl : Int)) (hq : q = ((nl + n : Nat) : Int)) (hc : cap = nl + n) (hn : 0 < n) :
    Q1 P ⟨d, .slice t x (some lo) (some hi) none, ty, pos, af, gd⟩ E C (.slice (some ⟨b, nl * sz, none⟩) n n) := fun a ha w _ => by
  subst hp hq hc
  have h1 : ¬ (nl + n = nl) := by omega
  have e1 : (Instr.sliceBound (.int k' ((nl + n : Nat) : Int)) (nl + n) .sliceAcap).run P w = .ok (nl + n) w := sliceBound_ok _ rfl (Nat.le_refl _) w
  have e2 : (Instr.sliceBound (.int k (nl : Int)) (nl + n) .sliceB).run P w = .ok nl w := sliceBound_ok _ rfl (by omega) w
  simp only [execOp, ha.ev hx, ha.ev hlo, ha.ev hhi, Option.map_some, Option.map_none, Instr.sliceAt, Instr.slice, Instr.sliceBounds, run_underlying ht, Sem.run_bind, Result.andThen_ok, Option.isSome_none, Bool.false_eq_true, if_false, if_true, Sem.run_pure, e1, e2, run_sizeOf he, h1]
  simp [add_lit]
theorem Lent.at {b : Nat} (k : IntKind) (nl n : Nat) (ht : P.underlying t = some (.slice e)) (he : tyI P e = some (gg, sz, by_, z)) {p : Int} (i : Nat) (hp : p = (i : Int)) (hi : i < n) : ∀ w, (Instr.indexAt t (.slice (some ⟨b, nl * sz, none⟩) n n) (.int k p)).run P w = .ok (ptr b (nl * sz + i * sz)) w := fun w => by
  have h0 : (0 : Int) ≤ p ∧ p < (n : Int) := by omega
  have e1 : p.toNat = i := by omega
  simp [Instr.indexAt, asIntOf, run_underlying ht, h0, run_sizeOf he, add_lit, ptr, e1]
theorem Lent.row {b : Nat} {l r : List α} (h : Lent enc e w b l r) (hsz : ∀ x, (enc x).length = sz) {i : Nat} {u : α} (hu : r[i]? = some u) : Row w b (l.length * sz + i * sz) (enc u) := by
  obtain ⟨hi, rfl⟩ := List.getElem?_eq_some_iff.1 hu
  have hlt : l.length + i < (l ++ r).length := by rw [List.length_append]; omega
  have hf := flat_at hsz (l ++ r) (l.length + i) hlt
  have := (Bk.row h).sub ((l.length + i) * sz) sz hf.2
  rw [hf.1, List.getElem_append_right (by omega)] at this
  simpa [Nat.add_mul] using this
theorem AW.storeRoom {b : Nat} {l r : List α} {u : Value} (h : Lent enc e w b l r) (hsz : ∀ x, (enc x).length = sz) {i off : Nat} (hi : i < r.length) (nw : α) (ht : tyI P t = some (gg, sz, by_, z)) (hx : ev E x = some (ptr b off)) (hoff : off = l.length * sz + i * sz) (hy : ev E y = some u)
    (hv : u.cells.toList = enc nw) (h1 : (enc nw).all (·.oneCell') = true) (hK : ∀ w', Mod (Mg (b + 1)) w w' → w'.heap.size = w.heap.size → Lent enc e w' b l (r.set i nw) → K undef w') : AW P ⟨d, .store t x y, ty, pos, af, gd⟩ E w K := by
  subst hoff
  have hlt : l.length + i < (l ++ r).length := by rw [List.length_append]; omega
  have hf := (flat_at hsz (l ++ r) (l.length + i) hlt).2
  rw [Nat.add_mul] at hf
  refine AW.store ht hx hy hv (hsz _) h1 h hf fun w' hm hz hb => hK w' hm hz ?_
  unfold Lent
  have e1 : l ++ r.set i nw = (l ++ r).set (l.length + i) nw := by rw [List.set_append_right _ _ (by omega)]; congr 2; omega
  rw [e1, flat_set hsz _ _ _ hlt, Nat.add_mul]
  exact hb
end

def roomK (x0 x : α) (k : Nat) : List α := if k = 0 then [x0, x0, x0] else if k = 1 then [x, x0, x0] else if k = 2 then [x, x, x0] else [x, x, x]
theorem room_start (x0 x : α) : List.replicate 3 x0 = roomK x0 x 0 := rfl
theorem room_len {x0 x : α} {r : List α} {k : Nat} (h : r = roomK x0 x k) : r.length = 3 := by
  subst h; unfold roomK; repeat' split
  all_goals rfl
theorem room_step {x0 x : α} {r : List α} {k : Nat} (h : r = roomK x0 x k) (hk : k < 3) : r.set k x = roomK x0 x (k + 1) := by
  subst h
  rcases (by omega : k = 0 ∨ k = 1 ∨ k = 2) with rfl | rfl | rfl <;> rfl
theorem room_end {x0 x : α} {r : List α} {k : Nat} (h : r = roomK x0 x k) (hk : 3 ≤ k) : r = List.replicate 3 x := by
  subst h; unfold roomK; rw [if_neg (by omega), if_neg (by omega), if_neg (by omega)]; rfl
theorem Lent.cast {b : Nat} {l r r' : List α} (h : Lent enc e w b l r) (h2 : r = r') : Lent enc e w b l r' := h2 ▸ h
theorem rep_at {x y : α} {n k : Nat} (h : (List.replicate n x)[k]? = some y) : y = x := by
  rw [List.getElem?_replicate] at h; split at h
  · simpa using h.symm
  · cases h
end
end Go.Ik
/-
  Pointers and nil, structs compared, maps of the call's own, functions made.
-/
set_option linter.unusedVariables false
set_option linter.unusedSimpArgs false
set_option linter.unusedSectionVars false
namespace Go.Ik
open Go

section
variable {P : Program} {E : Env} {C : World → Prop} {d : Option Tmp} {ty : TypeId} {pos : String} {af : Array Edge} {gd : Option (Nat × Bool)} {w : World} {K : Value → World → Prop}

/-! pointers and nil -/
theorem eqGuard_ptr (op : BinOp) (t : TypeId) (x y : Operand) (w : World) (a b : Option Addr) : (eqGuard op t x y (.pointer a) (.pointer b)).run P w = .ok () w := by
  unfold eqGuard; split <;> simp
theorem Q1.eqNil {xt yt e : TypeId} {x y : Operand} {a : Option Addr} (hu : P.underlying xt = some (.pointer e)) (hx : ev E x = some (.pointer a)) (hy : ev E y = some (.pointer none)) : Q1 P ⟨d, .binOp .eql xt x y yt, ty, pos, af, gd⟩ E C (.bool a.isNone) := fun s ha w _ => by
  have h : (Op.equal xt (.pointer a) (.pointer none)).run P w = .ok a.isNone w := by
    have key : ∀ n, (Op.equalIn (n + 1) xt (.pointer a) (.pointer none)).run P w = .ok a.isNone w := fun n => by
      cases a <;> simp [Op.equalIn, run_underlying hu]
    exact key 9999
  simp [execOp, ha.ev hx, ha.ev hy, eqGuard_ptr, Go.binOp, h]
theorem Q1.neNil {xt yt e : TypeId} {x y : Operand} {a : Option Addr} (hu : P.underlying xt = some (.pointer e)) (hx : ev E x = some (.pointer a)) (hy : ev E y = some (.pointer none)) : Q1 P ⟨d, .binOp .neq xt x y yt, ty, pos, af, gd⟩ E C (.bool (!a.isNone)) := fun s ha w _ => by
  have h : (Op.equal xt (.pointer a) (.pointer none)).run P w = .ok a.isNone w := by
    have key : ∀ n, (Op.equalIn (n + 1) xt (.pointer a) (.pointer none)).run P w = .ok a.isNone w := fun n => by
      cases a <;> simp [Op.equalIn, run_underlying hu]
    exact key 9999
  simp [execOp, ha.ev hx, ha.ev hy, eqGuard_ptr, Go.binOp, h]
theorem Q1.nilCheckP {x : Operand} {b off : Nat} (hx : ev E x = some (ptr b off)) : Q1 P ⟨d, .nilCheck x, ty, pos, af, gd⟩ E C (ptr b off) := fun a ha w _ => by
  simp [execOp, ha.ev hx, ptr]

/-! structs compared: 'q': what the kit says of two such -/
theorem Q1.eqStruct {xt yt : TypeId} {x y : Operand} {xs ys : Array Value} {q : Bool} (hg : P.eqGuardType P.depth xt = false) (hq : ∀ w, (Op.equalIn 10000 xt (.agg xs) (.agg ys)).run P w = .ok q w) (hx : ev E x = some (.agg xs)) (hy : ev E y = some (.agg ys)) : Q1 P ⟨d, .binOp .eql xt x y yt, ty, pos, af, gd⟩ E C (.bool q) := fun a ha w _ => by
  simp [execOp, ha.ev hx, ha.ev hy, run_eqGuard_agg _ _ _ _ _ _ _ hg, run_eql_struct, hq w, Result.andThen]
theorem Q1.neStruct {xt yt : TypeId} {x y : Operand} {xs ys : Array Value} {q : Bool} (hg : P.eqGuardType P.depth xt = false) (hq : ∀ w, (Op.equalIn 10000 xt (.agg xs) (.agg ys)).run P w = .ok q w) (hx : ev E x = some (.agg xs)) (hy : ev E y = some (.agg ys)) : Q1 P ⟨d, .binOp .neq xt x y yt, ty, pos, af, gd⟩ E C (.bool (!q)) := fun a ha w _ => by
  simp [execOp, ha.ev hx, ha.ev hy, run_eqGuard_agg _ _ _ _ _ _ _ hg, run_neq_struct, hq w, Result.andThen]

/-! a field of a struct in a value -/
theorem Q1.field {xt : TypeId} {x : Operand} {i : Nat} {vs : Array Value} {v : Value} (hx : ev E x = some (.agg vs)) (hr : ∀ w, (Instr.field xt (.agg vs) i).run P w = .ok v w) : Q1 P ⟨d, .field xt x i, ty, pos, af, gd⟩ E C v := fun a ha w _ => by
  simp [execOp, ha.ev hx, hr w]
theorem Q1.makeFunc {fn : Fn} {fs cs : Array Operand} {first cap : List Value} (h1 : evs E fs.toList = some first) (h2 : evs E cs.toList = some cap) : Q1 P ⟨d, .makeFunc fn fs cs, ty, pos, af, gd⟩ E C (.func fn first.toArray cap.toArray) := fun a ha w _ => by
  have e1 : fs.map a.eval = first.toArray := by
    apply Array.ext'; simpa using ha.evs h1
  have e2 : cs.map a.eval = cap.toArray := by
    apply Array.ext'; simpa using ha.evs h2
  simp [execOp, Instr.makeFunc, e1, e2]

/-! maps of the call's own -/
section
variable {α β : Type} [DecidableEq α] {key : α → Value} {val : β → Value} {kind : TypeDesc}
def MapO (key : α → Value) (val : β → Value) (w : World) (b : Nat) (m : List (α × β)) : Prop :=
  ∃ es clock, w.heap[b]? = some (.map es clock) ∧ es.toList.map (fun e => (e.key, e.val)) = m.map fun p => (key p.1, val p.2)
theorem MapO.keepG {w' : World} {b g : Nat} {m : List (α × β)} (h : MapO key val w b m) (hm : Mod (Mg g) w w') (hg : b + 1 ≠ g) : MapO key val w' b m := by
  obtain ⟨es, c, h1, h2⟩ := h
  exact ⟨es, c, hm.keep _ _ h1 hg, h2⟩
theorem MapO.ext {w' : World} {b : Nat} {m : List (α × β)} (h : MapO key val w b m) (hm : Ext w w') : MapO key val w' b m := by
  obtain ⟨es, c, h1, h2⟩ := h
  exact ⟨es, c, hm.keep _ _ h1 (fun x => x), h2⟩
theorem MapO.lt {b : Nat} {m : List (α × β)} (h : MapO key val w b m) : b < w.heap.size := by
  obtain ⟨es, c, h1, h2⟩ := h
  exact (Array.getElem?_eq_some_iff.1 h1).1
def asc (m : List (α × β)) (a : α) : Option β := (m.find? fun p => decide (p.1 = a)).map Prod.snd
theorem findNow_asc (hs : ∀ a b : α, Instr.sameNow kind (key a) (key b) = some (decide (a = b))) (a : α) : ∀ (es : List MapEntry) (m : List (α × β)) (i : Nat), es.map (fun e => (e.key, e.val)) = m.map (fun p => (key p.1, val p.2)) →
    ∃ j, Instr.findNow kind (key a) es i = some ((asc m a).map fun x => (j, val x))
  | [], m, i, h => by
    cases m with
    | nil => exact ⟨0, rfl⟩
    | cons _ _ => simp at h
  | e :: es, m, i, h => by
    cases m with
    | nil => simp at h
    | cons p m =>
      simp only [List.map_cons, List.cons.injEq, Prod.mk.injEq] at h
      obtain ⟨⟨h1, h2⟩, h3⟩ := h
      unfold Instr.findNow
      rw [h1, hs a p.1]
      by_cases hp : a = p.1
      · refine ⟨i, ?_⟩
        simp [hp, asc, h2]
      · obtain ⟨j, hj⟩ := findNow_asc hs a es m (i + 1) h3
        refine ⟨j, ?_⟩
        have hp' : ¬ (p.1 = a) := fun e => hp e.symm
        simp only [decide_eq_false hp, hj, asc, List.find?_cons, decide_eq_false hp']

/-- what a type of keys must say: nothing is checked, and two are told apart at once -/
structure KeyOk (P : Program) (kt : TypeId) (key : α → Value) : Prop where
  chk : ∀ (e : Bool) (a : α) (w : World), (Instr.checkKey e 10000 kt (key a)).run P w = .ok () w
  same : ∃ kind, P.underlying kt = some kind ∧ ∀ a b : α, Instr.sameNow kind (key a) (key b) = some (decide (a = b))
theorem keyOk_str {kt : TypeId} (h : P.underlying kt = some .string) : KeyOk P kt strV := ⟨fun e a w => by
    unfold Instr.checkKey; simp [run_underlying h, strV], ⟨_, h, fun a b => by
    simp only [strV, Instr.sameNow, Option.some.injEq]
    rw [beq_toListBytes, toList_mk, toList_mk]
    by_cases hab : a = b <;> simp [hab]⟩⟩
def intV (n : Int) : Value := .int .i64 n
theorem keyOk_int {kt : TypeId} (h : P.underlying kt = some (.int .i64)) : KeyOk P kt intV := ⟨fun e a w => by
    unfold Instr.checkKey; simp [run_underlying h, intV], ⟨_, h, fun a b => by
    simp only [intV, Instr.sameNow, Option.some.injEq, if_true]
    by_cases hab : a = b <;> simp [hab]⟩⟩

theorem run_findKey {kt : TypeId} (hk : KeyOk P kt key) (a : α) {es : List MapEntry} {m : List (α × β)} (h : es.map (fun e => (e.key, e.val)) = m.map (fun p => (key p.1, val p.2))) (w : World) :
    ∃ j, (Instr.findKey kt (key a) es).run P w = .ok ((asc m a).map fun x => (j, val x)) w := by
  obtain ⟨kind, hu, hs⟩ := hk.same
  obtain ⟨j, hj⟩ := findNow_asc hs a es m 0 h
  refine ⟨j, ?_⟩
  unfold Instr.findKey
  simp only [Sem.run_bind, run_underlying hu, Result.andThen_ok, hj, Sem.run_pure]
theorem run_getMap {b : Nat} {es : Array MapEntry} {c : Nat} (h : w.heap[b]? = some (.map es c)) : (getObj b).run P w = .ok (.map es c) w := by
  simp [getObj, Sem.run, h]

theorem Q1.lookupOk {t kt et : TypeId} {g : Bool} {n by_ : Nat} {x y : Operand} {b : Nat} {m : List (α × β)} {a : α} {z : Value} (hk : KeyOk P kt key) (ht : P.underlying t = some (.map kt et)) (hz : ∀ w, (zeroValue et).run P w = .ok z w) (hx : ev E x = some (.map (some b))) (hy : ev E y = some (key a)) (hm : ∀ w, C w → MapO key val w b m) :
    Q1 P ⟨d, .lookup t x y true, ty, pos, af, gd⟩ E C (.tuple #[(match asc m a with | some u => val u | none => z), .bool (asc m a).isSome]) := fun s ha w hC => by
  obtain ⟨es, c, h1, h2⟩ := hm w hC
  obtain ⟨j, hj⟩ := run_findKey (P := P) hk a h2 w
  have hg := run_getMap (P := P) h1
  cases hc : asc m a with
  | none =>
    rw [hc] at hj
    simp [execOp, ha.ev hx, ha.ev hy, Instr.lookup, run_underlying ht, hg, hk.chk, hj, hz]
  | some u =>
    rw [hc] at hj
    simp [execOp, ha.ev hx, ha.ev hy, Instr.lookup, run_underlying ht, hg, hk.chk, hj]
theorem Q1.lookup1 {t kt et : TypeId} {x y : Operand} {b : Nat} {m : List (α × β)} {a : α} {z : Value} (hk : KeyOk P kt key) (ht : P.underlying t = some (.map kt et)) (hz : ∀ w, (zeroValue et).run P w = .ok z w) (hx : ev E x = some (.map (some b))) (hy : ev E y = some (key a)) (hm : ∀ w, C w → MapO key val w b m) :
    Q1 P ⟨d, .lookup t x y false, ty, pos, af, gd⟩ E C (match asc m a with | some u => val u | none => z) := fun s ha w hC => by
  obtain ⟨es, c, h1, h2⟩ := hm w hC
  obtain ⟨j, hj⟩ := run_findKey (P := P) hk a h2 w
  have hg := run_getMap (P := P) h1
  cases hc : asc m a with
  | none =>
    rw [hc] at hj
    simp [execOp, ha.ev hx, ha.ev hy, Instr.lookup, run_underlying ht, hg, hk.chk, hj, hz]
  | some u =>
    rw [hc] at hj
    simp [execOp, ha.ev hx, ha.ev hy, Instr.lookup, run_underlying ht, hg, hk.chk, hj]
theorem setMap_mod (w : World) (b : Nat) (o : Obj) : Mod (Mg (b + 1)) w { w with heap := w.heap.setIfInBounds b o } :=
  ⟨rfl, rfl, rfl, by simp, fun k o' hk hn => by
    have : b ≠ k := fun e => hn (by unfold Mg; omega)
    show (w.heap.setIfInBounds b _)[k]? = _
    rw [Array.getElem?_setIfInBounds_ne this]; exact hk⟩
/-- an entry more -/
theorem AW.mapNew {t kt et : TypeId} {x y z : Operand} {b : Nat} {m : List (α × β)} {a : α} {u : β} (hk : KeyOk P kt key) (ht : P.underlying t = some (.map kt et)) (hx : ev E x = some (.map (some b))) (hy : ev E y = some (key a)) (hz : ev E z = some (val u)) (hm : MapO key val w b m) (hno : asc m a = none)
    (hK : ∀ w', Mod (Mg (b + 1)) w w' → w'.heap.size = w.heap.size → MapO key val w' b (m ++ [(a, u)]) → K undef w') : AW P ⟨d, .mapUpdate t x y z, ty, pos, af, gd⟩ E w K := fun s ha => by
  obtain ⟨es, c, h1, h2⟩ := hm
  obtain ⟨j, hj⟩ := run_findKey (P := P) hk a h2 w
  rw [hno] at hj
  have hg := run_getMap (P := P) h1
  have hlt := (Array.getElem?_eq_some_iff.1 h1).1
  have h := hK _ (setMap_mod w b (.map (es.push { key := key a, val := val u, born := c }) (c + 1))) (by simp) ⟨es.push { key := key a, val := val u, born := c }, c + 1, by
    show (w.heap.setIfInBounds b _)[b]? = _
    simp [hlt], by simp [h2]⟩
  simp [execOp, ha.ev hx, ha.ev hy, ha.ev hz, Instr.mapUpdate, run_underlying ht, hg, hk.chk, hj, setObj, Sem.run, h1, out]
  exact h
theorem AW.makeMap {t : TypeId} (hK : ∀ w' b, Ext w w' → b = w.heap.size → w'.heap.size = w.heap.size + 1 → MapO key val w' b [] → K (.map (some b)) w') : AW P ⟨d, .makeMap t none, ty, pos, af, gd⟩ E w K := fun s ha => by
  have h := hK (w.alloc (.map #[] 0)) w.heap.size (Mod.alloc _ _ _) rfl (by simp) ⟨#[], 0, by
    show (w.heap.push _)[w.heap.size]? = _
    simp, by simp⟩
  simp [execOp, Instr.makeMap, newObj, Sem.run, out]
  exact h
end
end

/-! rows that stay within blocks of an interval -/
def Rw (w : World) (lo hi b : Nat) (cs : List Value) : Prop := lo ≤ b ∧ b < hi ∧ Row w b 0 cs
theorem Rw.ext {w w' : World} {lo hi b : Nat} {cs : List Value} (h : Rw w lo hi b cs) (hm : Ext w w') : Rw w' lo hi b cs := ⟨h.1, h.2.1, h.2.2.ext hm⟩
theorem Rw.keepG {w w' : World} {lo hi b g : Nat} {cs : List Value} (h : Rw w lo hi b cs) (hm : Mod (Mg g) w w') (hg : g ≤ lo ∨ hi < g) : Rw w' lo hi b cs := ⟨h.1, h.2.1, h.2.2.keepG hm (by have := h.1; have := h.2.1; omega)⟩
theorem Rw.cell {w : World} {lo hi b : Nat} {cs : List Value} (h : Rw w lo hi b cs) (i : Nat) (v : Value) (hv : cs[i]? = some v) : Row w b i [v] := fun j u hu => by
  cases j with
  | zero =>
    simp only [List.getElem?_cons_zero, Option.some.injEq] at hu
    subst hu
    have := h.2.2 i v hv
    simpa using this
  | succ j => simp at hu

/-- a slice's header -/
structure SH where
  a : Option Addr
  n : Nat
  c : Nat
def SH.val (h : SH) : Value := .slice h.a h.n h.c

/-! two or three blocks that may be written -/
def Mg2 (g h : Nat) : Nat → Prop := fun b => b + 1 = g ∨ b + 1 = h
def Mg3 (g h k : Nat) : Nat → Prop := fun b => b + 1 = g ∨ b + 1 = h ∨ b + 1 = k
theorem Mod.thenG2 {g g1 g2 : Nat} {w0 w w' : World} (h : Mod (Mg2 g1 g2) w0 w) (k : Mod (Mg g) w w') (hg : g = 0 ∨ w0.heap.size < g ∨ g = g1 ∨ g = g2) : Mod (Mg2 g1 g2) w0 w' :=
  h.then k (fun i hi hl => by unfold Mg at hi; unfold Mg2; omega)
theorem Mod.thenG3 {g g1 g2 g3 : Nat} {w0 w w' : World} (h : Mod (Mg3 g1 g2 g3) w0 w) (k : Mod (Mg g) w w') (hg : g = 0 ∨ w0.heap.size < g ∨ g = g1 ∨ g = g2 ∨ g = g3) : Mod (Mg3 g1 g2 g3) w0 w' :=
  h.then k (fun i hi hl => by unfold Mg at hi; unfold Mg3; omega)

/-! structs of plain cells compared -/
inductive FK where
  | int (k : IntKind)
  | str
  | bool
/-- a struct's fields: where each lies, what it is (of fields that are numbers, texts, truths; none by the name '_') -/
def fkOf (P : Program) (f : Field) : Option (Nat × FK) :=
  match P.underlying f.type with
  | some (.int k) => if f.name ≠ "_" then some (f.offset, .int k) else none
  | some .string => if f.name ≠ "_" then some (f.offset, .str) else none
  | some .bool => if f.name ≠ "_" then some (f.offset, .bool) else none
  | _ => none
def cellEq : FK → Value → Value → Option Bool
  | .int k, .int j a, .int j' b => if j = k ∧ j' = k then some (a == b) else none
  | .str, .string a, .string b => some (a.toList == b.toList)
  | .bool, .bool a, .bool b => some (a == b)
  | _, _, _ => none
def eqCells : List (Nat × FK) → Array Value → Array Value → Option Bool
  | [], _, _ => some true
  | (o, k) :: r, xs, ys =>
    match xs[o]?, ys[o]? with
    | some x, some y => match cellEq k x y with
      | some true => eqCells r xs ys
      | some false => some false
      | none => none
    | _, _ => none
def fksOf (P : Program) : List Field → Option (List (Nat × FK))
  | [] => some []
  | f :: r => match fkOf P f, fksOf P r with
    | some k, some ks => some (k :: ks)
    | _, _ => none
theorem run_eqFields {P : Program} {xs ys : Array Value} {n : Nat} (w : World) : ∀ (fs : List Field) (ks : List (Nat × FK)) (q : Bool), fksOf P fs = some ks → eqCells ks xs ys = some q → (Op.eqFields (n + 1) xs ys fs).run P w = .ok q w
  | [], ks, q, h1, h2 => by
    simp only [fksOf, Option.some.injEq] at h1
    subst h1
    simp only [eqCells, Option.some.injEq] at h2
    subst h2
    simp [Op.eqFields]
  | f :: fs, ks, q, h1, h2 => by
    unfold fksOf at h1
    cases hk : fkOf P f with
    | none => simp [hk] at h1
    | some k =>
      cases hks : fksOf P fs with
      | none => simp [hk, hks] at h1
      | some ks' =>
        simp only [hk, hks, Option.some.injEq] at h1
        subst h1
        obtain ⟨o, k⟩ := k
        unfold eqCells at h2
        have key : ∀ (d : TypeDesc), P.underlying f.type = some d → f.name ≠ "_" → f.offset = o → (∀ s, d ≠ .struct s) → (∀ a b, d ≠ .array a b) → (∀ x y r, cellEq k x y = some r → (Op.equalIn (n + 1) f.type x y).run P w = .ok r w) → (Op.eqFields (n + 1) xs ys (f :: fs)).run P w = .ok q w := by
          intro d hu hn ho hs ha he
          cases hx : xs[o]? with
          | none => simp [hx] at h2
          | some x =>
            cases hy : ys[o]? with
            | none => simp [hx, hy] at h2
            | some y =>
              simp only [hx, hy] at h2
              have hag : ∀ cs : Array Value, (part f.type cs f.offset).run P w = (match cs[f.offset]? with | some v => .ok v w | none => ((stuck "part: no such cell" : Sem Value)).run P w) := by
                intro cs
                unfold part isAgg
                simp only [Sem.run_bind, run_underlying hu, Result.andThen_ok]
                cases d <;> simp_all <;> (split <;> simp_all)
              have hpx := hag xs; have hpy := hag ys
              rw [ho] at hpx hpy
              rw [hx] at hpx; rw [hy] at hpy
              cases hc : cellEq k x y with
              | none => simp [hc] at h2
              | some r =>
                have hr := he x y r hc
                rw [hc] at h2
                have ih := fun h => run_eqFields (P := P) (xs := xs) (ys := ys) (n := n) w fs ks' q hks h
                cases r with
                | false =>
                  simp only [Option.some.injEq] at h2
                  subst h2
                  simp [Op.eqFields, hn, ho, hpx, hpy, hr]
                | true =>
                  have := ih h2
                  simp [Op.eqFields, hn, ho, hpx, hpy, hr, this]
        unfold fkOf at hk
        cases hu : P.underlying f.type with
        | none => simp [hu] at hk
        | some d =>
          cases d <;> simp only [hu, reduceCtorEq] at hk <;> (split at hk) <;> (try cases hk) <;> rename_i hn
          all_goals refine key _ hu hn rfl (by intro s h; cases h) (by intro a b h; cases h) fun x y r hc => ?_
          all_goals (cases x <;> simp only [cellEq, reduceCtorEq] at hc <;> cases y <;> simp only [cellEq, reduceCtorEq, Option.some.injEq] at hc)
          all_goals first
            | (split at hc
               · rename_i hj
                 obtain ⟨rfl, rfl⟩ := hj
                 simp only [Option.some.injEq] at hc
                 subst hc
                 exact run_equalIn_int w n _ _ _ _ _ hu
               · cases hc)
            | (subst hc; exact run_equalIn_bool' w n _ _ _ hu)
            | (subst hc; exact run_equalIn_string w n _ _ _ hu)
theorem run_eq_flat {P : Program} {t : TypeId} {xs ys : Array Value} {ks : List (Nat × FK)} {q : Bool} (hf : P.underlying t = some (.struct (P.fieldsOf t))) (hp : P.stoodInHeld t = false) (hk : fksOf P (P.fieldsOf t).toList = some ks) (hq : eqCells ks xs ys = some q) (w : World) :
    (Op.equalIn 10000 t (.agg xs) (.agg ys)).run P w = .ok q w :=
  (run_equalIn_agg w 9999 t xs ys hf hp).trans (run_eqFields (n := 9998) w _ ks q hk hq)
theorem ndec_t {p : Prop} [Decidable p] (h : true = !decide p) : ¬ p := by
  intro hp; simp [hp] at h
theorem ndec_f {p : Prop} [Decidable p] (h : false = !decide p) : p := by
  by_cases hp : p
  · exact hp
  · simp [hp] at h
/-! results in a cell -/
theorem r_retC1 {P : Program} {f : FuncId} {R : Ending → World → Prop} {n : Nat} {E : Env} {k : List Item} {w : World} {fn : Func} {t : Tmp} {ty : TypeId} {b off sz by_ : Nat} {z cs : List Value} (hf : P.funcs[f]? = some fn) (hres : fn.results = #[.cell t ty])
    (hv : lk t E = some (ptr b off)) (ht : tyI P ty = some (true, sz, by_, z)) (hr : Row w b off cs) (hn : cs.length = sz) (hR : R (.returned (.agg cs.toArray)) w) : RunE P f R n E (.code .ret :: k) w := fun a ha b' hb hk cs' =>
  ⟨_, w, { b'.at a (.code .ret :: k) with mode := .returning }, hR, .one step_ret, hb, leave_ret ha hf hb hk (by
    have hg : a.tmps[t]?.getD undef = .pointer (some ⟨b, off, none⟩) := by have := ha.has t _ hv; simpa [ptr] using this
    simp [results, hres, hg, asAddr, Sem.run_bind, Result.andThen, run_loadVar_agg ht hr hn])⟩

end Go.Ik
/-
  Chapter 8: names of nodes as keys of a map, ways along runes; no program in sight.
-/
set_option linter.unusedVariables false
set_option linter.unusedSimpArgs false
namespace Go.Ml
open Go.Ik

/-! names joined by a byte that no text has -/
def NoFF (s : Str) : Prop := (255 : UInt8) ∉ s
theorem by8_ne {n : Nat} (h : n % 256 ≠ 255) : by8 n ≠ 255 := fun e => by
  have := congrArg UInt8.toNat e
  rw [by8_toNat] at this
  exact h this
theorem encL_noff {c : Nat} (h : goodN c) : NoFF (encL c) := by
  obtain ⟨h1, h2, h3⟩ := h
  unfold NoFF encL
  repeat' split
  all_goals simp only [List.mem_cons, List.not_mem_nil, or_false, not_or]
  · exact fun e => by8_ne (by omega) e.symm
  · exact ⟨fun e => by8_ne (by omega) e.symm, fun e => by8_ne (by omega) e.symm⟩
  · exact ⟨fun e => by8_ne (by omega) e.symm, fun e => by8_ne (by omega) e.symm, fun e => by8_ne (by omega) e.symm⟩
  · exact ⟨fun e => by8_ne (by omega) e.symm, fun e => by8_ne (by omega) e.symm, fun e => by8_ne (by omega) e.symm, fun e => by8_ne (by omega) e.symm⟩
theorem fine_noff : ∀ s, Fine s → NoFF s :=
  fine_ind (by simp [NoFF]) fun c t hc _ ih => by
    have := encL_noff hc
    unfold NoFF at *
    rw [List.mem_append, not_or]; exact ⟨this, ih⟩
def joinS (l : List Str) : Str := Lib.join l [255]
theorem joinS_cons (x : Str) (r : List Str) : joinS (x :: r) = x ++ Lib.joinTail [255] r := Lib.join_cons x r [255]
theorem tail_cons (x : Str) (r : List Str) : Lib.joinTail [255] (x :: r) = 255 :: (x ++ Lib.joinTail [255] r) := by simp [Lib.joinTail]
theorem tail_nil : Lib.joinTail [255] [] = [] := rfl
theorem split_ff : ∀ (x y u v : Str), NoFF x → NoFF y → (u = [] ∨ ∃ u', u = 255 :: u') → (v = [] ∨ ∃ v', v = 255 :: v') → x ++ u = y ++ v → x = y ∧ u = v
  | [], [], u, v, _, _, _, _, h => ⟨rfl, h⟩
  | [], b :: y, u, v, _, hy, hu, _, h => by
    simp only [List.nil_append, List.cons_append] at h
    rcases hu with rfl | ⟨u', rfl⟩
    · cases h
    · simp only [List.cons.injEq] at h
      exact absurd (by simp [h.1]) hy
  | a :: x, [], u, v, hx, _, _, hv, h => by
    simp only [List.nil_append, List.cons_append] at h
    rcases hv with rfl | ⟨v', rfl⟩
    · cases h
    · simp only [List.cons.injEq] at h
      exact absurd (by simp [h.1]) hx
  | a :: x, b :: y, u, v, hx, hy, hu, hv, h => by
    simp only [List.cons_append, List.cons.injEq] at h
    have := split_ff x y u v (fun e => hx (by simp [e])) (fun e => hy (by simp [e])) hu hv h.2
    exact ⟨by rw [h.1, this.1], this.2⟩
theorem tail_shape (r : List Str) : Lib.joinTail [255] r = [] ∨ ∃ u, Lib.joinTail [255] r = 255 :: u := by
  cases r with
  | nil => exact .inl rfl
  | cons x r => exact .inr ⟨_, tail_cons x r⟩
theorem tail_inj : ∀ (r s : List Str), (∀ x ∈ r, NoFF x) → (∀ x ∈ s, NoFF x) → Lib.joinTail [255] r = Lib.joinTail [255] s → r = s
  | [], [], _, _, _ => rfl
  | [], y :: s, _, _, h => by rw [tail_nil, tail_cons] at h; cases h
  | x :: r, [], _, _, h => by rw [tail_nil, tail_cons] at h; cases h
  | x :: r, y :: s, hr, hs, h => by
    rw [tail_cons, tail_cons] at h
    simp only [List.cons.injEq, true_and] at h
    have := split_ff x y _ _ (hr x (by simp)) (hs y (by simp)) (tail_shape r) (tail_shape s) h
    rw [this.1, tail_inj r s (fun x hx => hr x (by simp [hx])) (fun x hx => hs x (by simp [hx])) this.2]
theorem joinS_inj {l m : List Str} (hl : ∀ x ∈ l, NoFF x) (hm : ∀ x ∈ m, NoFF x) (h1 : l ≠ []) (h2 : m ≠ []) (h : joinS l = joinS m) : l = m := by
  cases l with
  | nil => exact absurd rfl h1
  | cons x r =>
    cases m with
    | nil => exact absurd rfl h2
    | cons y s =>
      rw [joinS_cons, joinS_cons] at h
      have := split_ff x y _ _ (hl x (by simp)) (hm y (by simp)) (tail_shape r) (tail_shape s) h
      rw [this.1, tail_inj r s (fun x hx => hl x (by simp [hx])) (fun x hx => hm x (by simp [hx])) this.2]
theorem GoodR.noff {l : List Str} (h : GoodR l) : ∀ x ∈ l, NoFF x := fun x hx => fine_noff x (h.fine x hx)
def sumLen (l : List Str) : Nat := (l.map List.length).sum
theorem joinS_len (l : List Str) : (joinS l).length ≤ sumLen l + l.length := by
  cases l with
  | nil => simp [joinS, Lib.join, sumLen]
  | cons x r =>
    rw [joinS_cons]
    have : ∀ r : List Str, (Lib.joinTail [255] r).length ≤ sumLen r + r.length := by
      intro r
      induction r with
      | nil => simp [tail_nil]
      | cons y r ih => rw [tail_cons]; simp only [sumLen, List.map_cons, List.sum_cons, List.length_cons, List.length_append] at *; omega
    have := this r
    simp only [sumLen, List.map_cons, List.sum_cons, List.length_cons, List.length_append] at *; omega

/-- the map of a graph's names -/
def mapK (s : GS) : List (Str × Int) := s.mapIdx fun i x => (joinS x.1, (i : Int))
theorem mapK_snoc (s : GS) (x : List Str × List Ed) : mapK (s ++ [x]) = mapK s ++ [(joinS x.1, (s.length : Int))] := by
  unfold mapK; rw [List.mapIdx_concat]
theorem mapK_names {s t : GS} (h : names s = names t) : mapK s = mapK t := by
  unfold mapK
  have hl : s.length = t.length := by simpa [names] using congrArg List.length h
  refine List.ext_getElem (by simp [hl]) fun i h1 h2 => ?_
  simp only [List.length_mapIdx] at h1 h2
  simp only [List.getElem_mapIdx, Prod.mk.injEq, and_true]
  have : (names s)[i]'(by simpa [names] using h1) = (names t)[i]'(by simpa [names] using h2) := by simp only [h]
  simp only [names, List.getElem_map] at this
  rw [this]
/-- names that may be -/
def NamesOk (s : GS) : Prop := ∀ x ∈ s, x.1 ≠ [] ∧ ∀ t ∈ x.1, NoFF t
theorem asc_mapK {r : List Str} (hr : ∀ t ∈ r, NoFF t) (hne : r ≠ []) : ∀ (s : GS), NamesOk s → asc (mapK s) (joinS r) = (s.findIdx? fun x => x.1 == r).map fun i : Nat => (i : Int) := by
  intro s hs
  have key : ∀ (s : GS) (k : Nat), NamesOk s → asc (s.mapIdx fun i x => (joinS x.1, ((i + k : Nat) : Int))) (joinS r) = (s.findIdx? fun x => x.1 == r).map fun i : Nat => ((i + k : Nat) : Int) := by
    intro s
    induction s with
    | nil => intro k _; rfl
    | cons x s ih =>
      intro k h
      rw [List.mapIdx_cons, List.findIdx?_cons]
      by_cases hx : x.1 = r
      · simp [asc, hx]
      · have hj : joinS x.1 ≠ joinS r := fun e => hx (joinS_inj (h x (by simp)).2 hr (h x (by simp)).1 hne e)
        have := ih (k + 1) (fun y hy => h y (by simp [hy]))
        unfold asc at this ⊢
        rw [List.find?_cons]
        simp only [decide_eq_false hj]
        have e1 : (fun (i : Nat) (x : List Str × List Ed) => (joinS x.1, ((i + 1 + k : Nat) : Int))) = fun (i : Nat) (x : List Str × List Ed) => (joinS x.1, ((i + (k + 1) : Nat) : Int)) := by
          funext i x; congr 2; omega
        rw [e1, this]
        have hxb : (x.1 == r) = false := by simp [hx]
        simp only [hxb, Bool.false_eq_true, if_false, Option.map_map]
        cases s.findIdx? fun x => x.1 == r with
        | none => rfl
        | some i => simp only [Option.map_some, Function.comp_apply, Option.some.injEq]; omega
  exact key s 0 hs

/-! ways along runes -/
def finB (r : List Str) : Bool := decide (r.head? = some [])
theorem fin_mem {r : List Str} (h : GoodR r) : finB r = true ↔ [] ∈ r := by
  unfold finB
  rw [decide_eq_true_iff]
  cases r with
  | nil => simp
  | cons a r =>
    constructor
    · intro e; simp only [List.head?_cons, Option.some.injEq] at e; simp [e]
    · intro hm
      rcases List.mem_cons.1 hm with e | hm
      · simp [e]
      · have := (List.pairwise_cons.1 h.sorted).1 _ hm
        cases a <;> simp [ltT, Lib.compareBytes] at this
/-- along an edge: the rests that begin with its rune -/
theorem step_mem {r : List Str} (h : GoodR r) {c : Nat} (hc : goodN c) (t : Str) : encL c ++ t ∈ r ↔ ∃ b, (c, b) ∈ groups (dropE r) ∧ t ∈ b := by
  have hd := dropE_good h
  have ok := groups_ok _ _ (Nat.le_refl _) hd.1 hd.2
  constructor
  · intro hm
    have hm2 : encL c ++ t ∈ dropE r := by
      cases r with
      | nil => exact hm
      | cons a r =>
        cases a with
        | nil =>
          rcases List.mem_cons.1 hm with e | hm
          · exact absurd (List.append_eq_nil_iff.1 e).1 (encL_ne c)
          · exact hm
        | cons x a => exact hm
    rw [← ok.all] at hm2
    obtain ⟨g, hg, hgt⟩ := List.mem_flatMap.1 hm2
    obtain ⟨u, hu, he⟩ := List.mem_map.1 hgt
    have := encL_inj (ok.good g hg).1 hc he
    exact ⟨g.2, by rw [← this.1]; exact hg, by rw [← this.2]; exact hu⟩
  · rintro ⟨b, hb, ht⟩
    refine dropE_mem ?_
    rw [← ok.all]
    exact List.mem_flatMap.2 ⟨(c, b), hb, List.mem_map.2 ⟨t, ht, rfl⟩⟩
/-- where an edge leads -/
def nextM (es : List Ed) (r : Int) : Option Int := (es.find? fun e => e.rune == r).map Ed.to
theorem forall2_find {P : Nat × List Str → Ed → Prop} {c : Nat} : ∀ {gs : List (Nat × List Str)} {es : List Ed}, All2 (fun g e => e.rune = (g.1 : Int) ∧ P g e) gs es →
    ((es.find? fun e => e.rune == (c : Int)) = none → ∀ g ∈ gs, g.1 ≠ c) ∧ (∀ e, (es.find? fun e => e.rune == (c : Int)) = some e → ∃ g ∈ gs, g.1 = c ∧ P g e)
  | [], [], .nil => ⟨by simp, by simp⟩
  | g :: gs, e :: es, .cons h1 h2 => by
    have ih := forall2_find (c := c) h2
    rw [List.find?_cons]
    by_cases hc : g.1 = c
    · have : (e.rune == (c : Int)) = true := by rw [h1.1, hc]; simp
      rw [this]
      exact ⟨(fun h => by cases h), (fun e' he => by simp only [Option.some.injEq] at he; subst he; exact ⟨g, by simp, hc, h1.2⟩)⟩
    · have : (e.rune == (c : Int)) = false := by rw [h1.1]; simp; omega
      rw [this]
      refine ⟨fun h g' hg' => ?_, fun e' he => ?_⟩
      · rcases List.mem_cons.1 hg' with rfl | hg'
        · exact hc
        · exact ih.1 h g' hg'
      · obtain ⟨g', hg', k⟩ := ih.2 e' he
        exact ⟨g', by simp [hg'], k⟩
theorem group_unique {gs : List (Nat × List Str)} (h : gs.Pairwise fun a b => a.1 ≠ b.1) {a b : Nat × List Str} (ha : a ∈ gs) (hb : b ∈ gs) (e : a.1 = b.1) : a = b := by
  induction gs with
  | nil => simp at ha
  | cons g gs ih =>
    have hp := List.pairwise_cons.1 h
    rcases List.mem_cons.1 ha with ha1 | ha1
    · rcases List.mem_cons.1 hb with hb1 | hb1
      · rw [ha1, hb1]
      · exact absurd (by rw [← e, ha1]) (hp.1 b hb1)
    · rcases List.mem_cons.1 hb with hb1 | hb1
      · exact absurd (by rw [e, hb1]) (hp.1 a ha1)
      · exact ih hp.2 ha1 hb1
/-- one step: the rests behind it -/
theorem next_ok {s : GS} {n : Nat} {x : List Str × List Ed} (h : NodeOk s n x) {c : Nat} (hc : goodN c) :
    (nextM x.2 (c : Int) = none → ∀ t, encL c ++ t ∉ x.1) ∧ (∀ j, nextM x.2 (c : Int) = some j → ∃ (k : Nat) (b : List Str) (es : List Ed), j = (k : Int) ∧ s[k]? = some (b, es) ∧ ∀ t, encL c ++ t ∈ x.1 ↔ t ∈ b) := by
  have hd := dropE_good h.good
  have ok := groups_ok _ _ (Nat.le_refl _) hd.1 hd.2
  have hf := forall2_find (c := c) h.corr
  unfold nextM
  constructor
  · intro hn t hm
    rw [Option.map_eq_none_iff] at hn
    obtain ⟨b, hb, _⟩ := (step_mem h.good hc t).1 hm
    exact hf.1 hn _ hb rfl
  · intro j hj
    obtain ⟨e, he, rfl⟩ := Option.map_eq_some_iff.1 hj
    obtain ⟨g, hg, hgc, k, es, h1, h2⟩ := hf.2 e he
    refine ⟨k, g.2, es, h1, h2, fun t => ?_⟩
    rw [step_mem h.good hc]
    constructor
    · rintro ⟨b, hb, ht⟩
      have := group_unique ok.part hg hb hgc
      rw [this]; exact ht
    · intro ht
      exact ⟨g.2, by rw [← hgc]; exact hg, ht⟩

/-! one after the other, as long as it is told to -/
def eachF {σ : Type} (f : σ → Str → σ × Bool) : σ → List Str → σ × Bool
  | s, [] => (s, true)
  | s, x :: r => if (f s x).2 = true then eachF f (f s x).1 r else ((f s x).1, false)
theorem eachF_app {σ : Type} (f : σ → Str → σ × Bool) : ∀ (a b : List Str) (s : σ), eachF f s (a ++ b) = if (eachF f s a).2 = true then eachF f (eachF f s a).1 b else eachF f s a
  | [], b, s => by simp [eachF]
  | x :: a, b, s => by
    simp only [List.cons_append, eachF]
    split
    · rw [eachF_app f a b]
    · simp
theorem rests_all {x : List Str × List Ed} (h : GoodR x.1) : x.1 = (if finB x.1 = true then [[]] else []) ++ (groups (dropE x.1)).flatMap fun g => g.2.map (encL g.1 ++ ·) := by
  have hd := dropE_good h
  have ok := groups_ok _ _ (Nat.le_refl _) hd.1 hd.2
  rw [ok.all]
  unfold finB
  cases hx : x.1 with
  | nil => simp [dropE]
  | cons a r =>
    cases a with
    | nil => simp [dropE]
    | cons y a => simp [dropE]

/-! what the walks ask -/
theorem RunInv.step {s : Str} {p : Nat} {l : List Int} (h : RunInv s p l) (he : s.drop p ≠ []) (hd : ((dec (s.drop p)).1 : Int) ≠ 65533) : RunInv s (p + (dec (s.drop p)).2) (l ++ [((dec (s.drop p)).1 : Int)]) := by
  obtain ⟨pre, h1, h2, h3⟩ := h.ex
  refine ⟨⟨_, h1.next he, by rw [h2, List.map_append]; rfl, ?_⟩⟩
  simp only [List.mem_append, List.mem_singleton, not_or]
  exact ⟨h3, fun e => hd (by omega)⟩
theorem RunInv.odd {s : Str} {p : Nat} {l : List Int} (h : RunInv s p l) (he : s.drop p ≠ []) (hd : ((dec (s.drop p)).1 : Int) = 65533) : false = fineT s := by
  obtain ⟨pre, h1, h2, h3⟩ := h.ex
  have := h1.mem he
  have e : (dec (s.drop p)).1 = 65533 := by omega
  rw [e] at this
  unfold fineT; simp [this]
theorem RunInv.done {s : Str} {p : Nat} {l : List Int} (h : RunInv s p l) (he : s.drop p = []) : l = runesI s ∧ true = fineT s := by
  obtain ⟨pre, h1, h2, h3⟩ := h.ex
  have := h1.done he
  refine ⟨by rw [h2, runesI, this], ?_⟩
  unfold fineT; rw [this]; simp [h3]
theorem RunInv.pos {s : Str} {p : Nat} {l : List Int} (h : RunInv s p l) : p ≤ s.length := by
  obtain ⟨pre, h1, _⟩ := h.ex
  exact h1.le
theorem runesM_len (s : Str) : (runesM s).length ≤ s.length := by
  unfold runesM
  split
  · unfold runesI; rw [List.length_map]; exact runes_length s
  · simp
def FirstInv (s : Str) (p : Nat) (hd : Int) : Prop := (p = 0 ∧ hd = 0) ∨ (0 < p ∧ p = wdN s ∧ hd = (hdN s : Int))
theorem FirstInv.next {s : Str} {p : Nat} {hd : Int} (h : FirstInv s p hd) (he : s.drop p ≠ []) (h0 : p = 0) : FirstInv s (p + (dec (s.drop p)).2) ((dec (s.drop p)).1 : Int) := by
  subst h0
  simp only [List.drop_zero, Nat.zero_add] at he ⊢
  have := dec_pos s he
  exact .inr ⟨by omega, rfl, rfl⟩
theorem FirstInv.ret {s : Str} {p : Nat} {hd : Int} (h : FirstInv s p hd) (h0 : 0 < p) : hd = (hdN s : Int) ∧ ((p : Nat) : Int) = ((wdN s : Nat) : Int) := by
  rcases h with h | h
  · omega
  · exact ⟨h.2.2, by rw [h.2.1]⟩
theorem FirstInv.fin {s : Str} {p : Nat} {hd : Int} (h : FirstInv s p hd) (hne : s ≠ []) (he : s.drop p = []) : hd = (hdN s : Int) ∧ ((s.length : Nat) : Int) = ((wdN s : Nat) : Int) := by
  rcases h with ⟨rfl, _⟩ | ⟨h1, h2, h3⟩
  · exact absurd (by simpa using he) hne
  · refine ⟨h3, ?_⟩
    have hl := dec_le s hne
    have := congrArg List.length he
    simp only [List.length_drop, List.length_nil] at this
    unfold wdN at *
    omega
theorem wdN_le (s : Str) : s ≠ [] → 1 ≤ wdN s ∧ wdN s ≤ s.length := fun h => ⟨dec_pos s h, dec_le s h⟩
theorem hdN_le (s : Str) : hdN s ≤ 1114111 := dec_rune s
theorem hp_yes {s p : Str} {b : Bool} (hl : ((s.length : Nat) : Int) ≥ ((p.length : Nat) : Int)) (hb : b = (s.take p.length == p)) : b = p.isPrefixOf s := by
  rw [hb, Bool.eq_iff_iff, List.isPrefixOf_iff_prefix, beq_iff_eq]
  constructor
  · intro h; rw [← h]; exact List.take_prefix _ _
  · rintro ⟨t, rfl⟩; simp
theorem hp_no {s p : Str} (hl : ¬ ((s.length : Nat) : Int) ≥ ((p.length : Nat) : Int)) : false = p.isPrefixOf s := by
  cases h : p.isPrefixOf s with
  | false => rfl
  | true =>
    rw [List.isPrefixOf_iff_prefix] at h
    have := h.length_le
    omega
structure NextInv (es : List Ed) (r : Int) (k : Nat) : Prop where
  no : ∀ e ∈ es.take k, e.rune ≠ r
theorem NextInv.start (es : List Ed) (r : Int) : NextInv es r 0 := ⟨by simp⟩
theorem NextInv.next {es : List Ed} {r : Int} {k : Nat} {e : Ed} (h : NextInv es r k) (hx : es[k]? = some e) (hn : e.rune ≠ r) : NextInv es r (k + 1) := ⟨by
  intro y hy
  rw [List.take_add_one, hx] at hy
  simp only [Option.toList_some, List.mem_append, List.mem_singleton] at hy
  rcases hy with hy | rfl
  · exact h.no y hy
  · exact hn⟩
theorem NextInv.found {es : List Ed} {r : Int} {k : Nat} {e : Ed} (h : NextInv es r k) (hx : es[k]? = some e) (he : e.rune = r) : e.to = (nextM es r).getD 0 ∧ true = (nextM es r).isSome := by
  have : es.find? (fun e => e.rune == r) = some e := by
    obtain ⟨hk, rfl⟩ := List.getElem?_eq_some_iff.1 hx
    rw [List.find?_eq_some_iff_getElem]
    refine ⟨by simp [he], k, hk, rfl, fun j hj => ?_⟩
    have := h.no es[j] (List.mem_take_iff_getElem.2 ⟨j, by omega, rfl⟩)
    simp [this]
  unfold nextM
  rw [this]
  exact ⟨rfl, rfl⟩
theorem NextInv.none {es : List Ed} {r : Int} {k : Nat} (h : NextInv es r k) (hk : es.length ≤ k) : (0 : Int) = (nextM es r).getD 0 ∧ false = (nextM es r).isSome := by
  have hn := h.no
  rw [List.take_of_length_le hk] at hn
  have : es.find? (fun e => e.rune == r) = Option.none := by
    rw [List.find?_eq_none]
    intro e he; simp [hn e he]
  unfold nextM
  rw [this]
  exact ⟨rfl, rfl⟩
end Go.Ml
