/-
  What came in, as facts; a law's row closed: from 'the call returns true and writes nothing old'.
-/
import Derived.Test.YtajedfbogchkcaaIk5
import Derived.ProofKit
import Derived.OpenShut
import Derived.SliceStrings
import Derived.Lib.SmallJoins
import Derived.Carry
set_option linter.unusedVariables false
set_option linter.unusedSimpArgs false
namespace Go.Ik
open Go Go.WideShapes Go.ChangeShapes Go.RowKit

section
variable {H : Type} {enc : TypeId × Value → H} {P : Program} {W : World}

/-- a type whose cells tell a value of 'α' -/
def FlatOk (P : Program) (t : TypeId) {α : Type} (en : α → List Value) (ok : α → Prop) : Prop :=
  ∀ {H : Type} {enc : TypeId × Value → H} {W : World} {base : Nat} {spare : Nat → Bool} {held : Bool} (fuel : Nat) (cs : List Value) (x : DataW H × List MemPlace), DataW.trod enc P W base spare held fuel t cs = some x → ∃ a : α, cs = en a ∧ ok a

theorem wf_i64 {n : Int} (h : (Lit.int .i64 n).wf = true) : I64 n := by
  simp [Lit.wf, IntKind.min, IntKind.max, IntKind.signed, IntKind.bits] at h
  unfold I64; omega
theorem wf_i32 {n : Int} (h : (Lit.int .i32 n).wf = true) : -2147483648 ≤ n ∧ n ≤ 2147483647 := by
  simp [Lit.wf, IntKind.min, IntKind.max, IntKind.signed, IntKind.bits] at h
  omega
theorem wf_u8 {n : Int} (h : (Lit.int .u8 n).wf = true) : 0 ≤ n ∧ n ≤ 255 := by
  simp [Lit.wf, IntKind.min, IntKind.max, IntKind.signed, IntKind.bits] at h
  omega
theorem wf_u32 {n : Int} (h : (Lit.int .u32 n).wf = true) : 0 ≤ n ∧ n ≤ 4294967295 := by
  simp [Lit.wf, IntKind.min, IntKind.max, IntKind.signed, IntKind.bits] at h
  omega

theorem flat_int {t : TypeId} (h : P.underlying t = some (.int .i64)) : FlatOk P t encI I64 := fun fuel cs x ht => by
  obtain ⟨n, rfl, _, hw⟩ := DataW.trod_int h ht
  exact ⟨n, rfl, wf_i64 hw⟩
theorem flat_rune {t : TypeId} (h : P.underlying t = some (.int .i32)) : FlatOk P t encRn (fun n => -2147483648 ≤ n ∧ n ≤ 2147483647) := fun fuel cs x ht => by
  obtain ⟨n, rfl, _, hw⟩ := DataW.trod_int h ht
  exact ⟨n, rfl, wf_i32 hw⟩
theorem flat_byte {t : TypeId} (h : P.underlying t = some (.int .u8)) : FlatOk P t encB (fun _ => True) := fun fuel cs x ht => by
  obtain ⟨n, rfl, _, hw⟩ := DataW.trod_int h ht
  have hr := wf_u8 hw
  refine ⟨UInt8.ofNat n.toNat, ?_, trivial⟩
  simp only [encB, UInt8.toNat_ofNat']
  congr 2
  omega
theorem flat_str {t : TypeId} (h : P.underlying t = some .string) : FlatOk P t encS (fun s => s.length ≤ 9223372036854775807) := fun fuel cs x ht => by
  obtain ⟨s, rfl, _, hw⟩ := DataW.trod_string h ht
  exact ⟨s.data.toList, by rw [encS, ← strV_of], hw⟩
def encBo (b : Bool) : List Value := [.bool b]
theorem flat_bool {t : TypeId} (h : P.underlying t = some .bool) : FlatOk P t encBo (fun _ => True) := fun fuel cs x ht => by
  obtain ⟨b, rfl, _⟩ := DataW.trod_bool h ht
  exact ⟨b, rfl, trivial⟩

/-- one field of a struct -/
theorem field_at {t : TypeId} {fs : Array Field} (hu : P.underlying t = some (.struct fs)) {base : Nat} {spare : Nat → Bool} {held : Bool} {fuel : Nat} {cs : List Value} {x : DataW H × List MemPlace} (h : DataW.trod enc P W base spare held fuel t cs = some x) :
    ∃ n, cs.length = P.cellsOf t ∧ ∀ (i : Nat) (f : Field) (ft off k : Nat), fs[i]? = some f → f.type = ft → f.offset = off → P.cellsOf ft = k → ∃ y, DataW.trod enc P W base spare held n ft ((cs.drop off).take k) = some y := by
  obtain ⟨xs, n, _, hx, hl, hlen, hf⟩ := DataW.trod_struct hu h
  refine ⟨n, hl, fun i f ft off k hi e1 e2 e3 => ?_⟩
  subst e1 e2 e3
  have hlt : i < fs.size := (Array.getElem?_eq_some_iff.1 hi).1
  exact ⟨xs[i]'(by omega), by rw [hf i f hi]; simp⟩

/-- cells met are cells of blocks that are there -/
theorem cells_row {base : Nat} {a : Addr} {n : Nat} {cs : List Value} (h : W.cells? base a n = some cs) (hn : 0 < n) : ∃ b off, a = ⟨b, off, none⟩ ∧ b < W.heap.size ∧ cs.length = n ∧ Row W b off cs := by
  obtain ⟨_, hcl, hat⟩ := World.cells?_some h
  have h0 := hat 0 hn
  have hc0 : cs[0]? = some (cs[0]'(by omega)) := List.getElem?_eq_getElem (by omega)
  rw [hc0] at h0
  have e0 : a.add 0 = a := by unfold Addr.add; simp
  rw [e0] at h0
  have hspot : a.spot = none := by
    unfold World.cell? at h0
    cases hh : W.heap[a.block]? with
    | none => rw [hh] at h0; cases h0
    | some ob =>
      rw [hh] at h0
      cases ob <;> simp only [reduceCtorEq] at h0
      cases hs : a.spot with
      | none => rfl
      | some _ => rw [hs] at h0; simp at h0
  obtain ⟨b, off, sp⟩ := a
  subst hspot
  refine ⟨b, off, rfl, World.block_lt_of_cell? W _ h0, hcl, fun i v hv => ?_⟩
  have hi : i < n := by rw [← hcl]; exact (List.getElem?_eq_some_iff.1 hv).1
  have := hat i hi
  rw [add_lit, hv] at this
  exact this

/-- a slice of such elements -/
theorem open_slice_flat {t e : TypeId} {α : Type} {en : α → List Value} {ok : α → Prop} (hf : FlatOk P e en ok) (ht : P.underlying t = some (.slice e)) {sz : Nat} (hC : P.cellsOf e = sz) (h0 : 0 < sz) (hsz : ∀ x, (en x).length = sz)
    {spare : Nat → Bool} {held : Bool} {fuel : Nat} {cs : List Value} {x : DataW H × List MemPlace} (h : DataW.trod enc P W 0 spare held fuel t cs = some x) :
    ∃ (v : Value) (l : List α), cs = [v] ∧ Sl en W (Iv 0 W.heap.size) v l ∧ ∀ a ∈ l, ok a := by
  rcases Deep.open_slice ht h with ⟨rfl, _⟩ | ⟨a, len, cap, m, n, D, Pl, rfl, _, hle, hmax, hm, _, hi⟩
  · exact ⟨_, [], rfl, Sl.nil, by simp⟩
  · have hlm : len ≤ m := by rw [hm]; split <;> omega
    have key : ∀ i : Nat, i < len → ∃ y : α, ok y ∧ ∃ b off, a.add (i * sz) = ⟨b, off, none⟩ ∧ b < W.heap.size ∧ Row W b off (en y) := fun i hil => by
      obtain ⟨cs', hc, ht'⟩ := hi i (by omega)
      rw [hC] at hc
      obtain ⟨b, off, ha, hb, hcl, hr⟩ := cells_row hc h0
      obtain ⟨y, rfl, hy⟩ := hf _ _ _ ht'
      exact ⟨y, hy, b, off, ha, hb, hr⟩
    by_cases hl0 : len = 0
    · subst hl0
      exact ⟨_, [], rfl, ⟨some a, cap, rfl, Nat.zero_le _, hmax, .inl rfl⟩, by simp⟩
    · -- the list
      have hlist : ∃ l : List α, l.length = len ∧ ∀ i (hi : i < l.length), ok l[i] ∧ ∃ b off, a.add (i * sz) = ⟨b, off, none⟩ ∧ b < W.heap.size ∧ Row W b off (en l[i]) := by
        have gen : ∀ n : Nat, n ≤ len → ∃ l : List α, l.length = n ∧ ∀ i (hi : i < l.length), ok l[i] ∧ ∃ b off, a.add (i * sz) = ⟨b, off, none⟩ ∧ b < W.heap.size ∧ Row W b off (en l[i]) := by
         intro n hn
         induction n with
         | zero => exact ⟨[], rfl, fun i hi => by simp at hi⟩
         | succ k ih =>
          obtain ⟨l, hl, hall⟩ := ih (by omega)
          obtain ⟨y, hy, hr⟩ := key k (by omega)
          refine ⟨l ++ [y], by simp [hl], fun i hi => ?_⟩
          rcases Nat.lt_or_ge i l.length with h' | h'
          · rw [List.getElem_append_left h']; exact hall i h'
          · have : i = l.length := by simp at hi; omega
            subst this
            rw [List.getElem_append_right (Nat.le_refl _)]
            simp only [Nat.sub_self, List.getElem_cons_zero, hl]
            exact ⟨hy, hr⟩
        exact gen len (Nat.le_refl _)
      obtain ⟨l, hl, hall⟩ := hlist
      obtain ⟨_, b, off, ha, hb, _⟩ := hall 0 (by omega)
      have ha0 : a = ⟨b, off, none⟩ := by rw [← ha]; unfold Addr.add; simp
      subst ha0
      refine ⟨_, l, rfl, ⟨_, cap, by rw [hl], by omega, hmax, .inr ⟨b, off, rfl, ⟨Nat.zero_le _, hb⟩, fun j v hv => ?_⟩⟩, fun y hy => ?_⟩
      · have hfl := flat_len hsz l
        have hj : j < l.length * sz := by rw [← hfl]; exact (List.getElem?_eq_some_iff.1 hv).1
        have hdiv : j / sz < l.length := Nat.div_lt_of_lt_mul (by rw [Nat.mul_comm]; exact hj)
        obtain ⟨_, b', off', ha', hb', hr'⟩ := hall (j / sz) hdiv
        rw [add_lit] at ha'
        simp only [Addr.mk.injEq, and_true] at ha'
        obtain ⟨rfl, rfl⟩ := ha'
        have hfa := (flat_at hsz l (j / sz) hdiv).1
        have hmod : j % sz < sz := Nat.mod_lt _ h0
        have hjd : j / sz * sz + j % sz = j := Nat.div_add_mod' j sz
        have hv' : (en l[j / sz])[j % sz]? = some v := by
          rw [← hfa, List.getElem?_take, if_pos hmod, List.getElem?_drop, hjd]; exact hv
        have := hr' (j % sz) v hv'
        rw [Nat.add_assoc, hjd] at this
        exact this
      · obtain ⟨i, hi', rfl⟩ := List.getElem_of_mem hy
        exact (hall i hi').1

/-! a law's row -/
def readB (P : Program) (ts : List TypeId) : Bool := ts.all fun t => P.readableRec t && decide (t < P.types.size)

theorem args_stay (hl : laidOutB P = true) {W' : World} (hext : Ext W W') : ∀ (ts : List TypeId) (vs : List Value) (ds : List (DataW H)) (ps : List MemPlace), readB P ts = true →
    DataW.TrodAll enc P W 0 (fun _ => true) true ts vs ds ps → DataW.TrodAll enc P W' 0 (fun b => decide (b < W.heap.size)) true ts vs ds ps
  | [], [], [], _, _, h => h
  | t :: ts, v :: vs, d :: ds, ps, hr, h => by
    obtain ⟨p, q, h1, h2, h3⟩ := h
    simp only [readB, List.all_cons, Bool.and_eq_true, decide_eq_true_eq] at hr
    have hlt : ∀ x ∈ p, x.block < W.heap.size := by
      obtain ⟨fuel, hf⟩ := h1
      exact fun x hx => DataW.trod_lt _ _ _ _ hf x hx
    exact ⟨p, q, Below.trod hl hr.1.1 hr.1.2 h1 hext.below hlt, args_stay hl hext ts vs ds q (by simpa [readB] using hr.2) h2, h3⟩
  | [], _ :: _, _, _, _, h => h.elim
  | [], [], _ :: _, _, _, h => h.elim
  | _ :: _, [], _, _, _, h => h.elim
  | _ :: _, _ :: _, [], _, _, h => h.elim

theorem law_post {f : Func} {s : ChangeSpec} {args : Array Value} {ds gs : List (DataW H)} {before : List MemPlace} {W' : World} {tb : TypeId} (hl : laidOutB P = true) (hr : readB P f.params.toList = true)
    (hres : f.resultTypes = #[tb]) (hb : P.underlying tb = some .bool) (hvars : s.vars = []) (hW : DataW.Whole enc P f.params.toList s.vars false W args.toList ds gs before) (hext : Ext W W')
    (hfn : s.fn H (ds ++ gs) = { results := [.lit (.bool true)], args := ds }) : ChangeSpec.post enc P f s false true false false W args (.bool true) W' := by
  have hW' := hW
  obtain ⟨p, q, hA, hV, rfl, hfz, hnd⟩ := hW
  have hq : gs = [] ∧ q = [] := by
    rw [hvars] at hV
    cases gs with
    | nil => exact ⟨rfl, hV⟩
    | cons _ _ => exact hV.elim
  obtain ⟨rfl, rfl⟩ := hq
  refine ⟨ds, [], p ++ [], [], p, [], hW', ?_, ?_, ?_, hext.below.frame _, fun h => by cases h⟩
  · rw [hfn, hres]
    exact trodAll_cons_mk (shut_bool hb true) trodAll_mk0
  · rw [hfn]
    exact args_stay hl hext _ _ _ _ hr hA
  · rw [hvars, hfn]
    rfl
end
end Go.Ik
