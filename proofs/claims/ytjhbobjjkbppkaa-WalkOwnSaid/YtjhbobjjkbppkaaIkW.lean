/-
  Places on a stack; functions that are handed in, by what they hold; an own slice cut short.
-/
import Derived.Test.YtjhbobjjkbppkaaMGraphS
import Derived.Test.YtjhbobjjkbppkaaMGraph3
import Derived.Test.YtjhbobjjkbppkaaPlWalk
import Derived.Test.YtjhbobjjkbppkaaPlAuto
set_option linter.unusedVariables false
set_option linter.unusedSimpArgs false
set_option linter.unusedSectionVars false
namespace Go.Ik
open Go

/-- an own slice cut short -/
theorem Acc.cut {P : Program} {α : Type} {enc : α → List Value} {e : TypeId} {sz g : Nat} {w : World} {v : Value} {l : List α} {t : TypeId} {by_ : Nat} {gg : Bool} {z : List Value} (h : Acc enc e sz w g v l) (ht : P.underlying t = some (.slice e)) (he : tyI P e = some (gg, sz, by_, z)) (hsz : ∀ x, (enc x).length = sz)
    {k : IntKind} {n : Int} (j : Nat) (hn : n = (j : Int)) (hj : j ≤ l.length) : ∃ v', (∀ w, (Instr.sliceAt t v none (some (.int k n)) none).run P w = .ok v' w) ∧ Acc enc e sz w g v' (l.take j) := by
  rcases h with ⟨h1, h2, h3⟩ | ⟨b, cap, cur, h0, h1, h2, h3, h4, h5, h6⟩
  · subst h2
    have hj0 : j = 0 := by simpa using hj
    subst hj0
    refine ⟨.slice none 0 0, fun w => ?_, .inl ⟨rfl, rfl, h3⟩⟩
    subst h1
    simp [Instr.sliceAt, Instr.slice, Instr.sliceBounds, run_underlying ht, run_sizeOf he, sliceBound_ok (P := P) (k := k) _ hn (Nat.le_refl 0)]
  · refine ⟨.slice (some ⟨b, 0, none⟩) j cap, fun w => ?_, .inr ⟨b, cap, cur, h0, by rw [List.length_take, Nat.min_eq_left hj], h2, by rw [List.length_take]; omega, h4, h5, ?_⟩⟩
    · subst h1
      have hb := fun c w => sliceBound_ok (P := P) (k := k) c hn (Nat.le_trans hj h3) w
      by_cases hc : cap = 0
      · subst hc
        have hj0 : j = 0 := by omega
        subst hj0
        simp [Instr.sliceAt, Instr.slice, Instr.sliceBounds, run_underlying ht, run_sizeOf he, hb]
      · simp [Instr.sliceAt, Instr.slice, Instr.sliceBounds, run_underlying ht, run_sizeOf he, hb, hc, add_lit]
    · rw [List.length_take, Nat.min_eq_left hj, ← flat_take hsz, ← h6, List.take_take, Nat.min_eq_left (Nat.mul_le_mul_right _ hj)]
/-- a graph's blocks are not written -/
theorem Gr.keepM {gt : TypeId} {w w' : World} {lo hi : Nat} {M : Nat → Prop} {v : Value} {N : List GN} (h : Gr gt w lo hi v N) (hm : Mod M w w') (hd : ∀ b, lo ≤ b → b < hi → ¬ M b) : Gr gt w' lo hi v N := by
  rcases h with h | ⟨b, vn, nds, h1, h2, h3, h4, h5⟩
  · exact .inl h
  · exact .inr ⟨b, vn, nds, h1, h2, ⟨h3.1, h3.2.1, h3.2.2.keep hm (hd b h3.1 h3.2.1)⟩, h4.keep hm fun b hb => hd b hb.1 hb.2, h5.keep hm fun b hb => hd b hb.1 hb.2⟩
/-- a function that is handed in, by what it holds -/
structure YieldS (P : Program) {σ : Type} (ky : FuncId) (first cap : List Value) (A : σ → Res (fun _ => False)) (ok : σ → Str → Prop) (f : σ → Str → σ × Bool) : Prop where
  cl : clB P ky = true
  call : ∀ s F w x, (A s).p F w → (∀ b, F b → b < w.heap.size) → ok s x → Calls P ky (first ++ [strV x] ++ cap).toArray w (Ret fun rv w' => rv = .bool (f s x).2 ∧ Mod F w w' ∧ ∃ F', (A (f s x).1).p F' w' ∧ ∀ b, F' b → b < w'.heap.size ∧ (F b ∨ w.heap.size ≤ b))
section
variable {R F0 : Nat → Prop} {w0 w w' : World} {L : List (Res R)} {i j : Nat} {α : Type} {enc : α → List Value}
theorem St.slMem {vs : List (Value × List α)} {v : Value} {l : List α} (h : St R F0 w0 w L) (hi : L[i]? = some (slR enc vs)) (hm : (v, l) ∈ vs) : Sl enc w (Iv 0 w.heap.size) v l := by
  obtain ⟨k, hk, he⟩ := List.getElem_of_mem hm
  exact h.sl hi (List.getElem?_eq_some_iff.2 ⟨hk, he⟩)
theorem sl_app {V V' : List (Value × List α)} {F : Nat → Prop} (h : (boxR (R := R) [slR enc V, slR enc V']).p F w) : (slR (R := R) enc (V ++ V')).p F w := by
  obtain ⟨Fs, h1, h2, _⟩ := h
  intro x hx
  rcases List.mem_append.1 hx with hx | hx
  · exact (h1 0 _ rfl x hx).mono fun b hb => hb.imp (fun h => (h2 0 b h).1.1) id
  · exact (h1 1 _ rfl x hx).mono fun b hb => hb.imp (fun h => (h2 1 b h).1.1) id
end
/-! places on a stack -/
structure PW where
  node : Int
  st : SH
  word : Str
def encPW (x : PW) : List Value := [.int .i64 x.node, x.st.val, strV x.word]
theorem encPW_len (x : PW) : (encPW x).length = 3 := rfl
theorem encPW_one (x : PW) : (encPW x).all (·.oneCell') = true := rfl
open Ml
structure PWR (q : List Int) (d : Int) (s : GS) (V : List (Value × List Pos)) (p : PW) (z : PZ) : Prop where
  node : p.node = (z.n : Int)
  word : p.word = z.word
  st : (p.st.val, stateP q d (runesI z.word)) ∈ V
  na : nodeAt (gnOf s) (z.n : Int) = (finB z.x.1, z.x.2)
  corr : Corr s z.x
  good : GoodR z.x.1
  fine : Fine z.word
  lt : z.n ≤ 1000000
  deep : ∃ e, Deep e z.x.1 ∧ z.word.length + 4 * e ≤ 48
theorem PWR.mono {q : List Int} {d : Int} {s : GS} {V V' : List (Value × List Pos)} {p : PW} {z : PZ} (h : PWR q d s V p z) (hV : ∀ x ∈ V, x ∈ V') : PWR q d s V' p z := { h with st := hV _ h.st }
theorem PWR.start {q : List Int} {d : Int} (hd : 0 ≤ d) {s : GS} {words : List Str} {es : List Ed} {sh : SH} {v : Value} (hv : v = sh.val) (hna : nodeAt (gnOf s) 0 = (finB words, es)) (hc : Corr s (words, es)) (hg : GoodR words) (hdp : Deep 12 words) :
    All2 (PWR q d s [(v, [⟨0, 0⟩])]) [PW.mk 0 sh []] [⟨0, (words, es), []⟩] :=
  .cons ⟨rfl, rfl, by rw [hv, show runesI ([] : Str) = [] from rfl, stateP_start hd]; simp, hna, hc, hg, by simp [Fine, runes_nil], by simp, 12, hdp, by simp⟩ .nil
theorem All2.snoc {α β : Type} {R : α → β → Prop} {l : List α} {m : List β} {a : α} {b : β} (h : All2 R l m) (hab : R a b) : All2 R (l ++ [a]) (m ++ [b]) := by
  induction h with
  | nil => exact .cons hab .nil
  | cons x _ ih => exact .cons x ih
theorem All2.pop {α β : Type} {R : α → β → Prop} : ∀ {l : List α} {m : List β} {n : Nat} {a : α}, All2 R l m → l[n]? = some a → n + 1 = l.length → ∃ m1 b, m = m1 ++ [b] ∧ All2 R (l.take n) m1 ∧ R a b
  | _, _, n, a, .nil, hx, _ => by simp at hx
  | _, _, 0, a, .cons (l := l) (m := m) hab h, hx, hn => by
    have : l = [] := List.eq_nil_of_length_eq_zero (by simp only [List.length_cons] at hn; omega)
    subst this
    cases h
    simp only [List.getElem?_cons_zero, Option.some.injEq] at hx
    subst hx
    exact ⟨[], _, rfl, .nil, hab⟩
  | _, _, n + 1, a, .cons (l := l) (m := m) hab h, hx, hn => by
    obtain ⟨m1, b, h1, h2, h3⟩ := All2.pop h (by simpa using hx) (by simp only [List.length_cons] at hn; omega)
    exact ⟨_ :: m1, b, by rw [h1]; rfl, .cons hab h2, h3⟩
theorem PWR.pop {q : List Int} {d : Int} {s : GS} {V : List (Value × List Pos)} {ps : List PW} {zs : List PZ} {n : Nat} {x : PW} (h : All2 (PWR q d s V) ps zs) (hx : ps[n]? = some x) (hn : n + 1 = ps.length) :
    ∃ zs1 z sh, zs = zs1 ++ [z] ∧ x = PW.mk (z.n : Int) sh z.word ∧ All2 (PWR q d s V) (ps.take n) zs1 ∧ (sh.val, stateP q d (runesI z.word)) ∈ V ∧ nodeAt (gnOf s) (z.n : Int) = (finB z.x.1, z.x.2) ∧ Corr s z.x ∧ GoodR z.x.1 ∧ Fine z.word ∧ z.n ≤ 1000000 ∧ ∃ e, Deep e z.x.1 ∧ z.word.length + 4 * e ≤ 48 := by
  obtain ⟨zs1, z, h1, h2, h3⟩ := All2.pop h hx hn
  refine ⟨zs1, z, x.st, h1, ?_, h2, h3.st, h3.na, h3.corr, h3.good, h3.fine, h3.lt, h3.deep⟩
  rw [← h3.node, ← h3.word]
theorem PWR.push {q : List Int} {d : Int} (hd : 0 ≤ d) {s : GS} {V : List (Value × List Pos)} {ps : List PW} {zs : List PZ} (h : All2 (PWR q d s V) ps zs) (hsz : s.length ≤ 1000000) (hnode : ∀ y ∈ s, Corr s y ∧ GoodR y.1 ∧ Deep 12 y.1) {w : Str} (hw : Fine w) {g : Nat × List Str} {j : Nat} {es : List Ed} {r : Int} {sh : SH} {L : List Pos} {wd : Str} {de : Nat}
    (hru : r = (g.1 : Int)) (hj : s[j]? = some (g.2, es)) (hg : goodN g.1) (hL : L = stateF (q.length + 1) d (cstepF d q (spreadF q.length d (stateP q d (runesI w))) r)) (hwd : wd = w ++ encL g.1) (hde : Deep de g.2) (hlen : w.length + 4 * (de + 1) ≤ 48) {to : Int} (hto : to = (j : Int)) :
    All2 (PWR q d s (V ++ [(sh.val, L)])) (ps ++ [PW.mk to sh wd]) (zs ++ [⟨j, (g.2, es), w ++ encL g.1⟩]) := by
  have hn := hnode _ (List.mem_of_getElem? hj)
  have h4 := encL_len4 g.1
  refine All2.snoc (h.imp fun a b hab => hab.mono fun x hx => by simp [hx]) ⟨hto, hwd, ?_, gnOf_at hj, hn.1, hn.2.1, fine_app' hg hw, by have := (List.getElem?_eq_some_iff.1 hj).1; simp only; omega, de, hde, by simp only [List.length_append]; omega⟩
  rw [hL, hru, stateP_step hd, ← runesI_app hg w hw]
  simp
theorem wgt_len : ∀ {ps : List PW} {zs : List PZ} {R : PW → PZ → Prop}, All2 R ps zs → ps.length ≤ wgtS zs
  | _, _, _, .nil => by simp
  | _, _, _, .cons (b := b) (m := m) _ h => by
    have := wgt_len h
    have h1 := wgt_pos b.x.1
    simp only [List.length_cons, wgtS, List.map_cons, List.sum_cons] at this ⊢
    omega
end Go.Ik
namespace Go.Ml
open Go.Ik
/-! going on behind a place -/
section
variable {σ : Type} {f : σ → Str → σ × Bool} {ok : σ → Str → Prop} {s0 sk : σ} {L E T : List Str} {w : Str} {P : Prop} [Decidable P]
theorem yz_no (h : eachF f s0 L = eachF f sk (((if P then [w] else []) ++ E) ++ T)) (hp : ¬ P) : eachF f s0 L = eachF f sk (E ++ T) := by rw [if_neg hp] at h; exact h
theorem yz_okno (h : OkAll ok f sk (((if P then [w] else []) ++ E) ++ T)) (hp : ¬ P) : OkAll ok f sk (E ++ T) := by rw [if_neg hp] at h; exact h
theorem yz_yes (h : eachF f s0 L = eachF f sk (((if P then [w] else []) ++ E) ++ T)) (hp : P) (hy : (f sk w).2 = true) : eachF f s0 L = eachF f (f sk w).1 (E ++ T) := by
  rw [if_pos hp, List.append_assoc] at h; rw [h]; exact each_first hy
theorem yz_stop (h : eachF f s0 L = eachF f sk (((if P then [w] else []) ++ E) ++ T)) (hp : P) (hy : (f sk w).2 = false) : eachF f s0 L = ((f sk w).1, false) := by
  rw [if_pos hp, List.append_assoc] at h; rw [h]; exact each_first_no hy
theorem yz_ok (h : OkAll ok f sk (((if P then [w] else []) ++ E) ++ T)) (hp : P) : ok sk w := by
  rw [if_pos hp, List.append_assoc] at h; exact h.1
theorem yz_okyes (h : OkAll ok f sk (((if P then [w] else []) ++ E) ++ T)) (hp : P) (hy : (f sk w).2 = true) : OkAll ok f (f sk w).1 (E ++ T) := by
  rw [if_pos hp, List.append_assoc] at h; exact h.2 hy
end
theorem far_yes {D d : Int} (h : decide (D ≤ d) = true) (h2 : (if D > d then 0 else D) = d) : D ≤ d ∧ D = d := by
  have := of_decide_eq_true h
  rw [if_neg (by omega)] at h2
  exact ⟨this, h2⟩
theorem far_no {D d : Int} (h2 : ¬ (if D > d then 0 else D) = d) (hc : D ≤ d ∧ D = d) : False := by rw [if_neg (by omega)] at h2; exact h2 hc.2
theorem far_no2 {D d : Int} (h : decide (D ≤ d) = false) (hc : D ≤ d ∧ D = d) : False := (of_decide_eq_false h) hc.1
/-- an edge that leads to nothing near -/
theorem eNear_dead {s : GS} {q : List Int} {d : Int} (hd : 0 ≤ d) {z : PZ} {g : Nat × List Str} {j : Nat} {es : List Ed} {r : Int} {L : List Pos} (hf : Fine z.word) (hru : r = (g.1 : Int)) (hg : goodN g.1) (hj : s[j]? = some (g.2, es)) (hnode : ∀ y ∈ s, Corr s y ∧ GoodR y.1 ∧ Deep 12 y.1)
    (hL : L = stateF (q.length + 1) d (cstepF d q (spreadF q.length d (stateP q d (runesI z.word))) r)) (hdead : L.isEmpty = true) : eNear q d z g = [] := by
  have hn := hnode _ (List.mem_of_getElem? hj)
  rw [hru, stateP_step hd, ← runesI_app hg z.word hf] at hL
  have he : L = [] := List.isEmpty_iff.1 hdead
  rw [he] at hL
  exact dead_near hd (fine_app' hg hf) hL.symm hn.2.1.fine
end Go.Ml
namespace Go.Ml
open Go.Ik
theorem eFrom_at {q : List Int} {d : Int} {z : PZ} {i : Int} (h : i < 0) : eFrom q d z (i + 1).toNat = eFrom q d z 0 := by rw [show (i + 1).toNat = 0 from by omega]
theorem wgtFrom_at {l : List (Nat × List Str)} {i : Int} (h : i < 0) : wgtFrom l (i + 1).toNat = wgtE l := by rw [show (i + 1).toNat = 0 from by omega, wgtFrom_zero]
theorem eFrom_to {q : List Int} {d : Int} {z : PZ} {i : Int} {X : List Str} (h : 0 ≤ i) (hx : eFrom q d z i.toNat = X ++ eFrom q d z (i.toNat + 1)) : eFrom q d z (i - 1 + 1).toNat = X ++ eFrom q d z (i + 1).toNat := by
  rw [show (i - 1 + 1).toNat = i.toNat from by omega, show (i + 1).toNat = i.toNat + 1 from by omega]; exact hx
theorem wgtFrom_to {l : List (Nat × List Str)} {i : Int} {x : Nat} (h : 0 ≤ i) (hx : wgtFrom l i.toNat = x + wgtFrom l (i.toNat + 1)) : wgtFrom l (i - 1 + 1).toNat = x + wgtFrom l (i + 1).toNat := by
  rw [show (i - 1 + 1).toNat = i.toNat from by omega, show (i + 1).toNat = i.toNat + 1 from by omega]; exact hx
theorem grp_len {s : GS} {x : List Str × List Ed} (hc : Corr s x) : (groups (dropE x.1)).length = x.2.length := (All2.get hc).1
theorem zs_nil {q : List Int} {d : Int} {s : GS} {V : List (Value × List Pos)} {ps : List PW} {zs : List PZ} (h : All2 (PWR q d s V) ps zs) (hp : ps.length = 0) : zs = [] := by
  have := (All2.get h).1
  exact List.eq_nil_of_length_eq_zero (by omega)
end Go.Ml
namespace Go.Ml
open Go.Ik
theorem wgtFrom_le (l : List (Nat × List Str)) (k : Nat) : wgtFrom l k ≤ wgtE l := by
  unfold wgtFrom wgtE
  conv => rhs; rw [← List.take_append_drop k l]
  rw [List.map_append, List.sum_append]; omega
end Go.Ml
