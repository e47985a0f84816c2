import Derived.Test.YtnikbecfjbjbbaaDoorLibC
import Derived.Lib.Builder
import Derived.Lib.UnsafeStr
import Derived.Lib.Bytealg
import Derived.Lib.AppendStr
import Derived.Lib.LaidTab
import Derived.Lib.AtoiErrMem
import Derived.Shelf.Strconv.Itoa3
import Derived.Shelf.Strconv.AtoiAll
import Derived.Lib.ItoaLen
import Derived.Laws.BitsAllLaws
/-
  The reference's graph as what is held.
-/
set_option linter.unusedVariables false
set_option linter.unusedSimpArgs false
namespace Go.Ik
open Go Go.Ml

structure RNd where
  r : SH
  e : SH
def encRd (x : RNd) : List Value := [x.r.val, x.e.val]
theorem encRd_len (x : RNd) : (encRd x).length = 2 := rfl
theorem encRd_one (x : RNd) : (encRd x).all (·.oneCell') = true := rfl
section
variable {R : Nat → Prop}
def RR (w : World) (F : Nat → Prop) (nds : List RNd) (s : GS) : Prop := All2 (fun n x => Sl encS w F n.r.val x.1 ∧ Sl encE w F n.e.val x.2) nds s
theorem RR.mono {w : World} {F F' : Nat → Prop} {nds : List RNd} {s : GS} (h : RR w F nds s) (hF : ∀ b, F b → F' b) : RR w F' nds s := All2.imp (fun r n ⟨h1, h2⟩ => ⟨h1.mono hF, h2.mono hF⟩) h
theorem RR.keep {M : Nat → Prop} {w w' : World} {F : Nat → Prop} {nds : List RNd} {s : GS} (h : RR w F nds s) (hm : Mod M w w') (hF : ∀ b, F b → ¬ M b) : RR w' F nds s := All2.imp (fun r n ⟨h1, h2⟩ => ⟨h1.keep hm hF, h2.keep hm hF⟩) h
theorem RR.len {w : World} {F : Nat → Prop} {nds : List RNd} {s : GS} (h : RR w F nds s) : nds.length = s.length := (All2.get h).1
theorem RR.at {w : World} {F : Nat → Prop} {nds : List RNd} {s : GS} (h : RR w F nds s) {k : Nat} {n : RNd} (hn : nds[k]? = some n) : ∃ x, s[k]? = some x ∧ Sl encS w F n.r.val x.1 ∧ Sl encE w F n.e.val x.2 := by
  have hg := All2.get h
  have hlt := (List.getElem?_eq_some_iff.1 hn).1
  have hx : s[k]? = some (s[k]'(by rw [← hg.1]; exact hlt)) := by simp
  exact ⟨_, hx, hg.2 k _ _ hn hx⟩
def rrR (nds : List RNd) (s : GS) : Res R := ⟨fun F w => RR w (fun b => F b ∨ R b) nds s, fun h hm hF hR => RR.keep h hm fun b hb => hb.elim (hF b) (hR b)⟩
/-- the graph in block 'bG': its nodes' rests (their headers: 'hs') and edges -/
def rgR (gT nT : TypeId) (bG : Nat) (s : GS) (hs : List Value) : Res R := exR fun x : Value × List RNd => andR (x.2.map (fun n => n.r.val) = hs) (boxR [bkR bG [x.1] gT, accR encRd nT 2 x.1 x.2, rrR x.2 s])
theorem St.and {F0 : Nat → Prop} {w0 w : World} {L : List (Res R)} {i : Nat} {P : Prop} {A : Res R} (h : St R F0 w0 w L) (hi : L[i]? = some (andR P A)) : P ∧ St R F0 w0 w (L.set i A) := by
  obtain ⟨F, h1, _⟩ := h.get hi
  exact ⟨h1.1, h.imp hi fun F hF => hF.2⟩
theorem St.rrAt {F0 : Nat → Prop} {w0 w : World} {L : List (Res R)} {i k : Nat} {nds : List RNd} {s : GS} {n : RNd} (h : St R F0 w0 w L) (hi : L[i]? = some (rrR nds s)) (hn : nds[k]? = some n) : ∃ x, s[k]? = some x ∧ Sl encS w (Iv 0 w.heap.size) n.r.val x.1 ∧ Sl encE w (Iv 0 w.heap.size) n.e.val x.2 := by
  obtain ⟨F, h1, h2⟩ := h.get hi
  have h3 : RR w (Iv 0 w.heap.size) nds s := RR.mono h1 fun b hb => ⟨Nat.zero_le _, hb.elim (h2 b) (h.rlt b)⟩
  exact h3.at hn
theorem St.rrLen {F0 : Nat → Prop} {w0 w : World} {L : List (Res R)} {i : Nat} {nds : List RNd} {s : GS} (h : St R F0 w0 w L) (hi : L[i]? = some (rrR nds s)) : nds.length = s.length := by
  obtain ⟨F, h1, _⟩ := h.get hi
  exact RR.len h1
theorem St.rgAt {F0 : Nat → Prop} {w0 w : World} {L : List (Res R)} {i k : Nat} {gT nT : TypeId} {bG : Nat} {s : GS} {hs : List Value} {v : Value} {x : List Str × List Ed} (h : St R F0 w0 w L) (hi : L[i]? = some (rgR gT nT bG s hs)) (hv : hs[k]? = some v) (hx : s[k]? = some x) : Sl encS w (Iv 0 w.heap.size) v x.1 := by
  obtain ⟨F, ⟨⟨vN, nds⟩, hm, Fs, h1, h2, h3⟩, hF⟩ := h.get hi
  have h4 : RR w (fun b => Fs 2 b ∨ R b) nds s := h1 2 _ rfl
  have h5 : RR w (Iv 0 w.heap.size) nds s := RR.mono h4 fun b hb => ⟨Nat.zero_le _, hb.elim (fun h => (h2 2 b h).2) (h.rlt b)⟩
  have hm' : nds.map (fun n => n.r.val) = hs := hm
  subst hm'
  rw [List.getElem?_map] at hv
  obtain ⟨n, hn, rfl⟩ := Option.map_eq_some_iff.1 hv
  obtain ⟨x', hx', h6, _⟩ := h5.at hn
  rw [hx] at hx'; cases hx'
  exact h6
theorem rr_push {nds : List RNd} {s : GS} {v : Value} {rests : List Str} {n : RNd} {F : Nat → Prop} {w : World} (hv : v = n.r.val) (he : n.e.val = .slice none 0 0) (h : (boxR (R := R) [rrR nds s, slR encS [(v, rests)]]).p F w) : (rrR (R := R) (nds ++ [n]) (s ++ [(rests, [])])).p F w := by
  obtain ⟨F1, F2, h1, h2, h3, h4⟩ := sep_pair h
  exact All2.app (RR.mono h1 fun b hb => hb.imp (h3 b) id) (.cons ⟨hv ▸ (slR_one h2).mono fun b hb => hb.imp (h4 b) id, he ▸ Sl.nil⟩ .nil)
theorem rg_len {gT nT : TypeId} {bG : Nat} {s : GS} {hs : List Value} {F : Nat → Prop} {w : World} (h : (rgR (R := R) gT nT bG s hs).p F w) : hs.length = s.length := by
  obtain ⟨⟨vN, nds⟩, hm, Fs, h1, h2, h3⟩ := h
  have h4 : RR w (fun b => Fs 2 b ∨ R b) nds s := h1 2 _ rfl
  have hm' : nds.map (fun n => n.r.val) = hs := hm
  rw [← hm', List.length_map]; exact RR.len h4
theorem all2_set {α β : Type} {Q : α → β → Prop} : ∀ {a : List α} {b : List β} {i : Nat} {x : α} {y : β}, All2 Q a b → Q x y → All2 Q (a.set i x) (b.set i y)
  | _, _, _, _, _, .nil, _ => .nil
  | _, _, 0, _, _, .cons h r, hq => .cons hq r
  | _, _, i + 1, _, _, .cons h r, hq => .cons h (all2_set r hq)
theorem rr_set {nds : List RNd} {s : GS} {k : Nat} {n : RNd} {hd : SH} {rests : List Str} {es0 es : List Ed} {e : TypeId} {v : Value} {F : Nat → Prop} {w : World} (hn : nds[k]? = some n) (hx : s[k]? = some (rests, es0)) (hv : v = hd.val) (h : (boxR (R := R) [rrR nds s, accR encE e 2 v es]).p F w) :
    (rrR (R := R) (nds.set k (RNd.mk n.r hd)) (s.set k (rests, es))).p F w := by
  obtain ⟨F1, F2, h1, h2, h3, h4⟩ := sep_pair h
  have h5 : RR w (fun b => F b ∨ R b) nds s := RR.mono h1 fun b hb => hb.imp (h3 b) id
  obtain ⟨x, hx', h6, _⟩ := h5.at hn
  rw [hx] at hx'; cases hx'
  exact all2_set h5 ⟨h6, hv ▸ (acc_sl h2).mono fun b hb => .inl (h4 b hb)⟩
theorem rr_set0 {nds : List RNd} {s : GS} {k : Nat} {n : RNd} {hd : SH} {rests : List Str} {es0 : List Ed} {F : Nat → Prop} {w : World} (hn : nds[k]? = some n) (hx : s[k]? = some (rests, es0)) (hv : hd.val = .slice none 0 0) (h : (rrR (R := R) nds s).p F w) :
    (rrR (R := R) (nds.set k (RNd.mk n.r hd)) (s.set k (rests, []))).p F w := by
  obtain ⟨x, hx', h6, _⟩ := RR.at h hn
  rw [hx] at hx'; cases hx'
  exact all2_set h ⟨h6, hv ▸ Sl.nil⟩
end
theorem map_set_r {nds : List RNd} {k : Nat} {n : RNd} {hd : SH} (hn : nds[k]? = some n) : (nds.set k (RNd.mk n.r hd)).map (fun n => n.r.val) = nds.map (fun n => n.r.val) := by
  obtain ⟨h, rfl⟩ := List.getElem?_eq_some_iff.1 hn
  rw [List.map_set]
  refine List.ext_getElem? fun i => ?_
  rw [List.getElem?_set]
  split
  · rename_i e; subst e
    simp [h]
  · rfl
theorem at_mid {α : Type} {a b : List α} {x : α} {n : Nat} (h : n = a.length) : (a ++ x :: b)[n]? = some x := by
  subst h
  rw [List.getElem?_append_right (Nat.le_refl _), Nat.sub_self]; rfl
theorem set_mid {α : Type} {a b : List α} {x y : α} {n : Nat} (h : n = a.length) : (a ++ x :: b).set n y = a ++ y :: b := by
  subst h
  rw [List.set_append_right _ _ (Nat.le_refl _), Nat.sub_self]; rfl
end Go.Ik
namespace Go.Ik
open Go Go.Ml
theorem RR.ext {w w' : World} {F : Nat → Prop} {nds : List RNd} {s : GS} (h : RR w F nds s) (hm : Ext w w') : RR w' F nds s := RR.keep h hm fun _ _ x => x
theorem RR.keepG {w w' : World} {lo hi g : Nat} {nds : List RNd} {s : GS} (h : RR w (Iv lo hi) nds s) (hm : Mod (Mg g) w w') (hg : g ≤ lo ∨ hi < g) : RR w' (Iv lo hi) nds s := RR.keep h hm fun b hb hx => by unfold Iv Mg at *; omega
/-- what a graph of the reference is, when nobody writes it any more -/
theorem rg_facts {R F : Nat → Prop} {gT nT : TypeId} {bG n : Nat} {s : GS} {hs : List Value} {w : World} (h : (rgR (R := R) gT nT bG s hs).p F w) (hF : ∀ b, F b → b < w.heap.size ∧ n ≤ b) (hR : ∀ b, R b → b < w.heap.size) :
    ∃ vN nds, Rw w n w.heap.size bG [vN] ∧ Sl encRd w (Iv n w.heap.size) vN nds ∧ RR w (Iv 0 w.heap.size) nds s := by
  obtain ⟨⟨vN, nds⟩, hm, Fs, h1, h2, h3⟩ := h
  have hF' : ∀ i b, Fs i b → n ≤ b ∧ b < w.heap.size := fun i b hb => ⟨(hF b (h2 i b hb).1.1).2, (h2 i b hb).2⟩
  have k0 := h1 0 _ rfl
  have k1 := h1 1 _ rfl
  have k2 := h1 2 _ rfl
  exact ⟨vN, nds, ⟨(hF' 0 _ k0.2).1, (hF' 0 _ k0.2).2, k0.1.row⟩, (acc_sl k1).mono fun b hb => hF' 1 b hb, RR.mono k2 fun b hb => ⟨Nat.zero_le _, hb.elim (fun h => (hF' 2 b h).2) (hR b)⟩⟩
theorem graphB_add (words : List Str) : (addM 13 [] words).1 = graphB words := by
  unfold graphB
  split
  · rename_i h; subst h; rfl
  · rfl
theorem node_yes {s : GS} {n : Int} {x : List Str × List Ed} (h : 0 ≤ n) (hx : s[n.toNat]? = some x) : nodeAt (gnOf s) n = (finB x.1, x.2) := by
  have := gnOf_at hx
  rw [show ((n.toNat : Nat) : Int) = n from by omega] at this
  exact this
theorem node_no {s : GS} {n : Int} (h : n < 0 ∨ (s.length : Int) ≤ n) : nodeAt (gnOf s) n = (false, []) := nodeAt_no (by rw [gnOf_len]; exact h)
theorem fin_head0 {r : List Str} {x : Str} (hx : r[0]? = some x) {b : Bool} (hb : b = (x == [])) : b = finB r := by
  unfold finB
  rw [hb, List.head?_eq_getElem?, hx]
  cases x <;> simp
theorem fin_nil {r : List Str} (h : ¬ (((r.length : Nat) : Int) > 0)) : false = finB r := by
  have : r = [] := List.eq_nil_of_length_eq_zero (by omega)
  subst this; rfl
/-- the reference's words from a text on -/
structure FromInv (words : List Str) (w : Str) (most : Int) (k : Nat) (l : List Str) : Prop where
  is : l = geF (words.take k) w
  lt : (l.length : Int) ≤ most ∨ l = []
theorem FromInv.start (words : List Str) (w : Str) (most : Int) : FromInv words w most 0 [] := ⟨by simp [geF], .inr rfl⟩
theorem FromInv.yes {words : List Str} {w : Str} {most : Int} {k : Nat} {l : List Str} {x : Str} (h : FromInv words w most k l) (hx : words[k]? = some x) (hc : Lib.compareBytes x w ≥ 0) (hl : (l.length : Int) < most) : FromInv words w most (k + 1) (l ++ [x]) := by
  refine ⟨?_, .inl (by simp only [List.length_append, List.length_cons, List.length_nil]; omega)⟩
  rw [h.is]; unfold geF
  rw [List.take_add_one, hx]
  simp [hc]
theorem FromInv.no {words : List Str} {w : Str} {most : Int} {k : Nat} {l : List Str} {x : Str} (h : FromInv words w most k l) (hx : words[k]? = some x) (hc : ¬ Lib.compareBytes x w ≥ 0) : FromInv words w most (k + 1) l := by
  refine ⟨?_, h.lt⟩
  rw [h.is]; unfold geF
  rw [List.take_add_one, hx]
  simp [hc]
theorem FromInv.fin {words : List Str} {w : Str} {most : Int} {k : Nat} {l : List Str} (h : FromInv words w most k l) (he : words.length ≤ k ∨ ¬ (l.length : Int) < most) : l = fromM words w most := by
  rw [fromM_take]
  have e : geF words w = geF (words.take k) w ++ geF (words.drop k) w := by
    unfold geF; rw [← List.filter_append, List.take_append_drop]
  rw [e, ← h.is]
  rcases he with he | he
  · rw [List.drop_of_length_le he]
    have : geF [] w = [] := rfl
    rw [this, List.append_nil]
    rcases h.lt with h1 | h1
    · rw [List.take_of_length_le (by omega)]
    · rw [h1]; simp
  · rcases h.lt with h1 | h1
    · rw [show most.toNat = l.length from by omega, List.take_left]
    · subst h1
      simp only [List.length_nil] at he
      rw [show most.toNat = 0 from by omega]; simp
end Go.Ik
namespace Go.Ik
open Go Go.Ml
theorem graphB_root {words : List Str} (h : goodL words = 0) : ∃ es, (graphB words)[0]? = some (words, es) := by
  unfold graphB
  split
  · rename_i e; subst e; exact ⟨[], rfl⟩
  · rename_i hne
    exact (graphM_ok (good_deep h).2 (good_deep h).1 hne).root
end Go.Ik
/-
  strings.Builder wherever it lies: at the head of a block, with what follows it there; entries of the library in place.
-/
set_option linter.unusedVariables false
set_option linter.unusedSimpArgs false
namespace Go.Ik
open Go

section
variable {P : Program} {E : Env} {C : World → Prop} {d : Option Tmp} {ty : TypeId} {pos : String} {af : Array Edge} {gd : Option (Nat × Bool)} {w : World} {K : Value → World → Prop}
/-- a type laid out as 'u' at the head of a block of 'n' cells of type 'e' -/
def liesB (P : Program) (e n u : TypeId) : Bool := liesAt P P.depth e (n / P.cellsOf e) 0 u 1
theorem bk_shape {b : Nat} {cs : List Value} {e : TypeId} (h : Bk w b cs e) : w.shape? b = some (e, cs.length) := by
  unfold Bk at h
  simp [World.shape?, h]
def sizedB (P : Program) (t : TypeId) : Bool := match P.info? t with | some j => Nat.blt 0 j.size | none => false
theorem sizedB_spec {t : TypeId} (h : sizedB P t = true) : ∃ j, P.info? t = some j ∧ j.size ≠ 0 := by
  unfold sizedB at h
  cases hi : P.info? t with
  | none => rw [hi] at h; cases h
  | some j =>
    rw [hi] at h
    have : 0 < j.size := Nat.le_of_ble_eq_true h
    exact ⟨j, rfl, by omega⟩
theorem Q1.toUnsafe {src dst t e : TypeId} {x : Operand} {b : Nat} {cs : List Value} (hs : P.underlying src = some (.pointer t)) (hd : P.underlying dst = some .unsafePointer) (hz : sizedB P t = true) (hx : ev E x = some (ptr b 0)) (h0 : 0 < cs.length) (hb : ∀ w, C w → Bk w b cs e) :
    Q1 P ⟨d, .convert src dst x, ty, pos, af, gd⟩ E C (ptr b 0) := fun a ha w hC => by
  obtain ⟨j, ht, hj⟩ := sizedB_spec hz
  have := Lib.run_to_unsafe (P := P) (w := w) ⟨b, 0, none⟩ hs hd ht hj (bk_shape (hb w hC)) h0
  simp [execOp, ha.ev hx, ptr, this]
theorem Q1.fromUnsafe {src dst u e : TypeId} {x : Operand} {b : Nat} {cs : List Value} (hs : P.underlying src = some .unsafePointer) (hd : P.underlying dst = some (.pointer u)) (hz : sizedB P u = true) (hx : ev E x = some (ptr b 0)) (hl : liesB P e cs.length u = true) (hb : ∀ w, C w → Bk w b cs e) :
    Q1 P ⟨d, .convert src dst x, ty, pos, af, gd⟩ E C (ptr b 0) := fun a ha w hC => by
  obtain ⟨j, hu, _⟩ := sizedB_spec hz
  have := Lib.run_from_unsafe (P := P) (w := w) ⟨b, 0, none⟩ hs hd hu (bk_shape (hb w hC)) hl
  simp [execOp, ha.ev hx, ptr, this]
theorem Q1.nePtr {xt yt e : TypeId} {x y : Operand} {b off : Nat} (hu : P.underlying xt = some (.pointer e)) (hz : sizedB P e = true) (hx : ev E x = some (ptr b off)) (hy : ev E y = some (ptr b off)) : Q1 P ⟨d, .binOp .neq xt x y yt, ty, pos, af, gd⟩ E C (.bool false) := fun s ha w _ => by
  obtain ⟨j, he, _⟩ := sizedB_spec hz
  have := Lib.run_neq_ptr_same (P := P) (w := w) ⟨b, off, none⟩ hu he
  have h2 : binOp .neq xt (.pointer (some ⟨b, off, none⟩)) (.pointer (some ⟨b, off, none⟩)) = (do pure (.bool !(← Op.equal xt (.pointer (some ⟨b, off, none⟩)) (.pointer (some ⟨b, off, none⟩)))) : Sem Value) := rfl
  simp only [execOp, ha.ev hx, ha.ev hy, ptr, Sem.run_bind, eqGuard_ptr, Result.andThen_ok, this, Sem.run_pure]
theorem sliceData_row {ts : Array TypeId} {a : Addr} {n c : Nat} (hc : c ≠ 0) (w : World) : (Builtin.unsafeSliceData_ ts ty #[.slice (some a) n c]).run P w = .ok (.pointer (some a)) w := Lib.run_unsafeSliceData_row _ _ _ _ _ _ hc
theorem Q1.sliceData {x : Operand} {ts : Array TypeId} {b n c : Nat} (hc : c ≠ 0) (hx : ev E x = some (.slice (some ⟨b, 0, none⟩) n c)) : Q1 P ⟨d, .call { callee := .builtin .unsafeSliceData, args := #[x], argTypes := ts }, ty, pos, af, gd⟩ E C (ptr b 0) := fun s ha w _ => by
  have := sliceData_row (P := P) (ty := ty) (ts := ts) (a := ⟨b, 0, none⟩) (n := n) hc w
  simp [execOp, resolve, invoke, builtin, ha.ev hx, this, ptr]
theorem freeze_mod (w : World) (b n : Nat) : Mod (Mg (b + 1)) w (w.freeze ⟨b, 0, none⟩ n) := by
  have h := Lib.below_freeze (Go.RowKit.Below.refl b w) (p := ⟨b, 0, none⟩) (Nat.le_refl _) n
  refine ⟨h.os, h.tape, h.output, h.size, fun k o hk hn => ?_⟩
  have hne : k ≠ b := fun e => hn (by unfold Mg; omega)
  unfold World.freeze
  split <;> first | exact hk | (simp only []; first | (rw [Array.getElem?_modify, if_neg (fun e => hne e.symm)]; exact hk) | (rw [Array.getElem?_setIfInBounds_ne (fun e => hne e.symm)]; exact hk) | exact hk)
theorem flat_encB_at : ∀ (l : Str) (j : Nat) (x : UInt8), l[j]? = some x → (l.flatMap encB)[j]? = some (.int .u8 (x.toNat : Int))
  | [], j, x, h => by simp at h
  | a :: l, 0, x, h => by
    simp only [List.getElem?_cons_zero, Option.some.injEq] at h
    subst h; rfl
  | a :: l, j + 1, x, h => by
    rw [List.flatMap_cons]
    simpa [encB] using flat_encB_at l j x (by simpa using h)
/-- unsafe.String of bytes of the call's own: they are frozen from then on -/
theorem AW.unsafeStr {x y : Operand} {pt it t5 : TypeId} {g : Nat} {v : Value} {l : Str} {b c : Nat} (hpt : P.underlying pt = some (.pointer t5)) (hcb : P.cellsOf t5 = 1) (h0 : l ≠ []) (hx : ev E x = some (ptr b 0)) (hy : ev E y = some (.int .i64 ((l.length : Nat) : Int))) (ha : Acc encB t5 1 w g v l) (hv : v = .slice (some ⟨b, 0, none⟩) l.length c)
    (hK : ∀ w', Mod (Mg g) w w' → K (strV l) w') : AW P ⟨d, .call { callee := .builtin .unsafeString, args := #[x, y], argTypes := #[pt, it] }, ty, pos, af, gd⟩ E w K := fun s hs => by
  subst hv
  rcases ha with ⟨h, _⟩ | ⟨b', cap, cur, rfl, h1, hg, hcap, hm, hsz, ht⟩
  · simp at h
  · simp only [Value.slice.injEq, Option.some.injEq, Addr.mk.injEq, true_and, and_true] at h1
    obtain ⟨rfl, rfl⟩ := h1
    have hrow := Row.of_blk (w := w) (b := b) (cs := cur.toList) (e := t5) (fz := (0, 0)) (by simpa using hg)
    have hUS := Lib.run_unsafeString_row (P := P) w pt it ty t5 hpt hcb b cur.size (by simp [World.shape?, hg]) l h0 (by rw [hsz]; omega) (by unfold maxLen at hm; omega) (fun j x hj => by
      have hjl := (List.getElem?_eq_some_iff.1 hj).1
      have : cur.toList[j]? = some (.int .u8 (x.toNat : Int)) := by
        have h2 := congrArg (fun z => z[j]?) ht
        simp only [Nat.mul_one] at h2
        rw [List.getElem?_take, if_pos hjl] at h2
        rw [h2]; exact flat_encB_at l j x hj
      have := hrow.cell j _ this
      rw [add_lit]; exact this)
    have h := hK (w.freeze ⟨b, 0, none⟩ l.length) (freeze_mod w b l.length)
    simp only [execOp, resolve, invoke, builtin]
    simp [hs.ev hx, hs.ev hy, ptr, hUS, out]
    exact h
end

/-! a text's bytes behind a slice of bytes -/
theorem strCells_enc (s : Str) : Lib.strCells ⟨s.toArray⟩ = s.flatMap encB := by
  unfold Lib.strCells
  show s.map _ = _
  induction s with
  | nil => rfl
  | cons a l ih => rw [List.map_cons, List.flatMap_cons, ih]; rfl
theorem Acc.appendStr {P : Program} {e : TypeId} {w : World} {g : Nat} {v : Value} {l : Str} (h : Acc encB e 1 w g v l) {t u ty : TypeId} {gg : Bool} {by_ : Nat} {z : List Value} (ht : P.underlying t = some (.slice e)) (hu : P.underlying u = some .string) (he : tyI P e = some (gg, 1, by_, z)) (hz : z.length = 1) {s : Str}
    (hbytes : (l.length + s.length) * by_ ≤ 140737488355328) (hmax : l.length + s.length ≤ maxLen) :
    ∃ v' g' w', (Builtin.append_ #[t, u] ty #[v, strV s]).run P w = .ok v' w' ∧ Acc encB e 1 w' g' v' (l ++ s) ∧ Mod (Mg g) w w' ∧ (g' = g ∨ w.heap.size < g') := by
  obtain ⟨i, dd, zv, i1, i2, i3, i4, i5, i6, i7⟩ := tyI_spec he
  have hsz : ∀ x, (encB x).length = 1 := encB_len
  have hss : (⟨s.toArray⟩ : ByteArray).size = s.length := by simp [ByteArray.size]
  have hl2 : (s.flatMap encB).length = s.length := by rw [flat_len hsz]; omega
  have hll : (l.flatMap encB).length = l.length := by rw [flat_len hsz]; omega
  have hzs : zv.cells.size = 1 := by rw [← Array.length_toList, i6, hz]
  have hmax' : l.length + s.length ≤ 9223372036854775807 := hmax
  have hsc := strCells_enc s
  by_cases hs0 : s = []
  · subst hs0
    refine ⟨v, g, w, ?_, by simpa using h, Mod.refl _ _, .inl rfl⟩
    have hz0 : (⟨([] : Str).toArray⟩ : ByteArray).size = 0 := rfl
    have hf := Lib.run_firstCells_string (P := P) (w := w) 1 ⟨([] : Str).toArray⟩
    rw [strCells_enc, hz0] at hf
    rcases h with ⟨rfl, rfl, _⟩ | ⟨b, cap, cur, _, rfl, hg, hcap, _⟩
    · simp [Builtin.append_, run_underlying ht, run_underlying hu, sizeOf, typeInfo, i1, i4, Builtin.lenOf, strV, ByteArray.size, Builtin.firstCells]
    · simp [Builtin.append_, run_underlying ht, run_underlying hu, sizeOf, typeInfo, i1, i4, Builtin.lenOf, strV, hcap, ByteArray.size, Builtin.firstCells, storeCells]
  · have hpos : 0 < s.length := List.length_pos_iff.2 hs0
    have fresh : ∀ (old : Nat), old < l.length + s.length → ∀ w2 : World, w2 = w.drew.alloc (.cells ((l.flatMap encB).toArray ++ (s.flatMap encB).toArray ++ Builtin.zeroCells zv.cells (grownCap w (l.length + s.length) old e - (l.length + s.length))) e) →
        Acc encB e 1 w2 (w.heap.size + 1) (.slice (some ⟨w.heap.size, 0, none⟩) (l.length + s.length) (grownCap w (l.length + s.length) old e)) (l ++ s) ∧ Mod (Mg g) w w2 := by
      intro old ho w2 hw2
      subst hw2
      have hge := grownCap_ge w (l.length + s.length) old e
      have hcm : grownCap w (l.length + s.length) old e ≤ maxLen := grownCap_le_maxLen w (l.length + s.length) old e hmax
      refine ⟨.inr ⟨_, _, _, rfl, by rw [List.length_append], heap_alloc_new w.drew _, by rw [List.length_append]; exact hge, hcm, ?_, ?_⟩, ?_⟩
      · simp only [Array.size_append, List.size_toArray, size_zeroCells, hzs, hll, hl2]
        omega
      · simp only [Array.toList_append, List.flatMap_append]
        have e1 : (l ++ s).length * 1 = ((l.flatMap encB) ++ (s.flatMap encB)).length := by rw [List.length_append, List.length_append, hll, hl2]; omega
        rw [e1]
        exact List.take_left
      · exact (Mod.drew _ w).trans (Mod.alloc _ _ _)
    rcases h with ⟨rfl, rfl, rfl⟩ | ⟨b, cap, cur, rfl, rfl, hg, hcap, hcm, hcs, htake⟩
    · have hb0 : s.length * i.bytes ≤ 281474976710656 := by
        have hb := hbytes; simp only [List.length_nil, Nat.zero_add] at hb; rw [i5]; omega
      have hr := run_append_nil_string (P := P) (w := w) t u ty e i zv ht hu i1 i3 ⟨s.toArray⟩ (by rw [hss]; omega) (by rw [hss]; have := hmax'; simp only [List.length_nil, Nat.zero_add] at this; omega) (by rw [hss]; exact hb0)
      have hf := fresh 0 (by simp; omega) _ rfl
      simp only [List.length_nil, Nat.zero_add, List.flatMap_nil, List.nil_append, Array.empty_append] at hf
      rw [hss] at hr
      have hc2 : (s.toArray.map fun b : UInt8 => Value.int .u8 (b.toNat : Int)) = (s.flatMap encB).toArray := by
        rw [← hsc]; unfold Lib.strCells; apply Array.ext'; simp
      simp only [hc2] at hr
      exact ⟨_, _, _, hr, hf.1, hf.2, .inr (Nat.lt_succ_self _)⟩
    · by_cases hroom : l.length + s.length ≤ cap
      · have hr := Lib.run_append_room_string (P := P) (w := w) t u ty e i ht hu i1 i4 b l.length cap cur hg ⟨s.toArray⟩ (by rw [hss]; exact hroom) (by rw [hss, hcs]; omega)
        rw [hss, hsc] at hr
        refine ⟨_, b + 1, _, hr, .inr ⟨b, cap, _, rfl, by rw [List.length_append], setRow_heap w b cur _ e _ hg, by rw [List.length_append]; exact hroom, hcm, ?_, ?_⟩, (setRow_mod _ _ _).weaken (fun i hi _ => by unfold Mg; omega), .inl rfl⟩
        · simp only [List.size_toArray, List.length_append, List.length_take, List.length_drop, Array.length_toList, hl2]
          omega
        · rw [Nat.mul_one] at htake
          rw [htake, List.flatMap_append]
          have e1 : (l ++ s).length * 1 = ((l.flatMap encB) ++ (s.flatMap encB)).length := by rw [List.length_append, List.length_append, hll, hl2]; omega
          rw [e1]
          exact List.take_left
      · have holds : ∀ j u, (l.flatMap encB)[j]? = some u → w.cell? ((⟨b, 0, none⟩ : Addr).add j) = some u := fun j u hu => by
          rw [add_lit, cell_of_row w b (0 + j) cur e (0, 0) hg]
          rw [← htake, List.getElem?_take] at hu
          split at hu
          · simpa using hu
          · cases hu
        have hr := Lib.run_append_grow_string (P := P) (w := w) t u ty e i zv ht hu i1 i3 ⟨b, 0, none⟩ l.length cap (l.flatMap encB) (by rw [hll, i4]; omega) holds ⟨s.toArray⟩ (by rw [hss]; omega) (by rw [hss]; omega) (by rw [hss, i5]; exact growslice_fits (by omega) hbytes)
        rw [hss, hsc] at hr
        have hf := fresh cap (by omega) _ rfl
        exact ⟨_, _, _, hr, hf.1, hf.2, .inr (Nat.lt_succ_self _)⟩
theorem AW.appendStr {P : Program} {E : Env} {d : Option Tmp} {ty : TypeId} {pos : String} {af : Array Edge} {gd : Option (Nat × Bool)} {K : Value → World → Prop} {t u : TypeId} {x y : Operand} {gg : Bool} {by_ : Nat} {z : List Value} {e : TypeId} {w : World} {g : Nat} {v : Value} {l s : Str}
    (h : Acc encB e 1 w g v l) (ht : P.underlying t = some (.slice e)) (hu : P.underlying u = some .string) (he : tyI P e = some (gg, 1, by_, z)) (hz : z.length = 1) (hx : ev E x = some v) (hy : ev E y = some (strV s)) (hbytes : (l.length + s.length) * by_ ≤ 140737488355328) (hmax : l.length + s.length ≤ maxLen)
    (hK : ∀ v' g' w', Acc encB e 1 w' g' v' (l ++ s) → Mod (Mg g) w w' → (g' = g ∨ w.heap.size < g') → w.heap.size ≤ w'.heap.size → K v' w') :
    AW P ⟨d, .call { callee := .builtin .append, args := #[x, y], argTypes := #[t, u] }, ty, pos, af, gd⟩ E w K := fun a ha => by
  obtain ⟨v', g', w', hr, h2, h3, h4⟩ := h.appendStr (ty := ty) ht hu he hz hbytes hmax
  simp only [execOp, resolve, invoke, builtin, Sem.run_bind, Sem.run_pure, Result.andThen_ok, List.map_toArray, List.map_cons, List.map_nil, ha.ev hx, ha.ev hy, hr, out]
  exact hK _ _ _ h2 h3 h4 h3.size
/-! bytes of texts -/
def btAt (s : Str) (k : Nat) : UInt8 := s[k]?.getD 0
theorem btAt_get {s : Str} {k : Nat} (h : k < s.length) : s[k]? = some (btAt s k) := by
  unfold btAt; rw [List.getElem?_eq_getElem h]; rfl
section
variable {P : Program} {E : Env} {C : World → Prop} {d : Option Tmp} {ty : TypeId} {pos : String} {af : Array Edge} {gd : Option (Nat × Bool)}
theorem Q1.indexBt {t : TypeId} {x y : Operand} {s : Str} {k : IntKind} {n : Int} (i : Nat) (ht : P.underlying t = some .string) (hx : ev E x = some (strV s)) (hy : ev E y = some (.int k n)) (hn : n = (i : Int)) (hi : i < s.length) :
    Q1 P ⟨d, .index t x y, ty, pos, af, gd⟩ E C (.int .u8 ((btAt s i).toNat : Int)) := Q1.indexB i ht hx hy hn hi
theorem Q1.quoU8 {x y : Operand} {xt yt : TypeId} {a : Nat} (b : Nat) (hx : ev E x = some (.int .u8 ((a : Nat) : Int))) (hy : ev E y = some (.int .u8 ((b : Nat) : Int))) (hb : b ≠ 0) (ha : a < 256) : Q1 P ⟨d, .binOp .quo xt x y yt, ty, pos, af, gd⟩ E C (.int .u8 ((a / b : Nat) : Int)) := by
  have h := Q1.quo (P := P) (C := C) (d := d) (xt := xt) (yt := yt) (ty := ty) (pos := pos) (af := af) (gd := gd) hx hy (by omega)
  have e : (a : Int).tdiv b = ((a / b : Nat) : Int) := by
    rw [Int.tdiv_eq_ediv_of_nonneg (by omega)]; rfl
  have hlt : a / b < 256 := Nat.lt_of_le_of_lt (Nat.div_le_self a b) ha
  rw [e] at h
  generalize a / b = q at *
  rw [IntWalk.u8_in _ (by omega)] at h; exact h
end
theorem run_indexByteS {P : Program} (s : Str) (c : UInt8) (w : World) : (Extern.BytealgIndexByte.indexByte #[strV s, .int .u8 (c.toNat : Int)]).run P w = .ok (.int .i64 (Lib.indexByte s c)) w := by
  have h := Lib.run_indexByteString (P := P) ⟨s.toArray⟩ (c.toNat : Int) w
  have e : ((c.toNat : Int)).toNat.toUInt8 = c := by simp
  rw [e] at h; exact h
theorem run_countS {P : Program} (s : Str) (c : UInt8) (w : World) : (Extern.BytealgCount.count #[strV s, .int .u8 (c.toNat : Int)]).run P w = .ok (.int .i64 ((s.count c : Nat) : Int)) w := by
  have h := Lib.run_countString (P := P) ⟨s.toArray⟩ (c.toNat : Int) w
  have e : ((c.toNat : Int)).toNat.toUInt8 = c := by simp
  rw [e] at h; exact h
section
variable {R : Nat → Prop}
/-- a builder at the head of block 'b' of type 'e', 'tail' behind it -/
def bdR (u8 e : TypeId) (b : Nat) (tail : List Value) (txt : Str) : Res R := exR fun pv : Value × Value => andR (pv.1 = .pointer none ∨ pv.1 = ptr b 0) (boxR [bkR b (pv.1 :: pv.2 :: tail) e, accR encB u8 1 pv.2 txt])
end
theorem acc_some {w : World} {g : Nat} {v : Value} {l : Str} {e : TypeId} (h : Acc encB e 1 w g v l) (hne : l ≠ []) : ∃ gb c, v = .slice (some ⟨gb, 0, none⟩) l.length c ∧ c ≠ 0 := by
  rcases h with ⟨_, h, _⟩ | ⟨b, cap, cur, _, h1, _, hc, _⟩
  · exact absurd h hne
  · refine ⟨b, cap, h1, fun e => ?_⟩
    have := List.length_pos_iff.2 hne
    omega
end Go.Ik
/-
  Texts between quotes: what the walks of both programs ask.
-/
set_option linter.unusedVariables false
set_option linter.unusedSimpArgs false
namespace Go.Ml
open Go Go.Ik

theorem pl_a {c : UInt8} (h : ¬ (33 ≤ c.toNat ∧ c.toNat ≤ 126 ∧ c.toNat ≠ 34 ∧ c.toNat ≠ 92)) : false = plainB c := by
  cases hp : plainB c with
  | false => rfl
  | true => exact absurd (plain_range hp) h
theorem pl_b {c : UInt8} {b : Bool} (h : 33 ≤ c.toNat ∧ c.toNat ≤ 126 ∧ c.toNat ≠ 34) (hb : b = (((c.toNat : Nat) : Int) != 92)) : b = plainB c := by
  have h1 : (((c.toNat : Nat) : Int) != 92) = !decide (c.toNat = 92) := by
    by_cases h : c.toNat = 92
    · rw [h]; rfl
    · rw [decide_eq_false h]
      exact bne_iff_ne.2 (by omega)
  rw [hb, h1]
  unfold plainB
  rw [decide_eq_true h.1, decide_eq_true h.2.1, decide_eq_false h.2.2]
  simp
theorem pl_c {c : UInt8} (h : 33 ≤ c.toNat ∧ c.toNat ≤ 126 ∧ c.toNat ≠ 34 ∧ c.toNat ≠ 92) : plainB c = true := (pl_b ⟨h.1, h.2.1, h.2.2.1⟩ (b := true) (bne_iff_ne.2 (by omega)).symm).symm
theorem q1_yes {c : UInt8} (h : plainB c = true) : q1 c = [c] := by unfold q1; rw [if_pos h]
theorem hexD_bt (n : Nat) : btAt ([48, 49, 50, 51, 52, 53, 54, 55, 56, 57, 97, 98, 99, 100, 101, 102] : Str) n = hexD n := by
  unfold btAt hexD digL; rw [List.getD_eq_getElem?_getD]
theorem q1_no {c : UInt8} (h : plainB c = false) : q1 c = [92, btAt ([48, 49, 50, 51, 52, 53, 54, 55, 56, 57, 97, 98, 99, 100, 101, 102] : Str) (c.toNat / 16), btAt ([48, 49, 50, 51, 52, 53, 54, 55, 56, 57, 97, 98, 99, 100, 101, 102] : Str) (c.toNat % 16)] := by
  rw [hexD_bt, hexD_bt]; unfold q1; rw [h]; rfl
theorem fm_take {s : Str} {i : Nat} (h : i < s.length) : (s.take (i + 1)).flatMap q1 = (s.take i).flatMap q1 ++ q1 (btAt s i) := by
  rw [List.take_add_one, btAt_get h]
  simp
theorem q_yes {s tx : Str} {i : Nat} (h : tx = 34 :: (s.take i).flatMap q1) (hi : i < s.length) (hp : plainB (btAt s i) = true) : tx ++ [btAt s i] = 34 :: (s.take (i + 1)).flatMap q1 := by
  rw [fm_take hi, q1_yes hp, h]; simp
theorem q_no {s tx : Str} {i : Nat} (h : tx = 34 :: (s.take i).flatMap q1) (hi : i < s.length) (hp : plainB (btAt s i) = false) : tx ++ [92, btAt ([48, 49, 50, 51, 52, 53, 54, 55, 56, 57, 97, 98, 99, 100, 101, 102] : Str) ((btAt s i).toNat / 16), btAt ([48, 49, 50, 51, 52, 53, 54, 55, 56, 57, 97, 98, 99, 100, 101, 102] : Str) ((btAt s i).toNat % 16)] = 34 :: (s.take (i + 1)).flatMap q1 := by
  rw [fm_take hi, q1_no hp, h]; simp
theorem q_len {s tx : Str} {i : Nat} (h : tx = 34 :: (s.take i).flatMap q1) : tx.length ≤ 3 * s.length + 1 := by
  have h1 := (quote_len (s.take i)).2
  unfold quoteM at h1
  have h2 : (s.take i).length ≤ s.length := by rw [List.length_take]; omega
  rw [h]
  simp only [List.length_cons, List.length_append, List.length_nil] at h1 ⊢
  omega
theorem q_end {s tx : Str} {i : Nat} (h : tx = 34 :: (s.take i).flatMap q1) (hi : s.length ≤ i) : tx ++ [34] = quoteM s := by
  rw [h, List.take_of_length_le hi]; rfl

/-! digits of base 16 -/
def hexI (c : UInt8) : Int := match hexV c with | some a => (a : Int) | none => -1
theorem ix_fin : ∀ n < 256, Lib.indexByte ([48, 49, 50, 51, 52, 53, 54, 55, 56, 57, 97, 98, 99, 100, 101, 102] : Str) (UInt8.ofNat n) = hexI (UInt8.ofNat n) ∧ (∀ a, hexV (UInt8.ofNat n) = some a → a < 16 ∧ n < 128 ∧ n ≠ 92) := by
  decide +kernel
theorem ix_hex (c : UInt8) : Lib.indexByte ([48, 49, 50, 51, 52, 53, 54, 55, 56, 57, 97, 98, 99, 100, 101, 102] : Str) c = hexI c := by
  have := (ix_fin c.toNat c.toNat_lt).1
  simpa using this
theorem hexV_rng {c : UInt8} {a : Nat} (h : hexV c = some a) : a < 16 ∧ c.toNat < 128 := by
  have := (ix_fin c.toNat c.toNat_lt).2 a (by simpa using h)
  omega
theorem hexI_no {c : UInt8} (h : hexI c < 0) : hexV c = none := by
  unfold hexI at h
  cases hc : hexV c with
  | none => rfl
  | some a => rw [hc] at h; simp only at h; omega
theorem hexI_yes {c : UInt8} (h : ¬ hexI c < 0) : ∃ a, hexV c = some a ∧ hexI c = (a : Int) ∧ a < 16 ∧ c.toNat < 128 := by
  cases hc : hexV c with
  | none => exfalso; apply h; unfold hexI; rw [hc]; decide
  | some a => exact ⟨a, rfl, by unfold hexI; rw [hc], hexV_rng hc⟩
theorem hexI_rng (c : UInt8) : -1 ≤ hexI c ∧ hexI c < 16 := by
  unfold hexI
  cases hc : hexV c with
  | none => simp
  | some a => have := hexV_rng hc; simp only; omega
theorem hex_at : ∀ i < 16, hexV (btAt ([48, 49, 50, 51, 52, 53, 54, 55, 56, 57, 97, 98, 99, 100, 101, 102] : Str) i) = some i := by decide +kernel
theorem hex_found {c : UInt8} {i : Nat} (hi : i < 16) (h : ((btAt ([48, 49, 50, 51, 52, 53, 54, 55, 56, 57, 97, 98, 99, 100, 101, 102] : Str) i).toNat : Int) = ((c.toNat : Nat) : Int)) : ((i : Nat) : Int) = hexI c := by
  have e : c = btAt ([48, 49, 50, 51, 52, 53, 54, 55, 56, 57, 97, 98, 99, 100, 101, 102] : Str) i := UInt8.toNat_inj.1 (by omega)
  unfold hexI
  rw [e, hex_at i hi]
theorem hex_step {c : UInt8} {i : Nat} (hno : ∀ j < i, btAt ([48, 49, 50, 51, 52, 53, 54, 55, 56, 57, 97, 98, 99, 100, 101, 102] : Str) j ≠ c) (h : ¬ ((btAt ([48, 49, 50, 51, 52, 53, 54, 55, 56, 57, 97, 98, 99, 100, 101, 102] : Str) i).toNat : Int) = ((c.toNat : Nat) : Int)) : ∀ j < i + 1, btAt ([48, 49, 50, 51, 52, 53, 54, 55, 56, 57, 97, 98, 99, 100, 101, 102] : Str) j ≠ c := fun j hj e => by
  by_cases hji : j = i
  · subst hji; exact h (by rw [e])
  · exact hno j (by omega) e
theorem hex_all : ∀ n < 256, (∀ j < 16, btAt ([48, 49, 50, 51, 52, 53, 54, 55, 56, 57, 97, 98, 99, 100, 101, 102] : Str) j ≠ UInt8.ofNat n) → hexV (UInt8.ofNat n) = none := by decide +kernel
theorem hex_none {c : UInt8} {i : Nat} (hno : ∀ j < i, btAt ([48, 49, 50, 51, 52, 53, 54, 55, 56, 57, 97, 98, 99, 100, 101, 102] : Str) j ≠ c) (hi : 16 ≤ i) : (-1 : Int) = hexI c := by
  have := hex_all c.toNat c.toNat_lt (fun j hj => by have := hno j (by omega); simpa using this)
  unfold hexI
  rw [show hexV c = none from by simpa using this]

/-! one rune of a text -/
theorem dec_low {s : Str} {p : Nat} (h : p < s.length) (hb : (btAt s p).toNat < 128) : dec (s.drop p) = ((btAt s p).toNat, 1) := by
  rw [dec_A]
  have : byteAt s p = (btAt s p).toNat := rfl
  unfold decA
  rw [this, if_pos hb]
theorem dec_high {s : Str} {p : Nat} (hb : 128 ≤ (btAt s p).toNat) : 128 ≤ (dec (s.drop p)).1 := by
  rw [dec_A]
  have : byteAt s p = (btAt s p).toNat := rfl
  unfold decA
  rw [this, if_neg (by omega)]
  split
  · split <;> simp only <;> omega
  · split
    · split
      · rename_i h2
        simp only [Bool.and_eq_true, decide_eq_true_eq] at h2
        simp only; omega
      · simp
    · split
      · split
        · rename_i h2
          simp only [Bool.and_eq_true, decide_eq_true_eq] at h2
          simp only; omega
        · simp
      · simp
theorem inner_eq (s : Str) : (s.take (s.length - 1)).drop 1 = inner s := by
  unfold inner; rw [List.drop_take]; congr 1
theorem inner_len (s : Str) : (inner s).length = s.length - 2 := by
  unfold inner; rw [List.length_take, List.length_drop]; omega
theorem inner_mem {s : Str} {x : UInt8} (h : x ∈ inner s) : x ∈ s := by
  unfold inner at h
  exact List.mem_of_mem_drop (List.mem_of_mem_take h)
theorem framed_iff (s : Str) : framed s = true ↔ 2 ≤ s.length ∧ (btAt s 0).toNat = 34 ∧ (btAt s (s.length - 1)).toNat = 34 := by
  unfold framed
  by_cases h : 2 ≤ s.length
  · have h0 := btAt_get (s := s) (k := 0) (by omega)
    have h1 := btAt_get (s := s) (k := s.length - 1) (by omega)
    rw [List.head?_eq_getElem?, List.getLast?_eq_getElem?, h0, h1]
    have key : ∀ c : UInt8, (some c == some (34 : UInt8)) = decide (c.toNat = 34) := fun c => by
      by_cases hc : c.toNat = 34
      · have : c = 34 := UInt8.toNat_inj.1 hc
        subst this; rfl
      · have : c ≠ 34 := fun e => hc (by rw [e]; rfl)
        rw [decide_eq_false hc]
        simp [this]
    simp only [key, Bool.and_eq_true, decide_eq_true_eq]
    constructor
    · rintro ⟨⟨a, b⟩, c⟩; exact ⟨a, b, c⟩
    · rintro ⟨a, b, c⟩; exact ⟨⟨a, b⟩, c⟩
  · simp [h]
theorem uq_frame {s : Str} (h : s.length < 2 ∨ (btAt s 0).toNat ≠ 34 ∨ (btAt s (s.length - 1)).toNat ≠ 34) : unqM s = none := by
  unfold unqM
  rw [if_neg]
  intro hf
  have := (framed_iff s).1 hf
  omega
theorem uq_none {s : Str} (h : unq (inner s) = none) : unqM s = none := by
  unfold unqM
  rw [h]; split <;> rfl
theorem uq_end {s b : Str} (hf : 2 ≤ s.length ∧ (btAt s 0).toNat = 34 ∧ (btAt s (s.length - 1)).toNat = 34) (h : unq (inner s) = some b) : unqM s = if quoteM b = s then some b else none := by
  unfold unqM
  rw [if_pos ((framed_iff s).2 hf), h]
theorem uq_yes {s b : Str} (hf : 2 ≤ s.length ∧ (btAt s 0).toNat = 34 ∧ (btAt s (s.length - 1)).toNat = 34) (h : unq (inner s) = some b) (hq : quoteM b = s) : unqM s = some b := by rw [uq_end hf h, if_pos hq]
theorem uq_no {s b : Str} (hf : 2 ≤ s.length ∧ (btAt s 0).toNat = 34 ∧ (btAt s (s.length - 1)).toNat = 34) (h : unq (inner s) = some b) (hq : quoteM b ≠ s) : unqM s = none := by rw [uq_end hf h, if_neg hq]
theorem uq_high {s : Str} {p : Nat} (hp : p < (inner s).length) (h : 126 < (btAt (inner s) p).toNat) : unqM s = none :=
  unqM_none (inner_mem (List.mem_of_getElem? (btAt_get hp))) (.inr h)
/-- where the program's reading stands: 'sk' more runes are passed over -/
structure UqAt (i b : Str) (p sk : Nat) : Prop where
  eq : unq i = (unq (i.drop (p + sk))).map (b ++ ·)
  le : p + sk ≤ i.length
  low : ∀ j < sk, (btAt i (p + j)).toNat < 128
  len : b.length ≤ p
  sk : sk ≤ 2
theorem UqAt.start (i : Str) : UqAt i [] 0 0 := ⟨by simp, Nat.zero_le _, fun j hj => by omega, Nat.le_refl _, by omega⟩
theorem UqAt.lt {i b : Str} {p sk : Nat} (h : UqAt i b p sk) (he : i.drop p ≠ []) : p < i.length := by
  rcases Nat.lt_or_ge p i.length with h' | h'
  · exact h'
  · exact absurd (List.drop_of_length_le h') he
theorem UqAt.skip {i b : Str} {p sk : Nat} (h : UqAt i b p sk) (h0 : 0 < sk) (hp : p < i.length) : UqAt i b (p + (dec (i.drop p)).2) (sk - 1) := by
  have hl := h.low 0 h0
  rw [Nat.add_zero] at hl
  rw [dec_low hp hl]
  refine ⟨?_, by have := h.le; omega, fun j hj => ?_, by have := h.len; omega, by have := h.sk; omega⟩
  · rw [show p + 1 + (sk - 1) = p + sk from by omega]; exact h.eq
  · rw [show p + 1 + j = p + (j + 1) from by omega]; exact h.low (j + 1) (by omega)
/-- the rune there is told by its byte, or it is none below 128 -/
theorem rune_at {i : Str} {p : Nat} (hp : p < i.length) : ((btAt i p).toNat < 128 ∧ (dec (i.drop p)).1 = (btAt i p).toNat ∧ (dec (i.drop p)).2 = 1) ∨ (128 ≤ (btAt i p).toNat ∧ 128 ≤ (dec (i.drop p)).1) := by
  by_cases h : (btAt i p).toNat < 128
  · rw [dec_low hp h]; exact .inl ⟨h, rfl, rfl⟩
  · exact .inr ⟨by omega, dec_high (by omega)⟩
theorem UqAt.go {i b : Str} {p : Nat} (h : UqAt i b p 0) (hp : p < i.length) (hn : (dec (i.drop p)).1 ≠ 92) (hle : (dec (i.drop p)).1 ≤ 126) : UqAt i (b ++ [byN (((dec (i.drop p)).1 : Nat) : Int)]) (p + (dec (i.drop p)).2) 0 := by
  rcases rune_at hp with ⟨h1, h2, h3⟩ | ⟨h1, h2⟩
  · rw [h2, h3]
    have e : byN (((btAt i p).toNat : Nat) : Int) = btAt i p := by rw [byN_nat]; simp
    rw [e]
    refine ⟨?_, by omega, fun j hj => by omega, by have := h.len; simp only [List.length_append, List.length_cons, List.length_nil]; omega, by omega⟩
    have h4 := h.eq
    rw [Nat.add_zero] at h4
    exact unq_go h4 (btAt_get hp) (fun e => by rw [h2, e] at hn; exact hn rfl)
  · omega
theorem UqAt.esc {i b : Str} {p : Nat} (h : UqAt i b p 0) (hl : p + 3 ≤ i.length) (hn : (dec (i.drop p)).1 = 92) (h1 : ¬ hexI (btAt i (p + 1)) < 0) (h2 : ¬ hexI (btAt i (p + 2)) < 0) : UqAt i (b ++ [byN (16 * hexI (btAt i (p + 1)) + hexI (btAt i (p + 2)))]) (p + (dec (i.drop p)).2) 2 := by
  obtain ⟨a, ha, hia, hal, hac⟩ := hexI_yes h1
  obtain ⟨d, hd, hid, hdl, hdc⟩ := hexI_yes h2
  rcases rune_at (i := i) (p := p) (by omega) with ⟨g1, g2, g3⟩ | ⟨g1, g2⟩
  · rw [g3, hia, hid]
    have e : byN (16 * (a : Int) + (d : Int)) = UInt8.ofNat (16 * a + d) := by rw [show (16 * (a : Int) + (d : Int)) = ((16 * a + d : Nat) : Int) from by omega, byN_nat]
    rw [e]
    have hc : btAt i p = 92 := UInt8.toNat_inj.1 (by rw [← g2, hn]; rfl)
    refine ⟨?_, by omega, fun j hj => ?_, by have := h.len; simp only [List.length_append, List.length_cons, List.length_nil]; omega, by omega⟩
    · have h4 := h.eq
      rw [Nat.add_zero] at h4
      exact unq_esc h4 (btAt_get (by omega)) hc (btAt_get (by omega)) (btAt_get (by omega)) ha hd
    · rcases (by omega : j = 0 ∨ j = 1) with rfl | rfl
      · rw [show p + 1 + 0 = p + 1 from rfl]; exact hac
      · rw [show p + 1 + 1 = p + 2 from rfl]; exact hdc
  · omega
theorem UqAt.bad {i b : Str} {p : Nat} (h : UqAt i b p 0) (hl : p + 3 ≤ i.length) (hn : (dec (i.drop p)).1 = 92) (hx : hexI (btAt i (p + 1)) < 0 ∨ hexI (btAt i (p + 2)) < 0) : unq i = none := by
  rcases rune_at (i := i) (p := p) (by omega) with ⟨g1, g2, g3⟩ | ⟨g1, g2⟩
  · have hc : btAt i p = 92 := UInt8.toNat_inj.1 (by rw [← g2, hn]; rfl)
    have h4 := h.eq
    rw [Nat.add_zero] at h4
    exact unq_bad h4 (btAt_get (by omega)) hc (btAt_get (by omega)) (btAt_get (by omega)) (hx.imp hexI_no hexI_no)
  · omega
theorem UqAt.short {i b : Str} {p : Nat} (h : UqAt i b p 0) (hp : p < i.length) (hl : i.length < p + 3) (hn : (dec (i.drop p)).1 = 92) : unq i = none := by
  rcases rune_at hp with ⟨g1, g2, g3⟩ | ⟨g1, g2⟩
  · have hc : btAt i p = 92 := UInt8.toNat_inj.1 (by rw [← g2, hn]; rfl)
    have h4 := h.eq
    rw [Nat.add_zero] at h4
    exact unq_end h4 (btAt_get hp) hc hl
  · omega
theorem UqAt.fin {i b : Str} {p sk : Nat} (h : UqAt i b p sk) (he : i.drop p = []) : unq i = some b := by
  have h1 : i.length ≤ p := by
    have := congrArg List.length he
    rw [List.length_drop] at this
    simp at this; omega
  exact unq_fin h.eq (by omega)
theorem uq_rune {s : Str} {p : Nat} (hp : p < (inner s).length) (h : 126 < (dec ((inner s).drop p)).1) : unqM s = none := by
  rcases rune_at hp with ⟨g1, g2, g3⟩ | ⟨g1, g2⟩
  · exact uq_high hp (by omega)
  · exact uq_high hp (by omega)
/-- where the document's reading stands: at byte 'k' of the text -/
theorem rq_go {s b : Str} {k : Nat} (h : unq (inner s) = (unq ((inner s).drop (k - 1))).map (b ++ ·)) (h1 : 1 ≤ k) (hk : k < s.length - 1) (hn : ¬ ((btAt s k).toNat : Int) = 92) : unq (inner s) = (unq ((inner s).drop (k + 1 - 1))).map ((b ++ [btAt s k]) ++ ·) := by
  have e : (inner s)[k - 1]? = some (btAt s k) := by
    rw [← btAt_get (by omega : k < s.length)]
    unfold inner
    rw [List.getElem?_take, if_pos (by omega), List.getElem?_drop, show 1 + (k - 1) = k from by omega]
  have := unq_go h e (fun e => hn (by rw [e]; rfl))
  rw [show k - 1 + 1 = k + 1 - 1 from by omega] at this
  exact this
theorem in_at {s : Str} {k : Nat} (h1 : 1 ≤ k) (hk : k < s.length - 1) : (inner s)[k - 1]? = some (btAt s k) := by
  rw [← btAt_get (by omega : k < s.length)]
  unfold inner
  rw [List.getElem?_take, if_pos (by omega), List.getElem?_drop, show 1 + (k - 1) = k from by omega]
theorem rq_esc {s b : Str} {k : Nat} (h : unq (inner s) = (unq ((inner s).drop (k - 1))).map (b ++ ·)) (h1 : 1 ≤ k) (hk : k + 2 < s.length - 1) (hc : ((btAt s k).toNat : Int) = 92) (ha : ¬ hexI (btAt s (k + 1)) < 0) (hd : ¬ hexI (btAt s (k + 2)) < 0) : unq (inner s) = (unq ((inner s).drop (k + 2 + 1 - 1))).map ((b ++ [byN (16 * hexI (btAt s (k + 1)) + hexI (btAt s (k + 2)))]) ++ ·) := by
  obtain ⟨a, ha', hia, _⟩ := hexI_yes ha
  obtain ⟨d, hd', hid, _⟩ := hexI_yes hd
  have hc' : btAt s k = 92 := UInt8.toNat_inj.1 (by rw [show (92 : UInt8).toNat = 92 from rfl]; omega)
  have i1 := in_at (s := s) (k := k + 1) (by omega) (by omega)
  have i2 := in_at (s := s) (k := k + 2) (by omega) (by omega)
  rw [show k + 1 - 1 = k - 1 + 1 from by omega] at i1
  rw [show k + 2 - 1 = k - 1 + 2 from by omega] at i2
  have := unq_esc h (in_at h1 (by omega)) hc' i1 i2 ha' hd'
  rw [show k - 1 + 3 = k + 2 + 1 - 1 from by omega] at this
  rw [hia, hid, show (16 * (a : Int) + (d : Int)) = ((16 * a + d : Nat) : Int) from by omega, byN_nat]
  exact this
theorem rq_bad {s b : Str} {k : Nat} (h : unq (inner s) = (unq ((inner s).drop (k - 1))).map (b ++ ·)) (h1 : 1 ≤ k) (hk : k < s.length - 1) (hc : ((btAt s k).toNat : Int) = 92) (hx : s.length - 1 ≤ k + 2 ∨ hexI (btAt s (k + 1)) < 0 ∨ hexI (btAt s (k + 2)) < 0) : unq (inner s) = none := by
  have hc' : btAt s k = 92 := UInt8.toNat_inj.1 (by rw [show (92 : UInt8).toNat = 92 from rfl]; omega)
  by_cases hl : s.length - 1 ≤ k + 2
  · exact unq_end h (in_at h1 hk) hc' (by rw [inner_len]; omega)
  · have i1 := in_at (s := s) (k := k + 1) (by omega) (by omega)
    have i2 := in_at (s := s) (k := k + 2) (by omega) (by omega)
    rw [show k + 1 - 1 = k - 1 + 1 from by omega] at i1
    rw [show k + 2 - 1 = k - 1 + 2 from by omega] at i2
    exact unq_bad h (in_at h1 hk) hc' i1 i2 ((hx.resolve_left hl).imp hexI_no hexI_no)
theorem rq_fin {s b : Str} {k : Nat} (h : unq (inner s) = (unq ((inner s).drop (k - 1))).map (b ++ ·)) (hk : s.length - 1 ≤ k) : unq (inner s) = some b := unq_fin h (by rw [inner_len]; omega)
end Go.Ml
/-
  What the layers share, as values: queries, events.
-/
set_option linter.unusedVariables false
set_option linter.unusedSimpArgs false
namespace Go.Ml
open Go Go.Ik

structure Qry where
  text : Str
  k : Int
  n : Int
deriving DecidableEq
def encQry (q : Qry) : List Value := [strV q.text, .int .i64 q.k, .int .i64 q.n]
theorem encQry_len (x : Qry) : (encQry x).length = 3 := rfl
theorem encQry_one (x : Qry) : (encQry x).all (·.oneCell') = true := rfl
structure Qry.Ok (x : Qry) : Prop where
  text : x.text.length ≤ maxLen
  k : I64 x.k
  n : I64 x.n
structure Evt where
  kind : Int
  node : Int
  at_ : Int
  x : Int
  q : Qry
deriving DecidableEq
def encEvt (e : Evt) : List Value := [.int .i64 e.kind, .int .i64 e.node, .int .i64 e.at_, .int .i64 e.x, strV e.q.text, .int .i64 e.q.k, .int .i64 e.q.n]
theorem encEvt_len (x : Evt) : (encEvt x).length = 7 := rfl
theorem encEvt_one (x : Evt) : (encEvt x).all (·.oneCell') = true := rfl
structure Evt.Ok (e : Evt) : Prop where
  kind : I64 e.kind
  node : I64 e.node
  at_ : I64 e.at_
  x : I64 e.x
  q : e.q.Ok
end Go.Ml
/-
  Scripts: what is written, what is read; the plain laws of chapter 29.
-/
set_option linter.unusedVariables false
set_option linter.unusedSimpArgs false
namespace Go.Ml
open Go Go.Ik

/-! what is written -/
def numsP (ns : List Int) : Str := ns.flatMap fun n => 32 :: Lib.itoa n
def badN (n : Int) : Bool := decide (n < 0) || decide (n > 999999)
def wWord : Str := [119, 111, 114, 100]
def wCut : Str := [99, 117, 116]
def wSet : Str := [115, 101, 116]
def wEv : Str := [101, 118]
def wAsk : Str := [97, 115, 107]
def wordB (s : Str) : Str := wWord ++ 32 :: quoteM s
def cutB (k : Key) : Str := wCut ++ numsP [k.len] ++ 32 :: quoteM k.text
def setNums (c : Cfg) : List Int := [c.workers, c.copies, c.slots, c.batch, c.lease, c.hedge, c.first, c.cap, c.jitter, c.net]
def setB (c : Cfg) : Str := wSet ++ numsP (setNums c)
def evB (e : Evt) : Str := if e.kind = 1 then wAsk ++ 32 :: quoteM e.q.text ++ numsP [e.q.k, e.q.n] else wEv ++ numsP [e.kind, e.node, e.at_, e.x]
def zeroQ : Qry := ⟨[], 0, 0⟩
def badE (e : Evt) : Bool := if e.kind = 1 then (decide (e.node ≠ 0) || decide (e.at_ ≠ 0) || decide (e.x ≠ 0)) || (badN e.q.k || badN e.q.n) else decide (e.q ≠ zeroQ) || (badN e.kind || (badN e.node || (badN e.at_ || badN e.x)))
def linesP (c : Cfg) (es : List Evt) : List Str := c.words.map wordB ++ c.cuts.map cutB ++ [setB c] ++ es.map evB
def printT (c : Cfg) (es : List Evt) : Str := (linesP c es).flatMap (· ++ [10])
def badPr (c : Cfg) (es : List Evt) : Bool := c.cuts.any (fun k => badN k.len) || (setNums c).any badN || es.any badE
def printM (c : Cfg) (es : List Evt) : Str × Int := if badPr c es then ([], 2) else if (printT c es).length > 65536 then ([], 3) else (printT c es, 0)

/-! what is read -/
structure RdS where
  cfg : Cfg
  es : List Evt
  deriving DecidableEq
def cfg0 : Cfg := ⟨[], [], 0, 0, 0, 0, 0, 0, 0, 0, 0, 0⟩
def rd0 : RdS := ⟨cfg0, []⟩
def doWord (st : RdS) : List Str → Option RdS
  | [x] => (unqM x).map fun s => { st with cfg := { st.cfg with words := st.cfg.words ++ [s] } }
  | _ => none
def doCut (st : RdS) : List Str → Option RdS
  | [x, y] => match numM x, unqM y with
    | some n, some s => some { st with cfg := { st.cfg with cuts := st.cfg.cuts ++ [⟨(n : Int), s⟩] } }
    | _, _ => none
  | _ => none
def doSet (st : RdS) (l : List Str) : Option RdS := match numsM l with
  | some [a, b, c, d, e, f, g, h, i, j] => some { st with cfg := { st.cfg with workers := a, copies := b, slots := c, batch := d, lease := e, hedge := f, first := g, cap := h, jitter := i, net := j } }
  | _ => none
def doEv (st : RdS) (l : List Str) : Option RdS := match numsM l with
  | some [k, n, a, x] => if k = 1 then none else some { st with es := st.es ++ [⟨k, n, a, x, zeroQ⟩] }
  | _ => none
def askM : List Str → Option Qry
  | [x, y, z] => match unqM x, numM y, numM z with
    | some s, some k, some n => some ⟨s, (k : Int), (n : Int)⟩
    | _, _, _ => none
  | _ => none
def doAsk (st : RdS) (l : List Str) : Option RdS := (askM l).map fun q => { st with es := st.es ++ [⟨1, 0, 0, 0, q⟩] }
def lineW (st : RdS) (h : Str) (l : List Str) : Option RdS :=
  if h = wWord then doWord st l else if h = wCut then doCut st l else if h = wSet then doSet st l else if h = wEv then doEv st l else if h = wAsk then doAsk st l else none
def lineM (st : RdS) (s : Str) : Option RdS := lineW st ((splitM 32 s).headD []) ((splitM 32 s).drop 1)
structure PRes where
  cfg : Cfg
  es : List Evt
  at_ : Int
  err : Int
  deriving DecidableEq
def parseL : Nat → RdS → List Str → PRes
  | _, st, [] => ⟨st.cfg, st.es, 0, 0⟩
  | k, st, l :: ls => match lineM st l with
    | some st' => parseL (k + 1) st' ls
    | none => ⟨cfg0, [], (k : Int), 11⟩
def parseM (s : Str) : PRes := if s.length > 65536 then ⟨cfg0, [], 0, 3⟩ else parseL 1 rd0 (linesM s)

/-! a line's words -/
theorem itoa_dec {n : Int} (h : badN n = false) : Lib.itoa n = decD n.toNat := by
  unfold badN at h
  simp only [Bool.or_eq_false_iff, decide_eq_false_iff_not] at h
  obtain ⟨m, rfl⟩ : ∃ m : Nat, n = (m : Int) := ⟨n.toNat, by omega⟩
  rw [itoa_nat]; simp
theorem badN_no {n : Int} : badN n = false ↔ 0 ≤ n ∧ n ≤ 999999 := by
  unfold badN
  simp only [Bool.or_eq_false_iff, decide_eq_false_iff_not]; omega
theorem dec_no {n : Nat} {x : UInt8} (h : x.toNat < 48) : x ∉ decD n := fun hx => by have := decD_mem n x hx; omega
theorem quote_no {s : Str} {x : UInt8} (h : x.toNat < 33) : x ∉ quoteM s := fun hx => by have := quote_range s x hx; omega
theorem split_one {h s : Str} (hh : (32 : UInt8) ∉ h) : splitM 32 (h ++ 32 :: s) = h :: splitM 32 s := by
  have := splitA_yes (c := 32) h [] s hh
  simpa [splitM] using this
theorem split_last {h : Str} (hh : (32 : UInt8) ∉ h) : splitM 32 h = [h] := by
  have := splitA_no (c := 32) h [] hh
  simpa [splitM] using this
theorem split_nums : ∀ (ns : List Int) (h : Str), (32 : UInt8) ∉ h → ns.any badN = false → splitM 32 (h ++ numsP ns) = h :: ns.map fun n => decD n.toNat
  | [], h, hh, _ => by
    have : numsP [] = [] := rfl
    rw [this, List.append_nil, split_last hh]; rfl
  | n :: ns, h, hh, hb => by
    rw [List.any_cons, Bool.or_eq_false_iff] at hb
    have e : numsP (n :: ns) = 32 :: (decD n.toNat ++ numsP ns) := by
      show (32 :: Lib.itoa n) ++ numsP ns = _
      rw [itoa_dec hb.1]; rfl
    rw [e, split_one hh, split_nums ns _ (dec_no (by decide)) hb.2]; rfl
theorem nums_range {ns : List Int} (h : ns.any badN = false) : ∀ n ∈ ns, 0 ≤ n ∧ n ≤ 999999 := fun n hn => badN_no.1 (by
  rw [List.any_eq_false] at h
  simpa using h n hn)
theorem nums_back {ns : List Int} (h : ns.any badN = false) : numsM (ns.map fun n => decD n.toNat) = some ns := numsM_dec (nums_range h)
theorem num_back {n : Int} (h : badN n = false) : numM (decD n.toNat) = some n.toNat := numM_dec (by have := badN_no.1 h; omega)
theorem int_nat {n : Int} (h : badN n = false) : ((n.toNat : Nat) : Int) = n := by have := badN_no.1 h; omega
theorem numsP_no {ns : List Int} (h : ns.any badN = false) : (10 : UInt8) ∉ numsP ns := by
  intro hx
  unfold numsP at hx
  obtain ⟨n, hn, hx⟩ := List.mem_flatMap.1 hx
  have hb : badN n = false := badN_no.2 (nums_range h n hn)
  rw [itoa_dec hb, List.mem_cons] at hx
  rcases hx with hx | hx
  · revert hx; decide
  · exact dec_no (by decide) hx
theorem line_word (st : RdS) (s : Str) : lineM st (wordB s) = some { st with cfg := { st.cfg with words := st.cfg.words ++ [s] } } := by
  unfold lineM wordB
  rw [split_one (by decide), split_last (quote_no (by decide))]
  show doWord st [quoteM s] = _
  simp only [doWord, unqM_quote, Option.map_some]
theorem line_cut (st : RdS) {k : Key} (h : badN k.len = false) : lineM st (cutB k) = some { st with cfg := { st.cfg with cuts := st.cfg.cuts ++ [k] } } := by
  unfold lineM cutB
  have e : wCut ++ numsP [k.len] ++ 32 :: quoteM k.text = wCut ++ 32 :: (decD k.len.toNat ++ 32 :: quoteM k.text) := by
    unfold numsP; simp [itoa_dec h]
  rw [e, split_one (by decide), split_one (dec_no (by decide)), split_last (quote_no (by decide))]
  show doCut st [decD k.len.toNat, quoteM k.text] = _
  simp only [doCut, num_back h, unqM_quote, int_nat h]
theorem line_set (st : RdS) {c : Cfg} (h : (setNums c).any badN = false) : lineM st (setB c) = some { st with cfg := { c with words := st.cfg.words, cuts := st.cfg.cuts } } := by
  unfold lineM setB
  rw [split_nums _ _ (by decide) h]
  show doSet st ((setNums c).map fun n => decD n.toNat) = _
  unfold doSet; rw [nums_back h]; rfl
theorem line_ev (st : RdS) {e : Evt} (h : badE e = false) : lineM st (evB e) = some { st with es := st.es ++ [e] } := by
  unfold badE at h
  unfold lineM evB
  by_cases hk : e.kind = 1
  · rw [if_pos hk] at h ⊢
    simp only [Bool.or_eq_false_iff, decide_eq_false_iff_not, ne_eq, Decidable.not_not] at h
    obtain ⟨⟨⟨h1, h2⟩, h3⟩, h4, h5⟩ := h
    have en : numsP [e.q.k, e.q.n] = 32 :: (decD e.q.k.toNat ++ 32 :: decD e.q.n.toNat) := by
      unfold numsP; simp [itoa_dec h4, itoa_dec h5]
    rw [en, List.append_assoc, List.cons_append, split_one (by decide), split_one (quote_no (by decide)), split_one (dec_no (by decide)), split_last (dec_no (by decide))]
    show doAsk st [quoteM e.q.text, decD e.q.k.toNat, decD e.q.n.toNat] = _
    simp only [doAsk, askM, unqM_quote, num_back h4, num_back h5, int_nat h4, int_nat h5, Option.map_some]
    obtain ⟨k, n, a, x, q⟩ := e
    simp only at hk h1 h2 h3
    subst hk h1 h2 h3; rfl
  · rw [if_neg hk] at h ⊢
    simp only [Bool.or_eq_false_iff, decide_eq_false_iff_not, ne_eq, Decidable.not_not] at h
    obtain ⟨hq, h1, h2, h3, h4⟩ := h
    have hb : [e.kind, e.node, e.at_, e.x].any badN = false := by simp [h1, h2, h3, h4]
    rw [split_nums _ _ (by decide) hb]
    show doEv st ([e.kind, e.node, e.at_, e.x].map fun n => decD n.toNat) = _
    unfold doEv; rw [nums_back hb]
    simp only [if_neg hk]
    obtain ⟨k, n, a, x, q⟩ := e
    simp only at hq
    subst hq; rfl
theorem line_free {c : Cfg} {es : List Evt} (h : badPr c es = false) : ∀ l ∈ linesP c es, (10 : UInt8) ∉ l := by
  unfold badPr at h
  rw [Bool.or_eq_false_iff, Bool.or_eq_false_iff, List.any_eq_false, List.any_eq_false (p := badE)] at h
  obtain ⟨⟨h1, h2⟩, h3⟩ := h
  have q10 : ∀ s : Str, (10 : UInt8) ∉ quoteM s := fun s => quote_no (by decide)
  intro l hl
  unfold linesP at hl
  rw [List.mem_append, List.mem_append, List.mem_append, List.mem_map, List.mem_map, List.mem_map] at hl
  rcases hl with ((⟨s, _, rfl⟩ | ⟨k, hk, rfl⟩) | hl) | ⟨e, he, rfl⟩
  · unfold wordB
    simp only [List.mem_append, List.mem_cons, not_or]
    exact ⟨by decide, by decide, q10 s⟩
  · unfold cutB
    simp only [List.mem_append, List.mem_cons, not_or]
    refine ⟨⟨by decide, numsP_no ?_⟩, by decide, q10 _⟩
    have := h1 k hk
    simp at this; simp [this]
  · simp only [List.mem_singleton] at hl
    subst hl
    unfold setB
    rw [List.mem_append, not_or]
    exact ⟨by decide, numsP_no h2⟩
  · have hb := h3 e he
    simp only [Bool.not_eq_true] at hb
    unfold badE at hb
    unfold evB
    split at hb
    · rename_i hk
      rw [if_pos hk]
      simp only [Bool.or_eq_false_iff] at hb
      simp only [List.mem_append, List.mem_cons, not_or]
      exact ⟨⟨by decide, by decide, q10 _⟩, numsP_no (by simp [hb.2.1, hb.2.2])⟩
    · rename_i hk
      rw [if_neg hk]
      simp only [Bool.or_eq_false_iff] at hb
      rw [List.mem_append, not_or]
      exact ⟨by decide, numsP_no (by simp [hb.2.1, hb.2.2.1, hb.2.2.2.1, hb.2.2.2.2])⟩
theorem parse_words : ∀ (ws : List Str) (k : Nat) (st : RdS) (ls : List Str), parseL k st (ws.map wordB ++ ls) = parseL (k + ws.length) { st with cfg := { st.cfg with words := st.cfg.words ++ ws } } ls
  | [], k, st, ls => by simp
  | w :: ws, k, st, ls => by
    rw [List.map_cons, List.cons_append, parseL, line_word]
    simp only
    rw [parse_words ws]
    simp [Nat.add_assoc, Nat.add_comm 1]
theorem parse_cuts : ∀ (ks : List Key) (k : Nat) (st : RdS) (ls : List Str), (∀ x ∈ ks, badN x.len = false) → parseL k st (ks.map cutB ++ ls) = parseL (k + ks.length) { st with cfg := { st.cfg with cuts := st.cfg.cuts ++ ks } } ls
  | [], k, st, ls, _ => by simp
  | x :: ks, k, st, ls, h => by
    rw [List.map_cons, List.cons_append, parseL, line_cut _ (h x (by simp))]
    simp only
    rw [parse_cuts ks _ _ _ fun y hy => h y (by simp [hy])]
    simp [Nat.add_assoc, Nat.add_comm 1]
theorem parse_evs : ∀ (es : List Evt) (k : Nat) (st : RdS), (∀ x ∈ es, badE x = false) → parseL k st (es.map evB) = ⟨st.cfg, st.es ++ es, 0, 0⟩
  | [], k, st, _ => by simp [parseL]
  | e :: es, k, st, h => by
    rw [List.map_cons, parseL, line_ev _ (h e (by simp))]
    simp only
    rw [parse_evs es _ _ fun y hy => h y (by simp [hy])]
    simp
/-- what is printed is read again -/
theorem parse_print {c : Cfg} {es : List Evt} (h : badPr c es = false) (hl : (printT c es).length ≤ 65536) : parseM (printT c es) = ⟨c, es, 0, 0⟩ := by
  unfold parseM
  rw [if_neg (by omega)]
  have hf := line_free h
  have h1 := linesM_flat (linesP c es) hf []
  rw [List.append_nil, linesM_nil, List.append_nil] at h1
  unfold printT
  rw [h1]
  unfold badPr at h
  rw [Bool.or_eq_false_iff, Bool.or_eq_false_iff, List.any_eq_false, List.any_eq_false (p := badE)] at h
  obtain ⟨⟨h1, h2⟩, h3⟩ := h
  unfold linesP
  rw [List.append_assoc, List.append_assoc, parse_words, parse_cuts _ _ _ _ fun k hk => by simpa using h1 k hk, List.singleton_append, parseL, line_set _ h2]
  simp only
  rw [parse_evs _ _ _ fun e he => by simpa using h3 e he]
  rfl
theorem print_back {c : Cfg} {es : List Evt} {t : Str} (h : printM c es = (t, 0)) : parseM t = ⟨c, es, 0, 0⟩ := by
  unfold printM at h
  split at h
  · simp at h
  · split at h
    · simp at h
    · rename_i h1 h2
      simp only [Prod.mk.injEq, and_true] at h
      subst h
      exact parse_print (by simpa using h1) (by omega)
theorem print_err (c : Cfg) (es : List Evt) : (printM c es).2 = 0 ∧ (printM c es).1 = printT c es ∧ badPr c es = false ∧ (printT c es).length ≤ 65536 ∨ (printM c es).2 ≠ 0 ∧ (printM c es).1 = [] := by
  unfold printM
  split
  · exact .inr ⟨by simp, rfl⟩
  · split
    · exact .inr ⟨by simp, rfl⟩
    · rename_i h1 h2
      exact .inl ⟨rfl, rfl, by simpa using h1, by omega⟩
/-- what is read may be written -/
structure RdOk (st : RdS) : Prop where
  cuts : ∀ k ∈ st.cfg.cuts, badN k.len = false
  nums : (setNums st.cfg).any badN = false
  es : ∀ e ∈ st.es, badE e = false
theorem rd0_ok : RdOk rd0 := ⟨fun k hk => by simp [rd0, cfg0] at hk, by decide, fun e he => by simp [rd0] at he⟩
theorem badN_nat {n : Nat} (h : n ≤ 999999) : badN (n : Int) = false := badN_no.2 (by omega)
theorem line_ok {st st' : RdS} {s : Str} (h : RdOk st) (hl : lineM st s = some st') : RdOk st' := by
  unfold lineM lineW at hl
  generalize (splitM 32 s).headD [] = hd at hl
  generalize (splitM 32 s).drop 1 = l at hl
  split at hl
  · unfold doWord at hl
    split at hl
    · obtain ⟨t, _, rfl⟩ := Option.map_eq_some_iff.1 hl
      exact ⟨h.cuts, h.nums, h.es⟩
    · cases hl
  · split at hl
    · unfold doCut at hl
      split at hl
      · split at hl
        · rename_i n t hn ht
          simp only [Option.some.injEq] at hl
          subst hl
          refine ⟨fun k hk => ?_, h.nums, h.es⟩
          simp only [List.mem_append, List.mem_singleton] at hk
          rcases hk with hk | rfl
          · exact h.cuts k hk
          · exact badN_nat (numM_some hn).2
        · cases hl
      · cases hl
    · split at hl
      · unfold doSet at hl
        split at hl
        · rename_i a b c d e f g hh i j hn
          simp only [Option.some.injEq] at hl
          subst hl
          refine ⟨h.cuts, ?_, h.es⟩
          rw [List.any_eq_false]
          intro n hx
          have := (numsM_some hn).2.1 n hx
          simp [badN_no.2 this]
        · cases hl
      · split at hl
        · unfold doEv at hl
          split at hl
          · rename_i k n a x hn
            split at hl
            · cases hl
            · rename_i hk
              simp only [Option.some.injEq] at hl
              subst hl
              refine ⟨h.cuts, h.nums, fun e he => ?_⟩
              simp only [List.mem_append, List.mem_singleton] at he
              rcases he with he | rfl
              · exact h.es e he
              · have hr := (numsM_some hn).2.1
                unfold badE
                rw [if_neg hk]
                simp only [badN_no.2 (hr k (by simp)), badN_no.2 (hr n (by simp)), badN_no.2 (hr a (by simp)), badN_no.2 (hr x (by simp))]
                simp
          · cases hl
        · split at hl
          · unfold doAsk at hl
            obtain ⟨q, hq, rfl⟩ := Option.map_eq_some_iff.1 hl
            refine ⟨h.cuts, h.nums, fun e he => ?_⟩
            simp only [List.mem_append, List.mem_singleton] at he
            rcases he with he | rfl
            · exact h.es e he
            · unfold askM at hq
              split at hq
              · split at hq
                · rename_i s' k n _ hk hn
                  simp only [Option.some.injEq] at hq
                  subst hq
                  unfold badE
                  simp [badN_nat (numM_some hk).2, badN_nat (numM_some hn).2]
                · cases hq
              · cases hq
          · cases hl
theorem parseL_ok : ∀ (ls : List Str) (k : Nat) (st : RdS), RdOk st → (parseL k st ls).err = 0 → badPr (parseL k st ls).cfg (parseL k st ls).es = false
  | [], k, st, h, _ => by
    unfold parseL badPr
    simp only [Bool.or_eq_false_iff]
    refine ⟨⟨?_, h.nums⟩, ?_⟩
    · rw [List.any_eq_false]; intro x hx; simp [h.cuts x hx]
    · rw [List.any_eq_false]; intro x hx; simp [h.es x hx]
  | l :: ls, k, st, h, he => by
    unfold parseL at he ⊢
    cases hl : lineM st l with
    | none => rw [hl] at he; simp at he
    | some st' =>
      rw [hl] at he
      exact parseL_ok ls (k + 1) st' (line_ok h hl) he
theorem parse_ok {s : Str} (h : (parseM s).err = 0) : badPr (parseM s).cfg (parseM s).es = false := by
  unfold parseM at h ⊢
  split at h
  · simp at h
  · rename_i h1
    rw [if_neg h1]
    exact parseL_ok _ _ _ rd0_ok h
/-- what is read is printed, or it is too much -/
theorem read_print {s : Str} (h : (parseM s).err = 0) : (printM (parseM s).cfg (parseM s).es).2 = 0 ∧ parseM (printM (parseM s).cfg (parseM s).es).1 = ⟨(parseM s).cfg, (parseM s).es, 0, 0⟩ ∨ (printM (parseM s).cfg (parseM s).es).2 = 3 := by
  have hb := parse_ok h
  unfold printM
  rw [if_neg (by rw [hb]; simp)]
  split
  · exact .inr rfl
  · rename_i h1
    exact .inl ⟨rfl, parse_print hb (by omega)⟩
/-- where a text is refused -/
theorem parseL_err : ∀ (ls : List Str) (k : Nat) (st : RdS), (parseL k st ls).err = 0 ∧ (parseL k st ls).at_ = 0 ∨ (parseL k st ls).err = 11 ∧ (parseL k st ls).es = [] ∧ (parseL k st ls).cfg = cfg0 ∧ (k : Int) ≤ (parseL k st ls).at_
  | [], k, st => .inl ⟨rfl, rfl⟩
  | l :: ls, k, st => by
    unfold parseL
    cases lineM st l with
    | none => exact .inr ⟨rfl, rfl, rfl, Int.le_refl _⟩
    | some st' =>
      rcases parseL_err ls (k + 1) st' with h | ⟨h1, h2, h3, h4⟩
      · exact .inl h
      · exact .inr ⟨h1, h2, h3, by simp only; omega⟩
theorem parseL_app : ∀ (ls ms : List Str) (k : Nat) (st : RdS), (parseL k st ls).err ≠ 0 → parseL k st (ls ++ ms) = parseL k st ls
  | [], ms, k, st, h => absurd rfl h
  | l :: ls, ms, k, st, h => by
    rw [List.cons_append]
    unfold parseL at h ⊢
    cases hl : lineM st l with
    | none => rfl
    | some st' =>
      rw [hl] at h
      exact parseL_app ls ms (k + 1) st' h
theorem parts_err {s t : Str} (hs : s.length ≤ 10000) (ht : t.length ≤ 10000) (h : (parseM s).err ≠ 0) : parseM (s ++ 10 :: t) = parseM s := by
  have hl : ¬ (s ++ 10 :: t).length > 65536 := by simp only [List.length_append, List.length_cons]; omega
  unfold parseM at h ⊢
  rw [if_neg (by omega)] at h
  rw [if_neg hl, if_neg (by omega), lines_app _ s t (Nat.le_refl _)]
  split
  · rw [List.append_assoc, parseL_app _ _ _ _ h]
  · rw [parseL_app _ _ _ _ h]
theorem parts_ok (s t : Str) : (parseM (s ++ 10 :: t)).err = 0 ∨ (parseM (s ++ 10 :: t)).cfg = cfg0 ∧ ((s ++ 10 :: t).length ≤ 65536 → 0 < (parseM (s ++ 10 :: t)).at_) := by
  unfold parseM
  split
  · rename_i h
    exact .inr ⟨rfl, fun h' => by omega⟩
  · rcases parseL_err (linesM (s ++ 10 :: t)) 1 rd0 with h | ⟨h1, h2, h3, h4⟩
    · exact .inl h.1
    · exact .inr ⟨h3, fun _ => by omega⟩
theorem parse_es {s : Str} (h : (parseM s).err ≠ 0) : (parseM s).es = [] := by
  unfold parseM at h ⊢
  split
  · rfl
  · rename_i h1
    rw [if_neg h1] at h
    rcases parseL_err (linesM s) 1 rd0 with h2 | ⟨_, h2, _⟩
    · exact absurd h2.1 h
    · exact h2
/-- a line for each word, cut and event, and one for the numbers -/
theorem count_lines : ∀ (ls : List Str), (∀ l ∈ ls, (10 : UInt8) ∉ l) → (ls.flatMap (· ++ [10])).count 10 = ls.length
  | [], _ => rfl
  | l :: ls, h => by
    rw [List.flatMap_cons, List.count_append, List.count_append, count_lines ls fun x hx => h x (by simp [hx]), List.count_eq_zero.2 (h l (by simp))]
    simp; omega
theorem print_lines {c : Cfg} {es : List Evt} (h : badPr c es = false) : (printT c es).count 10 = c.words.length + c.cuts.length + 1 + es.length := by
  unfold printT
  rw [count_lines _ (line_free h)]
  simp [linesP]; omega
theorem print_last (c : Cfg) (es : List Evt) : (printT c es).getLast? = some 10 := by
  have : ∀ ls : List Str, ls ≠ [] → (ls.flatMap (· ++ [10])).getLast? = some 10 := by
    intro ls
    induction ls with
    | nil => intro h; exact absurd rfl h
    | cons l ls ih =>
      intro _
      rw [List.flatMap_cons, List.getLast?_append]
      by_cases h : ls = []
      · subst h; simp
      · rw [ih h]; rfl
  exact this _ (by simp [linesP])
end Go.Ml
/-
  Numbers written and read by the library, where its tables are as they were laid; a script's reader in memory.
-/
set_option linter.unusedVariables false
set_option linter.unusedSimpArgs false
namespace Go.Ik
open Go Go.Proofs Go.Shelf Go.RowKit Go.Ml Go.Lib Go.Sort

/-- a variable of an error's type -/
def ErrIs (w : World) (g : Nat) : Prop := ∃ ev, w.cell? ⟨g, 0, none⟩ = some ev ∧ (ev = .nilIface ∨ ∃ te pe, ev = .iface te pe)
/-- the library's tables as they were laid -/
structure GlobS (P : Program) (gs gr : Nat) (w : World) : Prop where
  tab : Lib.TabIs P w "internal/strconv.uint64pow10" .u64 Lib.pow10Tab
  syn : ErrIs w gs
  rng : ErrIs w gr
theorem ErrIs.keep {M : Nat → Prop} {w w' : World} {g : Nat} (h : ErrIs w g) (hm : Mod M w w') (hg : ¬ M g) : ErrIs w' g := by
  obtain ⟨ev, h1, h2⟩ := h
  exact ⟨ev, cell_keep h1 hm hg, h2⟩
theorem tab_keep {P : Program} {M : Nat → Prop} {w w' : World} {nm : String} {k : IntKind} {zs : List Int} {gp : Nat} (h : Lib.TabIs P w nm k zs) (hg : P.globalNamed nm = some gp) (hm : Mod M w w') (hM : ¬ M gp) : Lib.TabIs P w' nm k zs := by
  unfold Lib.TabIs World.var? at *
  rw [hg] at h ⊢
  simp only [Option.bind_some] at h ⊢
  cases hh : w.heap[gp]? with
  | none => rw [hh] at h; cases h
  | some o =>
    rw [hh] at h
    rw [hm.keep gp o hh hM]
    exact h
theorem GlobS.keep {P : Program} {gp gs gr : Nat} {M : Nat → Prop} {w w' : World} (h : GlobS P gs gr w) (hg : P.globalNamed "internal/strconv.uint64pow10" = some gp) (hm : Mod M w w') (hM : ∀ b, b = gp ∨ b = gs ∨ b = gr → ¬ M b) : GlobS P gs gr w' :=
  ⟨tab_keep h.tab hg hm (hM gp (.inl rfl)), h.syn.keep hm (hM gs (.inr (.inl rfl))), h.rng.keep hm (hM gr (.inr (.inr rfl)))⟩
theorem GlobS.ext {P : Program} {gp gs gr : Nat} {w w' : World} (h : GlobS P gs gr w) (hg : P.globalNamed "internal/strconv.uint64pow10" = some gp) (hm : Ext w w') : GlobS P gs gr w' := h.keep hg hm fun _ _ x => x
theorem GlobS.lt {P : Program} {gp gs gr : Nat} {w : World} (h : GlobS P gs gr w) (hg : P.globalNamed "internal/strconv.uint64pow10" = some gp) : ∀ b, b = gp ∨ b = gs ∨ b = gr → b < w.heap.size := by
  intro b hb
  rcases hb with rfl | rfl | rfl
  · have ht := h.tab
    unfold Lib.TabIs World.var? at ht
    rw [hg] at ht
    simp only [Option.bind_some] at ht
    cases hh : w.heap[b]? with
    | none => rw [hh] at ht; cases ht
    | some o => exact (Array.getElem?_eq_some_iff.1 hh).1
  · obtain ⟨ev, h1, _⟩ := h.syn
    exact World.block_lt_of_cell? _ _ h1
  · obtain ⟨ev, h1, _⟩ := h.rng
    exact World.block_lt_of_cell? _ _ h1
theorem glob_no {P : Program} {gp gs gr n : Nat} {w0 : World} {F0 Fy R : Nat → Prop} (h : GlobS P gs gr w0) (hg : P.globalNamed "internal/strconv.uint64pow10" = some gp) (hF : ∀ b, b = gp ∨ b = gs ∨ b = gr → ¬ F0 b) (hFy : ∀ b, Fy b → ((F0 b ∨ w0.heap.size ≤ b) ∧ ¬ R b) ∧ b < n) : ∀ b, b = gp ∨ b = gs ∨ b = gr → ¬ Fy b := fun b hb hx => (hFy b hx).1.1.elim (hF b hb) fun hge => absurd (h.lt hg b hb) (by omega)
theorem grow_ext (w : World) (os : Array Obj) (k : Nat) : Ext w (grow (w.drewN k) os) := by
  refine ⟨rfl, rfl, rfl, ?_, fun b o hb _ => ?_⟩
  · show w.heap.size ≤ (w.heap ++ os).size
    simp
  · show (w.heap ++ os)[b]? = some o
    rw [Array.getElem?_append_left (Array.getElem?_eq_some_iff.1 hb).1]; exact hb
section
variable {P : Program} {ρ : Ren}
theorem itoa_own (L : LaysM.n171 P ρ) {gs gr : Nat} {w0 : World} (n : Int) (hn : I64 n) (hG : GlobS P gs gr w0) : Calls P (ρ.f 171) #[.int .i64 n] w0 (Ret fun rv w1 => rv = strV (Lib.itoa n) ∧ Ext w0 w1) := by
  refine (Any.strconv_Itoa L n hn.1 hn.2 w0 hG.tab).mono ?_
  rintro e w1 ⟨rfl, k, os, rfl⟩
  exact Ret.mk ⟨rfl, grow_ext _ _ _⟩
theorem atoi_rng {l : Str} {v : Int} (h : Lib.atoiAll l = .ok v) : I64 v := by
  unfold Lib.atoiAll at h
  split at h
  · cases h
  · simp only at h
    split at h
    · cases h
    · cases h
    · rename_i u hu
      split at h
      · cases h
      · split at h
        · cases h
        · rename_i h1 h2
          injection h with h
          subst h
          split <;> constructor <;> omega
theorem atoi_own (L : LaysC.n172 P ρ) {w0 : World} (s : Str) (hs : s.length ≤ 1000000) (hG : GlobS P (ρ.g 15) (ρ.g 16) w0) :
    Calls P (ρ.f 172) #[strV s] w0 (Ret fun rv w1 => ∃ (n : Int) (e : Value), rv = .tuple #[.int .i64 n, e] ∧ (Lib.atoiAll s = .ok n ∧ I64 n ∧ e = .nilIface ∨ (∀ v, Lib.atoiAll s ≠ .ok v) ∧ I64 n ∧ ∃ t p, e = .iface t p) ∧ Ext w0 w1) := by
  have hsz : (⟨s.toArray⟩ : ByteArray).size = s.length := by simp [ByteArray.size]
  have hsat : I64 (Lib.atoiSat s) := by unfold Lib.atoiSat; split <;> constructor <;> omega
  cases hr : Lib.atoiAll s with
  | ok v =>
    refine (Any.strconv_Atoi_ok L ⟨s.toArray⟩ (by rw [hsz]; omega) v hr w0).mono ?_
    rintro e w1 ⟨rfl, rfl | ⟨t, rfl⟩⟩
    · exact Ret.mk ⟨v, _, rfl, .inl ⟨rfl, atoi_rng hr, rfl⟩, Mod.refl _ _⟩
    · exact Ret.mk ⟨v, _, rfl, .inl ⟨rfl, atoi_rng hr, rfl⟩, Mod.of_below (Lib.bytesWorld_below _ _ _)⟩
  | «syntax» =>
    obtain ⟨ev, h1, h2⟩ := hG.syn
    refine (Any.strconv_Atoi_syntax L ⟨s.toArray⟩ (by rw [hsz]; omega) hr ev w0 h1 h2).mono ?_
    rintro e w1 ⟨N, rfl, _, _, hb⟩
    exact Ret.mk ⟨0, _, rfl, .inr ⟨(fun v h => by cases h), (by constructor <;> omega), _, _, rfl⟩, Mod.of_below hb⟩
  | range =>
    obtain ⟨ev, h1, h2⟩ := hG.rng
    refine (Any.strconv_Atoi_range L ⟨s.toArray⟩ (by rw [hsz]; omega) hr ev w0 h1 h2).mono ?_
    rintro e w1 ⟨N, rfl, _, _, hb⟩
    exact Ret.mk ⟨_, _, rfl, .inr ⟨(fun v h => by cases h), hsat, _, _, rfl⟩, Mod.of_below hb⟩
end
section
variable {P : Program} {E : Env} {C : World → Prop} {d : Option Tmp} {ty : TypeId} {pos : String} {af : Array Edge} {gd : Option (Nat × Bool)}
theorem Q1.neNilI {xt yt : TypeId} {x : Operand} {ms : _} (hu : P.underlying xt = some (.interface ms)) (hx : ev E x = some .nilIface) : Q1 P ⟨d, .binOp .neq xt x (.const .nilIface) yt, ty, pos, af, gd⟩ E C (.bool false) := fun a ha w _ => by
  have h : (Op.equal xt .nilIface .nilIface).run P w = .ok true w := by
    have key : ∀ n, (Op.equalIn (n + 1) xt .nilIface .nilIface).run P w = .ok true w := fun n => by simp [Op.equalIn, run_underlying hu]
    exact key 9999
  have hg : (eqGuard .neq xt x (.const .nilIface) .nilIface .nilIface).run P w = .ok () w := by
    unfold eqGuard; simp
  have hc : a.eval (.const .nilIface) = .nilIface := rfl
  simp [execOp, ha.ev hx, hc, hg, Go.binOp, h]
theorem Q1.neIfaceNil {xt yt : TypeId} {x : Operand} {ms : _} {t : TypeId} {p : Value} (hu : P.underlying xt = some (.interface ms)) (hx : ev E x = some (.iface t p)) : Q1 P ⟨d, .binOp .neq xt x (.const .nilIface) yt, ty, pos, af, gd⟩ E C (.bool true) := fun a ha w _ => by
  have h : (Op.equal xt (.iface t p) .nilIface).run P w = .ok false w := by
    have key : ∀ n, (Op.equalIn (n + 1) xt (.iface t p) .nilIface).run P w = .ok false w := fun n => by simp [Op.equalIn, run_underlying hu]
    exact key 9999
  have hg : (eqGuard .neq xt x (.const .nilIface) (.iface t p) .nilIface).run P w = .ok () w := by
    unfold eqGuard; simp
  have hc : a.eval (.const .nilIface) = .nilIface := rfl
  simp [execOp, ha.ev hx, hc, hg, Go.binOp, h]
end
/-! structs whose last field is a struct -/
theorem eqF_true {P : Program} {d : Nat} {xs ys : Array Value} (gs : List Field) : ∀ (fs : List Field) (w w' : World), (Op.eqFields d xs ys fs).run P w = .ok true w' → (Op.eqFields d xs ys (fs ++ gs)).run P w = (Op.eqFields d xs ys gs).run P w'
  | [], w, w', h => by
    simp only [Op.eqFields, Sem.run_pure, Result.ok.injEq, true_and] at h
    subst h; rfl
  | f :: fs, w, w', h => by
    rw [List.cons_append]
    simp only [Op.eqFields] at h ⊢
    split at h
    · rename_i hn
      rw [if_pos hn]
      simp only [Sem.run_bind] at h ⊢
      generalize (part f.type xs f.offset).run P w = r1 at h ⊢
      cases r1 with
      | ok a w1 =>
        simp only [Result.andThen_ok] at h ⊢
        generalize (part f.type ys f.offset).run P w1 = r2 at h ⊢
        cases r2 with
        | ok b w2 =>
          simp only [Result.andThen_ok] at h ⊢
          generalize (Op.equalIn d f.type a b).run P w2 = r3 at h ⊢
          cases r3 with
          | ok r w3 =>
            simp only [Result.andThen_ok] at h ⊢
            cases r
            · simp at h
            · simp only [Bool.not_true, Bool.false_eq_true, if_false] at h ⊢
              exact eqF_true gs fs w3 w' h
          | _ => cases h
        | _ => cases h
      | _ => cases h
    · rename_i hn
      rw [if_neg hn]
      exact eqF_true gs fs w w' h
theorem eqF_false {P : Program} {d : Nat} {xs ys : Array Value} (gs : List Field) : ∀ (fs : List Field) (w w' : World), (Op.eqFields d xs ys fs).run P w = .ok false w' → (Op.eqFields d xs ys (fs ++ gs)).run P w = .ok false w'
  | [], w, w', h => by simp [Op.eqFields] at h
  | f :: fs, w, w', h => by
    rw [List.cons_append]
    simp only [Op.eqFields] at h ⊢
    split at h
    · rename_i hn
      rw [if_pos hn]
      simp only [Sem.run_bind] at h ⊢
      generalize (part f.type xs f.offset).run P w = r1 at h ⊢
      cases r1 with
      | ok a w1 =>
        simp only [Result.andThen_ok] at h ⊢
        generalize (part f.type ys f.offset).run P w1 = r2 at h ⊢
        cases r2 with
        | ok b w2 =>
          simp only [Result.andThen_ok] at h ⊢
          generalize (Op.equalIn d f.type a b).run P w2 = r3 at h ⊢
          cases r3 with
          | ok r w3 =>
            simp only [Result.andThen_ok] at h ⊢
            cases r
            · simpa using h
            · simp only [Bool.not_true, Bool.false_eq_true, if_false] at h ⊢
              exact eqF_false gs fs w3 w' h
          | _ => cases h
        | _ => cases h
      | _ => cases h
    · rename_i hn
      rw [if_neg hn]
      exact eqF_false gs fs w w' h
theorem run_eq_tail {P : Program} {t t2 : TypeId} {xs ys x2 y2 : Array Value} {ks ks2 : List (Nat × FK)} {q q2 : Bool} {k o n by_ : Nat} {z : List Value} (hf : P.underlying t = some (.struct (P.fieldsOf t))) (hp : P.stoodInHeld t = false)
    (hk : fksOf P ((P.fieldsOf t).toList.take k) = some ks) (hg : (((P.fieldsOf t).toList.drop k).map fun f => (f.name != "_", f.type, f.offset)) = [(true, t2, o)])
    (hf2 : P.underlying t2 = some (.struct (P.fieldsOf t2))) (hp2 : P.stoodInHeld t2 = false) (hk2 : fksOf P (P.fieldsOf t2).toList = some ks2) (ht2 : tyI P t2 = some (true, n, by_, z))
    (hq : eqCells ks xs ys = some q) (hx : xs.extract o (o + n) = x2) (hy : ys.extract o (o + n) = y2) (hq2 : eqCells ks2 x2 y2 = some q2) (w : World) :
    (Op.equalIn 10000 t (.agg xs) (.agg ys)).run P w = .ok (q && q2) w := by
  refine (run_equalIn_agg w 9999 t xs ys hf hp).trans ?_
  have h1 := run_eqFields (P := P) (xs := xs) (ys := ys) (n := 9998) w _ ks q hk hq
  have hl : (P.fieldsOf t).toList = (P.fieldsOf t).toList.take k ++ (P.fieldsOf t).toList.drop k := (List.take_append_drop _ _).symm
  rw [hl]
  cases q with
  | false =>
    show _ = Result.ok false w
    exact eqF_false _ _ w w h1
  | true =>
    rw [eqF_true _ _ w w h1]
    obtain ⟨f, hf1, hf3⟩ := List.map_eq_singleton_iff.1 hg
    rw [hf1]
    simp only [Prod.mk.injEq, bne_iff_ne, ne_eq] at hf3
    obtain ⟨hn, e1, e2⟩ := hf3
    have hpx : ∀ cs : Array Value, (part f.type cs f.offset).run P w = .ok (.agg (cs.extract o (o + n))) w := by
      intro cs
      unfold part
      rw [e1, e2]
      simp [Sem.run_bind, run_isAgg ht2, Ik.run_sizeOf ht2]
    have he : (Op.equalIn 9999 t2 (.agg x2) (.agg y2)).run P w = .ok q2 w := (run_equalIn_agg w 9998 t2 x2 y2 hf2 hp2).trans (run_eqFields (n := 9997) w _ ks2 q2 hk2 hq2)
    have hpx1 := hpx xs
    have hpy1 := hpx ys
    rw [hx] at hpx1
    rw [hy] at hpy1
    rw [← e1] at he
    simp only [Op.eqFields]
    rw [if_pos hn]
    simp only [Sem.run_bind, hpx1, hpy1, Result.andThen_ok, he]
    cases q2 <;> simp
/-- a script's reader: its block, its words, cuts, events -/
def scR {R : Nat → Prop} (eR sT kT vT : TypeId) (b : Nat) (s : RdS) : Res R := exR fun v : Value × Value × Value => boxR [bkR b [v.1, v.2.1, .int .i64 s.cfg.workers, .int .i64 s.cfg.copies, .int .i64 s.cfg.slots, .int .i64 s.cfg.batch, .int .i64 s.cfg.lease, .int .i64 s.cfg.hedge, .int .i64 s.cfg.first, .int .i64 s.cfg.cap, .int .i64 s.cfg.jitter, .int .i64 s.cfg.net, v.2.2] eR, accR encS sT 1 v.1 s.cfg.words, accR encKey kT 2 v.2.1 s.cfg.cuts, accR encEvt vT 7 v.2.2 s.es]
end Go.Ik
/-
  Texts cut and split by the library; numbers read; results of which the first lies in a cell.
-/
set_option linter.unusedVariables false
set_option linter.unusedSimpArgs false
namespace Go.Ik
open Go
theorem r_retC2 {P : Program} {f : FuncId} {R : Ending → World → Prop} {n : Nat} {E : Env} {k : List Item} {w : World} {fn : Func} {t u : Tmp} {ty : TypeId} {b off sz by_ : Nat} {z cs : List Value} {v2 : Value} (hf : P.funcs[f]? = some fn) (hres : fn.results = #[.cell t ty, .tmp u])
    (hv : lk t E = some (ptr b off)) (ht : tyI P ty = some (true, sz, by_, z)) (hr : Row w b off cs) (hn : cs.length = sz) (h2 : lk u E = some v2) (hR : R (.returned (.tuple #[.agg cs.toArray, v2])) w) : RunE P f R n E (.code .ret :: k) w := fun a ha b' hb hk cs' =>
  ⟨_, w, { b'.at a (.code .ret :: k) with mode := .returning }, hR, .one step_ret, hb, leave_ret ha hf hb hk (by
    have hg : a.tmps[t]?.getD undef = .pointer (some ⟨b, off, none⟩) := by have := ha.has t _ hv; simpa [ptr] using this
    have hg2 : a.tmps[u]?.getD undef = v2 := by simpa using ha.has u _ h2
    simp [results, hres, hg, hg2, asAddr, Sem.run_bind, Result.andThen, run_loadVar_agg ht hr hn])⟩
theorem r_retC4 {P : Program} {f : FuncId} {R : Ending → World → Prop} {n : Nat} {E : Env} {k : List Item} {w : World} {fn : Func} {t u u3 u4 : Tmp} {ty : TypeId} {b off sz by_ : Nat} {z cs : List Value} {v2 v3 v4 : Value} (hf : P.funcs[f]? = some fn) (hres : fn.results = #[.cell t ty, .tmp u, .tmp u3, .tmp u4])
    (hv : lk t E = some (ptr b off)) (ht : tyI P ty = some (true, sz, by_, z)) (hr : Row w b off cs) (hn : cs.length = sz) (h2 : lk u E = some v2) (h3 : lk u3 E = some v3) (h4 : lk u4 E = some v4) (hR : R (.returned (.tuple #[.agg cs.toArray, v2, v3, v4])) w) : RunE P f R n E (.code .ret :: k) w := fun a ha b' hb hk cs' =>
  ⟨_, w, { b'.at a (.code .ret :: k) with mode := .returning }, hR, .one step_ret, hb, leave_ret ha hf hb hk (by
    have hg : a.tmps[t]?.getD undef = .pointer (some ⟨b, off, none⟩) := by have := ha.has t _ hv; simpa [ptr] using this
    have hg2 : a.tmps[u]?.getD undef = v2 := by simpa using ha.has u _ h2
    have hg3 : a.tmps[u3]?.getD undef = v3 := by simpa using ha.has u3 _ h3
    have hg4 : a.tmps[u4]?.getD undef = v4 := by simpa using ha.has u4 _ h4
    simp [results, hres, hg, hg2, hg3, hg4, asAddr, Sem.run_bind, Result.andThen, run_loadVar_agg ht hr hn])⟩
end Go.Ik
namespace Go.Ml
open Go Go.Ik
theorem ixb_spec : ∀ (s : Str) (c : UInt8), (Lib.indexByte s c = -1 ∧ c ∉ s) ∨ ∃ k : Nat, Lib.indexByte s c = (k : Int) ∧ k < s.length ∧ s = s.take k ++ c :: s.drop (k + 1) ∧ c ∉ s.take k
  | [], c => .inl ⟨rfl, by simp⟩
  | b :: s, c => by
    unfold Lib.indexByte
    by_cases hb : b = c
    · subst hb
      refine .inr ⟨0, by simp, by simp, by simp, by simp⟩
    · have hb' : (b == c) = false := beq_eq_false_iff_ne.2 hb
      rw [hb']
      simp only [Bool.false_eq_true, if_false]
      rcases ixb_spec s c with ⟨h1, h2⟩ | ⟨k, h1, h2, h3, h4⟩
      · rw [h1]
        exact .inl ⟨rfl, by simp only [List.mem_cons, not_or]; exact ⟨fun e => hb e.symm, h2⟩⟩
      · rw [h1]
        have : ((k : Int) == -1) = false := beq_eq_false_iff_ne.2 (by omega)
        rw [this]
        refine .inr ⟨k + 1, by simp, by simpa using h2, ?_, ?_⟩
        · simp only [List.take_succ_cons, List.drop_succ_cons, List.cons_append]
          rw [← h3]
        · simp only [List.take_succ_cons, List.mem_cons, not_or]
          exact ⟨fun e => hb e.symm, h4⟩
theorem ixb_rng (s : Str) (c : UInt8) : -1 ≤ Lib.indexByte s c ∧ (Lib.indexByte s c < s.length) := by
  rcases ixb_spec s c with ⟨h1, _⟩ | ⟨k, h1, h2, _⟩ <;> omega
theorem ixb_no {s : Str} {c : UInt8} (h : Lib.indexByte s c < 0) : c ∉ s := by
  rcases ixb_spec s c with ⟨_, h2⟩ | ⟨k, h1, _⟩
  · exact h2
  · omega
theorem ixb_self {s : Str} {c : UInt8} (h : ([c] : Str) = s) : (0 : Int) = Lib.indexByte s c := by
  subst h; unfold Lib.indexByte; simp
theorem ixb_bt {s : Str} {c : UInt8} : Lib.indexByte s (btAt ([c] : Str) 0) = Lib.indexByte s c := rfl
/-- a text at the first of a byte -/
def cutM (c : UInt8) (s : Str) : Str × Str := if Lib.indexByte s c < 0 then (s, []) else (s.take (Lib.indexByte s c).toNat, s.drop ((Lib.indexByte s c).toNat + 1))
theorem cut_no {c : UInt8} {s : Str} (h : ¬ Lib.indexByte s c ≥ 0) : cutM c s = (s, []) := by
  unfold cutM; rw [if_pos (by omega)]
theorem cut_yes {c : UInt8} {s : Str} (h : Lib.indexByte s c ≥ 0) : cutM c s = (s.take (Lib.indexByte s c).toNat, s.drop ((Lib.indexByte s c).toNat + 1)) := by
  unfold cutM; rw [if_neg (by omega)]
theorem cut_lines {s : Str} (h : s ≠ []) : linesM s = (cutM 10 s).1 :: linesM (cutM 10 s).2 := by
  rcases ixb_spec s 10 with ⟨h1, h2⟩ | ⟨k, h1, h2, h3, h4⟩
  · rw [cut_no (by omega), linesM_no h2 h]; rfl
  · rw [cut_yes (by omega), h1]
    simp only [Int.toNat_natCast]
    conv => lhs; rw [h3]
    exact linesM_yes h4
theorem cut_len {c : UInt8} {s : Str} : (cutM c s).1.length ≤ s.length ∧ (cutM c s).2.length ≤ s.length ∧ (s ≠ [] → (cutM c s).2.length < s.length) := by
  by_cases h : Lib.indexByte s c ≥ 0
  · rw [cut_yes h]
    have := ixb_rng s c
    refine ⟨by simp; omega, by simp, fun hs => ?_⟩
    have := List.length_pos_iff.2 hs
    simp; omega
  · rw [cut_no h]
    exact ⟨Nat.le_refl _, by simp, fun hs => by simpa using List.length_pos_iff.2 hs⟩
/-- a text split: what is laid so far, what is left -/
structure SpAt (c : UInt8) (s t : Str) (i : Nat) (a : List Str) : Prop where
  eq : splitM c s = a.take i ++ splitM c t
  cnt : i + t.count c = s.count c
  len : a.length = s.count c + 1
  le : t.length ≤ s.length
theorem SpAt.start (c : UInt8) (s : Str) : SpAt c s s 0 (List.replicate (s.count c + 1) []) := ⟨by simp, by simp, by simp, Nat.le_refl _⟩
theorem SpAt.step {c : UInt8} {s t : Str} {i : Nat} {a : List Str} (h : SpAt c s t i a) (hx : ¬ Lib.indexByte t c < 0) : SpAt c s (t.drop ((Lib.indexByte t c).toNat + 1)) (i + 1) (a.set i (t.take (Lib.indexByte t c).toNat)) := by
  rcases ixb_spec t c with ⟨h1, _⟩ | ⟨k, h1, h2, h3, h4⟩
  · omega
  · rw [h1]
    simp only [Int.toNat_natCast]
    have hc : t.count c = (t.drop (k + 1)).count c + 1 := by
      conv => lhs; rw [h3]
      rw [List.count_append, List.count_cons_self, List.count_eq_zero.2 h4]; omega
    have hi : i < a.length := by have := h.len; have := h.cnt; omega
    refine ⟨?_, by have := h.cnt; omega, by rw [List.length_set]; exact h.len, by rw [List.length_drop]; exact Nat.le_trans (Nat.sub_le _ _) h.le⟩
    rw [h.eq]
    have e1 : splitM c t = t.take k :: splitM c (t.drop (k + 1)) := by
      conv => lhs; rw [h3]
      have := splitA_yes (c := c) (t.take k) [] (t.drop (k + 1)) h4
      simpa [splitM] using this
    rw [e1, List.take_add_one]
    rw [List.take_set_of_le (Nat.le_refl i), List.getElem?_set_self hi]
    simp
theorem SpAt.fin {c : UInt8} {s t : Str} {i : Nat} {a : List Str} (h : SpAt c s t i a) (hx : c ∉ t) : (a.set i t).take (i + 1) = splitM c s := by
  have hi : i < a.length := by have := h.len; have := h.cnt; omega
  rw [h.eq, List.take_add_one, List.take_set_of_le (Nat.le_refl i), List.getElem?_set_self hi]
  have := splitA_no (c := c) t [] hx
  simp [splitM, this]
theorem SpAt.none {c : UInt8} {s t : Str} {i : Nat} {a : List Str} (h : SpAt c s t i a) (hi : s.count c ≤ i) : c ∉ t := List.count_eq_zero.1 (by have := h.cnt; omega)
theorem split_len (c : UInt8) (s : Str) : (splitM c s).length = s.count c + 1 := splitA_len c s []
theorem splitA_mem (c : UInt8) : ∀ (s acc x : Str), x ∈ splitA c acc s → x.length ≤ acc.length + s.length
  | [], acc, x, h => by
    simp only [splitA, List.mem_singleton] at h
    subst h; simp
  | y :: s, acc, x, h => by
    unfold splitA at h
    split at h
    · rcases List.mem_cons.1 h with rfl | h
      · simp only [List.length_cons]; omega
      · have := splitA_mem c s [] x h
        simp only [List.length_nil, List.length_cons] at this ⊢; omega
    · have := splitA_mem c s (acc ++ [y]) x h
      simp only [List.length_append, List.length_cons, List.length_nil] at this ⊢; omega
theorem split_mem {c : UInt8} {s x : Str} (h : x ∈ splitM c s) : x.length ≤ s.length := by
  have := splitA_mem c s [] x h
  simpa using this
theorem split_head (c : UInt8) (s : Str) : ∃ h l, splitM c s = h :: l := by
  cases hs : splitM c s with
  | nil => exact absurd hs (splitM_ne c s)
  | cons h l => exact ⟨h, l, rfl⟩
/-! numbers -/
theorem nums_more {l : List Str} {i : Nat} {x : Str} {out : List Int} {v : Int} (h : numsM (l.take i) = some out) (hx : l[i]? = some x) (ha : Lib.atoiAll x = .ok v) (h0 : ¬ v < 0) (h1 : ¬ v > 999999) (he : Lib.itoa v = x) : numsM (l.take (i + 1)) = some (out ++ [v]) := by
  have := nums_take h hx (num_eq ha ⟨by omega, by omega⟩ he)
  rw [this]
  simp only [Option.some.injEq, List.append_cancel_left_eq, List.cons.injEq, and_true]
  omega
theorem nums_none {l : List Str} {i : Nat} {x : Str} (hx : l[i]? = some x) (h : (∃ v, Lib.atoiAll x = .ok v ∧ (v < 0 ∨ v > 999999 ∨ Lib.itoa v ≠ x)) ∨ ∀ v, Lib.atoiAll x ≠ .ok v) : numsM l = none := by
  refine nums_bad hx ?_
  rcases h with ⟨v, ha, h⟩ | h
  · exact num_no1 ha (by omega)
  · exact num_no2 h
theorem nums_all {l : List Str} {i : Nat} {out : List Int} (h : numsM (l.take i) = some out) (hi : l.length ≤ i) : numsM l = some out := by rwa [List.take_of_length_le hi] at h
theorem nums_I64 {l : List Str} : ((numsM l).getD []).length ≤ l.length ∧ ∀ n ∈ (numsM l).getD [], 0 ≤ n ∧ n ≤ 999999 := by
  cases h : numsM l with
  | none => simp
  | some ns =>
    have := numsM_some h
    exact ⟨by simp [this.1], by simpa using this.2.1⟩
theorem SpAt.step' {c : UInt8} {s t : Str} {i k m : Nat} {a : List Str} (h : SpAt c s t i a) (hx : ¬ Lib.indexByte t c < 0) (hk : k = (Lib.indexByte t c).toNat) (hm : m = (Lib.indexByte t c).toNat + 1) : SpAt c s (t.drop m) (i + 1) (a.set i (t.take k)) := by
  subst hk hm; exact h.step hx
theorem SpAt.fin' {c : UInt8} {s t : Str} {i : Nat} {a : List Str} (h : SpAt c s t i a) (hx : s.count c ≤ i ∨ Lib.indexByte t c < 0) : (a.set i t).take (i + 1) = splitM c s := h.fin (hx.elim h.none ixb_no)
theorem cut_a {c : UInt8} {s : Str} {k : Nat} (h : Lib.indexByte s c ≥ 0) (hk : k = (Lib.indexByte s c).toNat) : s.take k = (cutM c s).1 := by
  subst hk; rw [cut_yes h]
theorem cut_b {c : UInt8} {s : Str} {k : Nat} (h : Lib.indexByte s c ≥ 0) (hk : k = (Lib.indexByte s c).toNat + 1) : s.drop k = (cutM c s).2 := by
  subst hk; rw [cut_yes h]
theorem nums_getD {l : List Str} (h : (numsM l).isSome = true) : numsM l = some ((numsM l).getD []) ∧ ((numsM l).getD []).length = l.length ∧ ∀ n ∈ (numsM l).getD [], 0 ≤ n ∧ n ≤ 999999 := by
  cases hn : numsM l with
  | none => rw [hn] at h; cases h
  | some ns =>
    have := numsM_some hn
    exact ⟨rfl, this.1, this.2.1⟩
theorem numsM_one {x : Str} : numsM [x] = (numM x).map fun n => [(n : Int)] := by
  cases h : numM x <;> simp [numsM, h]
theorem numsM_two {x y : Str} : numsM [x, y] = match numM x, numM y with | some a, some b => some [(a : Int), (b : Int)] | _, _ => none := by
  cases h : numM x <;> cases h2 : numM y <;> simp [numsM, h, h2]
theorem three {l : List Str} {x : Str} (h3 : l.length = 3) (hx : l[0]? = some x) : ∃ y z, l = [x, y, z] := by
  match l, h3 with
  | [a, b, c], _ =>
    simp only [List.getElem?_cons_zero, Option.some.injEq] at hx
    subst hx; exact ⟨b, c, rfl⟩
theorem ask_len {l : List Str} (h : l.length ≠ 3) : askM l = none := by
  match l with
  | [] => rfl
  | [_] => rfl
  | [_, _] => rfl
  | [_, _, _] => exact absurd rfl h
  | _ :: _ :: _ :: _ :: _ => rfl
theorem ask_no {l : List Str} {x : Str} (h3 : l.length = 3) (hx : l[0]? = some x) (h : (unqM x).isSome = false ∨ (numsM (l.drop 1)).isSome = false) : askM l = none := by
  obtain ⟨y, z, rfl⟩ := three h3 hx
  simp only [List.drop_succ_cons, List.drop_zero, numsM_two] at h
  simp only [askM]
  cases h1 : unqM x <;> cases h2 : numM y <;> cases h4 : numM z <;> simp_all
theorem ask_yes {l : List Str} {x : Str} {a b : Int} (h3 : l.length = 3) (hx : l[0]? = some x) (h1 : (unqM x).isSome = true) (h2 : (numsM (l.drop 1)).isSome = true) (ha : ((numsM (l.drop 1)).getD [])[0]? = some a) (hb : ((numsM (l.drop 1)).getD [])[1]? = some b) : askM l = some ⟨(unqM x).getD [], a, b⟩ := by
  obtain ⟨y, z, rfl⟩ := three h3 hx
  simp only [List.drop_succ_cons, List.drop_zero, numsM_two] at h2 ha hb
  simp only [askM]
  cases h1' : unqM x <;> cases h2' : numM y <;> cases h4 : numM z <;> simp_all
/-! lines -/
abbrev evt7 (k n a x : Int) (t : Str) (qk qn : Int) : Evt := ⟨k, n, a, x, ⟨t, qk, qn⟩⟩
theorem wd_no {st : RdS} {l : List Str} (h : l.length ≠ 1) : doWord st l = none := by
  match l with
  | [] => rfl
  | [_] => exact absurd rfl h
  | _ :: _ :: _ => rfl
theorem wd_one {l : List Str} {x : Str} (h : l.length = 1) (hx : l[0]? = some x) : l = [x] := by
  match l, h with
  | [a], _ => simpa using hx
theorem wd_bad {st : RdS} {l : List Str} {x : Str} (h : l.length = 1) (hx : l[0]? = some x) (h1 : (unqM x).isSome = false) : doWord st l = none := by
  rw [wd_one h hx]; unfold doWord
  cases hu : unqM x with
  | none => simp [hu]
  | some s => rw [hu] at h1; cases h1
theorem wd_yes {st : RdS} {l : List Str} {x : Str} (h : l.length = 1) (hx : l[0]? = some x) (h1 : (unqM x).isSome = true) : doWord st l = some { st with cfg := { st.cfg with words := st.cfg.words ++ [(unqM x).getD []] } } := by
  rw [wd_one h hx]; unfold doWord
  cases hu : unqM x with
  | none => rw [hu] at h1; cases h1
  | some s => simp [hu]
theorem ct_no {st : RdS} {l : List Str} (h : l.length ≠ 2) : doCut st l = none := by
  match l with
  | [] => rfl
  | [_] => rfl
  | [_, _] => exact absurd rfl h
  | _ :: _ :: _ :: _ => rfl
theorem ct_two {l : List Str} {x : Str} (h : l.length = 2) (hx : l[1]? = some x) : ∃ y, l = [y, x] := by
  match l, h with
  | [a, b], _ => exact ⟨a, by simpa using hx⟩
theorem ct_bad {st : RdS} {l : List Str} {x : Str} (h : l.length = 2) (hx : l[1]? = some x) (h1 : (numsM (l.take 1)).isSome = false ∨ (unqM x).isSome = false) : doCut st l = none := by
  obtain ⟨y, rfl⟩ := ct_two h hx
  simp only [List.take_succ_cons, List.take_zero, numsM_one] at h1
  unfold doCut
  cases hu : unqM x <;> cases hn : numM y <;> simp_all
theorem ct_yes {st : RdS} {l : List Str} {x : Str} {a : Int} (h : l.length = 2) (hx : l[1]? = some x) (h1 : (numsM (l.take 1)).isSome = true) (h2 : (unqM x).isSome = true) (ha : ((numsM (l.take 1)).getD [])[0]? = some a) : doCut st l = some { st with cfg := { st.cfg with cuts := st.cfg.cuts ++ [⟨a, (unqM x).getD []⟩] } } := by
  obtain ⟨y, rfl⟩ := ct_two h hx
  simp only [List.take_succ_cons, List.take_zero, numsM_one] at h1 ha
  unfold doCut
  cases hu : unqM x <;> cases hn : numM y <;> simp_all
theorem st_bad {st : RdS} {l : List Str} (h : (numsM l).isSome = false ∨ ((numsM l).getD []).length ≠ 10) : doSet st l = none := by
  unfold doSet
  cases hn : numsM l with
  | none => rfl
  | some ns =>
    rw [hn] at h
    simp only [Option.isSome_some, Option.getD_some] at h
    split
    · rename_i heq
      injection heq with heq
      subst heq
      simp at h
    · rfl
theorem ten {ns : List Int} {a b c d e f g h i j : Int} (hl : ns.length = 10) (h0 : ns[0]? = some a) (h1 : ns[1]? = some b) (h2 : ns[2]? = some c) (h3 : ns[3]? = some d) (h4 : ns[4]? = some e) (h5 : ns[5]? = some f) (h6 : ns[6]? = some g) (h7 : ns[7]? = some h) (h8 : ns[8]? = some i) (h9 : ns[9]? = some j) : ns = [a, b, c, d, e, f, g, h, i, j] := by
  match ns, hl with
  | [_, _, _, _, _, _, _, _, _, _], _ => simp_all
theorem st_yes {st : RdS} {l : List Str} {a b c d e f g h i j : Int} (hs : (numsM l).isSome = true) (hl : ((numsM l).getD []).length = 10) (h0 : ((numsM l).getD [])[0]? = some a) (h1 : ((numsM l).getD [])[1]? = some b) (h2 : ((numsM l).getD [])[2]? = some c) (h3 : ((numsM l).getD [])[3]? = some d) (h4 : ((numsM l).getD [])[4]? = some e) (h5 : ((numsM l).getD [])[5]? = some f) (h6 : ((numsM l).getD [])[6]? = some g) (h7 : ((numsM l).getD [])[7]? = some h) (h8 : ((numsM l).getD [])[8]? = some i) (h9 : ((numsM l).getD [])[9]? = some j) :
    doSet st l = some ⟨⟨st.cfg.words, st.cfg.cuts, a, b, c, d, e, f, g, h, i, j⟩, st.es⟩ := by
  have h10 := ten hl h0 h1 h2 h3 h4 h5 h6 h7 h8 h9
  have := (nums_getD hs).1
  unfold doSet
  rw [this, h10]
theorem ev_bad {st : RdS} {l : List Str} (h : (numsM l).isSome = false ∨ ((numsM l).getD []).length ≠ 4 ∨ ((numsM l).getD [])[0]? = some 1) : doEv st l = none := by
  unfold doEv
  cases hn : numsM l with
  | none => rfl
  | some ns =>
    rw [hn] at h
    simp only [Option.isSome_some, Option.getD_some] at h
    split
    · rename_i heq
      injection heq with heq
      subst heq
      simp at h
      rw [if_pos h]
    · rfl
theorem ev_yes {st : RdS} {l : List Str} {a b c d : Int} (hs : (numsM l).isSome = true) (hl : ((numsM l).getD []).length = 4) (h0 : ((numsM l).getD [])[0]? = some a) (h1 : ((numsM l).getD [])[1]? = some b) (h2 : ((numsM l).getD [])[2]? = some c) (h3 : ((numsM l).getD [])[3]? = some d) (hk : a ≠ 1) :
    doEv st l = some { st with es := st.es ++ [⟨a, b, c, d, zeroQ⟩] } := by
  have h4 : (numsM l).getD [] = [a, b, c, d] := by
    generalize (numsM l).getD [] = ns at *
    match ns, hl with
    | [_, _, _, _], _ => simp_all
  have := (nums_getD hs).1
  unfold doEv
  rw [this, h4]
  simp only [if_neg hk]
theorem ak_bad {st : RdS} {l : List Str} (h : (askM l).isSome = false) : doAsk st l = none := by
  unfold doAsk
  cases hq : askM l with
  | none => rfl
  | some q => rw [hq] at h; cases h
theorem ak_yes {st : RdS} {l : List Str} (h : (askM l).isSome = true) : doAsk st l = some { st with es := st.es ++ [⟨1, 0, 0, 0, (askM l).getD zeroQ⟩] } := by
  unfold doAsk
  cases hq : askM l with
  | none => rw [hq] at h; cases h
  | some q => rfl
theorem line_is {st : RdS} {s x : Str} (hx : (splitM 32 s)[0]? = some x) : lineM st s = lineW st x ((splitM 32 s).drop 1) := by
  unfold lineM
  rw [List.headD_eq_head?_getD, List.head?_eq_getElem?, hx]; rfl
/-- what is gathered is no more than the lines -/
def RdB (st : RdS) (n : Nat) : Prop := st.cfg.words.length ≤ n ∧ st.cfg.cuts.length ≤ n ∧ st.es.length ≤ n
theorem RdB.mono {st : RdS} {n m : Nat} (h : RdB st n) (hm : n ≤ m) : RdB st m := ⟨Nat.le_trans h.1 hm, Nat.le_trans h.2.1 hm, Nat.le_trans h.2.2 hm⟩
theorem line_b {st st' : RdS} {s : Str} {n : Nat} (h : RdB st n) (hl : lineM st s = some st') : RdB st' (n + 1) := by
  obtain ⟨b1, b2, b3⟩ := h
  unfold lineM lineW at hl
  generalize (splitM 32 s).headD [] = hd at hl
  generalize (splitM 32 s).drop 1 = l at hl
  have o : ∀ {st1 : RdS}, st1 = st → RdB st1 (n + 1) := fun h => h ▸ ⟨by omega, by omega, by omega⟩
  split at hl
  · unfold doWord at hl
    split at hl
    · obtain ⟨t, _, rfl⟩ := Option.map_eq_some_iff.1 hl
      exact ⟨by simp only [List.length_append, List.length_cons, List.length_nil]; omega, by simp only; omega, by simp only; omega⟩
    · cases hl
  · split at hl
    · unfold doCut at hl
      split at hl
      · split at hl
        · simp only [Option.some.injEq] at hl
          subst hl
          exact ⟨by simp only; omega, by simp only [List.length_append, List.length_cons, List.length_nil]; omega, by simp only; omega⟩
        · cases hl
      · cases hl
    · split at hl
      · unfold doSet at hl
        split at hl
        · simp only [Option.some.injEq] at hl
          subst hl
          exact ⟨by simp only; omega, by simp only; omega, by simp only; omega⟩
        · cases hl
      · split at hl
        · unfold doEv at hl
          split at hl
          · split at hl
            · cases hl
            · simp only [Option.some.injEq] at hl
              subst hl
              exact ⟨by simp only; omega, by simp only; omega, by simp only [List.length_append, List.length_cons, List.length_nil]; omega⟩
          · cases hl
        · split at hl
          · unfold doAsk at hl
            obtain ⟨q, hq, rfl⟩ := Option.map_eq_some_iff.1 hl
            exact ⟨by simp only; omega, by simp only; omega, by simp only [List.length_append, List.length_cons, List.length_nil]; omega⟩
          · cases hl
theorem line_b2 {st : RdS} {s : Str} {n : Nat} (h : RdB st n) (hl : (lineM st s).isSome = true) : RdB ((lineM st s).getD st) (n + 1) := by
  cases hh : lineM st s with
  | none => rw [hh] at hl; cases hl
  | some st' => exact line_b h hh
theorem parse_step {k : Nat} {st : RdS} {t : Str} (ht : t ≠ []) (hl : (lineM st (cutM 10 t).1).isSome = true) : parseL k st (linesM t) = parseL (k + 1) ((lineM st (cutM 10 t).1).getD st) (linesM (cutM 10 t).2) := by
  rw [cut_lines ht, parseL]
  cases hh : lineM st (cutM 10 t).1 with
  | none => rw [hh] at hl; cases hl
  | some st' => rfl
theorem parse_stop {k : Nat} {st : RdS} {t : Str} (ht : t ≠ []) (hl : (lineM st (cutM 10 t).1).isSome = false) : parseL k st (linesM t) = ⟨cfg0, [], (k : Int), 11⟩ := by
  rw [cut_lines ht, parseL]
  cases hh : lineM st (cutM 10 t).1 with
  | none => rfl
  | some st' => rw [hh] at hl; cases hl
theorem parse_end {k : Nat} {st : RdS} {t : Str} (ht : t = []) : parseL k st (linesM t) = ⟨st.cfg, st.es, 0, 0⟩ := by
  subst ht; rw [linesM_nil, parseL]
/-! what the statements ask -/
theorem cfg_same {c d : Cfg} {b : Bool} (h1 : c.workers = d.workers) (h2 : c.copies = d.copies) (h3 : c.slots = d.slots) (h4 : c.batch = d.batch) (h5 : c.lease = d.lease) (h6 : c.hedge = d.hedge) (h7 : c.first = d.first) (h8 : c.cap = d.cap) (h9 : c.jitter = d.jitter) (h10 : c.net = d.net) (hw : decide (c.words = d.words) = true) (hb : b = decide (c.cuts = d.cuts)) : b = decide (c = d) := by
  obtain ⟨w1, k1, a1, a2, a3, a4, a5, a6, a7, a8, a9, a10⟩ := c
  obtain ⟨w2, k2, b1, b2, b3, b4, b5, b6, b7, b8, b9, b10⟩ := d
  simp only [decide_eq_true_eq] at h1 h2 h3 h4 h5 h6 h7 h8 h9 h10 hw hb
  subst h1 h2 h3 h4 h5 h6 h7 h8 h9 h10 hw hb
  simp
def greatE (es : List Evt) (n : Int) : Bool := decide ((es.length : Int) > n) || es.any fun e => decide (e.q.text.length > 100)
theorem greatE_ev {es : List Evt} {n : Int} {k : Nat} {x : Evt} (hx : es[k]? = some x) (h : ((x.q.text.length : Nat) : Int) > 100) : true = greatE es n := by
  unfold greatE
  rw [any_yes hx (decide_eq_true (by omega))]; simp
theorem greatE_end {es : List Evt} {n : Int} {k : Nat} {b : Bool} (h : (es.take k).any (fun e => decide (e.q.text.length > 100)) = false) (hk : es.length ≤ k ∨ (es.length : Int) > n) (hb : b = decide (((es.length : Nat) : Int) > n)) : b = greatE es n := by
  unfold greatE
  rcases hk with hk | hk
  · rw [List.take_of_length_le hk] at h
    rw [h, hb]; simp
  · rw [hb, decide_eq_true hk]; simp
theorem greatE_no {es : List Evt} {n : Int} (h : greatE es n = false) : (es.length : Int) ≤ n ∧ ∀ e ∈ es, e.q.text.length ≤ 100 := by
  unfold greatE at h
  simp only [Bool.or_eq_false_iff, decide_eq_false_iff_not] at h
  refine ⟨by omega, fun e he => ?_⟩
  have := List.any_eq_false.1 h.2 e he
  simp only [decide_eq_true_eq] at this
  omega
theorem parts_no {s t : Str} (hs : s.length ≤ 10000) (ht : t.length ≤ 10000) (hf : (parseM ((s ++ [10]) ++ t)).err ≠ 0) (hb : decide ((parseM ((s ++ [10]) ++ t)).cfg = ⟨[], [], 0, 0, 0, 0, 0, 0, 0, 0, 0, 0⟩) = false ∨ ¬ (parseM ((s ++ [10]) ++ t)).at_ > 0) : False := by
  rw [List.append_assoc] at hf hb
  rcases parts_ok s t with h | ⟨h1, h2⟩
  · exact hf h
  · have h3 := h2 (by simp only [List.length_append, List.length_cons]; omega)
    rcases hb with hb | hb
    · exact absurd h1 (of_decide_eq_false hb)
    · exact hb h3
theorem parts_same {s t : Str} (hs : s.length ≤ 10000) (ht : t.length ≤ 10000) (h : (parseM s).err ≠ 0) : parseM ((s ++ [10]) ++ t) = parseM s := by
  rw [List.append_assoc]; exact parts_err hs ht h
end Go.Ml
/-
  What is printed: lengths, steps; for the walks of Print.
-/
set_option linter.unusedVariables false
set_option linter.unusedSimpArgs false
namespace Go.Ml
open Go Go.Ik

theorem itoa_l {n : Int} (h : I64 n) : (Lib.itoa n).length ≤ 21 := Lib.itoa_length_le n h.1 h.2
theorem numsP_step {ns : List Int} {i : Nat} {n : Int} (hx : ns[i]? = some n) : numsP (ns.take (i + 1)) = numsP (ns.take i) ++ (32 :: Lib.itoa n) := by
  rw [List.take_add_one, hx]
  simp [numsP]
theorem numsP_len : ∀ {ns : List Int}, (∀ n ∈ ns, I64 n) → (numsP ns).length ≤ 22 * ns.length
  | [], _ => by simp [numsP]
  | n :: ns, h => by
    have h1 := itoa_l (h n (by simp))
    have h2 := numsP_len (ns := ns) fun x hx => h x (by simp [hx])
    have e : numsP (n :: ns) = 32 :: Lib.itoa n ++ numsP ns := rfl
    rw [e, List.length_append, List.length_cons, List.length_cons]; omega
theorem nb1 {n : Int} {q : Bool} (h : n < 0) : true = (q || badN n) := by unfold badN; simp [h]
theorem nb2 {n : Int} {b : Bool} (h : ¬ n < 0) (hb : b = decide (n > 999999)) : b = (false || badN n) := by unfold badN; simp [h, hb]
theorem nb_step {ns : List Int} {i : Nat} {n : Int} {q0 q b' : Bool} (h : q = (q0 || (ns.take i).any badN)) (hx : ns[i]? = some n) (hb : b' = (q || badN n)) : b' = (q0 || (ns.take (i + 1)).any badN) := by
  rw [hb, h, List.take_add_one, hx]
  simp [Bool.or_assoc]
def wT (l : List Str) : Str := l.flatMap fun s => wordB s ++ [10]
def cT (l : List Key) : Str := l.flatMap fun k => cutB k ++ [10]
def eT (l : List Evt) : Str := l.flatMap fun e => evB e ++ [10]
theorem wT_step {l : List Str} {i : Nat} {x : Str} (hx : l[i]? = some x) : wT (l.take (i + 1)) = wT (l.take i) ++ (wordB x ++ [10]) := by
  rw [List.take_add_one, hx]; simp [wT]
theorem cT_step {l : List Key} {i : Nat} {x : Key} (hx : l[i]? = some x) : cT (l.take (i + 1)) = cT (l.take i) ++ (cutB x ++ [10]) := by
  rw [List.take_add_one, hx]; simp [cT]
theorem eT_step {l : List Evt} {i : Nat} {x : Evt} (hx : l[i]? = some x) : eT (l.take (i + 1)) = eT (l.take i) ++ (evB x ++ [10]) := by
  rw [List.take_add_one, hx]; simp [eT]
theorem printT_eq (c : Cfg) (es : List Evt) : printT c es = wT c.words ++ cT c.cuts ++ (setB c ++ [10]) ++ eT es := by
  unfold printT linesP wT cT eT
  simp [List.flatMap_append, List.flatMap_map]
theorem cb_step {l : List Key} {i : Nat} {x : Key} {q b' : Bool} (h : q = (l.take i).any fun k => badN k.len) (hx : l[i]? = some x) (hb : b' = (q || [x.len].any badN)) : b' = (l.take (i + 1)).any fun k => badN k.len := by
  rw [hb, h, List.take_add_one, hx]; simp
theorem eb_step {l : List Evt} {i : Nat} {x : Evt} {q0 q b' : Bool} (h : q = (q0 || (l.take i).any badE)) (hx : l[i]? = some x) (hb : b' = (q || badE x)) : b' = (q0 || (l.take (i + 1)).any badE) := by
  rw [hb, h, List.take_add_one, hx]; simp [Bool.or_assoc]
/-! an event's marks -/
structure EvI (e : Evt) : Prop where
  kind : I64 e.kind
  node : I64 e.node
  at_ : I64 e.at_
  x : I64 e.x
  k : I64 e.q.k
  n : I64 e.q.n
  text : e.q.text.length ≤ 100000
theorem ev1 {e : Evt} {q q0 : Bool} (h : e.kind = 1) (hq : q = (q0 || (decide (e.node ≠ 0) || decide (e.at_ ≠ 0) || decide (e.x ≠ 0)))) : (q || [e.q.k, e.q.n].any badN) = (q0 || badE e) := by
  unfold badE
  rw [if_pos h, hq]
  simp [Bool.or_assoc]
theorem ev2 {e : Evt} {q q0 : Bool} (h : ¬ e.kind = 1) (hq : q = (q0 || decide (e.q ≠ zeroQ))) : (q || [e.kind, e.node, e.at_, e.x].any badN) = (q0 || badE e) := by
  unfold badE
  rw [if_neg h, hq]
  simp [Bool.or_assoc]
theorem eq_a {q0 r : Bool} (h : true = q0) : true = (q0 || r) := by rw [← h]; rfl
theorem eq_b {q0 : Bool} {a b c : Int} (h : a ≠ 0) : true = (q0 || (decide (a ≠ 0) || decide (b ≠ 0) || decide (c ≠ 0))) := by simp [h]
theorem eq_c {q0 : Bool} {a b c : Int} (h : b ≠ 0) : true = (q0 || (decide (a ≠ 0) || decide (b ≠ 0) || decide (c ≠ 0))) := by simp [h]
theorem eq_d {q0 v : Bool} {a b c : Int} (h0 : false = q0) (h1 : a = 0) (h2 : b = 0) (hv : v = (c != 0)) : v = (q0 || (decide (a ≠ 0) || decide (b ≠ 0) || decide (c ≠ 0))) := by
  rw [hv, ← h0]; simp [h1, h2]; by_cases hc : c = 0 <;> simp [hc]
theorem eq_e {q0 v : Bool} {q : Qry} (h0 : false = q0) (hv : v = !decide (Qry.mk q.text q.k q.n = Qry.mk [] 0 0)) : v = (q0 || decide (q ≠ zeroQ)) := by
  rw [hv, ← h0]
  show _ = decide (q ≠ ⟨[], 0, 0⟩)
  obtain ⟨a, b, c⟩ := q
  simp
theorem evB_one {e : Evt} (h : e.kind = 1) (t : Str) : ((((t ++ [97, 115, 107]) ++ (32 :: quoteM e.q.text)) ++ numsP [e.q.k, e.q.n]) ++ [10]) = t ++ (evB e ++ [10]) := by
  unfold evB wAsk; rw [if_pos h]; simp
theorem evB_two {e : Evt} (h : ¬ e.kind = 1) (t : Str) : (((t ++ [101, 118]) ++ numsP [e.kind, e.node, e.at_, e.x]) ++ [10]) = t ++ (evB e ++ [10]) := by
  unfold evB wEv; rw [if_neg h]; simp
theorem wordB_len {s : Str} (h : s.length ≤ 100000) : (wordB s).length ≤ 300010 := by
  have := quote_len s
  unfold wordB wWord
  simp only [List.length_append, List.length_cons, List.length_nil]; omega
theorem cutB_len {k : Key} (hI : I64 k.len) (h : k.text.length ≤ 100000) : (cutB k).length ≤ 300040 := by
  have := quote_len k.text
  have h2 := numsP_len (ns := [k.len]) (by simpa using hI)
  unfold cutB wCut
  simp only [List.length_append, List.length_cons, List.length_nil] at h2 ⊢; omega
theorem evB_len {e : Evt} (h : EvI e) : (evB e).length ≤ 300100 := by
  have h1 := quote_len e.q.text
  have h2 := numsP_len (ns := [e.q.k, e.q.n]) (by intro n hn; simp at hn; rcases hn with rfl | rfl; exact h.k; exact h.n)
  have h3 := numsP_len (ns := [e.kind, e.node, e.at_, e.x]) (by intro n hn; simp at hn; rcases hn with rfl | rfl | rfl | rfl; exact h.kind; exact h.node; exact h.at_; exact h.x)
  have h4 := h.text
  unfold evB wAsk wEv
  split <;> simp only [List.length_append, List.length_cons, List.length_nil] at h2 h3 ⊢ <;> omega
/-- what may be handed to the printer -/
structure PrOk (c : Cfg) (es : List Evt) : Prop where
  wl : c.words.length ≤ 100000
  cl : c.cuts.length ≤ 100000
  el : es.length ≤ 100000
  ws : ∀ s ∈ c.words, s.length ≤ 100000
  cs : ∀ k ∈ c.cuts, I64 k.len ∧ k.text.length ≤ 100000
  evs : ∀ e ∈ es, EvI e
  ns : ∀ n ∈ setNums c, I64 n
theorem setB_len {c : Cfg} (h : ∀ n ∈ setNums c, I64 n) : (setB c).length ≤ 223 := by
  have h2 := numsP_len h
  have h3 : (setNums c).length = 10 := rfl
  unfold setB wSet
  simp only [List.length_append, List.length_cons, List.length_nil]; omega
theorem pr_bad {c : Cfg} {es : List Evt} (h : badPr c es = true) : printM c es = ([], 2) := by unfold printM; rw [if_pos h]
theorem pr_full {c : Cfg} {es : List Evt} (h : badPr c es = false) (hl : (printT c es).length > 65536) : printM c es = ([], 3) := by unfold printM; rw [if_neg (by rw [h]; simp), if_pos hl]
theorem pr_ok {c : Cfg} {es : List Evt} (h : badPr c es = false) (hl : ¬ (printT c es).length > 65536) : printM c es = (printT c es, 0) := by unfold printM; rw [if_neg (by rw [h]; simp), if_neg hl]
theorem badPr_eq {c : Cfg} {es : List Evt} : badPr c es = ((c.cuts.any (fun k => badN k.len) || (setNums c).any badN) || es.any badE) := rfl
theorem printT_ne (c : Cfg) (es : List Evt) : printT c es ≠ [] := by
  rw [printT_eq]; simp
theorem print_len (c : Cfg) (es : List Evt) : (printM c es).1.length ≤ 65536 := by
  unfold printM
  split
  · simp
  · split
    · simp
    · simp only; omega
theorem prok {c : Cfg} {es : List Evt} (hc : Cfg.Ok c) (he : ∀ e ∈ es, Evt.Ok e) (h1 : greatC c = false) (h2 : greatE es 300 = false) : PrOk c es := by
  obtain ⟨g1, g2⟩ := greatE_no h2
  unfold greatC greatT at h1
  simp only [Bool.or_eq_false_iff, decide_eq_false_iff_not] at h1
  obtain ⟨⟨c1, c2⟩, c3, c4⟩ := h1
  refine ⟨by omega, by omega, by omega, fun s hm => ?_, fun k hk => ⟨(hc.cuts k hk).1, ?_⟩, fun e hm => ?_, ?_⟩
  · have := List.any_eq_false.1 c4 s hm
    simp only [decide_eq_true_eq] at this; omega
  · have := List.any_eq_false.1 c2 k hk
    simp only [decide_eq_true_eq] at this; omega
  · have o := he e hm
    exact ⟨o.kind, o.node, o.at_, o.x, o.q.k, o.q.n, Nat.le_trans (g2 e hm) (by decide)⟩
  · intro n hn
    simp only [setNums, List.mem_cons, List.mem_nil_iff, or_false] at hn
    rcases hn with rfl | rfl | rfl | rfl | rfl | rfl | rfl | rfl | rfl | rfl
    · exact hc.workers
    · exact hc.copies
    · exact hc.slots
    · exact hc.batch
    · exact hc.lease
    · exact hc.hedge
    · exact hc.first
    · exact hc.cap
    · exact hc.jitter
    · exact hc.net
/-! what is read may be handed to the printer -/
def RdT (st : RdS) (n : Nat) : Prop := (∀ s ∈ st.cfg.words, s.length ≤ n) ∧ (∀ k ∈ st.cfg.cuts, k.text.length ≤ n) ∧ ∀ e ∈ st.es, e.q.text.length ≤ n
theorem unq_le {x t : Str} (h : unqM x = some t) : t.length ≤ x.length := by
  have := unqM_len x
  rw [h] at this
  simpa using this
theorem line_t {st st' : RdS} {s : Str} {n : Nat} (h : RdT st n) (hs : s.length ≤ n) (hl : lineM st s = some st') : RdT st' n := by
  obtain ⟨b1, b2, b3⟩ := h
  have hx : ∀ x ∈ (splitM 32 s).drop 1, x.length ≤ n := fun x hx => Nat.le_trans (split_mem (List.mem_of_mem_drop hx)) hs
  unfold lineM lineW at hl
  generalize (splitM 32 s).headD [] = hd at hl
  generalize (splitM 32 s).drop 1 = l at hl hx
  split at hl
  · unfold doWord at hl
    split at hl
    · obtain ⟨t, ht, rfl⟩ := Option.map_eq_some_iff.1 hl
      refine ⟨fun y hy => ?_, b2, b3⟩
      simp only [List.mem_append, List.mem_singleton] at hy
      rcases hy with hy | rfl
      · exact b1 y hy
      · exact Nat.le_trans (unq_le ht) (hx _ (by simp))
    · cases hl
  · split at hl
    · unfold doCut at hl
      split at hl
      · split at hl
        · rename_i n' t hn ht
          simp only [Option.some.injEq] at hl
          subst hl
          refine ⟨b1, fun y hy => ?_, b3⟩
          simp only [List.mem_append, List.mem_singleton] at hy
          rcases hy with hy | rfl
          · exact b2 y hy
          · exact Nat.le_trans (unq_le ht) (hx _ (by simp))
        · cases hl
      · cases hl
    · split at hl
      · unfold doSet at hl
        split at hl
        · simp only [Option.some.injEq] at hl
          subst hl
          exact ⟨b1, b2, b3⟩
        · cases hl
      · split at hl
        · unfold doEv at hl
          split at hl
          · split at hl
            · cases hl
            · simp only [Option.some.injEq] at hl
              subst hl
              refine ⟨b1, b2, fun y hy => ?_⟩
              simp only [List.mem_append, List.mem_singleton] at hy
              rcases hy with hy | rfl
              · exact b3 y hy
              · exact Nat.zero_le _
          · cases hl
        · split at hl
          · unfold doAsk at hl
            obtain ⟨q, hq, rfl⟩ := Option.map_eq_some_iff.1 hl
            refine ⟨b1, b2, fun y hy => ?_⟩
            simp only [List.mem_append, List.mem_singleton] at hy
            rcases hy with hy | rfl
            · exact b3 y hy
            · unfold askM at hq
              split at hq
              · split at hq
                · rename_i s' k n' ht _ _
                  simp only [Option.some.injEq] at hq
                  subst hq
                  exact Nat.le_trans (unq_le ht) (hx _ (by simp))
                · cases hq
              · cases hq
          · cases hl
theorem parseL_t : ∀ (ls : List Str) (k : Nat) (st : RdS) (n m : Nat), RdT st n → RdB st m → (∀ l ∈ ls, l.length ≤ n) → RdT ⟨(parseL k st ls).cfg, (parseL k st ls).es⟩ n ∧ RdB ⟨(parseL k st ls).cfg, (parseL k st ls).es⟩ (m + ls.length)
  | [], k, st, n, m, h1, h2, _ => ⟨h1, h2⟩
  | l :: ls, k, st, n, m, h1, h2, h3 => by
    unfold parseL
    cases hl : lineM st l with
    | none => exact ⟨⟨fun _ h => by simp [cfg0] at h, fun _ h => by simp [cfg0] at h, fun _ h => by simp at h⟩, ⟨Nat.zero_le _, Nat.zero_le _, Nat.zero_le _⟩⟩
    | some st' =>
      have := parseL_t ls (k + 1) st' n (m + 1) (line_t h1 (h3 l (by simp)) hl) (line_b h2 hl) fun x hx => h3 x (by simp [hx])
      simp only
      rw [List.length_cons]
      exact ⟨this.1, this.2.mono (by omega)⟩
theorem linesA_b : ∀ (s acc : Str), (linesA acc s).length ≤ s.length + 1 ∧ ∀ l ∈ linesA acc s, l.length ≤ acc.length + s.length
  | [], acc => by
    unfold linesA
    split
    · simp
    · simp
  | x :: s, acc => by
    unfold linesA
    split
    · have := linesA_b s []
      refine ⟨by simp only [List.length_cons]; omega, fun l hl => ?_⟩
      rcases List.mem_cons.1 hl with rfl | hl
      · simp only [List.length_cons]; omega
      · have h2 := this.2 l hl
        simp only [List.length_nil, List.length_cons] at h2 ⊢; omega
    · have := linesA_b s (acc ++ [x])
      refine ⟨by simp only [List.length_cons]; omega, fun l hl => ?_⟩
      have h2 := this.2 l hl
      simp only [List.length_append, List.length_cons, List.length_nil] at h2 ⊢; omega
theorem badN_I64 {n : Int} (h : badN n = false) : I64 n := by
  have := badN_no.1 h
  constructor <;> omega
theorem prok_parse {s : Str} (hs : s.length ≤ 20000) (he : (parseM s).err = 0) : PrOk (parseM s).cfg (parseM s).es := by
  have hb := parse_ok he
  have hp : parseM s = parseL 1 rd0 (linesM s) := by unfold parseM; rw [if_neg (by omega)]
  have hl := linesA_b s []
  have ht := parseL_t (linesM s) 1 rd0 20000 0 ⟨fun _ h => by simp [rd0, cfg0] at h, fun _ h => by simp [rd0, cfg0] at h, fun _ h => by simp [rd0] at h⟩ ⟨Nat.zero_le _, Nat.zero_le _, Nat.zero_le _⟩ (fun l hm => Nat.le_trans (hl.2 l hm) (by simp only [List.length_nil]; omega))
  rw [← hp] at ht
  obtain ⟨⟨t1, t2, t3⟩, u1, u2, u3⟩ := ht
  have hn : (linesM s).length ≤ 20001 := Nat.le_trans hl.1 (by omega)
  simp only at t1 t2 t3 u1 u2 u3
  unfold badPr at hb
  rw [Bool.or_eq_false_iff, Bool.or_eq_false_iff, List.any_eq_false, List.any_eq_false (p := badE)] at hb
  obtain ⟨⟨h1, h2⟩, h3⟩ := hb
  refine ⟨by omega, by omega, by omega, fun x hx => Nat.le_trans (t1 x hx) (by decide), fun k hk => ⟨badN_I64 (by simpa using h1 k hk), Nat.le_trans (t2 k hk) (by decide)⟩, fun e hm => ?_, fun n hx => badN_I64 (badN_no.2 (nums_range h2 n hx))⟩
  have hx := h3 e hm
  simp only [Bool.not_eq_true] at hx
  have ht := Nat.le_trans (t3 e hm) (by decide : 20000 ≤ 100000)
  have z : I64 0 := by constructor <;> omega
  unfold badE at hx
  split at hx
  · rename_i hk
    simp only [Bool.or_eq_false_iff, decide_eq_false_iff_not, ne_eq, Decidable.not_not] at hx
    obtain ⟨⟨⟨a1, a2⟩, a3⟩, a4, a5⟩ := hx
    exact ⟨by rw [hk]; constructor <;> omega, by rw [a1]; exact z, by rw [a2]; exact z, by rw [a3]; exact z, badN_I64 a4, badN_I64 a5, ht⟩
  · simp only [Bool.or_eq_false_iff, decide_eq_false_iff_not, ne_eq, Decidable.not_not] at hx
    obtain ⟨a1, a2, a3, a4, a5⟩ := hx
    exact ⟨badN_I64 a2, badN_I64 a3, badN_I64 a4, badN_I64 a5, by rw [a1]; exact z, by rw [a1]; exact z, ht⟩
theorem print_no {c : Cfg} {es : List Evt} (h : (printM c es).2 ≠ 0) : (printM c es).1 = [] := by
  rcases print_err c es with h1 | h1
  · exact absurd h1.1 h
  · exact h1.2
theorem print_yes {c : Cfg} {es : List Evt} (h : (printM c es).2 = 0) : (printM c es).1 = printT c es ∧ badPr c es = false := by
  rcases print_err c es with h1 | h1
  · exact ⟨h1.2.1, h1.2.2.1⟩
  · exact absurd h h1.1
theorem last_bt {s : Str} (h : s.getLast? = some 10) : btAt s (s.length - 1) = 10 := by
  rw [List.getLast?_eq_getElem?] at h
  unfold btAt
  rw [h]; rfl
theorem count_step {s : Str} {i : Nat} (hi : i < s.length) : (s.take (i + 1)).count 10 = (s.take i).count 10 + if btAt s i = 10 then 1 else 0 := by
  have h : s[i]? = some (btAt s i) := btAt_get hi
  rw [List.take_add_one, h, List.count_append]
  congr 1
  by_cases hb : btAt s i = 10
  · rw [if_pos hb, hb]; rfl
  · rw [if_neg hb]
    simp [List.count_cons, hb]
/-! the document's answer -/
theorem dec_one {n : Nat} (h : n < 10) : ((([48, 49, 50, 51, 52, 53, 54, 55, 56, 57] : Str).take (n + 1)).drop n) = decD n := by
  rw [decD_small h]
  have : ∀ k : Fin 10, ((([48, 49, 50, 51, 52, 53, 54, 55, 56, 57] : Str).take (k.val + 1)).drop k.val) = [UInt8.ofNat (48 + k.val)] := by decide
  exact this ⟨n, h⟩
theorem dec_two {n a b : Nat} (h : ¬ n < 10) (ha : a = n / 10) (hb : b = n % 10) : decD a ++ decD b = decD n := by
  subst ha hb
  rw [decD_big (n := n) h, decD_small (n := n % 10) (by omega)]
def rnumsM (ns : List Int) : Str × Bool := if ns.any badN then ([], false) else (numsP ns, true)
theorem rn_no {ns : List Int} {i : Nat} {x : Int} (hx : ns[i]? = some x) (h : x < 0 ∨ x > 999999) : rnumsM ns = ([], false) := by
  unfold rnumsM
  rw [if_pos]
  refine List.any_eq_true.2 ⟨x, List.mem_of_getElem? hx, ?_⟩
  unfold badN
  rcases h with h | h <;> simp [h]
theorem rn_yes {ns : List Int} {i : Nat} {s : Str} (hb : (ns.take i).any badN = false) (hs : s = numsP (ns.take i)) (hi : ns.length ≤ i) : rnumsM ns = (s, true) := by
  rw [List.take_of_length_le hi] at hb hs
  unfold rnumsM
  rw [if_neg (by rw [hb]; simp), hs]
theorem rn_step {ns : List Int} {i : Nat} {x : Int} (hb : (ns.take i).any badN = false) (hx : ns[i]? = some x) (h1 : ¬ x < 0) (h2 : ¬ x > 999999) : (ns.take (i + 1)).any badN = false := by
  rw [List.take_add_one, hx, List.any_append, hb]
  have hb2 : badN x = false := badN_no.2 ⟨by omega, by omega⟩
  simp [hb2]
theorem rn_ok {ns : List Int} (h : (rnumsM ns).2 = true) : (rnumsM ns).1 = numsP ns ∧ ns.any badN = false := by
  unfold rnumsM at h ⊢
  split at h
  · cases h
  · rename_i hb
    rw [if_neg hb]
    exact ⟨rfl, by simpa using hb⟩
theorem rn_bad {ns : List Int} (h : (rnumsM ns).2 = false) : ns.any badN = true := by
  unfold rnumsM at h
  split at h
  · assumption
  · cases h
theorem rn_len (ns : List Int) (h : ∀ n ∈ ns, I64 n) : (rnumsM ns).1.length ≤ 22 * ns.length := by
  unfold rnumsM
  split
  · exact Nat.zero_le _
  · exact numsP_len h
def reT (e : Evt) : Str := if e.kind = 1 then ([97, 115, 107, 32] ++ quoteM e.q.text) ++ (rnumsM [e.q.k, e.q.n]).1 else [101, 118] ++ (rnumsM [e.kind, e.node, e.at_, e.x]).1
theorem reT_one {e : Evt} (h : e.kind = 1) : ([97, 115, 107, 32] ++ quoteM e.q.text) ++ (rnumsM [e.q.k, e.q.n]).1 = reT e := by unfold reT; rw [if_pos h]
theorem reT_two {e : Evt} (h : ¬ e.kind = 1) : [101, 118] ++ (rnumsM [e.kind, e.node, e.at_, e.x]).1 = reT e := by unfold reT; rw [if_neg h]
theorem reT_ok {e : Evt} (h : badE e = false) : reT e = evB e := by
  unfold badE at h
  unfold reT evB
  by_cases hk : e.kind = 1
  · rw [if_pos hk] at h
    rw [if_pos hk, if_pos hk]
    simp only [Bool.or_eq_false_iff] at h
    have : rnumsM [e.q.k, e.q.n] = (numsP [e.q.k, e.q.n], true) := by unfold rnumsM; rw [if_neg (by simp [h.2.1, h.2.2])]
    rw [this]
    simp [wAsk]
  · rw [if_neg hk] at h
    rw [if_neg hk, if_neg hk]
    simp only [Bool.or_eq_false_iff] at h
    have : rnumsM [e.kind, e.node, e.at_, e.x] = (numsP [e.kind, e.node, e.at_, e.x], true) := by unfold rnumsM; rw [if_neg (by simp [h.2.1, h.2.2.1, h.2.2.2.1, h.2.2.2.2])]
    rw [this]; rfl
theorem reT_len {e : Evt} (h : EvI e) : (reT e).length ≤ 300100 := by
  have h1 := quote_len e.q.text
  have h2 := rn_len [e.q.k, e.q.n] (by intro n hn; simp at hn; rcases hn with rfl | rfl; exact h.k; exact h.n)
  have h3 := rn_len [e.kind, e.node, e.at_, e.x] (by intro n hn; simp at hn; rcases hn with rfl | rfl | rfl | rfl; exact h.kind; exact h.node; exact h.at_; exact h.x)
  have h4 := h.text
  unfold reT
  split <;> simp only [List.length_append, List.length_cons, List.length_nil] at h2 h3 ⊢ <;> omega
theorem re_a {e : Evt} (hk : e.kind = 1) (h : (rnumsM [e.q.k, e.q.n]).2 = false) : false = !badE e := by
  have := rn_bad h
  unfold badE; rw [if_pos hk]
  simp only [List.any_cons, List.any_nil, Bool.or_false] at this
  rw [this]; simp
theorem re_b {e : Evt} (hk : e.kind = 1) (h : e.node ≠ 0) : false = !badE e := by unfold badE; rw [if_pos hk]; simp [h]
theorem re_c {e : Evt} (hk : e.kind = 1) (h : e.at_ ≠ 0) : false = !badE e := by unfold badE; rw [if_pos hk]; simp [h]
theorem re_d {e : Evt} {b : Bool} (hk : e.kind = 1) (h : (rnumsM [e.q.k, e.q.n]).2 = true) (h1 : e.node = 0) (h2 : e.at_ = 0) (hb : b = (e.x == 0)) : b = !badE e := by
  have := (rn_ok h).2
  unfold badE; rw [if_pos hk, hb]
  simp only [List.any_cons, List.any_nil, Bool.or_false] at this
  rw [this]
  simp [h1, h2]
  by_cases hx : e.x = 0 <;> simp [hx]
theorem re_e {e : Evt} (hk : ¬ e.kind = 1) (h : (rnumsM [e.kind, e.node, e.at_, e.x]).2 = false) : false = !badE e := by
  have := rn_bad h
  unfold badE; rw [if_neg hk]
  simp only [List.any_cons, List.any_nil, Bool.or_false] at this
  rw [this]; simp
theorem re_f {e : Evt} {b : Bool} (hk : ¬ e.kind = 1) (h : (rnumsM [e.kind, e.node, e.at_, e.x]).2 = true) (hb : b = decide (Qry.mk e.q.text e.q.k e.q.n = Qry.mk [] 0 0)) : b = !badE e := by
  have := (rn_ok h).2
  unfold badE; rw [if_neg hk, hb]
  simp only [List.any_cons, List.any_nil, Bool.or_false] at this
  rw [this]
  show decide (e.q = ⟨[], 0, 0⟩) = _
  unfold zeroQ
  by_cases hx : e.q = ⟨[], 0, 0⟩ <;> simp [hx]
theorem pr_cut {c : Cfg} {es : List Evt} {j : Nat} {x : Key} (hx : c.cuts[j]? = some x) (h : (rnumsM [x.len]).2 = false) : printM c es = ([], 2) := by
  have := rn_bad h
  refine pr_bad ?_
  rw [badPr_eq, List.any_eq_true.2 ⟨x, List.mem_of_getElem? hx, by simpa using this⟩]; rfl
theorem pr_set {c : Cfg} {es : List Evt} (h : (rnumsM (setNums c)).2 = false) : printM c es = ([], 2) := by
  refine pr_bad ?_
  rw [badPr_eq, rn_bad h]; simp
theorem pr_ev {c : Cfg} {es : List Evt} {j : Nat} {x : Evt} (hx : es[j]? = some x) (h : (!badE x) = false) : printM c es = ([], 2) := by
  refine pr_bad ?_
  rw [badPr_eq, List.any_eq_true.2 ⟨x, List.mem_of_getElem? hx, by simpa using h⟩]; simp
theorem cb_no {l : List Key} {i : Nat} {x : Key} (h : ((l.take i).any fun k => badN k.len) = false) (hx : l[i]? = some x) (hb : [x.len].any badN = false) : ((l.take (i + 1)).any fun k => badN k.len) = false := by
  rw [List.take_add_one, hx, List.any_append, h]
  simpa using hb
theorem eb_no {l : List Evt} {i : Nat} {x : Evt} (h : (l.take i).any badE = false) (hx : l[i]? = some x) (hb : (!badE x) = true) : (l.take (i + 1)).any badE = false := by
  rw [List.take_add_one, hx, List.any_append, h]
  simpa using hb
end Go.Ml
/-
  Quiet operations on bits: 32 and 64 of them.
-/
set_option linter.unusedVariables false
set_option linter.unusedSimpArgs false
namespace Go.Ik
open Go
theorem xor_lt32 {a b : Nat} (ha : a < 4294967296) (hb : b < 4294967296) : a ^^^ b < 4294967296 := Nat.xor_lt_two_pow (n := 32) ha hb
theorem not32 {a : Nat} (ha : a < 4294967296) : 4294967295 ^^^ a = 4294967295 - a := by
  have h : (4294967295 ^^^ a) = (BitVec.ofNat 32 4294967295 ^^^ BitVec.ofNat 32 a).toNat := by
    rw [BitVec.toNat_xor, BitVec.toNat_ofNat, BitVec.toNat_ofNat, Nat.mod_eq_of_lt (by omega : a < 2 ^ 32)]
  have h2 : BitVec.ofNat 32 4294967295 = BitVec.allOnes 32 := rfl
  rw [h, h2, BitVec.allOnes_xor, BitVec.toNat_not, BitVec.toNat_ofNat, Nat.mod_eq_of_lt (by omega : a < 2 ^ 32)]
theorem or_byte {a b : Nat} (hb : b < 256) : a * 256 ||| b = a * 256 + b := by
  have := Nat.shiftLeft_add_eq_or_of_lt (i := 8) (b := b) (by omega) a
  rw [Nat.shiftLeft_eq] at this
  exact this.symm
section
variable {P : Program} {E : Env} {C : World → Prop} {d : Option Tmp} {ty : TypeId} {pos : String} {af : Array Edge} {gd : Option (Nat × Bool)} {xt yt : TypeId} {x y : Operand}
theorem Q1.xor32 {a b : Nat} (hx : ev E x = some (.int .u32 (a : Int))) (hy : ev E y = some (.int .u32 (b : Int))) (ha : a < 4294967296) (hb : b < 4294967296) : Q1 P ⟨d, .binOp .xor xt x y yt, ty, pos, af, gd⟩ E C (.int .u32 ((a ^^^ b : Nat) : Int)) := fun s hs w _ => by
  have h := u32_xor_nat a b ha hb
  simp [execOp, hs.ev hx, hs.ev hy, eqGuard, Go.binOp, intBits_xor, h]
theorem Q1.xor8 {a b : UInt8} (hx : ev E x = some (.int .u8 (a.toNat : Int))) (hy : ev E y = some (.int .u8 (b.toNat : Int))) : Q1 P ⟨d, .binOp .xor xt x y yt, ty, pos, af, gd⟩ E C (.int .u8 ((a ^^^ b).toNat : Int)) := fun s hs w _ => by
  have h := u8_xor_nat a.toNat b.toNat a.toNat_lt b.toNat_lt
  rw [← UInt8.toNat_xor] at h
  simp [execOp, hs.ev hx, hs.ev hy, eqGuard, Go.binOp, intBits_xor, h]
theorem Q1.addU {p q : Int} (r : Int) (hx : ev E x = some (.int .u64 p)) (hy : ev E y = some (.int .u64 q)) (hr : p + q = r ∧ 0 ≤ r ∧ r ≤ 18446744073709551615) : Q1 P ⟨d, .binOp .add xt x y yt, ty, pos, af, gd⟩ E C (.int .u64 r) := by
  have h := Q1.add (P := P) (C := C) (d := d) (xt := xt) (yt := yt) (ty := ty) (pos := pos) (af := af) (gd := gd) hx hy
  rw [IntWalk.u64_in _ (by omega), hr.1] at h; exact h
theorem Q1.and1 {a : Nat} (hx : ev E x = some (.int .u32 (a : Int))) (hy : ev E y = some (.int .u32 1)) (ha : a < 4294967296) : Q1 P ⟨d, .binOp .and xt x y yt, ty, pos, af, gd⟩ E C (.int .u32 ((a % 2 : Nat) : Int)) := fun s hs w _ => by
  have h := u32_and_nat a 1 ha (by omega)
  rw [Nat.and_one_is_mod] at h
  have h' : bits .and .u32 (a : Int) 1 = ((a % 2 : Nat) : Int) := h
  simp [execOp, hs.ev hx, hs.ev hy, eqGuard, Go.binOp, intBits_and, h']
theorem Q1.orB {a b : Nat} (hx : ev E x = some (.int .u64 ((a * 256 : Nat) : Int))) (hy : ev E y = some (.int .u64 (b : Int))) (ha : a * 256 < 18446744073709551616) (hb : b < 256) : Q1 P ⟨d, .binOp .or xt x y yt, ty, pos, af, gd⟩ E C (.int .u64 ((a * 256 + b : Nat) : Int)) := fun s hs w _ => by
  have h := u64_or_nat (a * 256) b ha (by omega)
  rw [or_byte hb] at h
  simp [execOp, hs.ev hx, hs.ev hy, eqGuard, Go.binOp, intBits_or]
  simpa using h
theorem Q1.not32 {a : Nat} (hx : ev E x = some (.int .u32 (a : Int))) (ha : a < 4294967296) : Q1 P ⟨d, .unOp .xor xt x, ty, pos, af, gd⟩ E C (.int .u32 ((4294967295 - a : Nat) : Int)) := fun s hs w _ => by
  have h := u32_xor_nat 4294967295 a (by omega) ha
  rw [Ik.not32 ha] at h
  have h' : bits .xor .u32 4294967295 (a : Int) = ((4294967295 - a : Nat) : Int) := h
  simp [execOp, hs.ev hx, Op.unary, intBits_xor, IntKind.signed, IntKind.max]
  exact h'
theorem Q1.shrN {k k' : IntKind} {p m : Int} (n : Nat) (hx : ev E x = some (.int k p)) (hy : ev E y = some (.int k' m)) (hm : m = (n : Int)) (hn : n ≤ k.bits) : Q1 P ⟨d, .binOp .shr xt x y yt, ty, pos, af, gd⟩ E C (.int k (p / 2 ^ n)) := fun s hs w _ => by
  subst hm
  have h := shift_shr k k' p (n : Int) (by omega) (by omega)
  simp [execOp, hs.ev hx, hs.ev hy, eqGuard, Go.binOp, h]
theorem Q1.subU32 {a b : Nat} (hx : ev E x = some (.int .u32 (a : Int))) (hy : ev E y = some (.int .u32 (b : Int))) (hb : b ≤ a) (ha : a < 4294967296) : Q1 P ⟨d, .binOp .sub xt x y yt, ty, pos, af, gd⟩ E C (.int .u32 ((a - b : Nat) : Int)) := by
  have h := Q1.sub (P := P) (C := C) (d := d) (xt := xt) (yt := yt) (ty := ty) (pos := pos) (af := af) (gd := gd) hx hy
  rw [IntWalk.u32_in _ (by omega), show (a : Int) - (b : Int) = ((a - b : Nat) : Int) from by omega] at h; exact h
theorem Q1.shl8 {k' : IntKind} {a : Nat} (hx : ev E x = some (.int .u64 (a : Int))) (hy : ev E y = some (.int k' 8)) (ha : a * 256 < 18446744073709551616) : Q1 P ⟨d, .binOp .shl xt x y yt, ty, pos, af, gd⟩ E C (.int .u64 ((a * 256 : Nat) : Int)) := fun s hs w _ => by
  have h := shift_shl .u64 k' (a : Int) 8 (by omega) (by decide)
  have e : IntKind.u64.wrap ((a : Int) * 2 ^ (8 : Int).toNat) = ((a * 256 : Nat) : Int) := by
    rw [IntKind.wrap_u64]
    have : ((a : Int) * 2 ^ (8 : Int).toNat) = ((a * 256 : Nat) : Int) := by simp
    rw [this]; omega
  rw [e] at h
  simp [execOp, hs.ev hx, hs.ev hy, eqGuard, Go.binOp, h]
theorem Q1.quoU32 {a : Nat} (b : Nat) (hx : ev E x = some (.int .u32 (a : Int))) (hy : ev E y = some (.int .u32 (b : Int))) (hb : b ≠ 0) (ha : a < 4294967296) : Q1 P ⟨d, .binOp .quo xt x y yt, ty, pos, af, gd⟩ E C (.int .u32 ((a / b : Nat) : Int)) := by
  have h := Q1.quo (P := P) (C := C) (d := d) (xt := xt) (yt := yt) (ty := ty) (pos := pos) (af := af) (gd := gd) hx hy (by omega)
  have e : IntKind.u32.wrap ((a : Int).tdiv (b : Int)) = ((a / b : Nat) : Int) := by
    rw [Int.tdiv_eq_ediv_of_nonneg (by omega), ← Int.natCast_ediv]
    have := Nat.div_le_self a b
    generalize a / b = q at *
    exact IntWalk.u32_in _ (by omega)
  rw [e] at h; exact h
end
end Go.Ik
namespace Go.Ik
open Go
section
variable {P : Program} {E : Env} {d : Option Tmp} {ty : TypeId} {pos : String} {af : Array Edge} {gd : Option (Nat × Bool)} {w : World} {K : Value → World → Prop}
/-- bytes taken for bytes of their own type: their block bears a mark from now on -/
theorem AW.convSl {s e e' : TypeId} {x : Operand} {b n c : Nat} {cs : List Value} (hs : P.underlying s = some (.slice e)) (he : P.underlying e = some (.int .u8)) (hx : ev E x = some (.slice (some ⟨b, 0, none⟩) n c)) (hb : Bk w b cs e')
    (hK : ∀ w', Mod (Mg (b + 1)) w w' → w'.heap.size = w.heap.size → Row w' b 0 cs → K (.slice (some ⟨b, 0, none⟩) n c) w') : AW P ⟨d, .convert s s x, ty, pos, af, gd⟩ E w K := fun a ha => by
  have hsh : w.shape? b = some (e', cs.length) := by
    unfold World.shape?
    rw [show w.heap[b]? = some (.cells cs.toArray e' (0, 0)) from hb]
    simp
  have hr : (convert s s (.slice (some ⟨b, 0, none⟩) n c)).run P w = .ok (.slice (some ⟨b, 0, none⟩) n c) (w.freeze ⟨b, cs.length, none⟩ 1) := by
    simp [convert, run_underlying hs, run_underlying he, markStringish, hsh]
  have hh : (w.freeze ⟨b, cs.length, none⟩ 1).heap[b]? = some (.cells cs.toArray e' (cs.length, cs.length + 1)) := by
    unfold World.freeze
    rw [if_neg (by decide)]
    simp only [Array.getElem?_modify, if_true]
    rw [show w.heap[b]? = some (.cells cs.toArray e' (0, 0)) from hb]
    rfl
  simp [execOp, ha.ev hx, hr, out]
  refine hK _ ⟨rfl, rfl, rfl, ?_, ?_⟩ ?_ ?_
  · unfold World.freeze
    rw [if_neg (by decide)]
    simp
  · intro b' o ho hn
    unfold World.freeze
    rw [if_neg (by decide)]
    simp only [Array.getElem?_modify]
    rw [if_neg (fun e => hn (by unfold Mg; omega))]
    exact ho
  · unfold World.freeze
    rw [if_neg (by decide)]
    simp
  · intro i v hv
    unfold World.cell?
    simp only [Option.isSome_none, Bool.false_eq_true, if_false]
    rw [hh]
    simpa using hv
end
theorem Sl.of_row {α : Type} {enc : α → List Value} {w : World} {b : Nat} {l : List α} (h : Row w b 0 (l.flatMap enc)) (n : Nat) (hn : n = l.length) (hm : n ≤ maxLen) : Sl enc w (Iv b (b + 1)) (.slice (some ⟨b, 0, none⟩) n n) l :=
  ⟨some ⟨b, 0, none⟩, n, by rw [hn], by omega, hm, .inr ⟨b, 0, rfl, ⟨Nat.le_refl _, by omega⟩, h⟩⟩
end Go.Ik
