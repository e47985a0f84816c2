/-
  The reference's graph as what is held.
-/
import Derived.Test.YtajedfbogchkcaaPlRef8
import Derived.Test.YtajedfbogchkcaaLwGraph
set_option linter.unusedVariables false
set_option linter.unusedSimpArgs false
namespace Go.Ik
open Go Go.Ml

structure RNd where
  r : SH
  e : SH
def encRd (x : RNd) : List Value := [x.r.val, x.e.val]
theorem encRd_len (x : RNd) : (encRd x).length = 2 := rfl
theorem encRd_one (x : RNd) : (encRd x).all (·.oneCell') = true := rfl
section
variable {R : Nat → Prop}
def RR (w : World) (F : Nat → Prop) (nds : List RNd) (s : GS) : Prop := All2 (fun n x => Sl encS w F n.r.val x.1 ∧ Sl encE w F n.e.val x.2) nds s
theorem RR.mono {w : World} {F F' : Nat → Prop} {nds : List RNd} {s : GS} (h : RR w F nds s) (hF : ∀ b, F b → F' b) : RR w F' nds s := All2.imp (fun r n ⟨h1, h2⟩ => ⟨h1.mono hF, h2.mono hF⟩) h
theorem RR.keep {M : Nat → Prop} {w w' : World} {F : Nat → Prop} {nds : List RNd} {s : GS} (h : RR w F nds s) (hm : Mod M w w') (hF : ∀ b, F b → ¬ M b) : RR w' F nds s := All2.imp (fun r n ⟨h1, h2⟩ => ⟨h1.keep hm hF, h2.keep hm hF⟩) h
theorem RR.len {w : World} {F : Nat → Prop} {nds : List RNd} {s : GS} (h : RR w F nds s) : nds.length = s.length := (All2.get h).1
theorem RR.at {w : World} {F : Nat → Prop} {nds : List RNd} {s : GS} (h : RR w F nds s) {k : Nat} {n : RNd} (hn : nds[k]? = some n) : ∃ x, s[k]? = some x ∧ Sl encS w F n.r.val x.1 ∧ Sl encE w F n.e.val x.2 := by
  have hg := All2.get h
  have hlt := (List.getElem?_eq_some_iff.1 hn).1
  have hx : s[k]? = some (s[k]'(by rw [← hg.1]; exact hlt)) := by simp
  exact ⟨_, hx, hg.2 k _ _ hn hx⟩
def rrR (nds : List RNd) (s : GS) : Res R := ⟨fun F w => RR w (fun b => F b ∨ R b) nds s, fun h hm hF hR => RR.keep h hm fun b hb => hb.elim (hF b) (hR b)⟩
/-- the graph in block 'bG': its nodes' rests (their headers: 'hs') and edges -/
def rgR (gT nT : TypeId) (bG : Nat) (s : GS) (hs : List Value) : Res R := exR fun x : Value × List RNd => andR (x.2.map (fun n => n.r.val) = hs) (boxR [bkR bG [x.1] gT, accR encRd nT 2 x.1 x.2, rrR x.2 s])
theorem St.and {F0 : Nat → Prop} {w0 w : World} {L : List (Res R)} {i : Nat} {P : Prop} {A : Res R} (h : St R F0 w0 w L) (hi : L[i]? = some (andR P A)) : P ∧ St R F0 w0 w (L.set i A) := by
  obtain ⟨F, h1, _⟩ := h.get hi
  exact ⟨h1.1, h.imp hi fun F hF => hF.2⟩
theorem St.rrAt {F0 : Nat → Prop} {w0 w : World} {L : List (Res R)} {i k : Nat} {nds : List RNd} {s : GS} {n : RNd} (h : St R F0 w0 w L) (hi : L[i]? = some (rrR nds s)) (hn : nds[k]? = some n) : ∃ x, s[k]? = some x ∧ Sl encS w (Iv 0 w.heap.size) n.r.val x.1 ∧ Sl encE w (Iv 0 w.heap.size) n.e.val x.2 := by
  obtain ⟨F, h1, h2⟩ := h.get hi
  have h3 : RR w (Iv 0 w.heap.size) nds s := RR.mono h1 fun b hb => ⟨Nat.zero_le _, hb.elim (h2 b) (h.rlt b)⟩
  exact h3.at hn
theorem St.rrLen {F0 : Nat → Prop} {w0 w : World} {L : List (Res R)} {i : Nat} {nds : List RNd} {s : GS} (h : St R F0 w0 w L) (hi : L[i]? = some (rrR nds s)) : nds.length = s.length := by
  obtain ⟨F, h1, _⟩ := h.get hi
  exact RR.len h1
theorem St.rgAt {F0 : Nat → Prop} {w0 w : World} {L : List (Res R)} {i k : Nat} {gT nT : TypeId} {bG : Nat} {s : GS} {hs : List Value} {v : Value} {x : List Str × List Ed} (h : St R F0 w0 w L) (hi : L[i]? = some (rgR gT nT bG s hs)) (hv : hs[k]? = some v) (hx : s[k]? = some x) : Sl encS w (Iv 0 w.heap.size) v x.1 := by
  obtain ⟨F, ⟨⟨vN, nds⟩, hm, Fs, h1, h2, h3⟩, hF⟩ := h.get hi
  have h4 : RR w (fun b => Fs 2 b ∨ R b) nds s := h1 2 _ rfl
  have h5 : RR w (Iv 0 w.heap.size) nds s := RR.mono h4 fun b hb => ⟨Nat.zero_le _, hb.elim (fun h => (h2 2 b h).2) (h.rlt b)⟩
  have hm' : nds.map (fun n => n.r.val) = hs := hm
  subst hm'
  rw [List.getElem?_map] at hv
  obtain ⟨n, hn, rfl⟩ := Option.map_eq_some_iff.1 hv
  obtain ⟨x', hx', h6, _⟩ := h5.at hn
  rw [hx] at hx'; cases hx'
  exact h6
theorem rr_push {nds : List RNd} {s : GS} {v : Value} {rests : List Str} {n : RNd} {F : Nat → Prop} {w : World} (hv : v = n.r.val) (he : n.e.val = .slice none 0 0) (h : (boxR (R := R) [rrR nds s, slR encS [(v, rests)]]).p F w) : (rrR (R := R) (nds ++ [n]) (s ++ [(rests, [])])).p F w := by
  obtain ⟨F1, F2, h1, h2, h3, h4⟩ := sep_pair h
  exact All2.app (RR.mono h1 fun b hb => hb.imp (h3 b) id) (.cons ⟨hv ▸ (slR_one h2).mono fun b hb => hb.imp (h4 b) id, he ▸ Sl.nil⟩ .nil)
theorem rg_len {gT nT : TypeId} {bG : Nat} {s : GS} {hs : List Value} {F : Nat → Prop} {w : World} (h : (rgR (R := R) gT nT bG s hs).p F w) : hs.length = s.length := by
  obtain ⟨⟨vN, nds⟩, hm, Fs, h1, h2, h3⟩ := h
  have h4 : RR w (fun b => Fs 2 b ∨ R b) nds s := h1 2 _ rfl
  have hm' : nds.map (fun n => n.r.val) = hs := hm
  rw [← hm', List.length_map]; exact RR.len h4
theorem all2_set {α β : Type} {Q : α → β → Prop} : ∀ {a : List α} {b : List β} {i : Nat} {x : α} {y : β}, All2 Q a b → Q x y → All2 Q (a.set i x) (b.set i y)
  | _, _, _, _, _, .nil, _ => .nil
  | _, _, 0, _, _, .cons h r, hq => .cons hq r
  | _, _, i + 1, _, _, .cons h r, hq => .cons h (all2_set r hq)
theorem rr_set {nds : List RNd} {s : GS} {k : Nat} {n : RNd} {hd : SH} {rests : List Str} {es0 es : List Ed} {e : TypeId} {v : Value} {F : Nat → Prop} {w : World} (hn : nds[k]? = some n) (hx : s[k]? = some (rests, es0)) (hv : v = hd.val) (h : (boxR (R := R) [rrR nds s, accR encE e 2 v es]).p F w) :
    (rrR (R := R) (nds.set k (RNd.mk n.r hd)) (s.set k (rests, es))).p F w := by
  obtain ⟨F1, F2, h1, h2, h3, h4⟩ := sep_pair h
  have h5 : RR w (fun b => F b ∨ R b) nds s := RR.mono h1 fun b hb => hb.imp (h3 b) id
  obtain ⟨x, hx', h6, _⟩ := h5.at hn
  rw [hx] at hx'; cases hx'
  exact all2_set h5 ⟨h6, hv ▸ (acc_sl h2).mono fun b hb => .inl (h4 b hb)⟩
theorem rr_set0 {nds : List RNd} {s : GS} {k : Nat} {n : RNd} {hd : SH} {rests : List Str} {es0 : List Ed} {F : Nat → Prop} {w : World} (hn : nds[k]? = some n) (hx : s[k]? = some (rests, es0)) (hv : hd.val = .slice none 0 0) (h : (rrR (R := R) nds s).p F w) :
    (rrR (R := R) (nds.set k (RNd.mk n.r hd)) (s.set k (rests, []))).p F w := by
  obtain ⟨x, hx', h6, _⟩ := RR.at h hn
  rw [hx] at hx'; cases hx'
  exact all2_set h ⟨h6, hv ▸ Sl.nil⟩
end
theorem map_set_r {nds : List RNd} {k : Nat} {n : RNd} {hd : SH} (hn : nds[k]? = some n) : (nds.set k (RNd.mk n.r hd)).map (fun n => n.r.val) = nds.map (fun n => n.r.val) := by
  obtain ⟨h, rfl⟩ := List.getElem?_eq_some_iff.1 hn
  rw [List.map_set]
  refine List.ext_getElem? fun i => ?_
  rw [List.getElem?_set]
  split
  · rename_i e; subst e
    simp [h]
  · rfl
theorem at_mid {α : Type} {a b : List α} {x : α} {n : Nat} (h : n = a.length) : (a ++ x :: b)[n]? = some x := by
  subst h
  rw [List.getElem?_append_right (Nat.le_refl _), Nat.sub_self]; rfl
theorem set_mid {α : Type} {a b : List α} {x y : α} {n : Nat} (h : n = a.length) : (a ++ x :: b).set n y = a ++ y :: b := by
  subst h
  rw [List.set_append_right _ _ (Nat.le_refl _), Nat.sub_self]; rfl
end Go.Ik
namespace Go.Ik
open Go Go.Ml
theorem RR.ext {w w' : World} {F : Nat → Prop} {nds : List RNd} {s : GS} (h : RR w F nds s) (hm : Ext w w') : RR w' F nds s := RR.keep h hm fun _ _ x => x
theorem RR.keepG {w w' : World} {lo hi g : Nat} {nds : List RNd} {s : GS} (h : RR w (Iv lo hi) nds s) (hm : Mod (Mg g) w w') (hg : g ≤ lo ∨ hi < g) : RR w' (Iv lo hi) nds s := RR.keep h hm fun b hb hx => by unfold Iv Mg at *; omega
/-- what a graph of the reference is, when nobody writes it any more -/
theorem rg_facts {R F : Nat → Prop} {gT nT : TypeId} {bG n : Nat} {s : GS} {hs : List Value} {w : World} (h : (rgR (R := R) gT nT bG s hs).p F w) (hF : ∀ b, F b → b < w.heap.size ∧ n ≤ b) (hR : ∀ b, R b → b < w.heap.size) :
    ∃ vN nds, Rw w n w.heap.size bG [vN] ∧ Sl encRd w (Iv n w.heap.size) vN nds ∧ RR w (Iv 0 w.heap.size) nds s := by
  obtain ⟨⟨vN, nds⟩, hm, Fs, h1, h2, h3⟩ := h
  have hF' : ∀ i b, Fs i b → n ≤ b ∧ b < w.heap.size := fun i b hb => ⟨(hF b (h2 i b hb).1.1).2, (h2 i b hb).2⟩
  have k0 := h1 0 _ rfl
  have k1 := h1 1 _ rfl
  have k2 := h1 2 _ rfl
  exact ⟨vN, nds, ⟨(hF' 0 _ k0.2).1, (hF' 0 _ k0.2).2, k0.1.row⟩, (acc_sl k1).mono fun b hb => hF' 1 b hb, RR.mono k2 fun b hb => ⟨Nat.zero_le _, hb.elim (fun h => (hF' 2 b h).2) (hR b)⟩⟩
theorem graphB_add (words : List Str) : (addM 13 [] words).1 = graphB words := by
  unfold graphB
  split
  · rename_i h; subst h; rfl
  · rfl
theorem node_yes {s : GS} {n : Int} {x : List Str × List Ed} (h : 0 ≤ n) (hx : s[n.toNat]? = some x) : nodeAt (gnOf s) n = (finB x.1, x.2) := by
  have := gnOf_at hx
  rw [show ((n.toNat : Nat) : Int) = n from by omega] at this
  exact this
theorem node_no {s : GS} {n : Int} (h : n < 0 ∨ (s.length : Int) ≤ n) : nodeAt (gnOf s) n = (false, []) := nodeAt_no (by rw [gnOf_len]; exact h)
theorem fin_head0 {r : List Str} {x : Str} (hx : r[0]? = some x) {b : Bool} (hb : b = (x == [])) : b = finB r := by
  unfold finB
  rw [hb, List.head?_eq_getElem?, hx]
  cases x <;> simp
theorem fin_nil {r : List Str} (h : ¬ (((r.length : Nat) : Int) > 0)) : false = finB r := by
  have : r = [] := List.eq_nil_of_length_eq_zero (by omega)
  subst this; rfl
/-- the reference's words from a text on -/
structure FromInv (words : List Str) (w : Str) (most : Int) (k : Nat) (l : List Str) : Prop where
  is : l = geF (words.take k) w
  lt : (l.length : Int) ≤ most ∨ l = []
theorem FromInv.start (words : List Str) (w : Str) (most : Int) : FromInv words w most 0 [] := ⟨by simp [geF], .inr rfl⟩
theorem FromInv.yes {words : List Str} {w : Str} {most : Int} {k : Nat} {l : List Str} {x : Str} (h : FromInv words w most k l) (hx : words[k]? = some x) (hc : Lib.compareBytes x w ≥ 0) (hl : (l.length : Int) < most) : FromInv words w most (k + 1) (l ++ [x]) := by
  refine ⟨?_, .inl (by simp only [List.length_append, List.length_cons, List.length_nil]; omega)⟩
  rw [h.is]; unfold geF
  rw [List.take_add_one, hx]
  simp [hc]
theorem FromInv.no {words : List Str} {w : Str} {most : Int} {k : Nat} {l : List Str} {x : Str} (h : FromInv words w most k l) (hx : words[k]? = some x) (hc : ¬ Lib.compareBytes x w ≥ 0) : FromInv words w most (k + 1) l := by
  refine ⟨?_, h.lt⟩
  rw [h.is]; unfold geF
  rw [List.take_add_one, hx]
  simp [hc]
theorem FromInv.fin {words : List Str} {w : Str} {most : Int} {k : Nat} {l : List Str} (h : FromInv words w most k l) (he : words.length ≤ k ∨ ¬ (l.length : Int) < most) : l = fromM words w most := by
  rw [fromM_take]
  have e : geF words w = geF (words.take k) w ++ geF (words.drop k) w := by
    unfold geF; rw [← List.filter_append, List.take_append_drop]
  rw [e, ← h.is]
  rcases he with he | he
  · rw [List.drop_of_length_le he]
    have : geF [] w = [] := rfl
    rw [this, List.append_nil]
    rcases h.lt with h1 | h1
    · rw [List.take_of_length_le (by omega)]
    · rw [h1]; simp
  · rcases h.lt with h1 | h1
    · rw [show most.toNat = l.length from by omega, List.take_left]
    · subst h1
      simp only [List.length_nil] at he
      rw [show most.toNat = 0 from by omega]; simp
end Go.Ik
namespace Go.Ik
open Go Go.Ml
theorem graphB_root {words : List Str} (h : goodL words = 0) : ∃ es, (graphB words)[0]? = some (words, es) := by
  unfold graphB
  split
  · rename_i e; subst e; exact ⟨[], rfl⟩
  · rename_i hne
    exact (graphM_ok (good_deep h).2 (good_deep h).1 hne).root
end Go.Ik
