/-
  Plain law of chapter 8: a node's rests out of its edges; nodes' names lie apart.
-/
import Derived.Test.YtajedfbogchkcaaRgS
set_option linter.unusedVariables false
set_option linter.unusedSimpArgs false
namespace Go.Ml
open Go.Ik
theorem runes_enc {rs : List Int} (h : rs.all goodR = true) : rs.flatMap encR = rtext rs := by
  unfold rtext encI_
  rw [if_pos h]
  induction rs with
  | nil => rfl
  | cons r rs ih =>
    rw [List.all_cons, Bool.and_eq_true] at h
    rw [List.flatMap_cons, List.flatMap_cons, ih h.2]
    congr 1
    have hr := h.1
    rw [good_d] at hr
    have hr' := of_decide_eq_true hr
    have := encR_L (c := r.toNat) (by unfold goodN; omega)
    rwa [show ((r.toNat : Nat) : Int) = r from by omega] at this
theorem rtext_one {c : Nat} (h : goodN c) : rtext [(c : Int)] = encL c := by
  unfold rtext encI_
  rw [if_pos (by simp [goodR_of h])]
  simp
theorem rest_start {r : List Str} (h : GoodR r) : (if finB r = true then [[]] else []) ++ restL [] r 0 = r := by
  have := map_rests (ahead := []) h
  rw [← this]; simp
theorem rest_start_t {r : List Str} (h : GoodR r) (hf : finB r = true) : ([] ++ [([] : Str)]) ++ restL [] r 0 = r := by
  have := rest_start h
  rwa [if_pos hf] at this
theorem rest_start_f {r : List Str} (h : GoodR r) (hf : finB r = false) : [] ++ restL [] r 0 = r := by
  have := rest_start h
  rwa [if_neg (by rw [hf]; simp)] at this
theorem rest_in {r out : List Str} {i : Nat} {gg : Nat × List Str} (h : out ++ restL [] r i = r) (hg : (groups (dropE r))[i]? = some gg) : out ++ ((gg.2.drop 0).map (encL gg.1 ++ ·) ++ restL [] r (i + 1)) = r := by
  rw [restL_step hg] at h
  simpa using h
theorem rest_go {r out : List Str} {i k : Nat} {gg : Nat × List Str} {y : Str} (h : out ++ ((gg.2.drop k).map (encL gg.1 ++ ·) ++ restL [] r (i + 1)) = r) (hy : gg.2[k]? = some y) : (out ++ [encL gg.1 ++ y]) ++ ((gg.2.drop (k + 1)).map (encL gg.1 ++ ·) ++ restL [] r (i + 1)) = r := by
  rw [drop_el' hy] at h
  simpa using h
theorem rest_out {r out : List Str} {i k : Nat} {gg : Nat × List Str} (h : out ++ ((gg.2.drop k).map (encL gg.1 ++ ·) ++ restL [] r (i + 1)) = r) (hk : gg.2.length ≤ k) : out ++ restL [] r (i + 1) = r := by
  rw [List.drop_of_length_le hk] at h
  simpa using h
theorem rest_fin {r out : List Str} {i : Nat} (h : out ++ restL [] r i = r) (hi : (groups (dropE r)).length ≤ i) : out = r := by
  rw [restL_end hi, List.append_nil] at h; exact h
theorem rest_len {r out b : List Str} (h : out ++ b = r) : out.length ≤ r.length := by
  have := congrArg List.length h
  rw [List.length_append] at this; omega
/-! names -/
theorem graphB_len {words : List Str} (h : goodL words = 0) : 1 ≤ (graphB words).length ∧ (graphB words).length ≤ 2881 := by
  unfold graphB
  split
  · simp
  · rename_i hne
    obtain ⟨es, he⟩ := (graphM_ok (good_deep h).2 (good_deep h).1 hne).root
    have := (List.getElem?_eq_some_iff.1 he).1
    have := graphM_len h
    omega
theorem graphB_names {words : List Str} (h : goodL words = 0) : (names (graphB words)).Nodup := by
  unfold graphB
  split
  · simp [names]
  · rename_i hne
    exact (graphM_ok (good_deep h).2 (good_deep h).1 hne).apart
theorem graphB_ne {words : List Str} (h : goodL words = 0) (hw : words ≠ []) : ∀ y ∈ graphB words, y.1 ≠ [] := by
  unfold graphB
  rw [if_neg hw]
  intro y hy
  exact ((graphM_ok (good_deep h).2 (good_deep h).1 hw).node y hy).ne
theorem graphB_short {words : List Str} (h : goodL words = 0) : ∀ y ∈ graphB words, y.1.length ≤ 60 := by
  unfold graphB
  split
  · simp
  · exact addM_short 13 [] words (by simp) (good_sum h).1
theorem deep_len {l : List Str} {d : Nat} (hg : GoodR l) (hd : Deep d l) : ∀ t ∈ l, t.length ≤ 4 * d := by
  intro t ht
  have h1 := hd t ht
  have h2 := encT_len (runes t)
  rw [(encT_runes t (hg.fine t ht)).1] at h2
  omega
theorem apart_at {s : GS} (hn : (names s).Nodup) {i k : Nat} {x y : List Str × List Ed} (hx : s[i]? = some x) (hy : s[k]? = some y) (hk : k < i) : y.1 ≠ x.1 := by
  intro e
  unfold names at hn
  have h1 : (s.map Prod.fst)[i]? = some x.1 := by rw [List.getElem?_map, hx]; rfl
  have h2 : (s.map Prod.fst)[k]? = some x.1 := by rw [List.getElem?_map, hy]; simp [e]
  obtain ⟨q1, q2⟩ := List.getElem?_eq_some_iff.1 h1
  obtain ⟨q3, q4⟩ := List.getElem?_eq_some_iff.1 h2
  have := (List.getElem_inj hn).1 (q2.trans q4.symm)
  omega
end Go.Ml
namespace Go.Ik
open Go Go.Ml
/-! lists of lists of texts -/
def encH (h : SH) : List Value := [h.val]
theorem encH_len (x : SH) : (encH x).length = 1 := rfl
theorem encH_one (x : SH) : (encH x).all (·.oneCell') = true := rfl
section
variable {R : Nat → Prop} {α : Type} {enc : α → List Value}
/-- what headers hold -/
def hlR (enc : α → List Value) (hs : List SH) (ls : List (List α)) : Res R := ⟨fun F w => All2 (fun h l => Sl enc w (fun b => F b ∨ R b) h.val l) hs ls, fun h hm hF hR => All2.imp (fun _ _ k => k.keep hm fun b hb => hb.elim (hF b) (hR b)) h⟩
theorem St.hlAt {F0 : Nat → Prop} {w0 w : World} {L : List (Res R)} {i k : Nat} {hs : List SH} {ls : List (List α)} {x : SH} (h : St R F0 w0 w L) (hi : L[i]? = some (hlR enc hs ls)) (hx : hs[k]? = some x) : ∃ l, ls[k]? = some l ∧ Sl enc w (Iv 0 w.heap.size) x.val l := by
  obtain ⟨F, h1, h2⟩ := h.get hi
  have hg := All2.get h1
  have hlt := (List.getElem?_eq_some_iff.1 hx).1
  have hl : ls[k]? = some (ls[k]'(by rw [← hg.1]; exact hlt)) := by simp
  exact ⟨_, hl, (hg.2 k _ _ hx hl).mono fun b hb => ⟨Nat.zero_le _, hb.elim (h2 b) (h.rlt b)⟩⟩
theorem St.hlLen {F0 : Nat → Prop} {w0 w : World} {L : List (Res R)} {i : Nat} {hs : List SH} {ls : List (List α)} (h : St R F0 w0 w L) (hi : L[i]? = some (hlR enc hs ls)) : hs.length = ls.length := by
  obtain ⟨F, h1, _⟩ := h.get hi
  exact (All2.get h1).1
theorem hl_push {e : TypeId} {sz : Nat} {v : Value} {hs : List SH} {ls : List (List α)} {l : List α} {x : SH} {F : Nat → Prop} {w : World} (hv : v = x.val) (h : (boxR (R := R) [hlR enc hs ls, accR enc e sz v l]).p F w) : (hlR (R := R) enc (hs ++ [x]) (ls ++ [l])).p F w := by
  obtain ⟨F1, F2, h1, h2, h3, h4⟩ := sep_pair h
  exact All2.app (All2.imp (fun _ _ k => k.mono fun b hb => hb.imp (h3 b) id) h1) (.cons (hv ▸ (acc_sl h2).mono fun b hb => .inl (h4 b hb)) .nil)
end
end Go.Ik
namespace Go.Ik
open Go Go.Ml
/-- a graph that is held -/
def grR {R : Nat → Prop} (v : Value) (N : List GN) : Res R := ⟨fun F w => ∃ lo hi, Gr 0 w lo hi v N ∧ hi ≤ w.heap.size ∧ ∀ b, lo ≤ b → b < hi → F b, fun ⟨lo, hi, h1, h3, h2⟩ hm hF _ => ⟨lo, hi, by
  rcases h1 with h1 | ⟨b, vn, nds, k1, k2, ⟨k3, k4, k5⟩, k6, k7⟩
  · exact .inl h1
  · exact .inr ⟨b, vn, nds, k1, k2, ⟨k3, k4, k5.keep hm (hF b (h2 b k3 k4))⟩, k6.keep hm fun b hb => hF b (h2 b hb.1 hb.2), k7.keep hm fun b hb => hF b (h2 b hb.1 hb.2)⟩, Nat.le_trans h3 hm.size, h2⟩⟩
theorem St.grAt {R F0 : Nat → Prop} {w0 w : World} {L : List (Res R)} {i : Nat} {v : Value} {N : List GN} (h : St R F0 w0 w L) (hi : L[i]? = some (grR v N)) : ∃ lo up, Gr 0 w lo up v N ∧ up ≤ w.heap.size := by
  obtain ⟨F, ⟨lo, up, h1, h2, _⟩, _⟩ := h.get hi
  exact ⟨lo, up, h1, h2⟩
theorem St.newGr {R F0 : Nat → Prop} {w0 w w' : World} {L : List (Res R)} {lo hi : Nat} {v : Value} {N : List GN} (h : St R F0 w0 w L) (hm : Ext w w') (hg : Gr 0 w' lo hi v N) (h1 : w.heap.size ≤ lo) (h2 : hi ≤ w'.heap.size) : St R F0 w0 w' (L ++ [grR v N]) :=
  h.new (F := Iv lo hi) hm ⟨lo, hi, hg, h2, fun b q1 q2 => ⟨q1, q2⟩⟩ fun b hb => ⟨Nat.le_trans h1 hb.1, Nat.lt_of_lt_of_le hb.2 h2⟩
end Go.Ik
namespace Go.Ml
open Go.Ik
theorem names_take {s : GS} {i : Nat} {x : List Str × List Ed} (hx : s[i]? = some x) : (names s).take (i + 1) = (names s).take i ++ [x.1] := by
  unfold names
  rw [List.take_add_one, List.getElem?_map, hx]; rfl
theorem least_ne {s : GS} (hn : (names s).Nodup) {i k : Nat} {x : List Str × List Ed} {l : List Str} (hx : s[i]? = some x) (hl : ((names s).take i)[k]? = some l) (hk : k < i) : l ≠ x.1 := by
  rw [List.getElem?_take, if_pos hk] at hl
  unfold names at hl
  rw [List.getElem?_map] at hl
  obtain ⟨y, hy, rfl⟩ := Option.map_eq_some_iff.1 hl
  exact apart_at hn hx hy hk
theorem least_len {words : List Str} (h : goodL words = 0) {x : List Str × List Ed} (hx : x ∈ graphB words) (hw : ((words.length : Nat) : Int) > 0) : ¬ ((x.1.length : Nat) : Int) = 0 := by
  have := graphB_ne h (fun e => by subst e; simp at hw) x hx
  intro e
  exact this (List.eq_nil_of_length_eq_zero (by omega))
theorem least_root {words : List Str} (h : goodL words = 0) {i : Nat} {l : List Str} (hl : ((names (graphB words)).take i)[0]? = some l) (hi : 0 < i) : l = words := by
  obtain ⟨es, he⟩ := graphB_root h
  rw [List.getElem?_take, if_pos hi] at hl
  unfold names at hl
  rw [List.getElem?_map, he] at hl
  simpa using hl.symm
theorem fin_idx {s : GS} {x : List Str × List Ed} (hc : Corr s x) (hg : GoodR x.1) {d : Nat} (hd : Deep d x.1) {deep : Int} (hdp : deep = (d : Int)) {i : Nat} (h : x.2.length ≤ i ∨ deep ≤ 0) : (groups (dropE x.1)).length ≤ i := by
  rcases h with h | h
  · rw [(All2.get hc).1]; exact h
  · have hd0 : d = 0 := by omega
    subst hd0
    rcases Nat.eq_zero_or_pos (groups (dropE x.1)).length with h0 | h0
    · omega
    · obtain ⟨e, he, _⟩ := deep_edge hg hd (List.getElem?_eq_getElem h0)
      omega
end Go.Ml
