/-
  Graphs while they are built.
-/
import Derived.Test.YtajedfbogchkcaaMGraph
set_option linter.unusedVariables false
set_option linter.unusedSimpArgs false
namespace Go.Ml
open Go.Ik

theorem sumLen_cons (s : Str) (l : List Str) : sumLen (s :: l) = s.length + sumLen l := by simp [sumLen]
theorem sumLen_app (a b : List Str) : sumLen (a ++ b) = sumLen a + sumLen b := by simp [sumLen]
theorem sumLen_map (p : Str) (l : List Str) : sumLen (l.map (p ++ ·)) = l.length * p.length + sumLen l := by
  induction l with
  | nil => simp [sumLen]
  | cons s l ih => simp only [List.map_cons, sumLen_cons, ih, List.length_append, List.length_cons, Nat.add_mul, Nat.one_mul]; omega
/-- a group's rests are shorter by its beginning -/
theorem strip_sum {p : Str} (hp : 1 ≤ p.length) (l : List Str) : sumLen (stripP p l) + (stripP p l).length + sumLen (moreP p l) ≤ sumLen l := by
  have h := congrArg sumLen (strip_app p l)
  rw [sumLen_app, sumLen_map] at h
  have := Nat.mul_le_mul_left (stripP p l).length hp
  omega
theorem strip_len (p : Str) (l : List Str) : (stripP p l).length + (moreP p l).length = l.length := by
  have h := congrArg List.length (strip_app p l)
  rw [List.length_append, List.length_map] at h; exact h
theorem sumLen_dropE (l : List Str) : sumLen (dropE l) = sumLen l := by
  cases l with
  | nil => rfl
  | cons a r => cases a <;> simp [dropE, sumLen]
theorem dropE_len (l : List Str) : (dropE l).length ≤ l.length := by
  cases l with
  | nil => simp [dropE]
  | cons a r => cases a <;> simp [dropE]
def gsum (gs : List (Nat × List Str)) : Nat := (gs.map fun g => sumLen g.2 + 1).sum
theorem gsum_groups : ∀ (n : Nat) (l : List Str), l.length ≤ n → GoodR l → (∀ s ∈ l, s ≠ []) → gsum (groups l) ≤ sumLen l
  | _, [], _, _, _ => by simp [groups_nil, gsum]
  | 0, s :: r, h, _, _ => by simp at h
  | n + 1, s :: r, hn, h, hne => by
    have hl := more_len s r
    simp only [List.length_cons] at hn
    have hs := hne s (by simp)
    have hf := h.fine s (by simp)
    have hp : pfx s = encL (hdN s) := (enc_dec hs ((fine_cons hs).1 hf).1).2.symm
    have ih := gsum_groups n (moreP (pfx s) (s :: r)) (by omega) (h.more _) (fun t ht => hne t ((List.dropWhile_suffix _).subset ht))
    have h1 := strip_sum (p := pfx s) (by rw [hp]; exact encL_pos _) (s :: r)
    have h2 : 1 ≤ (stripP (pfx s) (s :: r)).length := by
      unfold stripP
      rw [List.takeWhile_cons, if_pos (pfx_is s)]; simp
    rw [groups_cons]
    unfold gsum at ih ⊢
    simp only [List.map_cons, List.sum_cons]
    omega
theorem edgesM_len {add : GS → List Str → GS × Nat} : ∀ (gs : List (Nat × List Str)) (s : GS), (∀ g ∈ gs, ∀ s, (add s g.2).1.length ≤ s.length + 1 + sumLen g.2) → (edgesM add s gs).1.length ≤ s.length + gsum gs
  | [], s, _ => by simp [edgesM, gsum]
  | g :: gs, s, h => by
    have h1 := h g (by simp) s
    have h2 := edgesM_len gs (add s g.2).1 (fun g' hg' => h g' (by simp [hg']))
    show (edgesM add (add s g.2).1 gs).1.length ≤ _
    unfold gsum at h2 ⊢
    simp only [List.map_cons, List.sum_cons]
    omega
theorem addM_len : ∀ (f : Nat) (s : GS) (rests : List Str), GoodR rests → (addM f s rests).1.length ≤ s.length + 1 + sumLen rests
  | 0, s, rests, _ => by simp [addM]; omega
  | f + 1, s, rests, hg => by
    unfold addM
    cases hi : s.findIdx? fun x => x.1 == rests with
    | some i => simp; omega
    | none =>
      simp only [List.length_set]
      have hd := dropE_good hg
      have ok := groups_ok _ _ (Nat.le_refl _) hd.1 hd.2
      have h1 := edgesM_len (add := addM f) (groups (dropE rests)) (s ++ [(rests, [])]) (fun g hgm s' => addM_len f s' g.2 (ok.good g hgm).2.2)
      have h2 := gsum_groups _ _ (Nat.le_refl _) hd.1 hd.2
      rw [sumLen_dropE] at h2
      simp only [List.length_append, List.length_cons, List.length_nil] at h1
      omega
theorem addM_names {f : Nat} {s : GS} {rests : List Str} (hd : Deep f rests) (hg : GoodR rests) (hne : rests ≠ []) (hn : (names s).Nodup) (hok : NamesOk s) : NamesOk (addM (f + 1) s rests).1 ∧ (names (addM (f + 1) s rests).1).Nodup := by
  have h := addM_ok f s rests hd hg hne hn
  obtain ⟨t, e, k⟩ := h.tail
  refine ⟨fun x hx => ?_, h.apart⟩
  rw [e] at hx
  rcases List.mem_append.1 hx with hx | hx
  · exact hok x hx
  · exact ⟨(k x hx).ne, (k x hx).good.noff⟩
theorem addM_lt {f : Nat} {s : GS} {rests : List Str} (hd : Deep f rests) (hg : GoodR rests) (hne : rests ≠ []) (hn : (names s).Nodup) : (addM (f + 1) s rests).2 < (addM (f + 1) s rests).1.length := by
  obtain ⟨es, h⟩ := (addM_ok f s rests hd hg hne hn).here
  exact (List.getElem?_eq_some_iff.1 h).1
/-- how far the edges of a node have come -/
def EInv (f : Nat) (S0 : GS) (gs0 : List (Nat × List Str)) (sc : GS) (ES : List Ed) (r1 : List Str) : Prop :=
  edgesM (addM f) S0 gs0 = ((edgesM (addM f) sc (groups r1)).1, ES ++ (edgesM (addM f) sc (groups r1)).2)
theorem EInv.start (f : Nat) (S0 : GS) (r : List Str) : EInv f S0 (groups r) S0 [] r := by unfold EInv; simp
theorem EInv.next {f : Nat} {S0 : GS} {gs0 : List (Nat × List Str)} {sc : GS} {ES : List Ed} {s : Str} {r : List Str} (h : EInv f S0 gs0 sc ES (s :: r)) :
    EInv f S0 gs0 (addM f sc (stripP (pfx s) (s :: r))).1 (ES ++ [⟨(hdN s : Int), ((addM f sc (stripP (pfx s) (s :: r))).2 : Int)⟩]) (moreP (pfx s) (s :: r)) := by
  unfold EInv at h ⊢
  rw [h, groups_cons]
  simp only [edgesM, List.append_assoc, List.cons_append, List.nil_append]
theorem EInv.fin {f : Nat} {S0 : GS} {gs0 : List (Nat × List Str)} {sc : GS} {ES : List Ed} (h : EInv f S0 gs0 sc ES []) : edgesM (addM f) S0 gs0 = (sc, ES) := by
  unfold EInv at h; rw [h, groups_nil]; simp [edgesM]
theorem addM_hit {f : Nat} {s : GS} {rests : List Str} {i : Nat} (h : (s.findIdx? fun x => x.1 == rests) = some i) : addM (f + 1) s rests = (s, i) := by
  unfold addM; rw [h]
theorem addM_miss {f : Nat} {s xs : GS} {rests : List Str} {ES : List Ed} (h : (s.findIdx? fun x => x.1 == rests) = none) (he : edgesM (addM f) (s ++ [(rests, [])]) (groups (dropE rests)) = (s ++ (rests, []) :: xs, ES)) : addM (f + 1) s rests = (s ++ (rests, ES) :: xs, s.length) := by
  unfold addM; rw [h]
  simp only [he]
  rw [List.set_append_right _ _ (Nat.le_refl _)]
  simp
theorem EInv.cast {f : Nat} {S0 sc sc' : GS} {gs0 : List (Nat × List Str)} {ES : List Ed} {r r' : List Str} (h : EInv f S0 gs0 sc ES r) (e1 : sc = sc') (e2 : r = r') : EInv f S0 gs0 sc' ES r' := by subst e1 e2; exact h
theorem EInv.next2 {f : Nat} {S0 : GS} {gs0 : List (Nat × List Str)} {sc : GS} {ES : List Ed} {x : Str} {r1 : List Str} (hx : r1[0]? = some x) (h : EInv f S0 gs0 sc ES r1) :
    EInv f S0 gs0 (addM f sc (stripP (pfx x) r1)).1 (ES ++ [⟨(hdN x : Int), ((addM f sc (stripP (pfx x) r1)).2 : Int)⟩]) (moreP (pfx x) r1) := by
  rw [head_cons hx] at h ⊢
  exact h.next
theorem names_put {s : GS} {rests : List Str} (hf : (s.findIdx? fun x => x.1 == rests) = none) (hnd : (names s).Nodup) (hok : NamesOk s) (hne : rests ≠ []) (hr : ∀ t ∈ rests, NoFF t) : NamesOk (s ++ (rests, []) :: []) ∧ (names (s ++ (rests, []) :: [])).Nodup := by
  have hno := findIdx_none hf
  refine ⟨fun x hx => ?_, ?_⟩
  · rcases List.mem_append.1 hx with hx | hx
    · exact hok x hx
    · simp only [List.mem_singleton] at hx
      subst hx; exact ⟨hne, hr⟩
  · unfold names
    rw [List.map_append, List.nodup_append]
    refine ⟨hnd, by simp, fun a ha b hb => ?_⟩
    simp only [List.map_cons, List.map_nil, List.mem_singleton] at hb
    subst hb
    exact fun e => hno (by rw [← e]; exact ha)
theorem strip_facts {r1 : List Str} {x : Str} {f : Nat} (hx : r1[0]? = some x) (hr : GoodR r1 ∧ (∀ t ∈ r1, t ≠ []) ∧ Deep (f + 1) r1) :
    GoodR (stripP (pfx x) r1) ∧ stripP (pfx x) r1 ≠ [] ∧ Deep f (stripP (pfx x) r1) ∧ sumLen (stripP (pfx x) r1) + (stripP (pfx x) r1).length + sumLen (moreP (pfx x) r1) ≤ sumLen r1 ∧ (stripP (pfx x) r1).length + (moreP (pfx x) r1).length = r1.length ∧ 1 ≤ (stripP (pfx x) r1).length := by
  obtain ⟨hg, hn, hd⟩ := hr
  have hxm := List.mem_of_getElem? hx
  have hxn := hn x hxm
  have hp : pfx x = encL (hdN x) := (enc_dec hxn ((fine_cons hxn).1 (hg.fine x hxm)).1).2.symm
  have hgn := ((hg.fine x hxm).split hxn).1
  have h1 : 1 ≤ (stripP (pfx x) r1).length := by
    rw [head_cons hx]
    unfold stripP
    rw [List.takeWhile_cons, if_pos (pfx_is x)]; simp
  refine ⟨?_, ?_, fun t ht => ?_, strip_sum (by rw [hp]; exact encL_pos _) _, strip_len _ _, h1⟩
  · rw [head_cons hx] at hg ⊢
    exact strip_good hg hxn
  · intro e; rw [e] at h1; simp at h1
  · have hm := hd _ (strip_mem ht)
    rw [hp] at hm
    have h2 := runes_app (c := hdN x) hgn t
    unfold hdN at hm h2
    rw [h2] at hm
    simp only [List.length_cons] at hm
    omega
theorem deep_succ {f : Nat} {r1 : List Str} {x : Str} (hd : Deep f r1) (hx : x ∈ r1) (hn : x ≠ []) : ∃ f2, f = f2 + 1 := by
  have := hd x hx
  rw [runes_cons hn] at this
  simp only [List.length_cons] at this
  exact ⟨f - 1, by omega⟩
theorem sum_mem {l : List Str} {x : Str} (h : x ∈ l) : x.length ≤ sumLen l := by
  induction l with
  | nil => simp at h
  | cons a l ih =>
    rw [sumLen_cons]
    rcases List.mem_cons.1 h with rfl | h
    · omega
    · have := ih h; omega
theorem dropE_nil {l : List Str} {x : Str} (hx : l[0]? = some x) (h : x = []) : dropE l = l.drop 1 ∧ finB l = true := by
  rw [head_cons hx, h]; simp [dropE, finB]
theorem dropE_cons {l : List Str} {x : Str} (hx : l[0]? = some x) (h : x ≠ []) : dropE l = l ∧ finB l = false := by
  have hl := head_cons hx
  cases x with
  | nil => exact absurd rfl h
  | cons a x =>
    constructor
    · rw [hl]; rfl
    · rw [hl]; simp [finB]
theorem mapK_es (s xs : GS) (r : List Str) (es es' : List Ed) : mapK (s ++ (r, es) :: xs) = mapK (s ++ (r, es') :: xs) := mapK_names (by simp [names])
/-- a group, as it is gone through: 'k' of them have the beginning -/
structure SpanInv (p : Str) (l : List Str) (k : Nat) (b : List Str) : Prop where
  is : b = (l.take k).map fun t => t.drop p.length
  all : ∀ t ∈ l.take k, p.isPrefixOf t = true
theorem SpanInv.start (p : Str) (l : List Str) : SpanInv p l 0 [] := ⟨by simp, by simp⟩
theorem SpanInv.next {p : Str} {l : List Str} {k : Nat} {b : List Str} {t : Str} (h : SpanInv p l k b) (ht : l[k]? = some t) (hp : p.isPrefixOf t = true) : SpanInv p l (k + 1) (b ++ [t.drop p.length]) := by
  refine ⟨by rw [h.is, List.take_add_one, ht]; simp, fun u hu => ?_⟩
  rw [List.take_add_one, ht] at hu
  simp only [Option.toList_some, List.mem_append, List.mem_singleton] at hu
  rcases hu with hu | rfl
  · exact h.all u hu
  · exact hp
theorem SpanInv.nxt {p : Str} {l : List Str} {k m : Nat} {b : List Str} {t : Str} (h : SpanInv p l k b) (hm : p.length = m) (ht : l[k]? = some t) (hp : p.isPrefixOf t = true) : SpanInv p l (k + 1) (b ++ [t.drop m]) := by rw [← hm]; exact h.next ht hp
theorem takeWhile_take {α : Type} {p : α → Bool} {l : List α} {k : Nat} (h1 : ∀ t ∈ l.take k, p t = true) (h2 : ∀ t, l[k]? = some t → p t = false) : l.takeWhile p = l.take k ∧ l.dropWhile p = l.drop k := by
  have e : l = l.take k ++ l.drop k := (List.take_append_drop k l).symm
  have h3 : (l.drop k).takeWhile p = [] ∧ (l.drop k).dropWhile p = l.drop k := by
    cases hd : l.drop k with
    | nil => simp
    | cons t r =>
      have : l[k]? = some t := by rw [← List.head?_drop, hd]; rfl
      have := h2 t this
      simp [List.takeWhile_cons, List.dropWhile_cons, this]
  constructor
  · conv => lhs; rw [e]
    rw [List.takeWhile_append_of_pos h1, h3.1, List.append_nil]
  · conv => lhs; rw [e]
    rw [List.dropWhile_append_of_pos h1, h3.2]
theorem SpanInv.fin {p : Str} {l : List Str} {k : Nat} {b : List Str} (h : SpanInv p l k b) (he : l.length ≤ k ∨ ∃ t, l[k]? = some t ∧ p.isPrefixOf t = false) : b = stripP p l ∧ l.drop k = moreP p l := by
  have := takeWhile_take h.all (fun t ht => by
    rcases he with he | ⟨u, hu, hp⟩
    · rw [List.getElem?_eq_none he] at ht; cases ht
    · rw [hu] at ht; cases ht; exact hp)
  unfold stripP moreP
  rw [this.1, this.2]
  exact ⟨h.is, rfl⟩
theorem hp_le {p t : Str} {n : Nat} (h : p.isPrefixOf t = true) (hn : p.length = n) : n ≤ t.length := by
  have := congrArg List.length (prefix_drop h)
  rw [List.length_append] at this; omega
theorem pfx_len {s : Str} (hs : s ≠ []) : (pfx s).length = wdN s := by
  have := dec_le s hs
  unfold pfx wdN
  rw [List.length_take]; omega
end Go.Ml
namespace Go.Ik
open Go

def NR (w : World) (F : Nat → Prop) (t : List RNode) (xs : Ml.GS) : Prop := All2 (fun r x => r.fin = Ml.finB x.1 ∧ Sl Ml.encE w F r.e.val x.2) t xs
/-- blocks of an interval but one, but two -/
def Ivx (lo hi x : Nat) : Nat → Prop := fun b => lo ≤ b ∧ b < hi ∧ b + 1 ≠ x
def Ivy (lo hi x y : Nat) : Nat → Prop := fun b => lo ≤ b ∧ b < hi ∧ b + 1 ≠ x ∧ b + 1 ≠ y
theorem NR.keep {M : Nat → Prop} {w w' : World} {F : Nat → Prop} {t : List RNode} {xs : Ml.GS} (h : NR w F t xs) (hm : Mod M w w') (hF : ∀ b, F b → ¬ M b) : NR w' F t xs := All2.imp (fun r n ⟨h1, h2⟩ => ⟨h1, h2.keep hm hF⟩) h
theorem NR.mono {w : World} {F F' : Nat → Prop} {t : List RNode} {xs : Ml.GS} (h : NR w F t xs) (hF : ∀ b, F b → F' b) : NR w F' t xs := All2.imp (fun r n ⟨h1, h2⟩ => ⟨h1, h2.mono hF⟩) h
theorem NR.len {w : World} {F : Nat → Prop} {t : List RNode} {xs : Ml.GS} (h : NR w F t xs) : t.length = xs.length := (All2.get h).1
theorem NR.ext {w w' : World} {F : Nat → Prop} {t : List RNode} {xs : Ml.GS} (h : NR w F t xs) (hm : Ext w w') : NR w' F t xs := h.keep hm (fun _ _ x => x)
def NRy (w : World) (lo hi x y : Nat) (t : List RNode) (xs : Ml.GS) : Prop := NR w (Ivy lo hi x y) t xs
theorem NRy.ext {w w' : World} {lo hi x y : Nat} {t : List RNode} {xs : Ml.GS} (h : NRy w lo hi x y t xs) (hm : Ext w w') : NRy w' lo hi x y t xs := NR.ext h hm
theorem NRy.keepG {w w' : World} {lo hi x y g : Nat} {t : List RNode} {xs : Ml.GS} (h : NRy w lo hi x y t xs) (hm : Mod (Mg g) w w') (hg : g ≤ lo ∨ hi < g ∨ g = x ∨ g = y) : NRy w' lo hi x y t xs := NR.keep h hm fun b hb hx => by unfold Ivy Mg at *; omega
theorem NRy.keepG3 {w w' : World} {lo hi x y g g2 g3 : Nat} {t : List RNode} {xs : Ml.GS} (h : NRy w lo hi x y t xs) (hm : Mod (Mg3 g g2 g3) w w') (hg : (g ≤ lo ∨ hi < g ∨ g = x ∨ g = y) ∧ (g2 ≤ lo ∨ hi < g2 ∨ g2 = x ∨ g2 = y) ∧ (g3 ≤ lo ∨ hi < g3 ∨ g3 = x ∨ g3 = y)) : NRy w' lo hi x y t xs := NR.keep h hm fun b hb hx => by unfold Ivy Mg3 at *; omega
theorem NRy.re {w : World} {lo hi x x' y : Nat} {t : List RNode} {xs : Ml.GS} (h : NRy w lo hi x y t xs) (hx : x' = x ∨ hi < x') : NRy w lo hi x' y t xs := NR.mono h fun b hb => by unfold Ivy at *; omega
theorem NRy.add {w : World} {lo mid hi' hi x y y2 : Nat} {t t2 : List RNode} {xs xs2 : Ml.GS} (h : NRy w lo mid x y t xs) (h2 : NR w (Ivx hi' hi y2) t2 xs2) (hm : mid ≤ hi') (hx : x ≤ hi') (hl : lo ≤ hi') (hh : hi' ≤ hi) (hy : y2 = y ∨ hi' < y2) : NRy w lo hi x y2 (t ++ t2) (xs ++ xs2) :=
  All2.app (NR.mono h fun b hb => by unfold Ivy at *; omega) (NR.mono h2 fun b hb => by unfold Ivx at hb; unfold Ivy; omega)
theorem NRy.out {w : World} {lo hi hi2 x y : Nat} {t : List RNode} {xs : Ml.GS} (h : NRy w lo hi x y t xs) (hh : hi ≤ hi2) : NR w (Ivx lo hi2 y) t xs := NR.mono h fun b hb => by unfold Ivy at hb; unfold Ivx; omega
/-! three blocks that may be written -/
section
variable {g h k : Nat} {w w' : World}
theorem Bk.keepG3 {b : Nat} {cs : List Value} {e : TypeId} (x : Bk w b cs e) (hm : Mod (Mg3 g h k) w w') (hg : b + 1 ≠ g ∧ b + 1 ≠ h ∧ b + 1 ≠ k) : Bk w' b cs e := x.keep hm (by unfold Mg3; omega)
theorem Acc.keepG3 {α : Type} {enc : α → List Value} {e : TypeId} {sz gg : Nat} {v : Value} {l : List α} (x : Acc enc e sz w gg v l) (hm : Mod (Mg3 g h k) w w') (hg : gg = 0 ∨ (gg ≠ g ∧ gg ≠ h ∧ gg ≠ k)) : Acc enc e sz w' gg v l := x.keep hm fun b hb hx => by unfold Mg3 at hx; omega
theorem Sl.keepG3 {α : Type} {enc : α → List Value} {lo hi : Nat} {v : Value} {l : List α} (x : Sl enc w (Iv lo hi) v l) (hm : Mod (Mg3 g h k) w w') (hg : (g ≤ lo ∨ hi < g) ∧ (h ≤ lo ∨ hi < h) ∧ (k ≤ lo ∨ hi < k)) : Sl enc w' (Iv lo hi) v l := x.keep hm fun b hb hx => by unfold Iv Mg3 at *; omega
theorem Ext.thenG3_0 {w0 : World} (x : Ext w0 w) (hm : Mod (Mg3 g h k) w w') (hg : (g = 0 ∨ w0.heap.size < g) ∧ (h = 0 ∨ w0.heap.size < h) ∧ (k = 0 ∨ w0.heap.size < k)) : Ext w0 w' := x.then hm (fun i hi hl => by unfold Mg3 at hi; omega)
theorem Mod.thenG3_3 {a b c : Nat} {w0 : World} (x : Mod (Mg3 a b c) w0 w) (hm : Mod (Mg3 g h k) w w') (hg : (g = 0 ∨ w0.heap.size < g ∨ g = a ∨ g = b ∨ g = c) ∧ (h = 0 ∨ w0.heap.size < h ∨ h = a ∨ h = b ∨ h = c) ∧ (k = 0 ∨ w0.heap.size < k ∨ k = a ∨ k = b ∨ k = c)) : Mod (Mg3 a b c) w0 w' := x.then hm (fun i hi hl => by unfold Mg3 at *; omega)
end
theorem mapO_cast {w : World} {b : Nat} {m m' : List (Str × Int)} (h : MapO strV intV w b m) (e : m = m') : MapO strV intV w b m' := e ▸ h
theorem Q1.lookupHit {P : Program} {E : Env} {C : World → Prop} {d : Option Tmp} {ty : TypeId} {pos : String} {af : Array Edge} {gd : Option (Nat × Bool)} {α β : Type} [DecidableEq α] {key : α → Value} {val : β → Value} {t kt et : TypeId} {x y : Operand} {b : Nat} {m : List (α × β)} {a : α} {z : Value} {u : β} (hk : KeyOk P kt key) (ht : P.underlying t = some (.map kt et)) (hz : ∀ w, (zeroValue et).run P w = .ok z w) (hx : ev E x = some (.map (some b))) (hy : ev E y = some (key a)) (hm : ∀ w, C w → MapO key val w b m) (hu : asc m a = some u) :
    Q1 P ⟨d, .lookup t x y true, ty, pos, af, gd⟩ E C (.tuple #[val u, .bool true]) := by
  have h := Q1.lookupOk (d := d) (ty := ty) (pos := pos) (af := af) (gd := gd) (g := true) (n := 0) (by_ := 0) hk ht hz hx hy hm
  rw [hu] at h; exact h
theorem Q1.lookupMiss {P : Program} {E : Env} {C : World → Prop} {d : Option Tmp} {ty : TypeId} {pos : String} {af : Array Edge} {gd : Option (Nat × Bool)} {α β : Type} [DecidableEq α] {key : α → Value} {val : β → Value} {t kt et : TypeId} {x y : Operand} {b : Nat} {m : List (α × β)} {a : α} {z : Value} (hk : KeyOk P kt key) (ht : P.underlying t = some (.map kt et)) (hz : ∀ w, (zeroValue et).run P w = .ok z w) (hx : ev E x = some (.map (some b))) (hy : ev E y = some (key a)) (hm : ∀ w, C w → MapO key val w b m) (hu : asc m a = none) :
    Q1 P ⟨d, .lookup t x y true, ty, pos, af, gd⟩ E C (.tuple #[z, .bool false]) := by
  have h := Q1.lookupOk (d := d) (ty := ty) (pos := pos) (af := af) (gd := gd) (g := true) (n := 0) (by_ := 0) hk ht hz hx hy hm
  rw [hu] at h; exact h
/-- kept out of sight -/
structure Hid (p : Prop) : Prop where
  out : p
theorem apart_now {bB bG bM gN gNc n : Nat} (hap : Hid (bB ≠ bG ∧ bB ≠ bM ∧ bB + 1 ≠ gN ∧ bG + 1 ≠ gN ∧ bM ≠ bG ∧ bM + 1 ≠ gN)) (hgn : Hid (gNc = gN ∨ n < gNc)) (h1 : bB < n) (h2 : bG < n) (h4 : bM < n) : bB ≠ bG ∧ bB ≠ bM ∧ bB + 1 ≠ gNc ∧ bG + 1 ≠ gNc ∧ bM ≠ bG ∧ bM + 1 ≠ gNc := by
  have := hap.out; have := hgn.out; omega
theorem apart_b {bB bG bM g : Nat} (h : bB ≠ bG ∧ bB ≠ bM ∧ bB + 1 ≠ g ∧ bG + 1 ≠ g ∧ bM ≠ bG ∧ bM + 1 ≠ g) : bB + 1 ≠ bG + 1 ∧ bB + 1 ≠ bM + 1 ∧ bB + 1 ≠ g := by omega
theorem far_now {bG bM gN gNc n lo hi : Nat} (hra : Hid ((bG + 1 ≤ lo ∨ hi < bG + 1) ∧ (bM + 1 ≤ lo ∨ hi < bM + 1) ∧ (gN ≤ lo ∨ hi < gN))) (hgn : Hid (gNc = gN ∨ n < gNc)) (hhi : hi ≤ n) : (bG + 1 ≤ lo ∨ hi < bG + 1) ∧ (bM + 1 ≤ lo ∨ hi < bM + 1) ∧ (gNc ≤ lo ∨ hi < gNc) := by
  have h := hra.out
  refine ⟨h.1, h.2.1, ?_⟩
  rcases hgn.out with e | e
  · rw [e]; exact h.2.2
  · exact .inr (by omega)
theorem far_new {bG bM gNc g n : Nat} (hg : g = 0 ∨ n < g) (h2 : bG < n) (h4 : bM < n) (hn : g ≠ gNc ∨ gNc = 0) : (bG + 1 ≤ g - 1 ∨ g < bG + 1) ∧ (bM + 1 ≤ g - 1 ∨ g < bM + 1) ∧ (gNc ≤ g - 1 ∨ g < gNc) := by omega
theorem acc_far {bG bM gNc g n : Nat} (hg : g = 0 ∨ n < g) (h2 : bG < n) (h4 : bM < n) (hn : g ≠ gNc ∨ g = 0) : g = 0 ∨ (g ≠ bG + 1 ∧ g ≠ bM + 1 ∧ g ≠ gNc) := by omega
theorem mods_now {bG bM gN gNc n : Nat} (hgn : Hid (gNc = gN ∨ n < gNc)) : (bG + 1 = 0 ∨ n < bG + 1 ∨ bG + 1 = bG + 1 ∨ bG + 1 = bM + 1 ∨ bG + 1 = gN) ∧ (bM + 1 = 0 ∨ n < bM + 1 ∨ bM + 1 = bG + 1 ∨ bM + 1 = bM + 1 ∨ bM + 1 = gN) ∧ (gNc = 0 ∨ n < gNc ∨ gNc = bG + 1 ∨ gNc = bM + 1 ∨ gNc = gN) := by
  refine ⟨.inr (.inr (.inl rfl)), .inr (.inr (.inr (.inl rfl))), ?_⟩
  rcases hgn.out with e | e
  · exact .inr (.inr (.inr (.inr e)))
  · exact .inr (.inl e)
theorem grow_now {gN gNc gN2 n m : Nat} (hgn : Hid (gNc = gN ∨ n < gNc)) (h : gN2 = gNc ∨ m < gN2) (hnm : n ≤ m) : Hid (gN2 = gN ∨ n < gN2) := ⟨by
  rcases h with e | e
  · rw [e]; exact hgn.out
  · exact .inr (by omega)⟩
end Go.Ik
